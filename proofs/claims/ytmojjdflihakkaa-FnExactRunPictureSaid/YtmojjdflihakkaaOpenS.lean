/- Arguments that are slices of contacts or motions: opened. -/
import Derived.Test.YtmojjdflihakkaaMoS
namespace Go.Proofs.Ytmojjdflihakkaa
open Go.RowKit Go.ChangeShapes Go.WideShapes Go.ChangeAt
set_option linter.unusedVariables false
section
variable {H : Type} {enc : TypeId × Value → H} {w : World} {sp : Nat → Bool} {r : Reach} {b0 : Nat} {v : Value} {d : DataW H} {ps : List MemPlace}
set_option maxRecDepth 100000 in
theorem open_contacts (hval : Value.okWide Try.prog w r b0 72 v) (hd : DataW.Trod enc Try.prog w 0 sp true 72 v d ps) : ∃ A c, ∃ cs : List (Int × Int), v = .slice A cs.length c ∧ C64 w w.heap.size A cs ∧ cs.length ≤ maxLen :=
  open_S64 (k := 2) ctm_inv Try.underlying72 flatContact (by kernel_rfl) (by omega) hval hd
end
end Go.Proofs.Ytmojjdflihakkaa
