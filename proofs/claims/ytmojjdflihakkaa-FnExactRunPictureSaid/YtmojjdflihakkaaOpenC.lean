/- Slices of slices of contacts as arguments: opened. -/
import Derived.Test.YtmojjdflihakkaaCcS
import Derived.Test.YtmojjdflihakkaaOpenS
namespace Go.Proofs.Ytmojjdflihakkaa
open Go.RowKit Go.ChangeShapes Go.WideShapes Go.ChangeAt
set_option linter.unusedVariables false
section
variable {H : Type} {enc : TypeId × Value → H} {w : World} {sp : Nat → Bool} {r : Reach} {b0 : Nat} {v : Value} {d : DataW H} {ps : List MemPlace}
set_option maxRecDepth 100000 in
theorem open_css (hval : Value.okWide Try.prog w r b0 26 v) (hd : DataW.Trod enc Try.prog w 0 sp true 26 v d ps) : ∃ A c, ∃ css : List Cts, v = .slice A css.length c ∧ CC64 w w.heap.size A css ∧ css.length ≤ maxLen ∧ ∀ (i : Nat) (cs : Cts), css[i]? = some cs → cs.length ≤ maxLen :=
  open_CC64 Try.underlying26 Try.underlying72 flatContact (by kernel_rfl) (by kernel_rfl) hval hd
end
end Go.Proofs.Ytmojjdflihakkaa
