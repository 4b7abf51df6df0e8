/- Arguments that are slices of contacts or motions: opened. -/
import Derived.Test.YtgjdahgecbdclaaMoS
namespace Go.Proofs.Ytgjdahgecbdclaa
open Go.RowKit Go.ChangeShapes Go.WideShapes Go.ChangeAt
set_option linter.unusedVariables false
section
variable {H : Type} {enc : TypeId × Value → H} {w : World} {sp : Nat → Bool} {r : Reach} {b0 : Nat} {v : Value} {d : DataW H} {ps : List MemPlace}
set_option maxRecDepth 100000 in
theorem open_contacts (hval : Value.okWide Try.prog w r b0 42 v) (hd : DataW.Trod enc Try.prog w 0 sp true 42 v d ps) : ∃ A c, ∃ cs : List (Int × Int), v = .slice A cs.length c ∧ C64 w w.heap.size A cs ∧ cs.length ≤ maxLen :=
  open_S64 (k := 2) ctm_inv Try.underlying42 flatContact (by kernel_rfl) (by omega) hval hd
set_option maxRecDepth 100000 in
theorem open_motions (hval : Value.okWide Try.prog w r b0 56 v) (hd : DataW.Trod enc Try.prog w 0 sp true 56 v d ps) : ∃ A c, ∃ ms : List Mo, v = .slice A ms.length c ∧ M64 w w.heap.size A ms ∧ ms.length ≤ maxLen :=
  open_S64 (k := 5) mom_inv Try.underlying56 flatMotion (by kernel_rfl) (by omega) hval hd
end
end Go.Proofs.Ytgjdahgecbdclaa
