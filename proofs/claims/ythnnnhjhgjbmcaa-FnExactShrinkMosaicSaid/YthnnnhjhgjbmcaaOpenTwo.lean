/- Gauges, profiles, mosaics as arguments: opened. -/
import Derived.Test.YthnnnhjhgjbmcaaTwo
namespace Go.Proofs.Ythnnnhjhgjbmcaa
open Go.RowKit Go.ChangeShapes Go.WideShapes Go.ChangeAt
set_option linter.unusedVariables false
section
variable {H : Type} {enc : TypeId × Value → H} {w : World} {sp : Nat → Bool} {r : Reach} {b0 : Nat} {v : Value} {d : DataW H} {ps : List MemPlace}
set_option maxRecDepth 100000 in
theorem open_Gauge (hval : Value.okWide Try.prog w r b0 44 v) (hd : DataW.Trod enc Try.prog w 0 sp true 44 v d ps) :
    ∃ A c, ∃ xs : List Int, ∃ B k, ∃ ys : List Int, v = .agg #[.slice A xs.length c, .slice B ys.length k] ∧ I64 w w.heap.size A xs ∧ I64 w w.heap.size B ys ∧ xs.length ≤ maxLen ∧ ys.length ≤ maxLen :=
  open_two Try.underlying44 Try.underlying22 Try.underlying22 Try.underlying2 (by kernel_rfl) rfl rfl (by kernel_rfl) (by kernel_rfl) (by kernel_rfl) hval hd
set_option maxRecDepth 100000 in
theorem open_Profile (hval : Value.okWide Try.prog w r b0 61 v) (hd : DataW.Trod enc Try.prog w 0 sp true 61 v d ps) :
    ∃ A c, ∃ xs : List Int, ∃ B k, ∃ ys : List Int, v = .agg #[.slice A xs.length c, .slice B ys.length k] ∧ I64 w w.heap.size A xs ∧ I64 w w.heap.size B ys ∧ xs.length ≤ maxLen ∧ ys.length ≤ maxLen :=
  open_two Try.underlying61 Try.underlying22 Try.underlying22 Try.underlying2 (by kernel_rfl) rfl rfl (by kernel_rfl) (by kernel_rfl) (by kernel_rfl) hval hd
set_option maxRecDepth 100000 in
theorem open_Mosaic (hval : Value.okWide Try.prog w r b0 24 v) (hd : DataW.Trod enc Try.prog w 0 sp true 24 v d ps) :
    ∃ p q : Int, ∃ A c, ∃ xs : List Int, ∃ B k, ∃ ys : List Int, v = .agg #[.int .i64 p, .int .i64 q, .slice A xs.length c, .slice B ys.length k] ∧ I64 w w.heap.size A xs ∧ I64 w w.heap.size B ys ∧ xs.length ≤ maxLen ∧ ys.length ≤ maxLen ∧
      (-9223372036854775808 ≤ p ∧ p ≤ 9223372036854775807) ∧ (-9223372036854775808 ≤ q ∧ q ≤ 9223372036854775807) :=
  open_four Try.underlying24 Try.underlying2 Try.underlying2 Try.underlying22 Try.underlying22 Try.underlying2 (by kernel_rfl) rfl rfl rfl rfl (by kernel_rfl) (by kernel_rfl) (by kernel_rfl) (by kernel_rfl) (by kernel_rfl) hval hd
end
end Go.Proofs.Ythnnnhjhgjbmcaa
