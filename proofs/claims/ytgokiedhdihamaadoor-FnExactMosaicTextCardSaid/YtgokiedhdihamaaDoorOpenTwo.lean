/- Gauges, profiles, mosaics as arguments: opened. -/
import Derived.Test.YtgokiedhdihamaaDoorTwo
namespace Go.Proofs.YtgokiedhdihamaaDoor
open Go.RowKit Go.ChangeShapes Go.WideShapes Go.ChangeAt
set_option linter.unusedVariables false
section
variable {H : Type} {enc : TypeId × Value → H} {w : World} {sp : Nat → Bool} {r : Reach} {b0 : Nat} {v : Value} {d : DataW H} {ps : List MemPlace}
set_option maxRecDepth 100000 in
theorem open_Mosaic (hval : Value.okWide Tryd.prog w r b0 30 v) (hd : DataW.Trod enc Tryd.prog w 0 sp true 30 v d ps) :
    ∃ p q : Int, ∃ A c, ∃ xs : List Int, ∃ B k, ∃ ys : List Int, v = .agg #[.int .i64 p, .int .i64 q, .slice A xs.length c, .slice B ys.length k] ∧ I64 w w.heap.size A xs ∧ I64 w w.heap.size B ys ∧ xs.length ≤ maxLen ∧ ys.length ≤ maxLen ∧
      (-9223372036854775808 ≤ p ∧ p ≤ 9223372036854775807) ∧ (-9223372036854775808 ≤ q ∧ q ≤ 9223372036854775807) :=
  open_four Tryd.underlying30 Tryd.underlying2 Tryd.underlying2 Tryd.underlying22 Tryd.underlying22 Tryd.underlying2 (by kernel_rfl) rfl rfl rfl rfl (by kernel_rfl) (by kernel_rfl) (by kernel_rfl) (by kernel_rfl) (by kernel_rfl) hval hd
end
end Go.Proofs.YtgokiedhdihamaaDoor
