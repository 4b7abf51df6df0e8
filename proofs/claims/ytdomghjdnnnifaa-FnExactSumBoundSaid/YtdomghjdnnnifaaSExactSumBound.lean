/- The program's SumBound returns what the reference's returns, for all arguments; no condition. -/
import Derived.Test.YtdomghjdnnnifaaRExactSumBound
namespace Go.Proofs.Ytdomghjdnnnifaa.fnExactSumBound
theorem over : Rows.fnExactSumBoundRow.holds Try.pinned (OpenSpec.ofChange Rows.fnExactSumBoundSpec) :=
  OpenClaim.holds_of_wide 5 Try.f5 rfl rfl rfl rfl rfl rfl rfl ⟨rfl, rfl, rfl, rfl, rfl⟩ rfl rfl rfl rfl rfl (by kernel_rfl) Try.func5 (by kernel_rfl)
    (of_decide_eq_true (by kernel_rfl)) (by unfold Func.isWrapper; first | (rw [if_pos (by decide +kernel)]; kernel_rfl) | (rw [if_neg (by decide +kernel)]; exact ⟨rfl, rfl⟩))
    (fun os started H enc _ => lifted os started H enc)

/-- The given statement. -/
theorem proved : Rows.FnExactSumBoundSaid := over
#print axioms proved
end Go.Proofs.Ytdomghjdnnnifaa.fnExactSumBound
