/- The program's MissTrail returns what the reference's returns, for all arguments; no condition. -/
import Derived.Test.YtgjdahgecbdclaaRExactMissTrail
namespace Go.Proofs.Ytgjdahgecbdclaa.fnExactMissTrail
theorem over : Rows.fnExactMissTrailRow.holds Try.pinned (OpenSpec.ofChange Rows.fnExactMissTrailSpec) :=
  OpenClaim.holds_of_wide 13 Try.f13 rfl rfl rfl rfl rfl rfl rfl ⟨rfl, rfl, rfl, rfl, rfl⟩ rfl rfl rfl rfl rfl (by kernel_rfl) Try.func13 (by kernel_rfl)
    (of_decide_eq_true (by kernel_rfl)) (by unfold Func.isWrapper; first | (rw [if_pos (by decide +kernel)]; kernel_rfl) | (rw [if_neg (by decide +kernel)]; exact ⟨rfl, rfl⟩))
    (fun os started H enc _ => lifted os started H enc)

/-- The given statement. -/
theorem proved : Rows.FnExactMissTrailSaid := over
#print axioms proved
end Go.Proofs.Ytgjdahgecbdclaa.fnExactMissTrail
