/- The program's HitTrail returns what the reference's returns, for all arguments; no condition. -/
import Derived.Test.YtgjdahgecbdclaaRExactHitTrail
namespace Go.Proofs.Ytgjdahgecbdclaa.fnExactHitTrail
theorem over : Rows.fnExactHitTrailRow.holds Try.pinned (OpenSpec.ofChange Rows.fnExactHitTrailSpec) :=
  OpenClaim.holds_of_wide 14 Try.f14 rfl rfl rfl rfl rfl rfl rfl ⟨rfl, rfl, rfl, rfl, rfl⟩ rfl rfl rfl rfl rfl (by kernel_rfl) Try.func14 (by kernel_rfl)
    (of_decide_eq_true (by kernel_rfl)) (by unfold Func.isWrapper; first | (rw [if_pos (by decide +kernel)]; kernel_rfl) | (rw [if_neg (by decide +kernel)]; exact ⟨rfl, rfl⟩))
    (fun os started H enc _ => lifted os started H enc)

/-- The given statement. -/
theorem proved : Rows.FnExactHitTrailSaid := over
#print axioms proved
end Go.Proofs.Ytgjdahgecbdclaa.fnExactHitTrail
