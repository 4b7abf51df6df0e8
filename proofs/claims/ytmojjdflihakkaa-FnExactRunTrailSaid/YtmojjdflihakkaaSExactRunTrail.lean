/- The program's RunTrail returns what the reference's returns, for all arguments; no condition. -/
import Derived.Test.YtmojjdflihakkaaRExactRunTrail
namespace Go.Proofs.Ytmojjdflihakkaa.fnExactRunTrail
theorem over : Rows.fnExactRunTrailRow.holds Try.pinned (OpenSpec.ofChange Rows.fnExactRunTrailSpec) :=
  OpenClaim.holds_of_wide 3 Try.f3 rfl rfl rfl rfl rfl rfl rfl ⟨rfl, rfl, rfl, rfl, rfl⟩ rfl rfl rfl rfl rfl (by kernel_rfl) Try.func3 (by kernel_rfl)
    (of_decide_eq_true (by kernel_rfl)) (by unfold Func.isWrapper; first | (rw [if_pos (by decide +kernel)]; kernel_rfl) | (rw [if_neg (by decide +kernel)]; exact ⟨rfl, rfl⟩))
    (fun os started H enc _ => lifted os started H enc)

/-- The given statement. -/
theorem proved : Rows.FnExactRunTrailSaid := over
#print axioms proved
end Go.Proofs.Ytmojjdflihakkaa.fnExactRunTrail
