/- The program's StepPicture returns what the reference's returns, for all arguments; no condition. -/
import Derived.Test.YtmojjdflihakkaaRExactStepPicture
namespace Go.Proofs.Ytmojjdflihakkaa.fnExactStepPicture
theorem over : Rows.fnExactStepPictureRow.holds Try.pinned (OpenSpec.ofChange Rows.fnExactStepPictureSpec) :=
  OpenClaim.holds_of_wide 11 Try.f11 rfl rfl rfl rfl rfl rfl rfl ⟨rfl, rfl, rfl, rfl, rfl⟩ rfl rfl rfl rfl rfl (by kernel_rfl) Try.func11 (by kernel_rfl)
    (of_decide_eq_true (by kernel_rfl)) (by unfold Func.isWrapper; first | (rw [if_pos (by decide +kernel)]; kernel_rfl) | (rw [if_neg (by decide +kernel)]; exact ⟨rfl, rfl⟩))
    (fun os started H enc _ => lifted os started H enc)

/-- The given statement. -/
theorem proved : Rows.FnExactStepPictureSaid := over
#print axioms proved
end Go.Proofs.Ytmojjdflihakkaa.fnExactStepPicture
