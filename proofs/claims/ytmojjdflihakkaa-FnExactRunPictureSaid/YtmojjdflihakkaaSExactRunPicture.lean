/- The program's RunPicture returns what the reference's returns, for all arguments; no condition. -/
import Derived.Test.YtmojjdflihakkaaRExactRunPicture
namespace Go.Proofs.Ytmojjdflihakkaa.fnExactRunPicture
theorem over : Rows.fnExactRunPictureRow.holds Try.pinned (OpenSpec.ofChange Rows.fnExactRunPictureSpec) :=
  OpenClaim.holds_of_wide 10 Try.f10 rfl rfl rfl rfl rfl rfl rfl ⟨rfl, rfl, rfl, rfl, rfl⟩ rfl rfl rfl rfl rfl (by kernel_rfl) Try.func10 (by kernel_rfl)
    (of_decide_eq_true (by kernel_rfl)) (by unfold Func.isWrapper; first | (rw [if_pos (by decide +kernel)]; kernel_rfl) | (rw [if_neg (by decide +kernel)]; exact ⟨rfl, rfl⟩))
    (fun os started H enc _ => lifted os started H enc)

/-- The given statement. -/
theorem proved : Rows.FnExactRunPictureSaid := over
#print axioms proved
end Go.Proofs.Ytmojjdflihakkaa.fnExactRunPicture
