/- The program's IsPicture returns what the reference's returns, for all arguments; no condition. -/
import Derived.Test.YtmojjdflihakkaaRExactIsPicture
namespace Go.Proofs.Ytmojjdflihakkaa.fnExactIsPicture
theorem over : Rows.fnExactIsPictureRow.holds Try.pinned (OpenSpec.ofChange Rows.fnExactIsPictureSpec) :=
  OpenClaim.holds_of_wide 6 Try.f6 rfl rfl rfl rfl rfl rfl rfl ⟨rfl, rfl, rfl, rfl, rfl⟩ rfl rfl rfl rfl rfl (by kernel_rfl) Try.func6 (by kernel_rfl)
    (of_decide_eq_true (by kernel_rfl)) (by unfold Func.isWrapper; first | (rw [if_pos (by decide +kernel)]; kernel_rfl) | (rw [if_neg (by decide +kernel)]; exact ⟨rfl, rfl⟩))
    (fun os started H enc _ => lifted os started H enc)

/-- The given statement. -/
theorem proved : Rows.FnExactIsPictureSaid := over
#print axioms proved
end Go.Proofs.Ytmojjdflihakkaa.fnExactIsPicture
