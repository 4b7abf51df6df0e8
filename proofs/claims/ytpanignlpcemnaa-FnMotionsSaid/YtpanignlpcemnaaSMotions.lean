/- Moving on in two parts is moving on at once, and gates only grow; no condition. -/
import Derived.Test.YtpanignlpcemnaaRMotions
namespace Go.Proofs.Ytpanignlpcemnaa.fnMotions
theorem over : Rows.fnMotionsRow.holds Try.pinned (OpenSpec.ofChange Rows.fnMotionsSpec) :=
  OpenClaim.holds_of_wide 3 Try.f3 rfl rfl rfl rfl rfl rfl rfl ⟨rfl, rfl, rfl, rfl, rfl⟩ rfl rfl rfl rfl rfl (by kernel_rfl) Try.func3 (by kernel_rfl)
    (of_decide_eq_true (by kernel_rfl)) (by unfold Func.isWrapper; first | (rw [if_pos (by decide +kernel)]; kernel_rfl) | (rw [if_neg (by decide +kernel)]; exact ⟨rfl, rfl⟩))
    (fun os started H enc _ => lifted os started H enc)

/-- The given statement. -/
theorem proved : Rows.FnMotionsSaid := over
#print axioms proved
end Go.Proofs.Ytpanignlpcemnaa.fnMotions
