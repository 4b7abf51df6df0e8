/- Contacts in the gate are those with a small enough cost, and the nearest one is one of them; no condition. -/
import Derived.Test.YtpanignlpcemnaaRGates
namespace Go.Proofs.Ytpanignlpcemnaa.fnGates
theorem over : Rows.fnGatesRow.holds Try.pinned (OpenSpec.ofChange Rows.fnGatesSpec) :=
  OpenClaim.holds_of_wide 4 Try.f4 rfl rfl rfl rfl rfl rfl rfl ⟨rfl, rfl, rfl, rfl, rfl⟩ rfl rfl rfl rfl rfl (by kernel_rfl) Try.func4 (by kernel_rfl)
    (of_decide_eq_true (by kernel_rfl)) (by unfold Func.isWrapper; first | (rw [if_pos (by decide +kernel)]; kernel_rfl) | (rw [if_neg (by decide +kernel)]; exact ⟨rfl, rfl⟩))
    (fun os started H enc _ => lifted os started H enc)

/-- The given statement. -/
theorem proved : Rows.FnGatesSaid := over
#print axioms proved
end Go.Proofs.Ytpanignlpcemnaa.fnGates
