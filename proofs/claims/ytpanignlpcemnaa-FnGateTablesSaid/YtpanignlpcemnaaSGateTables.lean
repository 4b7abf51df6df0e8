/- Costs are told exactly for contacts in the gate, and gates that share a contact meet; no condition. -/
import Derived.Test.YtpanignlpcemnaaRGateTables
namespace Go.Proofs.Ytpanignlpcemnaa.fnGateTables
theorem over : Rows.fnGateTablesRow.holds Try.pinned (OpenSpec.ofChange Rows.fnGateTablesSpec) :=
  OpenClaim.holds_of_wide 5 Try.f5 rfl rfl rfl rfl rfl rfl rfl ⟨rfl, rfl, rfl, rfl, rfl⟩ rfl rfl rfl rfl rfl (by kernel_rfl) Try.func5 (by kernel_rfl)
    (of_decide_eq_true (by kernel_rfl)) (by unfold Func.isWrapper; first | (rw [if_pos (by decide +kernel)]; kernel_rfl) | (rw [if_neg (by decide +kernel)]; exact ⟨rfl, rfl⟩))
    (fun os started H enc _ => lifted os started H enc)

/-- The given statement. -/
theorem proved : Rows.FnGateTablesSaid := over
#print axioms proved
end Go.Proofs.Ytpanignlpcemnaa.fnGateTables
