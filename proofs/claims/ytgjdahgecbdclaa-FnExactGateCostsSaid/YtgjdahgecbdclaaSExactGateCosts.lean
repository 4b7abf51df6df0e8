/- The program's GateCosts returns what the reference's returns, for all arguments; no condition. -/
import Derived.Test.YtgjdahgecbdclaaRExactGateCosts
namespace Go.Proofs.Ytgjdahgecbdclaa.fnExactGateCosts
theorem over : Rows.fnExactGateCostsRow.holds Try.pinned (OpenSpec.ofChange Rows.fnExactGateCostsSpec) :=
  OpenClaim.holds_of_wide 8 Try.f8 rfl rfl rfl rfl rfl rfl rfl ⟨rfl, rfl, rfl, rfl, rfl⟩ rfl rfl rfl rfl rfl (by kernel_rfl) Try.func8 (by kernel_rfl)
    (of_decide_eq_true (by kernel_rfl)) (by unfold Func.isWrapper; first | (rw [if_pos (by decide +kernel)]; kernel_rfl) | (rw [if_neg (by decide +kernel)]; exact ⟨rfl, rfl⟩))
    (fun os started H enc _ => lifted os started H enc)

/-- The given statement. -/
theorem proved : Rows.FnExactGateCostsSaid := over
#print axioms proved
end Go.Proofs.Ytgjdahgecbdclaa.fnExactGateCosts
