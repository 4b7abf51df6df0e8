/- The program's LayerOf returns what the reference's returns, for all arguments; no condition. -/
import Derived.Test.YthnnnhjhgjbmcaaRExactLayerOf
namespace Go.Proofs.Ythnnnhjhgjbmcaa.fnExactLayerOf
theorem over : Rows.fnExactLayerOfRow.holds Try.pinned (OpenSpec.ofChange Rows.fnExactLayerOfSpec) :=
  OpenClaim.holds_of_wide 10 Try.f10 rfl rfl rfl rfl rfl rfl rfl ⟨rfl, rfl, rfl, rfl, rfl⟩ rfl rfl rfl rfl rfl (by kernel_rfl) Try.func10 (by kernel_rfl)
    (of_decide_eq_true (by kernel_rfl)) (by unfold Func.isWrapper; first | (rw [if_pos (by decide +kernel)]; kernel_rfl) | (rw [if_neg (by decide +kernel)]; exact ⟨rfl, rfl⟩))
    (fun os started H enc _ => lifted os started H enc)

/-- The given statement. -/
theorem proved : Rows.FnExactLayerOfSaid := over
#print axioms proved
end Go.Proofs.Ythnnnhjhgjbmcaa.fnExactLayerOf
