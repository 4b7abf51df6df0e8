/- The program's NewMosaic returns what the reference's returns, for all arguments; no condition. -/
import Derived.Test.YthnnnhjhgjbmcaaRExactNewMosaic
namespace Go.Proofs.Ythnnnhjhgjbmcaa.fnExactNewMosaic
theorem over : Rows.fnExactNewMosaicRow.holds Try.pinned (OpenSpec.ofChange Rows.fnExactNewMosaicSpec) :=
  OpenClaim.holds_of_wide 5 Try.f5 rfl rfl rfl rfl rfl rfl rfl ⟨rfl, rfl, rfl, rfl, rfl⟩ rfl rfl rfl rfl rfl (by kernel_rfl) Try.func5 (by kernel_rfl)
    (of_decide_eq_true (by kernel_rfl)) (by unfold Func.isWrapper; first | (rw [if_pos (by decide +kernel)]; kernel_rfl) | (rw [if_neg (by decide +kernel)]; exact ⟨rfl, rfl⟩))
    (fun os started H enc _ => lifted os started H enc)

/-- The given statement. -/
theorem proved : Rows.FnExactNewMosaicSaid := over
#print axioms proved
end Go.Proofs.Ythnnnhjhgjbmcaa.fnExactNewMosaic
