/- The program's IsMosaic returns what the reference's returns, for all arguments; no condition. -/
import Derived.Test.YthnnnhjhgjbmcaaRExactIsMosaic
namespace Go.Proofs.Ythnnnhjhgjbmcaa.fnExactIsMosaic
theorem over : Rows.fnExactIsMosaicRow.holds Try.pinned (OpenSpec.ofChange Rows.fnExactIsMosaicSpec) :=
  OpenClaim.holds_of_wide 3 Try.f3 rfl rfl rfl rfl rfl rfl rfl ⟨rfl, rfl, rfl, rfl, rfl⟩ rfl rfl rfl rfl rfl (by kernel_rfl) Try.func3 (by kernel_rfl)
    (of_decide_eq_true (by kernel_rfl)) (by unfold Func.isWrapper; first | (rw [if_pos (by decide +kernel)]; kernel_rfl) | (rw [if_neg (by decide +kernel)]; exact ⟨rfl, rfl⟩))
    (fun os started H enc _ => lifted os started H enc)

/-- The given statement. -/
theorem proved : Rows.FnExactIsMosaicSaid := over
#print axioms proved
end Go.Proofs.Ythnnnhjhgjbmcaa.fnExactIsMosaic
