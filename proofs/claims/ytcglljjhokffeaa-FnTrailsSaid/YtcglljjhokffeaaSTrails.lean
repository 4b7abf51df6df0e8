/- A trail stays valid, and a confirmed one is lost only after enough misses or when it leaves its range; no condition. -/
import Derived.Test.YtcglljjhokffeaaRTrails
namespace Go.Proofs.Ytcglljjhokffeaa.fnTrails
theorem over : Rows.fnTrailsRow.holds Try.pinned (OpenSpec.ofChange Rows.fnTrailsSpec) :=
  OpenClaim.holds_of_wide 4 Try.f4 rfl rfl rfl rfl rfl rfl rfl ⟨rfl, rfl, rfl, rfl, rfl⟩ rfl rfl rfl rfl rfl (by kernel_rfl) Try.func4 (by kernel_rfl)
    (of_decide_eq_true (by kernel_rfl)) (by unfold Func.isWrapper; first | (rw [if_pos (by decide +kernel)]; kernel_rfl) | (rw [if_neg (by decide +kernel)]; exact ⟨rfl, rfl⟩))
    (fun os started H enc _ => lifted os started H enc)

/-- The given statement. -/
theorem proved : Rows.FnTrailsSaid := over
#print axioms proved
end Go.Proofs.Ytcglljjhokffeaa.fnTrails
