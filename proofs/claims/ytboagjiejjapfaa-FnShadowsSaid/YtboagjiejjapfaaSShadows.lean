/- The shadows', bottom samples' and gains' law holds for every code; no condition. -/
import Derived.Test.YtboagjiejjapfaaRShadows
namespace Go.Proofs.Ytboagjiejjapfaa.fnShadows
theorem over : Rows.fnShadowsRow.holds Try.pinned (OpenSpec.ofChange Rows.fnShadowsSpec) :=
  OpenClaim.holds_of_wide 14 Try.f14 rfl rfl rfl rfl rfl rfl rfl ⟨rfl, rfl, rfl, rfl, rfl⟩ rfl rfl rfl rfl rfl (by kernel_rfl) Try.func14 (by kernel_rfl)
    (of_decide_eq_true (by kernel_rfl)) (by unfold Func.isWrapper; first | (rw [if_pos (by decide +kernel)]; kernel_rfl) | (rw [if_neg (by decide +kernel)]; exact ⟨rfl, rfl⟩))
    (fun os started H enc _ => lifted os started H enc)

/-- The given statement. -/
theorem proved : Rows.FnShadowsSaid := over
#print axioms proved
end Go.Proofs.Ytboagjiejjapfaa.fnShadows
