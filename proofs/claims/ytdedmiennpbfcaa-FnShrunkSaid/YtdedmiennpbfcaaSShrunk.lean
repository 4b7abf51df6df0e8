/- Shrinking by 1 changes nothing, and no value of a shrunk mosaic lies outside of those of the mosaic; no condition. -/
import Derived.Test.YtdedmiennpbfcaaRShrunk
namespace Go.Proofs.Ytdedmiennpbfcaa.fnShrunk
theorem over : Rows.fnShrunkRow.holds Try.pinned (OpenSpec.ofChange Rows.fnShrunkSpec) :=
  OpenClaim.holds_of_wide 3 Try.f3 rfl rfl rfl rfl rfl rfl rfl ⟨rfl, rfl, rfl, rfl, rfl⟩ rfl rfl rfl rfl rfl (by kernel_rfl) Try.func3 (by kernel_rfl)
    (of_decide_eq_true (by kernel_rfl)) (by unfold Func.isWrapper; first | (rw [if_pos (by decide +kernel)]; kernel_rfl) | (rw [if_neg (by decide +kernel)]; exact ⟨rfl, rfl⟩))
    (fun os started H enc _ => lifted os started H enc)

/-- The given statement. -/
theorem proved : Rows.FnShrunkSaid := over
#print axioms proved
end Go.Proofs.Ytdedmiennpbfcaa.fnShrunk
