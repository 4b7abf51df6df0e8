/- No pairing has a smaller sum than the best one, which is at least the bound, for every code; no condition. -/
import Derived.Test.YtdomghjdnnnifaaRPairings
namespace Go.Proofs.Ytdomghjdnnnifaa.fnPairings
theorem over : Rows.fnPairingsRow.holds Try.pinned (OpenSpec.ofChange Rows.fnPairingsSpec) :=
  OpenClaim.holds_of_wide 13 Try.f13 rfl rfl rfl rfl rfl rfl rfl ⟨rfl, rfl, rfl, rfl, rfl⟩ rfl rfl rfl rfl rfl (by kernel_rfl) Try.func13 (by kernel_rfl)
    (of_decide_eq_true (by kernel_rfl)) (by unfold Func.isWrapper; first | (rw [if_pos (by decide +kernel)]; kernel_rfl) | (rw [if_neg (by decide +kernel)]; exact ⟨rfl, rfl⟩))
    (fun os started H enc _ => lifted os started H enc)

/-- The given statement. -/
theorem proved : Rows.FnPairingsSaid := over
#print axioms proved
end Go.Proofs.Ytdomghjdnnnifaa.fnPairings
