/- With one row less there are not more pairings, and without forbidden pairs as many as there are partial matchings, for every code; no condition. -/
import Derived.Test.YtdomghjdnnnifaaRPairingCounts
namespace Go.Proofs.Ytdomghjdnnnifaa.fnPairingCounts
theorem over : Rows.fnPairingCountsRow.holds Try.pinned (OpenSpec.ofChange Rows.fnPairingCountsSpec) :=
  OpenClaim.holds_of_wide 7 Try.f7 rfl rfl rfl rfl rfl rfl rfl ⟨rfl, rfl, rfl, rfl, rfl⟩ rfl rfl rfl rfl rfl (by kernel_rfl) Try.func7 (by kernel_rfl)
    (of_decide_eq_true (by kernel_rfl)) (by unfold Func.isWrapper; first | (rw [if_pos (by decide +kernel)]; kernel_rfl) | (rw [if_neg (by decide +kernel)]; exact ⟨rfl, rfl⟩))
    (fun os started H enc _ => lifted os started H enc)

/-- The given statement. -/
theorem proved : Rows.FnPairingCountsSaid := over
#print axioms proved
end Go.Proofs.Ytdomghjdnnnifaa.fnPairingCounts
