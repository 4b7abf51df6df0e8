/- The greedy pairing is a pairing, and none of its free pairs is cheaper than a miss, for every code; no condition. -/
import Derived.Test.YtdomghjdnnnifaaRGreedyPairs
namespace Go.Proofs.Ytdomghjdnnnifaa.fnGreedyPairs
theorem over : Rows.fnGreedyPairsRow.holds Try.pinned (OpenSpec.ofChange Rows.fnGreedyPairsSpec) :=
  OpenClaim.holds_of_wide 14 Try.f14 rfl rfl rfl rfl rfl rfl rfl ⟨rfl, rfl, rfl, rfl, rfl⟩ rfl rfl rfl rfl rfl (by kernel_rfl) Try.func14 (by kernel_rfl)
    (of_decide_eq_true (by kernel_rfl)) (by unfold Func.isWrapper; first | (rw [if_pos (by decide +kernel)]; kernel_rfl) | (rw [if_neg (by decide +kernel)]; exact ⟨rfl, rfl⟩))
    (fun os started H enc _ => lifted os started H enc)

/-- The given statement. -/
theorem proved : Rows.FnGreedyPairsSaid := over
#print axioms proved
end Go.Proofs.Ytdomghjdnnnifaa.fnGreedyPairs
