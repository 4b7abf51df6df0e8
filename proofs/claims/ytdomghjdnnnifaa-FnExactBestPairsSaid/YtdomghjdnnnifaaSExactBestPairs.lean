/- The program's BestPairs returns what the reference's returns, for all arguments; no condition. -/
import Derived.Test.YtdomghjdnnnifaaRExactBestPairs
namespace Go.Proofs.Ytdomghjdnnnifaa.fnExactBestPairs
theorem over : Rows.fnExactBestPairsRow.holds Try.pinned (OpenSpec.ofChange Rows.fnExactBestPairsSpec) :=
  OpenClaim.holds_of_wide 12 Try.f12 rfl rfl rfl rfl rfl rfl rfl ⟨rfl, rfl, rfl, rfl, rfl⟩ rfl rfl rfl rfl rfl (by kernel_rfl) Try.func12 (by kernel_rfl)
    (of_decide_eq_true (by kernel_rfl)) (by unfold Func.isWrapper; first | (rw [if_pos (by decide +kernel)]; kernel_rfl) | (rw [if_neg (by decide +kernel)]; exact ⟨rfl, rfl⟩))
    (fun os started H enc _ => lifted os started H enc)

/-- The given statement. -/
theorem proved : Rows.FnExactBestPairsSaid := over
#print axioms proved
end Go.Proofs.Ytdomghjdnnnifaa.fnExactBestPairs
