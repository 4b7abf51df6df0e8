/- The program's CountPairings returns what the reference's returns, for all arguments; no condition. -/
import Derived.Test.YtdomghjdnnnifaaRExactCountPairings
namespace Go.Proofs.Ytdomghjdnnnifaa.fnExactCountPairings
theorem over : Rows.fnExactCountPairingsRow.holds Try.pinned (OpenSpec.ofChange Rows.fnExactCountPairingsSpec) :=
  OpenClaim.holds_of_wide 6 Try.f6 rfl rfl rfl rfl rfl rfl rfl ⟨rfl, rfl, rfl, rfl, rfl⟩ rfl rfl rfl rfl rfl (by kernel_rfl) Try.func6 (by kernel_rfl)
    (of_decide_eq_true (by kernel_rfl)) (by unfold Func.isWrapper; first | (rw [if_pos (by decide +kernel)]; kernel_rfl) | (rw [if_neg (by decide +kernel)]; exact ⟨rfl, rfl⟩))
    (fun os started H enc _ => lifted os started H enc)

/-- The given statement. -/
theorem proved : Rows.FnExactCountPairingsSaid := over
#print axioms proved
end Go.Proofs.Ytdomghjdnnnifaa.fnExactCountPairings
