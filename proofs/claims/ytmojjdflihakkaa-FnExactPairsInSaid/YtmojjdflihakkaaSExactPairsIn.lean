/- The program's PairsIn returns what the reference's returns, for all arguments; no condition. -/
import Derived.Test.YtmojjdflihakkaaRExactPairsIn
namespace Go.Proofs.Ytmojjdflihakkaa.fnExactPairsIn
theorem over : Rows.fnExactPairsInRow.holds Try.pinned (OpenSpec.ofChange Rows.fnExactPairsInSpec) :=
  OpenClaim.holds_of_wide 8 Try.f8 rfl rfl rfl rfl rfl rfl rfl ⟨rfl, rfl, rfl, rfl, rfl⟩ rfl rfl rfl rfl rfl (by kernel_rfl) Try.func8 (by kernel_rfl)
    (of_decide_eq_true (by kernel_rfl)) (by unfold Func.isWrapper; first | (rw [if_pos (by decide +kernel)]; kernel_rfl) | (rw [if_neg (by decide +kernel)]; exact ⟨rfl, rfl⟩))
    (fun os started H enc _ => lifted os started H enc)

/-- The given statement. -/
theorem proved : Rows.FnExactPairsInSaid := over
#print axioms proved
end Go.Proofs.Ytmojjdflihakkaa.fnExactPairsIn
