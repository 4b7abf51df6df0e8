/- The program's LeastSum returns what the reference's returns, for all arguments; no condition. -/
import Derived.Test.YtdomghjdnnnifaaRExactLeastSum
namespace Go.Proofs.Ytdomghjdnnnifaa.fnExactLeastSum
theorem over : Rows.fnExactLeastSumRow.holds Try.pinned (OpenSpec.ofChange Rows.fnExactLeastSumSpec) :=
  OpenClaim.holds_of_wide 10 Try.f10 rfl rfl rfl rfl rfl rfl rfl ⟨rfl, rfl, rfl, rfl, rfl⟩ rfl rfl rfl rfl rfl (by kernel_rfl) Try.func10 (by kernel_rfl)
    (of_decide_eq_true (by kernel_rfl)) (by unfold Func.isWrapper; first | (rw [if_pos (by decide +kernel)]; kernel_rfl) | (rw [if_neg (by decide +kernel)]; exact ⟨rfl, rfl⟩))
    (fun os started H enc _ => lifted os started H enc)

/-- The given statement. -/
theorem proved : Rows.FnExactLeastSumSaid := over
#print axioms proved
end Go.Proofs.Ytdomghjdnnnifaa.fnExactLeastSum
