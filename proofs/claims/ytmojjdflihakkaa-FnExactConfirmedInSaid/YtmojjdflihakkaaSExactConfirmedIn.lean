/- The program's ConfirmedIn returns what the reference's returns, for all arguments; no condition. -/
import Derived.Test.YtmojjdflihakkaaRExactConfirmedIn
namespace Go.Proofs.Ytmojjdflihakkaa.fnExactConfirmedIn
theorem over : Rows.fnExactConfirmedInRow.holds Try.pinned (OpenSpec.ofChange Rows.fnExactConfirmedInSpec) :=
  OpenClaim.holds_of_wide 7 Try.f7 rfl rfl rfl rfl rfl rfl rfl ⟨rfl, rfl, rfl, rfl, rfl⟩ rfl rfl rfl rfl rfl (by kernel_rfl) Try.func7 (by kernel_rfl)
    (of_decide_eq_true (by kernel_rfl)) (by unfold Func.isWrapper; first | (rw [if_pos (by decide +kernel)]; kernel_rfl) | (rw [if_neg (by decide +kernel)]; exact ⟨rfl, rfl⟩))
    (fun os started H enc _ => lifted os started H enc)

/-- The given statement. -/
theorem proved : Rows.FnExactConfirmedInSaid := over
#print axioms proved
end Go.Proofs.Ytmojjdflihakkaa.fnExactConfirmedIn
