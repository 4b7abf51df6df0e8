/- The program's NewIn returns what the reference's returns, for all arguments; no condition. -/
import Derived.Test.YtmojjdflihakkaaRExactNewIn
namespace Go.Proofs.Ytmojjdflihakkaa.fnExactNewIn
theorem over : Rows.fnExactNewInRow.holds Try.pinned (OpenSpec.ofChange Rows.fnExactNewInSpec) :=
  OpenClaim.holds_of_wide 9 Try.f9 rfl rfl rfl rfl rfl rfl rfl ⟨rfl, rfl, rfl, rfl, rfl⟩ rfl rfl rfl rfl rfl (by kernel_rfl) Try.func9 (by kernel_rfl)
    (of_decide_eq_true (by kernel_rfl)) (by unfold Func.isWrapper; first | (rw [if_pos (by decide +kernel)]; kernel_rfl) | (rw [if_neg (by decide +kernel)]; exact ⟨rfl, rfl⟩))
    (fun os started H enc _ => lifted os started H enc)

/-- The given statement. -/
theorem proved : Rows.FnExactNewInSaid := over
#print axioms proved
end Go.Proofs.Ytmojjdflihakkaa.fnExactNewIn
