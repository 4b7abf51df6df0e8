/- A new trail is confirmed by exactly as many hits as it needs, if it does not leave its range; no condition. -/
import Derived.Test.YtcglljjhokffeaaRConfirmed
namespace Go.Proofs.Ytcglljjhokffeaa.fnConfirmed
theorem over : Rows.fnConfirmedRow.holds Try.pinned (OpenSpec.ofChange Rows.fnConfirmedSpec) :=
  OpenClaim.holds_of_wide 5 Try.f5 rfl rfl rfl rfl rfl rfl rfl ⟨rfl, rfl, rfl, rfl, rfl⟩ rfl rfl rfl rfl rfl (by kernel_rfl) Try.func5 (by kernel_rfl)
    (of_decide_eq_true (by kernel_rfl)) (by unfold Func.isWrapper; first | (rw [if_pos (by decide +kernel)]; kernel_rfl) | (rw [if_neg (by decide +kernel)]; exact ⟨rfl, rfl⟩))
    (fun os started H enc _ => lifted os started H enc)

/-- The given statement. -/
theorem proved : Rows.FnConfirmedSaid := over
#print axioms proved
end Go.Proofs.Ytcglljjhokffeaa.fnConfirmed
