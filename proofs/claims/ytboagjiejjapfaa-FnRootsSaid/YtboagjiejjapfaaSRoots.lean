/- Both bounds of the program enclose the square root and differ by at most 1, for every code; no condition. -/
import Derived.Test.YtboagjiejjapfaaRRoots
namespace Go.Proofs.Ytboagjiejjapfaa.fnRoots
theorem over : Rows.fnRootsRow.holds Try.pinned (OpenSpec.ofChange Rows.fnRootsSpec) :=
  OpenClaim.holds_of_wide 10 Try.f10 rfl rfl rfl rfl rfl rfl rfl ⟨rfl, rfl, rfl, rfl, rfl⟩ rfl rfl rfl rfl rfl (by kernel_rfl) Try.func10 (by kernel_rfl)
    (of_decide_eq_true (by kernel_rfl)) (by unfold Func.isWrapper; first | (rw [if_pos (by decide +kernel)]; kernel_rfl) | (rw [if_neg (by decide +kernel)]; exact ⟨rfl, rfl⟩))
    (fun os started H enc _ => lifted os started H enc)

/-- The given statement. -/
theorem proved : Rows.FnRootsSaid := over
#print axioms proved
end Go.Proofs.Ytboagjiejjapfaa.fnRoots
