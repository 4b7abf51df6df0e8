/- Several texts in one: CtC, CtD. No condition of its own. Printed by mergeclaim.py. -/
import Derived.Test.YthbljfanoaibkaaGreatDoorCtB
import Derived.Test.YthbljfanoaibkaaGreatDoorMKit
import Derived.Deep.RegionHeld3
import Derived.Deep.RegionWith
namespace Go.Proofs.YthbljfanoaibkaaGreatDoor
open Go.RowKit Go.ChangeShapes Go.WideShapes Go.ChangeAt
set_option linter.unusedVariables false
set_option linter.unusedSimpArgs false
end Go.Proofs.YthbljfanoaibkaaGreatDoor
namespace Go.Proofs.YthbljfanoaibkaaGreatDoor
open Go.RowKit Go.ChangeShapes Go.WideShapes Go.ChangeAt
set_option linter.unusedVariables false
set_option linter.unusedSimpArgs false
theorem gCode_ok {x y p q s : Int} {cs : List (Int × Int)} (h : gCode [⟨x, y, p, q, s⟩] cs = 0) : moB x y p q s = true ∧ ctsB cs = true ∧ cs.length ≤ 6 := by
  unfold gCode at h
  cases h1 : mssB [⟨x, y, p, q, s⟩]
  · simp [h1] at h
  · cases h2 : ctsB cs
    · simp [h2] at h
    · refine ⟨by simpa [mssB] using h1, rfl, ?_⟩
      simp only [h1, h2, Bool.and_self, if_true] at h
      split at h
      · rename_i h3; exact h3.2
      · simp at h
def fNear (x y p q s : Int) (cs : List (Int × Int)) : Int × Int := if gCode [⟨x, y, p, q, s⟩] cs ≠ 0 then (0, gCode [⟨x, y, p, q, s⟩] cs) else if nrk x y s cs cs.length < 0 then (0, 4) else (nrk x y s cs cs.length, 0)
def cNear (n : Int) : Int × Int := if n < 0 then (0, 4) else (n, 0)
theorem spec_l14In' (x y p q s a b : Int) (r : Bool) (w : World) (h : gin x y s a b = r) (hx : -100000 ≤ x ∧ x ≤ 100000) (hy : -100000 ≤ y ∧ y ≤ 100000) (hs : 0 ≤ s ∧ s ≤ 10000) (ha : -100000 ≤ a ∧ a ≤ 100000) (hb : -100000 ≤ b ∧ b ≤ 100000) :
    Calls Tryz.prog 91 #[.agg #[.int .i64 x, .int .i64 y, .int .i64 p, .int .i64 q, .int .i64 s], .agg #[.int .i64 a, .int .i64 b]] w fun e w' => e = .returned (.bool r) ∧ Below w.heap.size w w' := by
  rw [← h]; exact spec_l14In x y p q s a b w hx hy hs ha hb
end Go.Proofs.YthbljfanoaibkaaGreatDoor
