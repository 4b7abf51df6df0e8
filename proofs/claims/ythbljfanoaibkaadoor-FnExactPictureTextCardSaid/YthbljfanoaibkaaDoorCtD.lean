/- The nearest contact: contracts of NearestIn. -/
import Derived.Test.YthbljfanoaibkaaDoorCtC
namespace Go.Proofs.YthbljfanoaibkaaDoor
open Go.RowKit Go.ChangeShapes Go.WideShapes Go.ChangeAt
set_option linter.unusedVariables false
set_option linter.unusedSimpArgs false
theorem gCode_ok {x y p q s : Int} {cs : List (Int × Int)} (h : gCode [⟨x, y, p, q, s⟩] cs = 0) : moB x y p q s = true ∧ ctsB cs = true ∧ cs.length ≤ 6 := by
  unfold gCode at h
  cases h1 : mssB [⟨x, y, p, q, s⟩]
  · simp [h1] at h
  · cases h2 : ctsB cs
    · simp [h2] at h
    · refine ⟨by simpa [mssB] using h1, rfl, ?_⟩
      simp only [h1, h2, Bool.and_self, if_true] at h
      split at h
      · rename_i h3; exact h3.2
      · simp at h
def fNear (x y p q s : Int) (cs : List (Int × Int)) : Int × Int := if gCode [⟨x, y, p, q, s⟩] cs ≠ 0 then (0, gCode [⟨x, y, p, q, s⟩] cs) else if nrk x y s cs cs.length < 0 then (0, 4) else (nrk x y s cs cs.length, 0)
def cNear (n : Int) : Int × Int := if n < 0 then (0, 4) else (n, 0)
end Go.Proofs.YthbljfanoaibkaaDoor
