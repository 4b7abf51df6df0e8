/- Trails that move on, misses: contracts. -/
import Derived.Test.YthbljfanoaibkaaDoorTrMove
import Derived.Test.YthbljfanoaibkaaDoorFlat
import Derived.Test.YthbljfanoaibkaaDoorTrFirst
namespace Go.Proofs.YthbljfanoaibkaaDoor
open Go.RowKit
set_option linter.unusedVariables false
set_option linter.unusedSimpArgs false
theorem tr_facts {x y p q s t h m : Int} (hb : trB x y p q s t h m = true) : (-100000 ≤ x ∧ x ≤ 100000) ∧ (-100000 ≤ y ∧ y ≤ 100000) ∧ (-1000 ≤ p ∧ p ≤ 1000) ∧ (-1000 ≤ q ∧ q ≤ 1000) ∧ (0 ≤ s ∧ s ≤ 10000) ∧ (1 ≤ h ∧ h ≤ 1000) ∧ ((t = 0 ∧ 0 ≤ m ∧ m ≤ 1 ∧ h < 3) ∨ (t = 1 ∧ 0 ≤ m ∧ m ≤ 3 ∧ 3 ≤ h) ∨ (t = 2 ∧ 0 ≤ m ∧ m ≤ 4)) := by
  unfold trB at hb
  simp only [Bool.and_eq_true] at hb
  obtain ⟨h1, h2, h3, h4, h5⟩ := mo_facts hb.1
  refine ⟨h1, h2, h3, h4, h5, of_inB hb.2.1, ?_⟩
  have h6 := hb.2.2
  unfold staB at h6
  split at h6
  · rw [Bool.and_eq_true] at h6
    have := of_inB h6.1
    have := of_decide_eq_true h6.2
    omega
  · split at h6
    · rw [Bool.and_eq_true] at h6
      have := of_inB h6.1
      have := of_decide_eq_true h6.2
      omega
    · split at h6
      · have := of_inB h6
        omega
      · simp at h6
theorem moved_lost {x y p q s t h m : Int} (ht : t = 2) : fMoved ⟨x, y, p, q, s, t, h, m⟩ = ⟨x, y, p, q, s, t, h, m⟩ := by simp [fMoved, ht]
theorem moved_on {x y p q s t h m : Int} (ht : ¬ t = 2) (hc : coB (x + p) (y + q) = true) : fMoved ⟨x, y, p, q, s, t, h, m⟩ = ⟨x + p, y + q, p, q, min (s + 50) 10000, t, h, m⟩ := by simp [fMoved, ht, hc]
theorem moved_out {x y p q s t h m : Int} (ht : ¬ t = 2) (hc : coB (x + p) (y + q) = false) : fMoved ⟨x, y, p, q, s, t, h, m⟩ = ⟨x, y, p, q, s, 2, h, m⟩ := by simp [fMoved, ht, hc]
theorem moB_on {x y p q s : Int} (hp : -1000 ≤ p ∧ p ≤ 1000) (hq : -1000 ≤ q ∧ q ≤ 1000) (hs : 0 ≤ s ∧ s ≤ 10000) : moB (x + p) (y + q) p q (min (s + 50) 10000) = coB (x + p) (y + q) := by
  unfold moB
  rw [inB_t hp, inB_t hq, inB_t (show 0 ≤ min (s + 50) 10000 ∧ min (s + 50) 10000 ≤ 10000 by omega)]
  simp
end Go.Proofs.YthbljfanoaibkaaDoor
