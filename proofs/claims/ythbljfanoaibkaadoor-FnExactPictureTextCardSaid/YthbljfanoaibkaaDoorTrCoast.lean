/- Trails that get nothing: contracts and the laws' walks. -/
import Derived.Test.YthbljfanoaibkaaDoorTrMiss
namespace Go.Proofs.YthbljfanoaibkaaDoor
open Go.RowKit
set_option linter.unusedVariables false
set_option linter.unusedSimpArgs false
/-- behind a scan without a contact -/
def fCoast (a : Tr) : Tr := fMiss (fMoved a)
theorem fMoved_t {x y p q s t h m : Int} (hg : fGoes ⟨x, y, p, q, s, t, h, m⟩ = true) : fMoved ⟨x, y, p, q, s, t, h, m⟩ = ⟨x + p, y + q, p, q, min (s + 50) 10000, t, h, m⟩ ∧ t ≠ 2 := by
  simp only [fGoes, Bool.and_eq_true] at hg
  have := of_decide_eq_true hg.1
  exact ⟨moved_on this hg.2, this⟩
theorem fMoved_no {x y p q s t h m : Int} (hg : fGoes ⟨x, y, p, q, s, t, h, m⟩ = false) : (fMoved ⟨x, y, p, q, s, t, h, m⟩).t = 2 := by
  simp only [fGoes, Bool.and_eq_false_iff] at hg
  by_cases ht : t = 2
  · rw [moved_lost ht]; exact ht
  · rcases hg with hg | hg
    · simp at hg; exact absurd hg ht
    · rw [moved_out ht hg]
end Go.Proofs.YthbljfanoaibkaaDoor
