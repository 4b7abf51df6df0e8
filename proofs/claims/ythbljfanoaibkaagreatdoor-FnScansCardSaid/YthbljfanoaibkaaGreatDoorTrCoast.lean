/- Trails that get nothing: contracts and the laws' walks. -/
import Derived.Test.YthbljfanoaibkaaGreatDoorTrMiss
namespace Go.Proofs.YthbljfanoaibkaaGreatDoor
open Go.RowKit
set_option linter.unusedVariables false
set_option linter.unusedSimpArgs false
/-- behind a scan without a contact -/
def fCoast (a : Tr) : Tr := fMiss (fMoved a)
theorem fMoved_t {x y p q s t h m : Int} (hg : fGoes ⟨x, y, p, q, s, t, h, m⟩ = true) : fMoved ⟨x, y, p, q, s, t, h, m⟩ = ⟨x + p, y + q, p, q, min (s + 50) 10000, t, h, m⟩ ∧ t ≠ 2 := by
  simp only [fGoes, Bool.and_eq_true] at hg
  have := of_decide_eq_true hg.1
  exact ⟨moved_on this hg.2, this⟩
theorem fMoved_no {x y p q s t h m : Int} (hg : fGoes ⟨x, y, p, q, s, t, h, m⟩ = false) : (fMoved ⟨x, y, p, q, s, t, h, m⟩).t = 2 := by
  simp only [fGoes, Bool.and_eq_false_iff] at hg
  by_cases ht : t = 2
  · rw [moved_lost ht]; exact ht
  · rcases hg with hg | hg
    · simp at hg; exact absurd hg ht
    · rw [moved_out ht hg]
set_option maxHeartbeats 3200000 in
theorem impl_miss (x y p q s t h m xv yv pv qv sv tv hv mv : Int) (w : World) (hm : -10 ≤ m ∧ m ≤ 10) (hf : fMiss ⟨x, y, p, q, s, t, h, m⟩ = ⟨xv, yv, pv, qv, sv, tv, hv, mv⟩) :
    Calls Tryz.prog 70 #[.agg #[.int .i64 x, .int .i64 y, .int .i64 p, .int .i64 q, .int .i64 s, .int .i64 t, .int .i64 h, .int .i64 m]] w fun e w' => e = .returned (.agg #[.int .i64 xv, .int .i64 yv, .int .i64 pv, .int .i64 qv, .int .i64 sv, .int .i64 tv, .int .i64 hv, .int .i64 mv]) ∧ Below w.heap.size w w' := by
  by_cases ht : t = 2
  · have hf' : fMiss ⟨x, y, p, q, s, t, h, m⟩ = ⟨x, y, p, q, s, t, h, m⟩ := by simp [fMiss, ht]
    rw [hf'] at hf
    injection hf with e0 e1 e2 e3 e4 e5 e6 e7
    subst e0 e1 e2 e3 e4 e5 e6 e7 ht
    go_enter Tryz.func70, Tryz.ntmps70
    repeat' (first | fail | go_values | go_skip | go_guarded | go_step | go_upon | (simp only []; go_step) | (go_ite <;> go_prune <;> (try go_simp)))
    ((try simp only [Exit.inBlock, Exit.then]); refine bodyPost_ret (by simp [results, Tryz.results70, go_sem, *]; try rfl) rfl ?_)
    exact ⟨rfl, by exact bgr⟩
  · have e0 : (t == 2) = false := by simpa using ht
    by_cases h1 : t = 0
    · by_cases h2 : m + 1 = 2
      · have hf' : fMiss ⟨x, y, p, q, s, t, h, m⟩ = ⟨x, y, p, q, s, 2, h, m + 1⟩ := by simp [fMiss, h1, h2]
        rw [hf'] at hf
        injection hf with e0 e1 e2 e3 e4 e5 e6 e7
        subst e0 e1 e2 e3 e4 e5 e6 e7
        have e1 : (t == 0) = true := by simpa using h1
        have e2 : (m + 1 == 2) = true := by simpa using h2
        go_enter Tryz.func70, Tryz.ntmps70
        repeat' (first | fail | go_values | go_skip | go_guarded | go_step | go_upon | (simp only []; go_step) | (go_ite <;> go_prune <;> (try go_simp)))
        all_goals ((try simp only [Exit.inBlock, Exit.then]); refine bodyPost_ret (by simp [results, Tryz.results70, go_sem, *]; try rfl) rfl ?_)
        all_goals exact ⟨by first | rfl | (simp; omega), by exact bgr⟩
      · by_cases h3 : m + 1 = 4
        · have hf' : fMiss ⟨x, y, p, q, s, t, h, m⟩ = ⟨x, y, p, q, s, 2, h, m + 1⟩ := by simp [fMiss, ht, h3]
          rw [hf'] at hf
          injection hf with e0 e1 e2 e3 e4 e5 e6 e7
          subst e0 e1 e2 e3 e4 e5 e6 e7
          have e1 : (t == 0) = true := by simpa using h1
          have e2 : (m + 1 == 2) = false := by simpa using h2
          have e3 : (m + 1 == 4) = true := by simpa using h3
          go_enter Tryz.func70, Tryz.ntmps70
          repeat' (first | fail | go_values | go_skip | go_guarded | go_step | go_upon | (simp only []; go_step) | (go_ite <;> go_prune <;> (try go_simp)))
          all_goals ((try simp only [Exit.inBlock, Exit.then]); refine bodyPost_ret (by simp [results, Tryz.results70, go_sem, *]; try rfl) rfl ?_)
          all_goals exact ⟨by first | rfl | (simp; omega), by exact bgr⟩
        · have hf' : fMiss ⟨x, y, p, q, s, t, h, m⟩ = ⟨x, y, p, q, s, t, h, m + 1⟩ := by simp [fMiss, ht, h2, h3]
          rw [hf'] at hf
          injection hf with e0 e1 e2 e3 e4 e5 e6 e7
          subst e0 e1 e2 e3 e4 e5 e6 e7
          have e1 : (t == 0) = true := by simpa using h1
          have e2 : (m + 1 == 2) = false := by simpa using h2
          have e3 : (m + 1 == 4) = false := by simpa using h3
          go_enter Tryz.func70, Tryz.ntmps70
          repeat' (first | fail | go_values | go_skip | go_guarded | go_step | go_upon | (simp only []; go_step) | (go_ite <;> go_prune <;> (try go_simp)))
          all_goals ((try simp only [Exit.inBlock, Exit.then]); refine bodyPost_ret (by simp [results, Tryz.results70, go_sem, *]; try rfl) rfl ?_)
          all_goals exact ⟨by first | rfl | (simp; omega), by exact bgr⟩
    · have e1 : (t == 0) = false := by simpa using h1
      by_cases h3 : m + 1 = 4
      · have hf' : fMiss ⟨x, y, p, q, s, t, h, m⟩ = ⟨x, y, p, q, s, 2, h, m + 1⟩ := by simp [fMiss, ht, h3]
        rw [hf'] at hf
        injection hf with e0 e1 e2 e3 e4 e5 e6 e7
        subst e0 e1 e2 e3 e4 e5 e6 e7
        have e3 : (m + 1 == 4) = true := by simpa using h3
        go_enter Tryz.func70, Tryz.ntmps70
        repeat' (first | fail | go_values | go_skip | go_guarded | go_step | go_upon | (simp only []; go_step) | (go_ite <;> go_prune <;> (try go_simp)))
        all_goals ((try simp only [Exit.inBlock, Exit.then]); refine bodyPost_ret (by simp [results, Tryz.results70, go_sem, *]; try rfl) rfl ?_)
        all_goals exact ⟨by first | rfl | (simp; omega), by exact bgr⟩
      · have hf' : fMiss ⟨x, y, p, q, s, t, h, m⟩ = ⟨x, y, p, q, s, t, h, m + 1⟩ := by simp [fMiss, ht, h1, h3]
        rw [hf'] at hf
        injection hf with e0 e1 e2 e3 e4 e5 e6 e7
        subst e0 e1 e2 e3 e4 e5 e6 e7
        have e3 : (m + 1 == 4) = false := by simpa using h3
        go_enter Tryz.func70, Tryz.ntmps70
        repeat' (first | fail | go_values | go_skip | go_guarded | go_step | go_upon | (simp only []; go_step) | (go_ite <;> go_prune <;> (try go_simp)))
        all_goals ((try simp only [Exit.inBlock, Exit.then]); refine bodyPost_ret (by simp [results, Tryz.results70, go_sem, *]; try rfl) rfl ?_)
        all_goals exact ⟨by first | rfl | (simp; omega), by exact bgr⟩
set_option maxHeartbeats 3200000 in
theorem spec_miss (x y p q s t h m xv yv pv qv sv tv hv mv : Int) (w : World) (ht : ¬ t = 2) (hm : 0 ≤ m ∧ m ≤ 3) (hn : t = 0 → m ≤ 1) (hf : fMiss ⟨x, y, p, q, s, t, h, m⟩ = ⟨xv, yv, pv, qv, sv, tv, hv, mv⟩) :
    Calls Tryz.prog 76 #[.agg #[.int .i64 x, .int .i64 y, .int .i64 p, .int .i64 q, .int .i64 s, .int .i64 t, .int .i64 h, .int .i64 m]] w fun e w' => e = .returned (.agg #[.int .i64 xv, .int .i64 yv, .int .i64 pv, .int .i64 qv, .int .i64 sv, .int .i64 tv, .int .i64 hv, .int .i64 mv]) ∧ Below w.heap.size w w' := by
  by_cases hc : t = 0 ∧ m + 1 = 2 ∨ m + 1 = 4
  · have hf' : fMiss ⟨x, y, p, q, s, t, h, m⟩ = ⟨x, y, p, q, s, 2, h, m + 1⟩ := by simp only [fMiss, if_neg ht, if_pos hc]
    rw [hf'] at hf
    injection hf with e0 e1 e2 e3 e4 e5 e6 e7
    subst e0 e1 e2 e3 e4 e5 e6 e7
    by_cases h1 : t = 0
    · have e1 : (t == 0) = true := by simpa using h1
      have h2 : 2 ≤ m + 1 := by omega
      go_enter Tryz.func76, Tryz.ntmps76
      repeat' (first | fail | go_values | go_skip | go_guarded | go_step | go_upon | (simp only []; go_step) | (go_ite <;> go_prune <;> (try go_simp)))
      all_goals ((try simp only [Exit.inBlock, Exit.then]); refine bodyPost_ret (by simp [results, Tryz.results76, go_sem, *]; try rfl) rfl ?_)
      all_goals exact ⟨by first | rfl | (simp; omega), by exact bgr⟩
    · have e1 : (t == 0) = false := by simpa using h1
      have h2 : 4 ≤ m + 1 := by omega
      go_enter Tryz.func76, Tryz.ntmps76
      repeat' (first | fail | go_values | go_skip | go_guarded | go_step | go_upon | (simp only []; go_step) | (go_ite <;> go_prune <;> (try go_simp)))
      all_goals ((try simp only [Exit.inBlock, Exit.then]); refine bodyPost_ret (by simp [results, Tryz.results76, go_sem, *]; try rfl) rfl ?_)
      all_goals exact ⟨by first | rfl | (simp; omega), by exact bgr⟩
  · have hf' : fMiss ⟨x, y, p, q, s, t, h, m⟩ = ⟨x, y, p, q, s, t, h, m + 1⟩ := by simp only [fMiss, if_neg ht, if_neg hc]
    rw [hf'] at hf
    injection hf with e0 e1 e2 e3 e4 e5 e6 e7
    subst e0 e1 e2 e3 e4 e5 e6 e7
    have h3 : ¬ 4 ≤ m + 1 := by omega
    by_cases h1 : t = 0
    · have e1 : (t == 0) = true := by simpa using h1
      have h2 : ¬ 2 ≤ m + 1 := by omega
      go_enter Tryz.func76, Tryz.ntmps76
      repeat' (first | fail | go_values | go_skip | go_guarded | go_step | go_upon | (simp only []; go_step) | (go_ite <;> go_prune <;> (try go_simp)))
      all_goals ((try simp only [Exit.inBlock, Exit.then]); refine bodyPost_ret (by simp [results, Tryz.results76, go_sem, *]; try rfl) rfl ?_)
      all_goals exact ⟨by first | rfl | (simp; omega), by exact bgr⟩
    · have e1 : (t == 0) = false := by simpa using h1
      go_enter Tryz.func76, Tryz.ntmps76
      repeat' (first | fail | go_values | go_skip | go_guarded | go_step | go_upon | (simp only []; go_step) | (go_ite <;> go_prune <;> (try go_simp)))
      all_goals ((try simp only [Exit.inBlock, Exit.then]); refine bodyPost_ret (by simp [results, Tryz.results76, go_sem, *]; try rfl) rfl ?_)
      all_goals exact ⟨by first | rfl | (simp; omega), by exact bgr⟩
end Go.Proofs.YthbljfanoaibkaaGreatDoor
