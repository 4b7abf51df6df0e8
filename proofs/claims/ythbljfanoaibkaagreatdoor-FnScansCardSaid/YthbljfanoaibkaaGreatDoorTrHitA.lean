/- HitTrail: the law's walk (no condition). -/
import Derived.Test.YthbljfanoaibkaaGreatDoorTrHit
namespace Go.Proofs.YthbljfanoaibkaaGreatDoor
open Go.RowKit
set_option linter.unusedVariables false
set_option linter.unusedSimpArgs false
theorem trB_mkH {x y p q s t h m : Int} (h1 : moB x y p q s = true) (h2 : 1 ≤ h ∧ h ≤ 1000) (h3 : (t = 0 ∧ 0 ≤ m ∧ m ≤ 1 ∧ h < 3) ∨ (t = 1 ∧ 0 ≤ m ∧ m ≤ 3 ∧ 3 ≤ h) ∨ (t = 2 ∧ 0 ≤ m ∧ m ≤ 4)) : trB x y p q s t h m = true := by
  unfold trB
  rw [h1, inB_t h2, Bool.true_and, Bool.true_and]
  unfold staB
  rcases h3 with ⟨rfl, a, b, c⟩ | ⟨rfl, a, b, c⟩ | ⟨rfl, a, b⟩
  · rw [if_pos rfl, inB_t ⟨a, b⟩, Bool.true_and]; exact decide_eq_true c
  · rw [if_neg (by omega), if_pos rfl, inB_t ⟨a, b⟩, Bool.true_and]; exact decide_eq_true c
  · rw [if_neg (by omega), if_neg (by omega), if_pos rfl]; exact inB_t ⟨a, b⟩
theorem moved_ok {x y p q s t h m xz yz pz qz sz tz hz mz : Int} (hb : trB x y p q s t h m = true) (hmv : fMoved ⟨x, y, p, q, s, t, h, m⟩ = ⟨xz, yz, pz, qz, sz, tz, hz, mz⟩) : trB xz yz pz qz sz tz hz mz = true ∧ (fGoes ⟨x, y, p, q, s, t, h, m⟩ = true → ¬ tz = 2) ∧ (fGoes ⟨x, y, p, q, s, t, h, m⟩ = false → tz = 2) := by
  obtain ⟨hx, hy, hp, hq, hs, hh, hst⟩ := tr_facts hb
  have hmo : moB x y p q s = true := by unfold trB at hb; rw [Bool.and_eq_true] at hb; exact hb.1
  by_cases ht : t = 2
  · rw [moved_lost ht] at hmv
    injection hmv with e0 e1 e2 e3 e4 e5 e6 e7
    subst e0 e1 e2 e3 e4 e5 e6 e7
    exact ⟨hb, fun hg => by simp [fGoes, ht] at hg, fun _ => ht⟩
  · cases hc : coB (x + p) (y + q)
    · rw [moved_out ht hc] at hmv
      injection hmv with e0 e1 e2 e3 e4 e5 e6 e7
      subst e0 e1 e2 e3 e4 e5 e6 e7
      exact ⟨trB_mkH hmo hh (by omega), fun hg => by simp [fGoes, hc] at hg, fun _ => rfl⟩
    · rw [moved_on ht hc] at hmv
      injection hmv with e0 e1 e2 e3 e4 e5 e6 e7
      have hm2 := (moB_on (x := x) (y := y) hp hq hs).trans hc
      subst e0 e1 e2 e3 e4 e5 e6 e7
      exact ⟨trB_mkH hm2 hh (by omega), fun _ => ht, fun hg => by simp [fGoes, hc, ht] at hg⟩
theorem co_facts {a b : Int} (h : coB a b = true) : (-100000 ≤ a ∧ a ≤ 100000) ∧ (-100000 ≤ b ∧ b ≤ 100000) := by
  unfold coB at h; rw [Bool.and_eq_true] at h; exact ⟨of_inB h.1, of_inB h.2⟩
theorem impl_hitA (x y p q s t h m a b xv yv pv qv sv tv hv mv : Int) (w : World) (hb : trB x y p q s t h m = true) (hc : coB a b = true) (hf : fHit ⟨x, y, p, q, s, t, h, m⟩ a b = ⟨xv, yv, pv, qv, sv, tv, hv, mv⟩) :
    Calls Tryz.prog 69 #[.agg #[.int .i64 x, .int .i64 y, .int .i64 p, .int .i64 q, .int .i64 s, .int .i64 t, .int .i64 h, .int .i64 m], .agg #[.int .i64 a, .int .i64 b]] w fun e w' => e = .returned (.agg #[.int .i64 xv, .int .i64 yv, .int .i64 pv, .int .i64 qv, .int .i64 sv, .int .i64 tv, .int .i64 hv, .int .i64 mv]) ∧ Below w.heap.size w w' := by
  obtain ⟨hx, hy, hp, hq, hs, hh, hst⟩ := tr_facts hb
  by_cases ht : t = 2
  · have hf' : fHit ⟨x, y, p, q, s, t, h, m⟩ a b = ⟨x, y, p, q, s, t, h, m⟩ := by simp [fHit, ht]
    rw [hf'] at hf
    injection hf with e0 e1 e2 e3 e4 e5 e6 e7
    subst e0 e1 e2 e3 e4 e5 e6 e7 ht
    go_enter Tryz.func69, Tryz.ntmps69
    repeat' (first | fail | go_values | go_skip | go_guarded | go_step | go_upon | (simp only []; go_step) | (go_ite <;> go_prune <;> (try go_simp)))
    ((try simp only [Exit.inBlock, Exit.then]); refine bodyPost_ret (by simp [results, Tryz.results69, go_sem, *]; try rfl) rfl ?_)
    exact ⟨rfl, by exact bgr⟩
  · exact impl_hit x y p q s t h m a b xv yv pv qv sv tv hv mv w hx hy hp hq hs hh (co_facts hc).1 (co_facts hc).2 (by omega) hf
end Go.Proofs.YthbljfanoaibkaaGreatDoor
