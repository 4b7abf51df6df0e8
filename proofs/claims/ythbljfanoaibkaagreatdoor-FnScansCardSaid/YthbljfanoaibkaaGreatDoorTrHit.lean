/- Trails that get a contact: contracts. -/
import Derived.Test.YthbljfanoaibkaaGreatDoorTrCoast
import Derived.StillTailTactics
import Derived.Deep.RegionHeld3
import Derived.Deep.RegionWith
namespace Go.Proofs.YthbljfanoaibkaaGreatDoor
open Go.RowKit
set_option linter.unusedVariables false
set_option linter.unusedSimpArgs false
def spd (v : Int) : Int := max (-1000) (min v 1000)
def fHit (a : Tr) (u v : Int) : Tr := if a.t = 2 then a else ⟨a.x + (u - a.x).tdiv 2, a.y + (v - a.y).tdiv 2, spd (a.p + (u - a.x).tdiv 4), spd (a.q + (v - a.y).tdiv 4), max (a.s.tdiv 2) 100, if 3 ≤ min (a.h + 1) 1000 then 1 else a.t, min (a.h + 1) 1000, 0⟩
theorem td_bd {a b n : Int} (hb : 0 < b) (h : -n ≤ a ∧ a ≤ n) : -n ≤ a.tdiv b ∧ a.tdiv b ≤ n := by
  rcases Int.lt_or_le a 0 with h0 | h0
  · have e : a.tdiv b = -((-a) / b) := by
      have := Int.neg_tdiv (a := -a) (b := b)
      rw [Int.neg_neg] at this
      rw [this, Int.tdiv_eq_ediv_of_nonneg (by omega)]
    rw [e]
    have h1 := (Pl.div_bd (a := -a) hb).1 (by omega)
    omega
  · rw [Int.tdiv_eq_ediv_of_nonneg h0]
    have h1 := (Pl.div_bd (a := a) hb).1 h0
    omega
theorem ret_tr {x y p q s t h m xv yv pv qv sv tv hv mv : Int} (e0 : x = xv) (e1 : y = yv) (e2 : p = pv) (e3 : q = qv) (e4 : s = sv) (e5 : t = tv) (e6 : h = hv) (e7 : m = mv) : Ending.returned (.agg #[.int .i64 x, .int .i64 y, .int .i64 p, .int .i64 q, .int .i64 s, .int .i64 t, .int .i64 h, .int .i64 m]) = Ending.returned (.agg #[.int .i64 xv, .int .i64 yv, .int .i64 pv, .int .i64 qv, .int .i64 sv, .int .i64 tv, .int .i64 hv, .int .i64 mv]) := by
  rw [e0, e1, e2, e3, e4, e5, e6, e7]
theorem impl_speed (v : Int) (w : World) : Calls Tryz.prog 87 #[.int .i64 v] w fun e w' => e = .returned (.int .i64 (spd v)) ∧ w' = w := by
  go_enter Tryz.func87, Tryz.ntmps87
  go_wp2
  all_goals go_ret
  all_goals exact ⟨ret_int (by unfold spd; omega), rfl⟩
theorem spec_speed (v : Int) (w : World) : Calls Tryz.prog 81 #[.int .i64 v] w fun e w' => e = .returned (.int .i64 (spd v)) ∧ w' = w := by
  go_enter Tryz.func81, Tryz.ntmps81
  go_wp2
  all_goals go_ret
  all_goals exact ⟨ret_int (by unfold spd; omega), rfl⟩
set_option maxRecDepth 8000 in
set_option maxHeartbeats 1600000 in
theorem impl_hit (x y p q s t h m a b : Int) (xv yv pv qv sv tv hv mv : Int) (w : World) (hx : -100000 ≤ x ∧ x ≤ 100000) (hy : -100000 ≤ y ∧ y ≤ 100000) (hp : -1000 ≤ p ∧ p ≤ 1000) (hq : -1000 ≤ q ∧ q ≤ 1000) (hs : 0 ≤ s ∧ s ≤ 10000) (hh : 1 ≤ h ∧ h ≤ 1000) (ha : -100000 ≤ a ∧ a ≤ 100000) (hb : -100000 ≤ b ∧ b ≤ 100000) (ht : t = 0 ∨ t = 1 ∧ 3 ≤ h) (hf : fHit ⟨x, y, p, q, s, t, h, m⟩ a b = ⟨xv, yv, pv, qv, sv, tv, hv, mv⟩) :
    Calls Tryz.prog 69 #[.agg #[.int .i64 x, .int .i64 y, .int .i64 p, .int .i64 q, .int .i64 s, .int .i64 t, .int .i64 h, .int .i64 m], .agg #[.int .i64 a, .int .i64 b]] w fun e w' => e = .returned (.agg #[.int .i64 xv, .int .i64 yv, .int .i64 pv, .int .i64 qv, .int .i64 sv, .int .i64 tv, .int .i64 hv, .int .i64 mv]) ∧ Below w.heap.size w w' := by
  have d1 := td_bd (b := 2) (by omega) (show -200000 ≤ a - x ∧ a - x ≤ 200000 by omega)
  have d2 := td_bd (b := 2) (by omega) (show -200000 ≤ b - y ∧ b - y ≤ 200000 by omega)
  have d3 := td_bd (b := 4) (by omega) (show -200000 ≤ a - x ∧ a - x ≤ 200000 by omega)
  have d4 := td_bd (b := 4) (by omega) (show -200000 ≤ b - y ∧ b - y ≤ 200000 by omega)
  have d5 := td_bd (b := 2) (by omega) (show -10000 ≤ s ∧ s ≤ 10000 by omega)
  have e0 : (t == 2) = false := by simp; omega
  simp only [fHit, if_neg (show ¬ t = 2 by omega)] at hf
  have E := Lib.hid hf
  clear hf
  go_enter Tryz.func69, Tryz.ntmps69
  repeat' (first | fail | go_values | go_skip | go_guarded | go_step | go_upon | (simp only []; go_step) | (go_ite <;> go_prune <;> (try go_simp)))
  go_region_held3 (fun w' => w'.cell? ⟨w.heap.size, 0, none⟩ = some (.int .i64 x) ∧ w'.cell? ⟨w.heap.size, 1, none⟩ = some (.int .i64 y) ∧ w'.cell? ⟨w.heap.size + 1, 0, none⟩ = some (.int .i64 a) ∧ w'.cell? ⟨w.heap.size + 1, 1, none⟩ = some (.int .i64 b)) (refine ⟨?_, ?_, ?_, ?_⟩ <;> exact bxc) (first | fail)
  all_goals repeat' (first | fail | go_values | go_skip | go_guarded | go_step | go_upon | (simp only []; go_step) | (go_ite <;> go_prune <;> (try go_simp)))
  all_goals
    refine wp_gen (fun W1 hW1 => ?_)
    have q0 := bx_id (w := W1) (X := w.heap.size) (o := 0) (by rw [hW1]; exact bxc)
    have q1 := bx_id (w := W1) (X := w.heap.size) (o := 1) (by rw [hW1]; exact bxc)
    have q2 := bx_id (w := W1) (X := w.heap.size) (o := 2) (by rw [hW1]; exact bxc)
    have q3 := bx_id (w := W1) (X := w.heap.size) (o := 3) (by rw [hW1]; exact bxc)
    have q4 := bx_id (w := W1) (X := w.heap.size) (o := 4) (by rw [hW1]; exact bxc)
    have q5 := bx_id (w := W1) (X := w.heap.size) (o := 5) (by rw [hW1]; exact bxc)
    have q6 := bx_id (w := W1) (X := w.heap.size) (o := 6) (by rw [hW1]; exact bxc)
    have q7 := bx_id (w := W1) (X := w.heap.size) (o := 7) (by rw [hW1]; exact bxc)
    have r0 := bx_id (w := W1) (X := w.heap.size + 1 + 1) (o := 0) (by rw [hW1]; exact bxc)
    have r1 := bx_id (w := W1) (X := w.heap.size + 1 + 1) (o := 1) (by rw [hW1]; exact bxc)
    have r2 := bx_id (w := W1) (X := w.heap.size + 1 + 1) (o := 2) (by rw [hW1]; exact bxc)
    have r3 := bx_id (w := W1) (X := w.heap.size + 1 + 1) (o := 3) (by rw [hW1]; exact bxc)
    have r4 := bx_id (w := W1) (X := w.heap.size + 1 + 1) (o := 4) (by rw [hW1]; exact bxc)
    have r5 := bx_id (w := W1) (X := w.heap.size + 1 + 1) (o := 5) (by rw [hW1]; exact bxc)
    have r6 := bx_id (w := W1) (X := w.heap.size + 1 + 1) (o := 6) (by rw [hW1]; exact bxc)
    have r7 := bx_id (w := W1) (X := w.heap.size + 1 + 1) (o := 7) (by rw [hW1]; exact bxc)
    simp only [List.getElem_toArray, List.getElem_cons_succ, List.getElem_cons_zero] at q0 q1 q2 q3 q4 q5 q6 q7
    have z0 : ∀ o, W1.frozen? ⟨w.heap.size, o, none⟩ = false := by (rw [hW1]; exact bxm)
    have z2 : ∀ o, W1.frozen? ⟨w.heap.size + 1 + 1, o, none⟩ = false := by (rw [hW1]; exact bxm)
    have hb0 : Below w.heap.size w W1 := by (rw [hW1]; exact bgr)
    clear hW1
    first | go_region_with (first | (go_at_call 87; refine (impl_speed _ _).mono ?_; rintro e w' ⟨rfl, rfl⟩)) | fail
  all_goals trace_state
  all_goals repeat' (first | fail | go_values | go_skip | go_guarded | go_step | go_upon | (simp only []; go_step) | (go_ite <;> go_prune <;> (try go_simp)))
  all_goals ((try simp only [Exit.inBlock, Exit.then]); refine bodyPost_ret (by simp [results, Tryz.results69, go_sem, *]; try rfl) rfl ?_)
  all_goals
    have E' := E.out
    injection E' with e0 e1 e2 e3 e4 e5 e6 e7
    exact ⟨ret_tr (by omega) (by omega) (by omega) (by omega) (by first | omega | (rw [← e4]; omega)) (by rw [← e5]; first | omega | (split <;> omega)) (by omega) (by omega), by exact bgr⟩
set_option maxRecDepth 8000 in
set_option maxHeartbeats 1600000 in
theorem spec_hit (x y p q s t h m a b : Int) (xv yv pv qv sv tv hv mv : Int) (w : World) (hx : -100000 ≤ x ∧ x ≤ 100000) (hy : -100000 ≤ y ∧ y ≤ 100000) (hp : -1000 ≤ p ∧ p ≤ 1000) (hq : -1000 ≤ q ∧ q ≤ 1000) (hs : 0 ≤ s ∧ s ≤ 10000) (hh : 1 ≤ h ∧ h ≤ 1000) (ha : -100000 ≤ a ∧ a ≤ 100000) (hb : -100000 ≤ b ∧ b ≤ 100000) (ht : t = 0 ∨ t = 1 ∧ 3 ≤ h) (hf : fHit ⟨x, y, p, q, s, t, h, m⟩ a b = ⟨xv, yv, pv, qv, sv, tv, hv, mv⟩) :
    Calls Tryz.prog 58 #[.agg #[.int .i64 x, .int .i64 y, .int .i64 p, .int .i64 q, .int .i64 s, .int .i64 t, .int .i64 h, .int .i64 m], .agg #[.int .i64 a, .int .i64 b]] w fun e w' => e = .returned (.agg #[.int .i64 xv, .int .i64 yv, .int .i64 pv, .int .i64 qv, .int .i64 sv, .int .i64 tv, .int .i64 hv, .int .i64 mv]) ∧ Below w.heap.size w w' := by
  have d1 := td_bd (b := 2) (by omega) (show -200000 ≤ a - x ∧ a - x ≤ 200000 by omega)
  have d2 := td_bd (b := 2) (by omega) (show -200000 ≤ b - y ∧ b - y ≤ 200000 by omega)
  have d3 := td_bd (b := 4) (by omega) (show -200000 ≤ a - x ∧ a - x ≤ 200000 by omega)
  have d4 := td_bd (b := 4) (by omega) (show -200000 ≤ b - y ∧ b - y ≤ 200000 by omega)
  have d5 := td_bd (b := 2) (by omega) (show -10000 ≤ s ∧ s ≤ 10000 by omega)
  have e0 : (t == 2) = false := by simp; omega
  simp only [fHit, if_neg (show ¬ t = 2 by omega)] at hf
  have E := Lib.hid hf
  clear hf
  by_cases hm : 100 < s.tdiv 2
  all_goals
    go_enter Tryz.func58, Tryz.ntmps58
    repeat' (first | fail | go_values | go_skip | go_guarded | go_step | go_upon | (simp only []; go_step) | (go_ite <;> go_prune <;> (try go_simp)))
  all_goals go_region_held3 (fun w' => w'.cell? ⟨w.heap.size, 0, none⟩ = some (.int .i64 x) ∧ w'.cell? ⟨w.heap.size, 1, none⟩ = some (.int .i64 y) ∧ w'.cell? ⟨w.heap.size + 1, 0, none⟩ = some (.int .i64 a) ∧ w'.cell? ⟨w.heap.size + 1, 1, none⟩ = some (.int .i64 b)) (refine ⟨?_, ?_, ?_, ?_⟩ <;> exact bxc) (first | fail)
  all_goals repeat' (first | fail | go_values | go_skip | go_guarded | go_step | go_upon | (simp only []; go_step) | (go_ite <;> go_prune <;> (try go_simp)))
  all_goals
    refine wp_gen (fun W1 hW1 => ?_)
    have q0 := bx_id (w := W1) (X := w.heap.size) (o := 0) (by rw [hW1]; exact bxc)
    have q1 := bx_id (w := W1) (X := w.heap.size) (o := 1) (by rw [hW1]; exact bxc)
    have q2 := bx_id (w := W1) (X := w.heap.size) (o := 2) (by rw [hW1]; exact bxc)
    have q3 := bx_id (w := W1) (X := w.heap.size) (o := 3) (by rw [hW1]; exact bxc)
    have q4 := bx_id (w := W1) (X := w.heap.size) (o := 4) (by rw [hW1]; exact bxc)
    have q5 := bx_id (w := W1) (X := w.heap.size) (o := 5) (by rw [hW1]; exact bxc)
    have q6 := bx_id (w := W1) (X := w.heap.size) (o := 6) (by rw [hW1]; exact bxc)
    have q7 := bx_id (w := W1) (X := w.heap.size) (o := 7) (by rw [hW1]; exact bxc)
    have r0 := bx_id (w := W1) (X := w.heap.size + 1 + 1) (o := 0) (by rw [hW1]; exact bxc)
    have r1 := bx_id (w := W1) (X := w.heap.size + 1 + 1) (o := 1) (by rw [hW1]; exact bxc)
    have r2 := bx_id (w := W1) (X := w.heap.size + 1 + 1) (o := 2) (by rw [hW1]; exact bxc)
    have r3 := bx_id (w := W1) (X := w.heap.size + 1 + 1) (o := 3) (by rw [hW1]; exact bxc)
    have r4 := bx_id (w := W1) (X := w.heap.size + 1 + 1) (o := 4) (by rw [hW1]; exact bxc)
    have r5 := bx_id (w := W1) (X := w.heap.size + 1 + 1) (o := 5) (by rw [hW1]; exact bxc)
    have r6 := bx_id (w := W1) (X := w.heap.size + 1 + 1) (o := 6) (by rw [hW1]; exact bxc)
    have r7 := bx_id (w := W1) (X := w.heap.size + 1 + 1) (o := 7) (by rw [hW1]; exact bxc)
    simp only [List.getElem_toArray, List.getElem_cons_succ, List.getElem_cons_zero] at q0 q1 q2 q3 q4 q5 q6 q7
    have z0 : ∀ o, W1.frozen? ⟨w.heap.size, o, none⟩ = false := by (rw [hW1]; exact bxm)
    have z2 : ∀ o, W1.frozen? ⟨w.heap.size + 1 + 1, o, none⟩ = false := by (rw [hW1]; exact bxm)
    have hb0 : Below w.heap.size w W1 := by (rw [hW1]; exact bgr)
    clear hW1
    go_still_tail 33, (by kernel_rfl)
    still_call (spec_speed _ _)
    repeat still_step
    still_call (spec_speed _ _)
    repeat still_step
    try refine wpStill_nil ?_
    change wpList _ _ _ _ _ W1.drew
  all_goals trace_state
  all_goals repeat' (first | fail | go_values | go_skip | go_guarded | go_step | go_upon | (simp only []; go_step) | (go_ite <;> go_prune <;> (try go_simp)))
  all_goals ((try simp only [Exit.inBlock, Exit.then]); refine bodyPost_ret (by simp [results, Tryz.results58, go_sem, *]; try rfl) rfl ?_)
  all_goals
    have E' := E.out
    injection E' with e0 e1 e2 e3 e4 e5 e6 e7
    exact ⟨ret_tr (by omega) (by omega) (by omega) (by omega) (by first | omega | (rw [← e4]; omega)) (by rw [← e5]; first | omega | (split <;> omega)) (by omega) (by omega), by exact bgr⟩
end Go.Proofs.YthbljfanoaibkaaGreatDoor
