/- Moving on, misses: contracts. -/
import Derived.Test.YthbljfanoaibkaaGreatDoorTrA
import Derived.Test.YthbljfanoaibkaaGreatDoorMath
import Derived.BigQuiet
import Derived.Deep.RegionWith
import Derived.Deep.RegionHeld3
namespace Go.Proofs.YthbljfanoaibkaaGreatDoor
open Go.RowKit
set_option linter.unusedVariables false
set_option linter.unusedSimpArgs false
structure Tr where
  x : Int
  y : Int
  p : Int
  q : Int
  s : Int
  t : Int
  h : Int
  m : Int
def fMoved (a : Tr) : Tr := if a.t = 2 then a else if coB (a.x + a.p) (a.y + a.q) then ⟨a.x + a.p, a.y + a.q, a.p, a.q, min (a.s + 50) 10000, a.t, a.h, a.m⟩ else ⟨a.x, a.y, a.p, a.q, a.s, 2, a.h, a.m⟩
def fMiss (a : Tr) : Tr := if a.t = 2 then a else ⟨a.x, a.y, a.p, a.q, a.s, if a.t = 0 ∧ a.m + 1 = 2 ∨ a.m + 1 = 4 then 2 else a.t, a.h, a.m + 1⟩
def fGoes (a : Tr) : Bool := decide (a.t ≠ 2) && coB (a.x + a.p) (a.y + a.q)
theorem mo_facts {x y p q s : Int} (h : moB x y p q s = true) : (-100000 ≤ x ∧ x ≤ 100000) ∧ (-100000 ≤ y ∧ y ≤ 100000) ∧ (-1000 ≤ p ∧ p ≤ 1000) ∧ (-1000 ≤ q ∧ q ≤ 1000) ∧ 0 ≤ s ∧ s ≤ 10000 := by
  simp only [moB, coB, Bool.and_eq_true] at h
  exact ⟨of_inB h.1.1, of_inB h.1.2, of_inB h.2.1, of_inB h.2.2.1, of_inB h.2.2.2⟩
theorem step_bd {n p : Int} (hn : 0 ≤ n ∧ n ≤ 100) (hp : -1000 ≤ p ∧ p ≤ 1000) : -100000 ≤ n * p ∧ n * p ≤ 100000 := by
  have h1 : n * p ≤ n * 1000 := Int.mul_le_mul_of_nonneg_left hp.2 hn.1
  have h2 : n * (-1000) ≤ n * p := Int.mul_le_mul_of_nonneg_left hp.1 hn.1
  omega
theorem impl_isReach' (n : Int) (b : Bool) (w : World) (h : inB n (-100000) 100000 = b) : Calls Tryz.prog 82 #[.int .i64 n] w fun e w' => e = .returned (.bool b) ∧ w' = w := by
  rw [← h]; exact (impl_isReach n w).mono fun _ _ ⟨a, b⟩ => ⟨a, b.symm⟩
set_option maxHeartbeats 6400000 in
set_option maxRecDepth 8000 in
theorem impl_moveOn (x y p q s n : Int) (w : World) (hx : -100000 ≤ x ∧ x ≤ 100000) (hy : -100000 ≤ y ∧ y ≤ 100000) (hp : -1000 ≤ p ∧ p ≤ 1000) (hq : -1000 ≤ q ∧ q ≤ 1000) (hs : 0 ≤ s ∧ s ≤ 10000) (hn : 0 ≤ n ∧ n ≤ 100) :
    Calls Tryz.prog 100 #[.agg #[.int .i64 x, .int .i64 y, .int .i64 p, .int .i64 q, .int .i64 s], .int .i64 n] w fun e w' => e = .returned (.tuple #[.agg #[.int .i64 (x + n * p), .int .i64 (y + n * q), .int .i64 p, .int .i64 q, .int .i64 (min (s + n * 50) 10000)], .bool (coB (x + n * p) (y + n * q))]) ∧ Below w.heap.size w w' := by
  have h1 := step_bd hn hp
  have h2 := step_bd hn hq
  cases hb1 : inB (x + n * p) (-100000) 100000
  · go_enter Tryz.func100, Tryz.ntmps100
    repeat' (first | (first | (go_at_call 82; refine (impl_isReach _ _).mono ?_; rintro e w' ⟨rfl, rfl⟩)) | go_values | go_skip | go_guarded | go_step | go_upon | (simp only []; go_step) | (go_ite <;> go_prune <;> (try go_simp)))
    all_goals
      refine wp_gen (fun W1 hW1 => ?_)
      have q0 := bx_id (w := W1) (X := w.heap.size) (o := 0) (by rw [hW1]; exact bxc)
      have q1 := bx_id (w := W1) (X := w.heap.size) (o := 1) (by rw [hW1]; exact bxc)
      have q2 := bx_id (w := W1) (X := w.heap.size) (o := 2) (by rw [hW1]; exact bxc)
      have q3 := bx_id (w := W1) (X := w.heap.size) (o := 3) (by rw [hW1]; exact bxc)
      have q4 := bx_id (w := W1) (X := w.heap.size) (o := 4) (by rw [hW1]; exact bxc)
      have r0 := bx_id (w := W1) (X := w.heap.size + 1) (o := 0) (by rw [hW1]; exact bxc)
      have r1 := bx_id (w := W1) (X := w.heap.size + 1) (o := 1) (by rw [hW1]; exact bxc)
      have r2 := bx_id (w := W1) (X := w.heap.size + 1) (o := 2) (by rw [hW1]; exact bxc)
      have r3 := bx_id (w := W1) (X := w.heap.size + 1) (o := 3) (by rw [hW1]; exact bxc)
      have r4 := bx_id (w := W1) (X := w.heap.size + 1) (o := 4) (by rw [hW1]; exact bxc)
      simp only [List.getElem_toArray, List.getElem_cons_succ, List.getElem_cons_zero] at q0 q1 q2 q3 q4 r0 r1 r2 r3 r4
      have q4 : W1.cell? ⟨w.heap.size, 4, none⟩ = some (.int .i64 (min (s + n * 50) 10000)) := by first | (rw [show min (s + n * 50) 10000 = 10000 by omega]; exact q4) | (rw [show min (s + n * 50) 10000 = s + n * 50 by omega]; exact q4)
      have z1 : ∀ o, W1.frozen? ⟨w.heap.size + 1, o, none⟩ = false := by (rw [hW1]; exact bxm)
      have hb0 : Below w.heap.size w W1 := by (rw [hW1]; exact bgr)
      clear hW1
      first | go_region_with (first | (go_at_call 82; refine (impl_isReach' _ _ _ (by assumption)).mono ?_; rintro e w' ⟨rfl, rfl⟩)) | fail
    all_goals repeat' (first | (first | (go_at_call 82; refine (impl_isReach _ _).mono ?_; rintro e w' ⟨rfl, rfl⟩)) | go_values | go_skip | go_guarded | go_step | go_upon | (simp only []; go_step) | (go_ite <;> go_prune <;> (try go_simp)))
    all_goals ((try simp only [Exit.inBlock, Exit.then]); refine bodyPost_ret (by simp [results, Tryz.results100, go_sem, *]; try rfl) rfl ?_)
    all_goals exact ⟨by simp [coB, hb1]; try omega, by exact bgr⟩
  cases hb2 : inB (y + n * q) (-100000) 100000
  all_goals
    go_enter Tryz.func100, Tryz.ntmps100
    repeat' (first | (first | (go_at_call 82; refine (impl_isReach _ _).mono ?_; rintro e w' ⟨rfl, rfl⟩)) | go_values | go_skip | go_guarded | go_step | go_upon | (simp only []; go_step) | (go_ite <;> go_prune <;> (try go_simp)))
    all_goals
      refine wp_gen (fun W1 hW1 => ?_)
      have q0 := bx_id (w := W1) (X := w.heap.size) (o := 0) (by rw [hW1]; exact bxc)
      have q1 := bx_id (w := W1) (X := w.heap.size) (o := 1) (by rw [hW1]; exact bxc)
      have q2 := bx_id (w := W1) (X := w.heap.size) (o := 2) (by rw [hW1]; exact bxc)
      have q3 := bx_id (w := W1) (X := w.heap.size) (o := 3) (by rw [hW1]; exact bxc)
      have q4 := bx_id (w := W1) (X := w.heap.size) (o := 4) (by rw [hW1]; exact bxc)
      have r0 := bx_id (w := W1) (X := w.heap.size + 1) (o := 0) (by rw [hW1]; exact bxc)
      have r1 := bx_id (w := W1) (X := w.heap.size + 1) (o := 1) (by rw [hW1]; exact bxc)
      have r2 := bx_id (w := W1) (X := w.heap.size + 1) (o := 2) (by rw [hW1]; exact bxc)
      have r3 := bx_id (w := W1) (X := w.heap.size + 1) (o := 3) (by rw [hW1]; exact bxc)
      have r4 := bx_id (w := W1) (X := w.heap.size + 1) (o := 4) (by rw [hW1]; exact bxc)
      simp only [List.getElem_toArray, List.getElem_cons_succ, List.getElem_cons_zero] at q0 q1 q2 q3 q4 r0 r1 r2 r3 r4
      have q4 : W1.cell? ⟨w.heap.size, 4, none⟩ = some (.int .i64 (min (s + n * 50) 10000)) := by first | (rw [show min (s + n * 50) 10000 = 10000 by omega]; exact q4) | (rw [show min (s + n * 50) 10000 = s + n * 50 by omega]; exact q4)
      have z1 : ∀ o, W1.frozen? ⟨w.heap.size + 1, o, none⟩ = false := by (rw [hW1]; exact bxm)
      have hb0 : Below w.heap.size w W1 := by (rw [hW1]; exact bgr)
      clear hW1
      go_region_held3 (fun w' => w'.cell? ⟨w.heap.size, 0, none⟩ = some (.int .i64 (x + n * p)) ∧ w'.cell? ⟨w.heap.size, 1, none⟩ = some (.int .i64 (y + n * q)) ∧ w'.cell? ⟨w.heap.size, 2, none⟩ = some (.int .i64 p) ∧ w'.cell? ⟨w.heap.size, 3, none⟩ = some (.int .i64 q) ∧ w'.cell? ⟨w.heap.size, 4, none⟩ = some (.int .i64 (min (s + n * 50) 10000))) (refine ⟨?_, ?_, ?_, ?_, ?_⟩ <;> exact bxc) (first | (go_at_call 82; refine (impl_isReach' _ _ _ (by assumption)).mono ?_; rintro e w' ⟨rfl, rfl⟩))
    all_goals repeat' (first | (first | (go_at_call 82; refine (impl_isReach _ _).mono ?_; rintro e w' ⟨rfl, rfl⟩)) | go_values | go_skip | go_guarded | go_step | go_upon | (simp only []; go_step) | (go_ite <;> go_prune <;> (try go_simp)))
    all_goals ((try simp only [Exit.inBlock, Exit.then]); refine bodyPost_ret (by simp [results, Tryz.results100, go_sem, *]; try rfl) rfl ?_)
    all_goals exact ⟨by simp [coB, hb1, hb2]; try omega, by exact bgr⟩
set_option maxHeartbeats 6400000 in
set_option maxRecDepth 8000 in
theorem spec_l14Move (x y p q s n : Int) (w : World) (hx : -100000 ≤ x ∧ x ≤ 100000) (hy : -100000 ≤ y ∧ y ≤ 100000) (hp : -1000 ≤ p ∧ p ≤ 1000) (hq : -1000 ≤ q ∧ q ≤ 1000) (hs : 0 ≤ s ∧ s ≤ 10000) (hn : 0 ≤ n ∧ n ≤ 100) :
    Calls Tryz.prog 39 #[.agg #[.int .i64 x, .int .i64 y, .int .i64 p, .int .i64 q, .int .i64 s], .int .i64 n] w fun e w' => e = .returned (.agg #[.int .i64 (x + n * p), .int .i64 (y + n * q), .int .i64 p, .int .i64 q, .int .i64 (min (s + n * 50) 10000)]) ∧ Below w.heap.size w w' := by
  have h1 := step_bd hn hp
  have h2 := step_bd hn hq
  go_enter Tryz.func39, Tryz.ntmps39
  repeat' (first | fail | go_values | go_skip | go_guarded | go_step | go_upon | (simp only []; go_step) | (go_ite <;> go_prune <;> (try go_simp)))
  all_goals ((try simp only [Exit.inBlock, Exit.then]); refine bodyPost_ret (by simp [results, Tryz.results39, go_sem, *]; try rfl) rfl ?_)
  all_goals exact ⟨by simp; try omega, by exact bgr⟩
end Go.Proofs.YthbljfanoaibkaaGreatDoor
