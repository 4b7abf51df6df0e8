/- Mosaics: contracts. -/
import Derived.Test.YtgokiedhdihamaaDoorTwo
import Derived.BigQuiet
namespace Go.Proofs.YtgokiedhdihamaaDoor
open Go.RowKit Go.ChangeShapes Go.WideShapes Go.ChangeAt
set_option linter.unusedVariables false
set_option linter.unusedSimpArgs false

def celB (v g : Int) : Bool := (decide (v = -1) && decide (g = 0)) || (inB v 0 1000 && inB g 1 9)
def celk (xs ys : List Int) (k : Nat) : Bool := (List.range k).all fun i => celB (xs.getD i 0) (ys.getD i 0)
/-- a mosaic -/
def mosB (p q : Int) (xs ys : List Int) : Bool := inB p 1 40 && (inB q 1 40 && (decide ((xs.length : Int) = p * q) && (decide (ys.length = xs.length) && celk xs ys xs.length)))
theorem celk_succ {xs ys : List Int} {k : Nat} : celk xs ys (k + 1) = (celk xs ys k && celB (xs.getD k 0) (ys.getD k 0)) := by simp [celk, List.range_succ]
theorem celk_no {xs ys : List Int} {k n : Nat} (hk : k < n) (h : celB (xs.getD k 0) (ys.getD k 0) = false) : celk xs ys n = false := by
  rw [celk, List.all_eq_false]
  exact ⟨k, by simpa using hk, by simp only [h]; decide⟩
theorem celk_of {xs ys : List Int} {n k : Nat} (h : celk xs ys n = true) (hk : k < n) : celB (xs.getD k 0) (ys.getD k 0) = true := List.all_eq_true.1 h k (by simpa using hk)
theorem mget_of {xs : List Int} {k : Nat} {x : Int} (h : xs[k]? = some x) : xs.getD k 0 = x := by simp [List.getD, h]
theorem side_bd {p q : Int} (h1 : inB p 1 40 = true) (h2 : inB q 1 40 = true) : 1 ≤ p * q ∧ p * q ≤ 1600 := by
  have a := of_inB h1
  have b := of_inB h2
  have c : p * q ≤ 40 * 40 := Int.mul_le_mul a.2 b.2 (by omega) (by omega)
  have d : 1 * 1 ≤ p * q := Int.mul_le_mul a.1 b.1 (by omega) (by omega)
  omega
theorem impl_isMosaicSide (n : Int) (w : World) : Calls Tryd.prog 34 #[.int .i64 n] w fun e w' => e = .returned (.bool (inB n 1 40)) ∧ w = w' := by
  go_enter Tryd.func34, Tryd.ntmps34
  go_wp2_with (first | (go_at_call 48; refine (impl_within _ _ _ _).mono ?_; rintro e w' ⟨rfl, rfl⟩))
  go_ret
  exact ⟨rfl, rfl⟩
theorem impl_isGraded (v g : Int) (w : World) : Calls Tryd.prog 33 #[.int .i64 v, .int .i64 g] w fun e w' => e = .returned (.bool (inB v 0 1000 && inB g 1 9)) ∧ w = w' := by
  go_enter Tryd.func33, Tryd.ntmps33
  go_wp2_with (first | (go_at_call 48; refine (impl_within _ _ _ _).mono ?_; rintro e w' ⟨rfl, rfl⟩))
  all_goals go_ret
  all_goals exact ⟨ret_bool (by simp [*]), rfl⟩
theorem spec_l19Pixel (v g : Int) (w : World) : Calls Tryd.prog 37 #[.int .i64 v, .int .i64 g] w fun e w' => e = .returned (.bool (inB v 0 1000 && inB g 1 9)) ∧ w = w' := by
  go_enter Tryd.func37, Tryd.ntmps37
  go_wp2_with (first | (go_at_call 36; refine (spec_l01In _ _ _ _).mono ?_; rintro e w' ⟨rfl, rfl⟩))
  all_goals go_ret
  all_goals exact ⟨ret_bool (by simp [*]), rfl⟩
theorem impl_isMosaicSide' (n : Int) (b : Bool) (w : World) (h : inB n 1 40 = b) : Calls Tryd.prog 34 #[.int .i64 n] w fun e w' => e = .returned (.bool b) ∧ w' = w := by
  rw [← h]; exact (impl_isMosaicSide n w).mono fun _ _ ⟨a, b⟩ => ⟨a, b.symm⟩
theorem impl_isGraded' (v g : Int) (b : Bool) (w : World) (h : (inB v 0 1000 && inB g 1 9) = b) : Calls Tryd.prog 33 #[.int .i64 v, .int .i64 g] w fun e w' => e = .returned (.bool b) ∧ w' = w := by
  rw [← h]; exact (impl_isGraded v g w).mono fun _ _ ⟨a, b⟩ => ⟨a, b.symm⟩
theorem spec_l19Pixel' (v g : Int) (b : Bool) (w : World) (h : (inB v 0 1000 && inB g 1 9) = b) : Calls Tryd.prog 37 #[.int .i64 v, .int .i64 g] w fun e w' => e = .returned (.bool b) ∧ w' = w := by
  rw [← h]; exact (spec_l19Pixel v g w).mono fun _ _ ⟨a, b⟩ => ⟨a, b.symm⟩
theorem spec_l01In' (n lo hi : Int) (b : Bool) (w : World) (h : inB n lo hi = b) : Calls Tryd.prog 36 #[.int .i64 n, .int .i64 lo, .int .i64 hi] w fun e w' => e = .returned (.bool b) ∧ w' = w := by
  rw [← h]; exact (spec_l01In n lo hi w).mono fun _ _ ⟨a, b⟩ => ⟨a, b.symm⟩
theorem impl_length64' (A : Option Addr) (n c : Nat) (w : World) : Calls Tryd.prog 35 #[.slice A n c] w fun e w' => e = .returned (.int .i64 n) ∧ w' = w :=
  (impl_length64 A n c w).mono fun _ _ ⟨a, b⟩ => ⟨a, b.symm⟩
theorem laws_szMosaic (p q : Int) (A B : Option Addr) (n c m d : Nat) (left : Int) (w : World) (h0 : -1 ≤ left) (h1 : left ≤ 1048576) (hn : n ≤ maxLen) (hm : m ≤ maxLen) :
    Calls Tryd.prog 10 #[.agg #[.int .i64 p, .int .i64 q, .slice A n c, .slice B m d], .int .i64 left] w fun e w' => e = .returned (.int .i64 (fsz (fsz left n) m)) ∧ Below w.heap.size w w' := by
  have f1 := fsz_ge (left := left) (n := n)
  have f2 := fsz_le (n := n) h0
  have f3 := fsz_ge (left := fsz left n) (n := m)
  by_cases hA : fsz left n < 0
  · have e : fsz (fsz left n) m = -1 := by unfold fsz at *; split at hA <;> omega
    go_enter Tryd.func10, Tryd.ntmps10
    repeat' (first | (first | (go_at_call 23; refine (laws_szInt64S _ _ _ _ _ (by omega) (by omega) (by omega)).mono ?_; rintro e w' ⟨rfl, rfl⟩)) | go_values | go_skip | go_guarded | go_step | go_upon | (simp only []; go_step) | (go_ite <;> go_prune <;> (try go_simp)))
    go_returns
    exact ⟨ret_int e.symm, by exact bgr⟩
  · by_cases hB : fsz (fsz left n) m < 0
    · go_enter Tryd.func10, Tryd.ntmps10
      repeat' (first | (first | (go_at_call 23; refine (laws_szInt64S _ _ _ _ _ (by omega) (by omega) (by omega)).mono ?_; rintro e w' ⟨rfl, rfl⟩)) | go_values | go_skip | go_guarded | go_step | go_upon | (simp only []; go_step) | (go_ite <;> go_prune <;> (try go_simp)))
      go_returns
      exact ⟨ret_int (by omega), by exact bgr⟩
    · go_enter Tryd.func10, Tryd.ntmps10
      repeat' (first | (first | (go_at_call 23; refine (laws_szInt64S _ _ _ _ _ (by omega) (by omega) (by omega)).mono ?_; rintro e w' ⟨rfl, rfl⟩)) | go_values | go_skip | go_guarded | go_step | go_upon | (simp only []; go_step) | (go_ite <;> go_prune <;> (try go_simp)))
      go_returns
      exact ⟨rfl, by exact bgr⟩
set_option maxHeartbeats 1600000 in
theorem laws_toMosaic (p q : Int) (A B : Option Addr) (c d : Nat) (xs ys : List Int) (w : World) (hr : I64 w w.heap.size A xs) (hs : I64 w w.heap.size B ys) (hl : xs.length ≤ 1048576) (hm : ys.length ≤ 1048576) :
    Calls Tryd.prog 12 #[.agg #[.int .i64 p, .int .i64 q, .slice A xs.length c, .slice B ys.length d]] w fun e w' => ∃ g k, e = .returned (.agg #[.int .i64 p, .int .i64 q, .slice (some ⟨g, 0, none⟩) xs.length xs.length, .slice (some ⟨k, 0, none⟩) ys.length ys.length]) ∧
      OwnI w' w.heap.size (.slice (some ⟨g, 0, none⟩) xs.length xs.length) xs ∧ OwnI w' w.heap.size (.slice (some ⟨k, 0, none⟩) ys.length ys.length) ys ∧ Below w.heap.size w w' := by
  go_enter Tryd.func12, Tryd.ntmps12
  repeat' (first | fail | go_values | go_skip | go_guarded | go_step | go_upon | (simp only []; go_step) | (go_ite <;> go_prune <;> (try go_simp)))
  refine (laws_toInt64S _ _ _ _ (hr.up (by exact bgr)) hl).mono ?_; rintro e w1 ⟨g, rfl, o1, hbw1⟩; have hzw1 := hbw1.size; (try simp only [World.size_alloc, World.size_setCell, World.size_drew] at hzw1); have hs1 : w.heap.size < w1.heap.size := (by omega); have q1 := bx_id (w := w1) (X := w.heap.size) (o := 0) (by exact bxc); (try simp only [List.getElem_toArray, List.getElem_cons_succ, List.getElem_cons_zero] at q1); have q1 := bx_id (w := w1) (X := w.heap.size) (o := 1) (by exact bxc); (try simp only [List.getElem_toArray, List.getElem_cons_succ, List.getElem_cons_zero] at q1); have q1 := bx_id (w := w1) (X := w.heap.size) (o := 2) (by exact bxc); (try simp only [List.getElem_toArray, List.getElem_cons_succ, List.getElem_cons_zero] at q1); have q1 := bx_id (w := w1) (X := w.heap.size) (o := 3) (by exact bxc); (try simp only [List.getElem_toArray, List.getElem_cons_succ, List.getElem_cons_zero] at q1); have z1 : ∀ o, w1.frozen? ⟨w.heap.size, o, none⟩ = false := (by exact bxm); have hs1 : w.heap.size + 1 < w1.heap.size := (by omega); have q1 := bx_id (w := w1) (X := w.heap.size + 1) (o := 0) (by exact bxc); (try simp only [List.getElem_toArray, List.getElem_cons_succ, List.getElem_cons_zero] at q1); have q1 := bx_id (w := w1) (X := w.heap.size + 1) (o := 1) (by exact bxc); (try simp only [List.getElem_toArray, List.getElem_cons_succ, List.getElem_cons_zero] at q1); have q1 := bx_id (w := w1) (X := w.heap.size + 1) (o := 2) (by exact bxc); (try simp only [List.getElem_toArray, List.getElem_cons_succ, List.getElem_cons_zero] at q1); have q1 := bx_id (w := w1) (X := w.heap.size + 1) (o := 3) (by exact bxc); (try simp only [List.getElem_toArray, List.getElem_cons_succ, List.getElem_cons_zero] at q1); have z1 : ∀ o, w1.frozen? ⟨w.heap.size + 1, o, none⟩ = false := (by exact bxm); have hs1 : w.heap.size + 1 + 1 < w1.heap.size := (by omega); have q1 := bx_id (w := w1) (X := w.heap.size + 1 + 1) (o := 0) (by exact bxc); (try simp only [List.getElem_toArray, List.getElem_cons_succ, List.getElem_cons_zero] at q1); have q1 := bx_id (w := w1) (X := w.heap.size + 1 + 1) (o := 1) (by exact bxc); (try simp only [List.getElem_toArray, List.getElem_cons_succ, List.getElem_cons_zero] at q1); have q1 := bx_id (w := w1) (X := w.heap.size + 1 + 1) (o := 2) (by exact bxc); (try simp only [List.getElem_toArray, List.getElem_cons_succ, List.getElem_cons_zero] at q1); have q1 := bx_id (w := w1) (X := w.heap.size + 1 + 1) (o := 3) (by exact bxc); (try simp only [List.getElem_toArray, List.getElem_cons_succ, List.getElem_cons_zero] at q1); have z1 : ∀ o, w1.frozen? ⟨w.heap.size + 1 + 1, o, none⟩ = false := (by exact bxm)
  repeat' (first | fail | go_values | go_skip | go_guarded | go_step | go_upon | (simp only []; go_step) | (go_ite <;> go_prune <;> (try go_simp)))
  have o1 : OwnI w1 (w.heap.size + 3) (.slice (some ⟨g, 0, none⟩) xs.length xs.length) xs := ⟨_, _, rfl, by simpa using o1⟩
  refine (laws_toInt64S _ _ _ _ (hs.up (by exact bgr)) hm).mono ?_; rintro e w2 ⟨k, rfl, o2, hbw2⟩; have hzw2 := hbw2.size; (try simp only [World.size_alloc, World.size_setCell, World.size_drew] at hzw2); have hs1 : w.heap.size < w2.heap.size := (by omega); have q1 := bx_id (w := w2) (X := w.heap.size) (o := 0) (by exact bxc); (try simp only [List.getElem_toArray, List.getElem_cons_succ, List.getElem_cons_zero] at q1); have q1 := bx_id (w := w2) (X := w.heap.size) (o := 1) (by exact bxc); (try simp only [List.getElem_toArray, List.getElem_cons_succ, List.getElem_cons_zero] at q1); have q1 := bx_id (w := w2) (X := w.heap.size) (o := 2) (by exact bxc); (try simp only [List.getElem_toArray, List.getElem_cons_succ, List.getElem_cons_zero] at q1); have q1 := bx_id (w := w2) (X := w.heap.size) (o := 3) (by exact bxc); (try simp only [List.getElem_toArray, List.getElem_cons_succ, List.getElem_cons_zero] at q1); have z1 : ∀ o, w2.frozen? ⟨w.heap.size, o, none⟩ = false := (by exact bxm); have hs1 : w.heap.size + 1 < w2.heap.size := (by omega); have q1 := bx_id (w := w2) (X := w.heap.size + 1) (o := 0) (by exact bxc); (try simp only [List.getElem_toArray, List.getElem_cons_succ, List.getElem_cons_zero] at q1); have q1 := bx_id (w := w2) (X := w.heap.size + 1) (o := 1) (by exact bxc); (try simp only [List.getElem_toArray, List.getElem_cons_succ, List.getElem_cons_zero] at q1); have q1 := bx_id (w := w2) (X := w.heap.size + 1) (o := 2) (by exact bxc); (try simp only [List.getElem_toArray, List.getElem_cons_succ, List.getElem_cons_zero] at q1); have q1 := bx_id (w := w2) (X := w.heap.size + 1) (o := 3) (by exact bxc); (try simp only [List.getElem_toArray, List.getElem_cons_succ, List.getElem_cons_zero] at q1); have z1 : ∀ o, w2.frozen? ⟨w.heap.size + 1, o, none⟩ = false := (by exact bxm); have hs1 : w.heap.size + 1 + 1 < w2.heap.size := (by omega); have q1 := bx_id (w := w2) (X := w.heap.size + 1 + 1) (o := 0) (by exact bxc); (try simp only [List.getElem_toArray, List.getElem_cons_succ, List.getElem_cons_zero] at q1); have q1 := bx_id (w := w2) (X := w.heap.size + 1 + 1) (o := 1) (by exact bxc); (try simp only [List.getElem_toArray, List.getElem_cons_succ, List.getElem_cons_zero] at q1); have q1 := bx_id (w := w2) (X := w.heap.size + 1 + 1) (o := 2) (by exact bxc); (try simp only [List.getElem_toArray, List.getElem_cons_succ, List.getElem_cons_zero] at q1); have q1 := bx_id (w := w2) (X := w.heap.size + 1 + 1) (o := 3) (by exact bxc); (try simp only [List.getElem_toArray, List.getElem_cons_succ, List.getElem_cons_zero] at q1); have z1 : ∀ o, w2.frozen? ⟨w.heap.size + 1 + 1, o, none⟩ = false := (by exact bxm)
  repeat' (first | fail | go_values | go_skip | go_guarded | go_step | go_upon | (simp only []; go_step) | (go_ite <;> go_prune <;> (try go_simp)))
  ((try simp only [Exit.inBlock, Exit.then]); refine bodyPost_ret (by simp [results, Tryd.results12, go_sem, *]; try rfl) rfl ?_)
  have o2 : OwnI w2 (w.heap.size + 3) (.slice (some ⟨k, 0, none⟩) ys.length ys.length) ys := OwnI.mono ⟨_, _, rfl, o2⟩ (by simp only [World.size_setCell, World.size_alloc]; omega)
  exact ⟨_, _, rfl, OwnI.mono (base := w.heap.size + 3) (by repeat' (first | (with_reducible assumption) | (refine OwnI.off ?_ (by omega) _) | (refine OwnI.alloc ?_ _) | (refine OwnI.drewN ?_ _) | (refine OwnI.below ?_ (by with_reducible assumption)))) (by omega), OwnI.mono (base := w.heap.size + 3) (by repeat' (first | (with_reducible assumption) | (refine OwnI.off ?_ (by omega) _) | (refine OwnI.alloc ?_ _) | (refine OwnI.drewN ?_ _) | (refine OwnI.below ?_ (by with_reducible assumption)))) (by omega), by exact bgr⟩
set_option maxHeartbeats 1600000 in
theorem laws_eqMosaic (p q : Int) (A B A' B' : Option Addr) (c d c' d' : Nat) (xs ys xs' ys' : List Int) (w : World) (h1 : I64 w w.heap.size A xs) (h2 : I64 w w.heap.size B ys) (h3 : I64 w w.heap.size A' xs') (h4 : I64 w w.heap.size B' ys')
    (l1 : xs.length ≤ 1099511627776) (l2 : ys.length ≤ 1099511627776) (l3 : xs'.length ≤ 1099511627776) (l4 : ys'.length ≤ 1099511627776) :
    Calls Tryd.prog 7 #[.agg #[.int .i64 p, .int .i64 q, .slice A xs.length c, .slice B ys.length d], .agg #[.int .i64 p, .int .i64 q, .slice A' xs'.length c', .slice B' ys'.length d']] w fun e w' => e = .returned (.bool (decide (xs = xs') && decide (ys = ys'))) ∧ Below w.heap.size w w' := by
  go_enter Tryd.func7, Tryd.ntmps7
  repeat' (first | fail | go_values | go_skip | go_guarded | go_step | go_upon | (simp only []; go_step) | (go_ite <;> go_prune <;> (try go_simp)))
  refine (laws_eqInt64S _ _ _ _ _ _ _ (h1.up (by exact bgr)) (h3.up (by exact bgr)) (by omega) (by omega)).mono ?_; rintro e w1 ⟨rfl, hbw1⟩; have hzw1 := hbw1.size; (try simp only [World.size_alloc, World.size_setCell, World.size_drew] at hzw1); have hs1 : w.heap.size < w1.heap.size := (by omega); have q1 := bx_id (w := w1) (X := w.heap.size) (o := 0) (by exact bxc); (try simp only [List.getElem_toArray, List.getElem_cons_succ, List.getElem_cons_zero] at q1); have q1 := bx_id (w := w1) (X := w.heap.size) (o := 1) (by exact bxc); (try simp only [List.getElem_toArray, List.getElem_cons_succ, List.getElem_cons_zero] at q1); have q1 := bx_id (w := w1) (X := w.heap.size) (o := 2) (by exact bxc); (try simp only [List.getElem_toArray, List.getElem_cons_succ, List.getElem_cons_zero] at q1); have q1 := bx_id (w := w1) (X := w.heap.size) (o := 3) (by exact bxc); (try simp only [List.getElem_toArray, List.getElem_cons_succ, List.getElem_cons_zero] at q1); have z1 : ∀ o, w1.frozen? ⟨w.heap.size, o, none⟩ = false := (by exact bxm); have hs1 : w.heap.size + 1 < w1.heap.size := (by omega); have q1 := bx_id (w := w1) (X := w.heap.size + 1) (o := 0) (by exact bxc); (try simp only [List.getElem_toArray, List.getElem_cons_succ, List.getElem_cons_zero] at q1); have q1 := bx_id (w := w1) (X := w.heap.size + 1) (o := 1) (by exact bxc); (try simp only [List.getElem_toArray, List.getElem_cons_succ, List.getElem_cons_zero] at q1); have q1 := bx_id (w := w1) (X := w.heap.size + 1) (o := 2) (by exact bxc); (try simp only [List.getElem_toArray, List.getElem_cons_succ, List.getElem_cons_zero] at q1); have q1 := bx_id (w := w1) (X := w.heap.size + 1) (o := 3) (by exact bxc); (try simp only [List.getElem_toArray, List.getElem_cons_succ, List.getElem_cons_zero] at q1); have z1 : ∀ o, w1.frozen? ⟨w.heap.size + 1, o, none⟩ = false := (by exact bxm)
  repeat' (first | fail | go_values | go_skip | go_guarded | go_step | go_upon | (simp only []; go_step) | (go_ite <;> go_prune <;> (try go_simp)))
  all_goals first | (go_returns; exact ⟨ret_bool (by simp_all), by exact bgr⟩) | skip
  refine (laws_eqInt64S _ _ _ _ _ _ _ (h2.up (by exact bgr)) (h4.up (by exact bgr)) (by omega) (by omega)).mono ?_; rintro e w2 ⟨rfl, hbw2⟩; have hzw2 := hbw2.size; (try simp only [World.size_alloc, World.size_setCell, World.size_drew] at hzw2)
  repeat' (first | fail | go_values | go_skip | go_guarded | go_step | go_upon | (simp only []; go_step) | (go_ite <;> go_prune <;> (try go_simp)))
  all_goals go_returns
  all_goals exact ⟨ret_bool (by simp_all), by exact bgr⟩
set_option maxHeartbeats 1600000 in
theorem impl_IsMosaic (p q : Int) (A B : Option Addr) (c d : Nat) (xs ys : List Int) (w : World) (hr : I64 w w.heap.size A xs) (hs : I64 w w.heap.size B ys) (hl : xs.length ≤ 1099511627776) (hm : ys.length ≤ 1099511627776) :
    Calls Tryd.prog 19 #[.agg #[.int .i64 p, .int .i64 q, .slice A xs.length c, .slice B ys.length d]] w fun e w' => e = .returned (.bool (mosB p q xs ys)) ∧ Below w.heap.size w w' := by
  cases h1 : inB p 1 40
  · skip
    go_enter Tryd.func19, Tryd.ntmps19
    repeat' (first | fail | go_values | go_skip | go_guarded | go_step | go_upon | (simp only []; go_step) | (go_ite <;> go_prune <;> (try go_simp)))
    go_quiet (first | (go_at_call 34; exact Calls.quiet_of_same (impl_isMosaicSide' _ _ _ (by assumption))) | (go_at_call 35; exact Calls.quiet_of_same (impl_length64' _ _ _ _)))
    repeat' (first | fail | go_values | go_skip | go_guarded | go_step | go_upon | (simp only []; go_step) | (go_ite <;> go_prune <;> (try go_simp)))
    go_returns
    exact ⟨ret_bool (by simp [mosB, h1]), by exact bgr⟩
  · cases h2 : inB q 1 40
    · skip
      go_enter Tryd.func19, Tryd.ntmps19
      repeat' (first | fail | go_values | go_skip | go_guarded | go_step | go_upon | (simp only []; go_step) | (go_ite <;> go_prune <;> (try go_simp)))
      go_quiet (first | (go_at_call 34; exact Calls.quiet_of_same (impl_isMosaicSide' _ _ _ (by assumption))) | (go_at_call 35; exact Calls.quiet_of_same (impl_length64' _ _ _ _)))
      repeat' (first | fail | go_values | go_skip | go_guarded | go_step | go_upon | (simp only []; go_step) | (go_ite <;> go_prune <;> (try go_simp)))
      go_returns
      exact ⟨ret_bool (by simp [mosB, h1, h2]), by exact bgr⟩
    · have hpq := side_bd h1 h2
      have wpq : IntKind.i64.wrap (p * q) = p * q := IntWalk.i64_in _ (by omega)
      by_cases h3 : (xs.length : Int) = p * q
      · have e3 : ((xs.length : Int) != p * q) = false := by simp [h3]
        have H3 := Lib.hid h3
        clear h3
        by_cases h4 : ys.length = xs.length
        · have e4 : ((ys.length : Int) != (xs.length : Int)) = false := by simp [h4]
          have H4 := Lib.hid h4
          clear h4
          go_enter Tryd.func19, Tryd.ntmps19
          repeat' (first | fail | go_values | go_skip | go_guarded | go_step | go_upon | (simp only []; go_step) | (go_ite <;> go_prune <;> (try go_simp)))
          go_quiet (first | (go_at_call 34; exact Calls.quiet_of_same (impl_isMosaicSide' _ _ _ (by assumption))) | (go_at_call 35; exact Calls.quiet_of_same (impl_length64' _ _ _ _)))
          repeat' (first | fail | go_values | go_skip | go_guarded | go_step | go_upon | (simp only []; go_step) | (go_ite <;> go_prune <;> (try go_simp)))
          refine wp_gen (fun W1 hW1 => ?_)
          have b2 := bx_id (w := W1) (X := w.heap.size) (o := 2) (by rw [hW1]; exact bxc)
          have b3 := bx_id (w := W1) (X := w.heap.size) (o := 3) (by rw [hW1]; exact bxc)
          simp only [List.getElem_toArray, List.getElem_cons_succ, List.getElem_cons_zero] at b2 b3
          have hb0 : Below w.heap.size w W1 := by (rw [hW1]; exact bgr)
          have hsz : w.heap.size + 1 ≤ W1.heap.size := by rw [hW1]; simp
          clear hW1
          go_loopw [38] (fun i wr => ∃ k : Nat, k ≤ xs.length ∧ i = .int .i64 k ∧ Hid (celk xs ys k = true) ∧ wr.cell? ⟨w.heap.size, 2, none⟩ = some (.slice A xs.length c) ∧ wr.cell? ⟨w.heap.size, 3, none⟩ = some (.slice B ys.length d) ∧ Below w.heap.size w wr) (fun i _ => xs.length - (intOf i).toNat)
          case atStart => exact ⟨0, Nat.zero_le _, rfl, by simp [celk, Hid], b2, b3, hb0⟩
          case round =>
            clear b2 b3 hb0
            obtain ⟨k, hk, rfl, ha, b2, b3, hbr⟩ := hrel
            by_cases hlt : k < xs.length
            · obtain ⟨x, hx⟩ := get_of_lt hlt
              obtain ⟨y, hy⟩ := get_of_lt (show k < ys.length by have := H4.out; omega)
              obtain ⟨b, o, rfl, hb, hc⟩ := (hr.below hbr).at_ hx
              obtain ⟨b', o', rfl, hb', hc'⟩ := (hs.below hbr).at_ hy
              have k0 : (0 : Int) ≤ (k : Int) := by omega
              have k1 : (k : Int) < (ys.length : Int) := by have := H4.out; omega
              have k2 : (k : Int) < (xs.length : Int) := by omega
              have gx := Lib.hid (mget_of hx)
              have gy := Lib.hid (mget_of hy)
              clear hx hy
              cases hg : inB x 0 1000 && inB y 1 9
              · by_cases e1 : x = -1
                · have e1' : (x != -1) = false := by simp [e1]
                  by_cases e2 : y = 0
                  · have e2' : (y != 0) = false := by simp [e2]
                    have H := Lib.hid (And.intro e1 e2)
                    clear e1 e2
                    repeat' (first | (first | (go_at_call 33; refine (impl_isGraded _ _ _).mono ?_; rintro e w' ⟨rfl, rfl⟩)) | go_values | go_skip | go_guarded | go_step | go_upon | (simp only []; go_step) | (go_ite <;> go_prune <;> (try go_simp)))
                    exact ⟨⟨k + 1, by omega, by go_num, by unfold Hid; rw [celk_succ, ha.out, gx.out, gy.out]; simp [celB, H.out.1, H.out.2], by exact bxc, by exact bxc, by exact bgr⟩, by simp [intOf]; omega⟩
                  · have e2' : (y != 0) = true := by simp [e2]
                    clear e1
                    repeat' (first | (first | (go_at_call 33; refine (impl_isGraded _ _ _).mono ?_; rintro e w' ⟨rfl, rfl⟩)) | go_values | go_skip | go_guarded | go_step | go_upon | (simp only []; go_step) | (go_ite <;> go_prune <;> (try go_simp)))
                    go_returns
                    exact ⟨ret_bool (by rw [mosB, celk_no hlt (by rw [gx.out, gy.out]; simp [celB, hg, e2])]; simp), by exact bgr⟩
                · have e1' : (x != -1) = true := by simp [e1]
                  repeat' (first | (first | (go_at_call 33; refine (impl_isGraded _ _ _).mono ?_; rintro e w' ⟨rfl, rfl⟩)) | go_values | go_skip | go_guarded | go_step | go_upon | (simp only []; go_step) | (go_ite <;> go_prune <;> (try go_simp)))
                  go_returns
                  exact ⟨ret_bool (by rw [mosB, celk_no hlt (by rw [gx.out, gy.out]; simp [celB, hg, e1])]; simp), by exact bgr⟩
              · have e1' : (x != -1) = true := by
                  have hg' := hg
                  rw [Bool.and_eq_true] at hg'
                  have := of_inB hg'.1
                  simp; omega
                repeat' (first | (first | (go_at_call 33; refine (impl_isGraded _ _ _).mono ?_; rintro e w' ⟨rfl, rfl⟩)) | go_values | go_skip | go_guarded | go_step | go_upon | (simp only []; go_step) | (go_ite <;> go_prune <;> (try go_simp)))
                exact ⟨⟨k + 1, by omega, by go_num, by unfold Hid; rw [celk_succ, ha.out, gx.out, gy.out]; simp [celB, hg], by exact bxc, by exact bxc, by exact bgr⟩, by simp [intOf]; omega⟩
            · repeat' (first | fail | go_values | go_skip | go_guarded | go_step | go_upon | (simp only []; go_step) | (go_ite <;> go_prune <;> (try go_simp)))
              go_returns
              exact ⟨ret_bool (by have : k = xs.length := by omega
                                  have h := ha.out
                                  rw [this] at h
                                  simp [mosB, h1, h2, H3.out, H4.out, h]), by exact bgr⟩
        · have e4 : ((ys.length : Int) != (xs.length : Int)) = true := by simp; omega
          go_enter Tryd.func19, Tryd.ntmps19
          repeat' (first | fail | go_values | go_skip | go_guarded | go_step | go_upon | (simp only []; go_step) | (go_ite <;> go_prune <;> (try go_simp)))
          go_quiet (first | (go_at_call 34; exact Calls.quiet_of_same (impl_isMosaicSide' _ _ _ (by assumption))) | (go_at_call 35; exact Calls.quiet_of_same (impl_length64' _ _ _ _)))
          repeat' (first | fail | go_values | go_skip | go_guarded | go_step | go_upon | (simp only []; go_step) | (go_ite <;> go_prune <;> (try go_simp)))
          go_returns
          exact ⟨ret_bool (by simp [mosB, h4]), by exact bgr⟩
      · have e3 : ((xs.length : Int) != p * q) = true := by simpa using h3
        go_enter Tryd.func19, Tryd.ntmps19
        repeat' (first | fail | go_values | go_skip | go_guarded | go_step | go_upon | (simp only []; go_step) | (go_ite <;> go_prune <;> (try go_simp)))
        go_quiet (first | (go_at_call 34; exact Calls.quiet_of_same (impl_isMosaicSide' _ _ _ (by assumption))) | (go_at_call 35; exact Calls.quiet_of_same (impl_length64' _ _ _ _)))
        repeat' (first | fail | go_values | go_skip | go_guarded | go_step | go_upon | (simp only []; go_step) | (go_ite <;> go_prune <;> (try go_simp)))
        go_returns
        exact ⟨ret_bool (by simp [mosB, h3]), by exact bgr⟩
set_option maxHeartbeats 1600000 in
theorem spec_IsMosaic (p q : Int) (A B : Option Addr) (c d : Nat) (xs ys : List Int) (w : World) (hr : I64 w w.heap.size A xs) (hs : I64 w w.heap.size B ys) (hl : xs.length ≤ 1099511627776) (hm : ys.length ≤ 1099511627776) :
    Calls Tryd.prog 24 #[.agg #[.int .i64 p, .int .i64 q, .slice A xs.length c, .slice B ys.length d]] w fun e w' => e = .returned (.bool (mosB p q xs ys)) ∧ Below w.heap.size w w' := by
  cases h1 : inB p 1 40
  · skip
    go_enter Tryd.func24, Tryd.ntmps24
    repeat' (first | (first | (go_at_call 36; refine (spec_l01In _ _ _ _).mono ?_; rintro e w' ⟨rfl, rfl⟩) | (go_at_call 37; refine (spec_l19Pixel _ _ _).mono ?_; rintro e w' ⟨rfl, rfl⟩)) | go_values | go_skip | go_guarded | go_step | go_upon | (simp only []; go_step) | (go_ite <;> go_prune <;> (try go_simp)))
    try go_quiet (first | (go_at_call 36; exact Calls.quiet_of_same (spec_l01In' _ _ _ _ _ (by assumption))))
    repeat' (first | (first | (go_at_call 36; refine (spec_l01In _ _ _ _).mono ?_; rintro e w' ⟨rfl, rfl⟩) | (go_at_call 37; refine (spec_l19Pixel _ _ _).mono ?_; rintro e w' ⟨rfl, rfl⟩)) | go_values | go_skip | go_guarded | go_step | go_upon | (simp only []; go_step) | (go_ite <;> go_prune <;> (try go_simp)))
    go_returns
    exact ⟨ret_bool (by simp [mosB, h1]), by exact bgr⟩
  · cases h2 : inB q 1 40
    · skip
      go_enter Tryd.func24, Tryd.ntmps24
      repeat' (first | (first | (go_at_call 36; refine (spec_l01In _ _ _ _).mono ?_; rintro e w' ⟨rfl, rfl⟩) | (go_at_call 37; refine (spec_l19Pixel _ _ _).mono ?_; rintro e w' ⟨rfl, rfl⟩)) | go_values | go_skip | go_guarded | go_step | go_upon | (simp only []; go_step) | (go_ite <;> go_prune <;> (try go_simp)))
      try go_quiet (first | (go_at_call 36; exact Calls.quiet_of_same (spec_l01In' _ _ _ _ _ (by assumption))))
      repeat' (first | (first | (go_at_call 36; refine (spec_l01In _ _ _ _).mono ?_; rintro e w' ⟨rfl, rfl⟩) | (go_at_call 37; refine (spec_l19Pixel _ _ _).mono ?_; rintro e w' ⟨rfl, rfl⟩)) | go_values | go_skip | go_guarded | go_step | go_upon | (simp only []; go_step) | (go_ite <;> go_prune <;> (try go_simp)))
      go_returns
      exact ⟨ret_bool (by simp [mosB, h1, h2]), by exact bgr⟩
    · have hpq := side_bd h1 h2
      have wpq : IntKind.i64.wrap (p * q) = p * q := IntWalk.i64_in _ (by omega)
      by_cases h3 : (xs.length : Int) = p * q
      · have e3 : ((xs.length : Int) != p * q) = false := by simp [h3]
        have H3 := Lib.hid h3
        clear h3
        by_cases h4 : ys.length = xs.length
        · have e4 : ((ys.length : Int) != (xs.length : Int)) = false := by simp [h4]
          have H4 := Lib.hid h4
          clear h4
          go_enter Tryd.func24, Tryd.ntmps24
          repeat' (first | (first | (go_at_call 36; refine (spec_l01In _ _ _ _).mono ?_; rintro e w' ⟨rfl, rfl⟩) | (go_at_call 37; refine (spec_l19Pixel _ _ _).mono ?_; rintro e w' ⟨rfl, rfl⟩)) | go_values | go_skip | go_guarded | go_step | go_upon | (simp only []; go_step) | (go_ite <;> go_prune <;> (try go_simp)))
          try go_quiet (first | (go_at_call 36; exact Calls.quiet_of_same (spec_l01In' _ _ _ _ _ (by assumption))))
          repeat' (first | (first | (go_at_call 36; refine (spec_l01In _ _ _ _).mono ?_; rintro e w' ⟨rfl, rfl⟩) | (go_at_call 37; refine (spec_l19Pixel _ _ _).mono ?_; rintro e w' ⟨rfl, rfl⟩)) | go_values | go_skip | go_guarded | go_step | go_upon | (simp only []; go_step) | (go_ite <;> go_prune <;> (try go_simp)))
          refine wp_gen (fun W1 hW1 => ?_)
          have b2 := bx_id (w := W1) (X := w.heap.size) (o := 2) (by rw [hW1]; exact bxc)
          have b3 := bx_id (w := W1) (X := w.heap.size) (o := 3) (by rw [hW1]; exact bxc)
          simp only [List.getElem_toArray, List.getElem_cons_succ, List.getElem_cons_zero] at b2 b3
          have hb0 : Below w.heap.size w W1 := by (rw [hW1]; exact bgr)
          have hsz : w.heap.size + 1 ≤ W1.heap.size := by rw [hW1]; simp
          clear hW1
          go_loopw [3] (fun i wr => ∃ k : Nat, k ≤ xs.length ∧ i = .int .i64 k ∧ Hid (celk xs ys k = true) ∧ wr.cell? ⟨w.heap.size, 2, none⟩ = some (.slice A xs.length c) ∧ wr.cell? ⟨w.heap.size, 3, none⟩ = some (.slice B ys.length d) ∧ Below w.heap.size w wr) (fun i _ => xs.length - (intOf i).toNat)
          case atStart => exact ⟨0, Nat.zero_le _, rfl, by simp [celk, Hid], b2, b3, hb0⟩
          case round =>
            clear b2 b3 hb0
            obtain ⟨k, hk, rfl, ha, b2, b3, hbr⟩ := hrel
            by_cases hlt : k < xs.length
            · obtain ⟨x, hx⟩ := get_of_lt hlt
              obtain ⟨y, hy⟩ := get_of_lt (show k < ys.length by have := H4.out; omega)
              obtain ⟨b, o, rfl, hb, hc⟩ := (hr.below hbr).at_ hx
              obtain ⟨b', o', rfl, hb', hc'⟩ := (hs.below hbr).at_ hy
              have k0 : (0 : Int) ≤ (k : Int) := by omega
              have k1 : (k : Int) < (ys.length : Int) := by have := H4.out; omega
              have k2 : (k : Int) < (xs.length : Int) := by omega
              have gx := Lib.hid (mget_of hx)
              have gy := Lib.hid (mget_of hy)
              clear hx hy
              cases hg : inB x 0 1000 && inB y 1 9
              · by_cases e1 : x = -1
                · have e1' : (x != -1) = false := by simp [e1]
                  by_cases e2 : y = 0
                  · have e2' : (y != 0) = false := by simp [e2]
                    have H := Lib.hid (And.intro e1 e2)
                    clear e1 e2
                    repeat' (first | fail | go_values | go_skip | go_guarded | go_step | go_upon | (simp only []; go_step) | (go_ite <;> go_prune <;> (try go_simp)))
                    try go_quiet (first | (go_at_call 37; exact Calls.quiet_of_same (spec_l19Pixel' _ _ _ _ (by assumption))))
                    repeat' (first | (first | (go_at_call 37; refine (spec_l19Pixel _ _ _).mono ?_; rintro e w' ⟨rfl, rfl⟩)) | go_values | go_skip | go_guarded | go_step | go_upon | (simp only []; go_step) | (go_ite <;> go_prune <;> (try go_simp)))
                    exact ⟨⟨k + 1, by omega, by go_num, by unfold Hid; rw [celk_succ, ha.out, gx.out, gy.out]; simp [celB, H.out.1, H.out.2], by exact bxc, by exact bxc, by exact bgr⟩, by simp [intOf]; omega⟩
                  · have e2' : (y != 0) = true := by simp [e2]
                    clear e1
                    repeat' (first | fail | go_values | go_skip | go_guarded | go_step | go_upon | (simp only []; go_step) | (go_ite <;> go_prune <;> (try go_simp)))
                    try go_quiet (first | (go_at_call 37; exact Calls.quiet_of_same (spec_l19Pixel' _ _ _ _ (by assumption))))
                    repeat' (first | (first | (go_at_call 37; refine (spec_l19Pixel _ _ _).mono ?_; rintro e w' ⟨rfl, rfl⟩)) | go_values | go_skip | go_guarded | go_step | go_upon | (simp only []; go_step) | (go_ite <;> go_prune <;> (try go_simp)))
                    go_returns
                    exact ⟨ret_bool (by rw [mosB, celk_no hlt (by rw [gx.out, gy.out]; simp [celB, hg, e2])]; simp), by exact bgr⟩
                · have e1' : (x != -1) = true := by simp [e1]
                  repeat' (first | fail | go_values | go_skip | go_guarded | go_step | go_upon | (simp only []; go_step) | (go_ite <;> go_prune <;> (try go_simp)))
                  try go_quiet (first | (go_at_call 37; exact Calls.quiet_of_same (spec_l19Pixel' _ _ _ _ (by assumption))))
                  repeat' (first | (first | (go_at_call 37; refine (spec_l19Pixel _ _ _).mono ?_; rintro e w' ⟨rfl, rfl⟩)) | go_values | go_skip | go_guarded | go_step | go_upon | (simp only []; go_step) | (go_ite <;> go_prune <;> (try go_simp)))
                  go_returns
                  exact ⟨ret_bool (by rw [mosB, celk_no hlt (by rw [gx.out, gy.out]; simp [celB, hg, e1])]; simp), by exact bgr⟩
              · have e1' : (x != -1) = true := by
                  have hg' := hg
                  rw [Bool.and_eq_true] at hg'
                  have := of_inB hg'.1
                  simp; omega
                repeat' (first | fail | go_values | go_skip | go_guarded | go_step | go_upon | (simp only []; go_step) | (go_ite <;> go_prune <;> (try go_simp)))
                try go_quiet (first | (go_at_call 37; exact Calls.quiet_of_same (spec_l19Pixel' _ _ _ _ (by assumption))))
                repeat' (first | (first | (go_at_call 37; refine (spec_l19Pixel _ _ _).mono ?_; rintro e w' ⟨rfl, rfl⟩)) | go_values | go_skip | go_guarded | go_step | go_upon | (simp only []; go_step) | (go_ite <;> go_prune <;> (try go_simp)))
                exact ⟨⟨k + 1, by omega, by go_num, by unfold Hid; rw [celk_succ, ha.out, gx.out, gy.out]; simp [celB, hg], by exact bxc, by exact bxc, by exact bgr⟩, by simp [intOf]; omega⟩
            · repeat' (first | (first | (go_at_call 36; refine (spec_l01In _ _ _ _).mono ?_; rintro e w' ⟨rfl, rfl⟩) | (go_at_call 37; refine (spec_l19Pixel _ _ _).mono ?_; rintro e w' ⟨rfl, rfl⟩)) | go_values | go_skip | go_guarded | go_step | go_upon | (simp only []; go_step) | (go_ite <;> go_prune <;> (try go_simp)))
              go_returns
              exact ⟨ret_bool (by have : k = xs.length := by omega
                                  have h := ha.out
                                  rw [this] at h
                                  simp [mosB, h1, h2, H3.out, H4.out, h]), by exact bgr⟩
        · have e4 : ((ys.length : Int) != (xs.length : Int)) = true := by simp; omega
          go_enter Tryd.func24, Tryd.ntmps24
          repeat' (first | (first | (go_at_call 36; refine (spec_l01In _ _ _ _).mono ?_; rintro e w' ⟨rfl, rfl⟩) | (go_at_call 37; refine (spec_l19Pixel _ _ _).mono ?_; rintro e w' ⟨rfl, rfl⟩)) | go_values | go_skip | go_guarded | go_step | go_upon | (simp only []; go_step) | (go_ite <;> go_prune <;> (try go_simp)))
          try go_quiet (first | (go_at_call 36; exact Calls.quiet_of_same (spec_l01In' _ _ _ _ _ (by assumption))))
          repeat' (first | (first | (go_at_call 36; refine (spec_l01In _ _ _ _).mono ?_; rintro e w' ⟨rfl, rfl⟩) | (go_at_call 37; refine (spec_l19Pixel _ _ _).mono ?_; rintro e w' ⟨rfl, rfl⟩)) | go_values | go_skip | go_guarded | go_step | go_upon | (simp only []; go_step) | (go_ite <;> go_prune <;> (try go_simp)))
          go_returns
          exact ⟨ret_bool (by simp [mosB, h4]), by exact bgr⟩
      · have e3 : ((xs.length : Int) != p * q) = true := by simpa using h3
        go_enter Tryd.func24, Tryd.ntmps24
        repeat' (first | (first | (go_at_call 36; refine (spec_l01In _ _ _ _).mono ?_; rintro e w' ⟨rfl, rfl⟩) | (go_at_call 37; refine (spec_l19Pixel _ _ _).mono ?_; rintro e w' ⟨rfl, rfl⟩)) | go_values | go_skip | go_guarded | go_step | go_upon | (simp only []; go_step) | (go_ite <;> go_prune <;> (try go_simp)))
        try go_quiet (first | (go_at_call 36; exact Calls.quiet_of_same (spec_l01In' _ _ _ _ _ (by assumption))))
        repeat' (first | (first | (go_at_call 36; refine (spec_l01In _ _ _ _).mono ?_; rintro e w' ⟨rfl, rfl⟩) | (go_at_call 37; refine (spec_l19Pixel _ _ _).mono ?_; rintro e w' ⟨rfl, rfl⟩)) | go_values | go_skip | go_guarded | go_step | go_upon | (simp only []; go_step) | (go_ite <;> go_prune <;> (try go_simp)))
        go_returns
        exact ⟨ret_bool (by simp [mosB, h3]), by exact bgr⟩
end Go.Proofs.YtgokiedhdihamaaDoor
