/- Known cells: contracts. -/
import Derived.Test.YtdedmiennpbfcaaMosA
namespace Go.Proofs.Ytdedmiennpbfcaa
open Go.RowKit Go.ChangeShapes Go.WideShapes Go.ChangeAt
set_option linter.unusedVariables false
set_option linter.unusedSimpArgs false
/-- how many of the first k grades are greater than 0 -/
def knk (ys : List Int) (k : Nat) : Nat := (ys.take k).countP fun y => decide (0 < y)
theorem knk_succ {ys : List Int} {k : Nat} {y : Int} (h : ys[k]? = some y) : knk ys (k + 1) = knk ys k + if 0 < y then 1 else 0 := by
  rw [knk, take_snoc h, List.countP_append]; simp [knk, List.countP_cons]
theorem knk_le {ys : List Int} {k : Nat} : knk ys k ≤ k := Nat.le_trans List.countP_le_length (by simp; omega)
def fKnown (p q : Int) (xs ys : List Int) : Int × Int := if mosB p q xs ys then ((knk ys ys.length : Int), 0) else (0, 1)
theorem mos_facts {p q : Int} {xs ys : List Int} (h : mosB p q xs ys = true) : (1 ≤ p ∧ p ≤ 40) ∧ (1 ≤ q ∧ q ≤ 40) ∧ (xs.length : Int) = p * q ∧ ys.length = xs.length ∧ 1 ≤ p * q ∧ p * q ≤ 1600 ∧ celk xs ys xs.length = true := by
  simp only [mosB, Bool.and_eq_true] at h
  have h3 := of_decide_eq_true h.2.2.1
  have h4 := of_decide_eq_true h.2.2.2.1
  have := side_bd h.1 h.2.1
  exact ⟨of_inB h.1, of_inB h.2.1, h3, h4, this.1, this.2, h.2.2.2.2⟩
theorem mos_cell {p q : Int} {xs ys : List Int} {k : Nat} {x y : Int} (h : mosB p q xs ys = true) (hx : xs[k]? = some x) (hy : ys[k]? = some y) : (x = -1 ∧ y = 0) ∨ ((0 ≤ x ∧ x ≤ 1000) ∧ 1 ≤ y ∧ y ≤ 9) := by
  have hc := celk_of (mos_facts h).2.2.2.2.2.2 (lt_of_get hx)
  rw [mget_of hx, mget_of hy] at hc
  simp only [celB, Bool.or_eq_true, Bool.and_eq_true] at hc
  rcases hc with hc | hc
  · exact .inl ⟨of_decide_eq_true hc.1, of_decide_eq_true hc.2⟩
  · exact .inr ⟨of_inB hc.1, of_inB hc.2⟩
set_option maxHeartbeats 1600000 in
theorem impl_CountKnown (p q : Int) (A B : Option Addr) (c d : Nat) (xs ys : List Int) (w : World) (hr : I64 w w.heap.size A xs) (hs : I64 w w.heap.size B ys) (hl : xs.length ≤ 1099511627776) (hm : ys.length ≤ 1099511627776) :
    Calls Try.prog 9 #[.agg #[.int .i64 p, .int .i64 q, .slice A xs.length c, .slice B ys.length d]] w fun e w' => e = .returned (.tuple #[.int .i64 (fKnown p q xs ys).1, .int .i64 (fKnown p q xs ys).2]) ∧ Below w.heap.size w w' := by
  cases hg : mosB p q xs ys
  · have ef : fKnown p q xs ys = (0, 1) := by simp [fKnown, hg]
    rw [ef]
    go_enter Try.func9, Try.ntmps9
    repeat' (first | fail | go_values | go_skip | go_guarded | go_step | go_upon | (simp only []; go_step) | (go_ite <;> go_prune <;> (try go_simp)))
    refine (impl_IsMosaic _ _ _ _ _ _ _ _ _ (hr.up (by exact bgr)) (hs.up (by exact bgr)) (by omega) (by omega)).mono ?_; rintro e w1 ⟨rfl, hbw1⟩; have hzw1 := hbw1.size; (try simp only [World.size_alloc, World.size_setCell, World.size_drew] at hzw1); have hs1 : w.heap.size < w1.heap.size := (by omega); have q1 := bx_id (w := w1) (X := w.heap.size) (o := 0) (by exact bxc); (try simp only [List.getElem_toArray, List.getElem_cons_succ, List.getElem_cons_zero] at q1); have q1 := bx_id (w := w1) (X := w.heap.size) (o := 1) (by exact bxc); (try simp only [List.getElem_toArray, List.getElem_cons_succ, List.getElem_cons_zero] at q1); have q1 := bx_id (w := w1) (X := w.heap.size) (o := 2) (by exact bxc); (try simp only [List.getElem_toArray, List.getElem_cons_succ, List.getElem_cons_zero] at q1); have q1 := bx_id (w := w1) (X := w.heap.size) (o := 3) (by exact bxc); (try simp only [List.getElem_toArray, List.getElem_cons_succ, List.getElem_cons_zero] at q1); have z1 : ∀ o, w1.frozen? ⟨w.heap.size, o, none⟩ = false := (by exact bxm)
    rw [hg]
    repeat' (first | fail | go_values | go_skip | go_guarded | go_step | go_upon | (simp only []; go_step) | (go_ite <;> go_prune <;> (try go_simp)))
    all_goals go_returns
    all_goals exact ⟨rfl, by exact bgr⟩
  · have ef : fKnown p q xs ys = ((knk ys ys.length : Int), 0) := by simp [fKnown, hg]
    rw [ef]
    go_enter Try.func9, Try.ntmps9
    repeat' (first | fail | go_values | go_skip | go_guarded | go_step | go_upon | (simp only []; go_step) | (go_ite <;> go_prune <;> (try go_simp)))
    refine (impl_IsMosaic _ _ _ _ _ _ _ _ _ (hr.up (by exact bgr)) (hs.up (by exact bgr)) (by omega) (by omega)).mono ?_; rintro e w1 ⟨rfl, hbw1⟩; have hzw1 := hbw1.size; (try simp only [World.size_alloc, World.size_setCell, World.size_drew] at hzw1); have hs1 : w.heap.size < w1.heap.size := (by omega); have q1 := bx_id (w := w1) (X := w.heap.size) (o := 0) (by exact bxc); (try simp only [List.getElem_toArray, List.getElem_cons_succ, List.getElem_cons_zero] at q1); have q1 := bx_id (w := w1) (X := w.heap.size) (o := 1) (by exact bxc); (try simp only [List.getElem_toArray, List.getElem_cons_succ, List.getElem_cons_zero] at q1); have q1 := bx_id (w := w1) (X := w.heap.size) (o := 2) (by exact bxc); (try simp only [List.getElem_toArray, List.getElem_cons_succ, List.getElem_cons_zero] at q1); have q1 := bx_id (w := w1) (X := w.heap.size) (o := 3) (by exact bxc); (try simp only [List.getElem_toArray, List.getElem_cons_succ, List.getElem_cons_zero] at q1); have z1 : ∀ o, w1.frozen? ⟨w.heap.size, o, none⟩ = false := (by exact bxm)
    rw [hg]
    repeat' (first | fail | go_values | go_skip | go_guarded | go_step | go_upon | (simp only []; go_step) | (go_ite <;> go_prune <;> (try go_simp)))
    have hB1 : Below w.heap.size w w1 := by exact bgr
    go_loopw [4, 13] (fun n i wr => ∃ k : Nat, k ≤ ys.length ∧ i = .int .i64 k ∧ n = .int .i64 (knk ys k : Int) ∧ Below w.heap.size w wr) (fun _ i _ => ys.length - (intOf i).toNat)
    case atStart => exact ⟨0, Nat.zero_le _, rfl, by simp [knk], by exact bgr⟩
    case round =>
      obtain ⟨k, hk, rfl, rfl, hbr⟩ := hrel
      by_cases hlt : k < ys.length
      · obtain ⟨y, hy⟩ := get_of_lt hlt
        obtain ⟨b', o', rfl, hb', hc'⟩ := (hs.below hbr).at_ hy
        have hs2 := knk_succ hy
        have hle := knk_le (ys := ys) (k := k)
        have hy' := Lib.hid hy
        clear hy
        by_cases h0 : 0 < y
        · rw [if_pos h0] at hs2
          repeat' (first | fail | go_values | go_skip | go_guarded | go_step | go_upon | (simp only []; go_step) | (go_ite <;> go_prune <;> (try go_simp)))
          exact ⟨⟨k + 1, by omega, by go_num, by rw [hs2]; go_num, by exact bgr⟩, by simp [intOf]; omega⟩
        · rw [if_neg h0] at hs2
          repeat' (first | fail | go_values | go_skip | go_guarded | go_step | go_upon | (simp only []; go_step) | (go_ite <;> go_prune <;> (try go_simp)))
          exact ⟨⟨k + 1, by omega, by go_num, by rw [hs2]; simp, by exact bgr⟩, by simp [intOf]; omega⟩
      · have e2 : k = ys.length := by omega
        subst e2
        repeat' (first | fail | go_values | go_skip | go_guarded | go_step | go_upon | (simp only []; go_step) | (go_ite <;> go_prune <;> (try go_simp)))
        all_goals go_returns
        all_goals exact ⟨rfl, by exact bgr⟩
set_option maxHeartbeats 1600000 in
theorem spec_CountKnown (p q : Int) (A B : Option Addr) (c d : Nat) (xs ys : List Int) (w : World) (hr : I64 w w.heap.size A xs) (hs : I64 w w.heap.size B ys) (hl : xs.length ≤ 1099511627776) (hm : ys.length ≤ 1099511627776) :
    Calls Try.prog 10 #[.agg #[.int .i64 p, .int .i64 q, .slice A xs.length c, .slice B ys.length d]] w fun e w' => e = .returned (.tuple #[.int .i64 (fKnown p q xs ys).1, .int .i64 (fKnown p q xs ys).2]) ∧ Below w.heap.size w w' := by
  cases hg : mosB p q xs ys
  · have ef : fKnown p q xs ys = (0, 1) := by simp [fKnown, hg]
    rw [ef]
    go_enter Try.func10, Try.ntmps10
    repeat' (first | fail | go_values | go_skip | go_guarded | go_step | go_upon | (simp only []; go_step) | (go_ite <;> go_prune <;> (try go_simp)))
    refine (spec_IsMosaic _ _ _ _ _ _ _ _ _ (hr.up (by exact bgr)) (hs.up (by exact bgr)) (by omega) (by omega)).mono ?_; rintro e w1 ⟨rfl, hbw1⟩; have hzw1 := hbw1.size; (try simp only [World.size_alloc, World.size_setCell, World.size_drew] at hzw1); have hs1 : w.heap.size < w1.heap.size := (by omega); have q1 := bx_id (w := w1) (X := w.heap.size) (o := 0) (by exact bxc); (try simp only [List.getElem_toArray, List.getElem_cons_succ, List.getElem_cons_zero] at q1); have q1 := bx_id (w := w1) (X := w.heap.size) (o := 1) (by exact bxc); (try simp only [List.getElem_toArray, List.getElem_cons_succ, List.getElem_cons_zero] at q1); have q1 := bx_id (w := w1) (X := w.heap.size) (o := 2) (by exact bxc); (try simp only [List.getElem_toArray, List.getElem_cons_succ, List.getElem_cons_zero] at q1); have q1 := bx_id (w := w1) (X := w.heap.size) (o := 3) (by exact bxc); (try simp only [List.getElem_toArray, List.getElem_cons_succ, List.getElem_cons_zero] at q1); have z1 : ∀ o, w1.frozen? ⟨w.heap.size, o, none⟩ = false := (by exact bxm)
    rw [hg]
    repeat' (first | fail | go_values | go_skip | go_guarded | go_step | go_upon | (simp only []; go_step) | (go_ite <;> go_prune <;> (try go_simp)))
    all_goals go_returns
    all_goals exact ⟨rfl, by exact bgr⟩
  · have ef : fKnown p q xs ys = ((knk ys ys.length : Int), 0) := by simp [fKnown, hg]
    rw [ef]
    have hlen := Lib.hid (mos_facts hg).2.2.2.1
    go_enter Try.func10, Try.ntmps10
    repeat' (first | fail | go_values | go_skip | go_guarded | go_step | go_upon | (simp only []; go_step) | (go_ite <;> go_prune <;> (try go_simp)))
    refine (spec_IsMosaic _ _ _ _ _ _ _ _ _ (hr.up (by exact bgr)) (hs.up (by exact bgr)) (by omega) (by omega)).mono ?_; rintro e w1 ⟨rfl, hbw1⟩; have hzw1 := hbw1.size; (try simp only [World.size_alloc, World.size_setCell, World.size_drew] at hzw1); have hs1 : w.heap.size < w1.heap.size := (by omega); have q1 := bx_id (w := w1) (X := w.heap.size) (o := 0) (by exact bxc); (try simp only [List.getElem_toArray, List.getElem_cons_succ, List.getElem_cons_zero] at q1); have q1 := bx_id (w := w1) (X := w.heap.size) (o := 1) (by exact bxc); (try simp only [List.getElem_toArray, List.getElem_cons_succ, List.getElem_cons_zero] at q1); have q1 := bx_id (w := w1) (X := w.heap.size) (o := 2) (by exact bxc); (try simp only [List.getElem_toArray, List.getElem_cons_succ, List.getElem_cons_zero] at q1); have q1 := bx_id (w := w1) (X := w.heap.size) (o := 3) (by exact bxc); (try simp only [List.getElem_toArray, List.getElem_cons_succ, List.getElem_cons_zero] at q1); have z1 : ∀ o, w1.frozen? ⟨w.heap.size, o, none⟩ = false := (by exact bxm)
    rw [hg]
    repeat' (first | fail | go_values | go_skip | go_guarded | go_step | go_upon | (simp only []; go_step) | (go_ite <;> go_prune <;> (try go_simp)))
    have b3 : w1.cell? ⟨w.heap.size, 3, none⟩ = some (.slice B ys.length d) := by exact bxc
    go_loopw [4, 5] (fun n i wr => ∃ k : Nat, k ≤ ys.length ∧ i = .int .i64 k ∧ n = .int .i64 (knk ys k : Int) ∧ wr.cell? ⟨w.heap.size, 3, none⟩ = some (.slice B ys.length d) ∧ Below w.heap.size w wr) (fun _ i _ => ys.length - (intOf i).toNat)
    case atStart => exact ⟨0, Nat.zero_le _, rfl, by simp [knk], b3, by exact bgr⟩
    case round =>
      clear b3
      obtain ⟨k, hk, rfl, rfl, b3, hbr⟩ := hrel
      by_cases hlt : k < ys.length
      · obtain ⟨y, hy⟩ := get_of_lt hlt
        obtain ⟨x, hx⟩ := get_of_lt (xs := xs) (k := k) (by have := hlen.out; omega)
        obtain ⟨b', o', rfl, hb', hc'⟩ := (hs.below hbr).at_ hy
        have hcl := mos_cell hg hx hy
        have hs2 := knk_succ hy
        have hle := knk_le (ys := ys) (k := k)
        have p0 : (0 : Int) ≤ (k : Int) := by omega
        have p1 : (k : Int) < (ys.length : Int) := by omega
        have hy' := Lib.hid hy
        clear hy hx
        by_cases h0 : 0 < y
        · rw [if_pos h0] at hs2
          repeat' (first | fail | go_values | go_skip | go_guarded | go_step | go_upon | (simp only []; go_step) | (go_ite <;> go_prune <;> (try go_simp)))
          all_goals (try go_quiet (fail))
          all_goals repeat' (first | fail | go_values | go_skip | go_guarded | go_step | go_upon | (simp only []; go_step) | (go_ite <;> go_prune <;> (try go_simp)))
          all_goals exact ⟨⟨k + 1, by omega, by go_num, by rw [hs2]; first | (simp; done) | (simp; omega), by exact bxc, by exact bgr⟩, by simp [intOf]; omega⟩
        · rw [if_neg h0] at hs2
          repeat' (first | fail | go_values | go_skip | go_guarded | go_step | go_upon | (simp only []; go_step) | (go_ite <;> go_prune <;> (try go_simp)))
          all_goals (try go_quiet (fail))
          all_goals repeat' (first | fail | go_values | go_skip | go_guarded | go_step | go_upon | (simp only []; go_step) | (go_ite <;> go_prune <;> (try go_simp)))
          all_goals exact ⟨⟨k + 1, by omega, by go_num, by rw [hs2]; first | (simp; done) | (simp; omega), by exact bxc, by exact bgr⟩, by simp [intOf]; omega⟩
      · have e2 : k = ys.length := by omega
        subst e2
        repeat' (first | fail | go_values | go_skip | go_guarded | go_step | go_upon | (simp only []; go_step) | (go_ite <;> go_prune <;> (try go_simp)))
        all_goals go_returns
        all_goals exact ⟨rfl, by exact bgr⟩
end Go.Proofs.Ytdedmiennpbfcaa
