/- High waters: contracts. -/
import Derived.Test.YthnnnhjhgjbmcaaGauA
import Derived.BigQuiet
namespace Go.Proofs.Ythnnnhjhgjbmcaa
open Go.RowKit Go.ChangeShapes Go.WideShapes Go.ChangeAt
set_option linter.unusedVariables false
set_option linter.unusedSimpArgs false
def hwt (ys : List Int) (j : Nat) : Bool := decide (1 ≤ j) && (decide (ys.getD (j - 1) 0 < ys.getD j 0) && decide (ys.getD (j + 1) 0 ≤ ys.getD j 0))
def hwk (ys : List Int) (n : Nat) : List Int := ((List.range n).filter (hwt ys)).map fun (j : Nat) => (j : Int)
theorem hwk_succ {ys : List Int} {n : Nat} : hwk ys (n + 1) = hwk ys n ++ if hwt ys n then [(n : Int)] else [] := by
  rw [hwk, List.range_succ, List.filter_append, List.map_append]
  congr 1
  by_cases h : hwt ys n = true <;> simp [h]
theorem hwk_one {ys : List Int} : hwk ys 1 = [] := by simp [hwk, hwt]
theorem hwk_zero {ys : List Int} : hwk ys 0 = [] := by simp [hwk]
theorem hwk_len {ys : List Int} {n : Nat} : (hwk ys n).length ≤ n := by
  rw [hwk, List.length_map]
  exact Nat.le_trans (List.length_filter_le _ _) (by simp)
def fHigh (xs ys : List Int) : List Int := if gauB xs ys then hwk ys (ys.length - 1) else []
def cHigh (xs ys : List Int) : Int := if gauB xs ys then 0 else 1
theorem fHigh_len {xs ys : List Int} : (fHigh xs ys).length ≤ ys.length := by
  unfold fHigh
  split
  · have := hwk_len (ys := ys) (n := ys.length - 1); omega
  · simp
theorem gau_pos' {xs ys : List Int} (hg : gauB xs ys = true) : 0 < ys.length ∧ ys.length ≤ 40 := by
  simp only [gauB, Bool.and_eq_true] at hg
  have := of_inB hg.1
  have := of_decide_eq_true hg.2.2.1
  omega
theorem ret_vi' {k : IntKind} {v : Value} {c d : Int} (h : c = d) : Ending.returned (.tuple #[v, .int k c]) = .returned (.tuple #[v, .int k d]) := by rw [h]
set_option maxHeartbeats 1600000 in
theorem impl_HighWaters (A B : Option Addr) (c d : Nat) (xs ys : List Int) (w : World) (hr : I64 w w.heap.size A xs) (hs : I64 w w.heap.size B ys) (hl : xs.length ≤ 1099511627776) (hm : ys.length ≤ 1099511627776) :
    Calls Try.prog 36 #[.agg #[.slice A xs.length c, .slice B ys.length d]] w fun e w' => ∃ v, e = .returned (.tuple #[v, .int .i64 (cHigh xs ys)]) ∧ OwnI w' w.heap.size v (fHigh xs ys) ∧ Below w.heap.size w w' := by
  cases hg : gauB xs ys
  · have e1 : fHigh xs ys = [] := by simp [fHigh, hg]
    have e2 : cHigh xs ys = 1 := by simp [cHigh, hg]
    rw [e1, e2]
    go_enter Try.func36, Try.ntmps36
    repeat' (first | fail | go_values | go_skip | go_guarded | go_step | go_upon | (simp only []; go_step) | (go_ite <;> go_prune <;> (try go_simp)))
    refine (impl_IsGauge _ _ _ _ _ _ _ (hr.up (by repeat' (first | (with_reducible exact Below.refl _ _) | (with_reducible assumption) | (with_reducible refine Below.new ?_ _) | (with_reducible refine Below.alloc ?_ ?_ _) | (with_reducible refine Below.drew ?_) | (with_reducible refine below_drewN ?_ _) | (with_reducible refine Below.setCell ?_ ?_ _) | (refine Below.next ?_ (by with_reducible assumption)) | (refine Below.row ?_ (by with_reducible assumption) (by omega)) | (refine Below.trans ?_ (by with_reducible assumption)) | (refine Below.after ?_ ?_ (by with_reducible assumption)) | go_size))) (hs.up (by repeat' (first | (with_reducible exact Below.refl _ _) | (with_reducible assumption) | (with_reducible refine Below.new ?_ _) | (with_reducible refine Below.alloc ?_ ?_ _) | (with_reducible refine Below.drew ?_) | (with_reducible refine below_drewN ?_ _) | (with_reducible refine Below.setCell ?_ ?_ _) | (refine Below.next ?_ (by with_reducible assumption)) | (refine Below.row ?_ (by with_reducible assumption) (by omega)) | (refine Below.trans ?_ (by with_reducible assumption)) | (refine Below.after ?_ ?_ (by with_reducible assumption)) | go_size))) (by omega) (by omega)).mono ?_; rintro e w1 ⟨rfl, hbw1⟩; have hzw1 := hbw1.size; (try simp only [World.size_alloc, World.size_setCell, World.size_drew] at hzw1); have hs1 : w.heap.size < w1.heap.size := (by omega); have q1 := bx_id (w := w1) (X := w.heap.size) (o := 0) (by repeat' (first | (with_reducible assumption) | ((with_reducible apply bx_new) <;> first | (simp only [World.size_alloc, World.size_setCell]; done) | rfl) | (with_reducible apply bx_alloc) | (with_reducible apply bx_other; (first | (simp only [World.size_alloc, World.size_setCell]; omega) | omega)) | (with_reducible apply bx_same) | (with_reducible apply bx_drew) | (with_reducible apply bx_drew1) | (with_reducible apply bx_keep; with_reducible assumption) | fail)); (try simp only [List.getElem_toArray, List.getElem_cons_succ, List.getElem_cons_zero] at q1); have q1 := bx_id (w := w1) (X := w.heap.size) (o := 1) (by repeat' (first | (with_reducible assumption) | ((with_reducible apply bx_new) <;> first | (simp only [World.size_alloc, World.size_setCell]; done) | rfl) | (with_reducible apply bx_alloc) | (with_reducible apply bx_other; (first | (simp only [World.size_alloc, World.size_setCell]; omega) | omega)) | (with_reducible apply bx_same) | (with_reducible apply bx_drew) | (with_reducible apply bx_drew1) | (with_reducible apply bx_keep; with_reducible assumption) | fail)); (try simp only [List.getElem_toArray, List.getElem_cons_succ, List.getElem_cons_zero] at q1); have z1 : ∀ o, w1.frozen? ⟨w.heap.size, o, none⟩ = false := (by repeat' (first | (with_reducible assumption) | (with_reducible apply bm_set) | ((with_reducible apply bm_new) <;> (simp only [World.size_alloc, World.size_setCell, World.size_drew]; done)) | (with_reducible apply bm_old; (first | omega | (simp only [World.size_alloc, World.size_setCell, World.size_drew]; omega))) | (with_reducible apply bm_drew) | (with_reducible apply bm_drew1) | (with_reducible apply bm_keep; (with_reducible assumption); (first | omega | (simp only [World.size_alloc, World.size_setCell, World.size_drew]; omega))) | fail))
    rw [hg]
    repeat' (first | fail | go_values | go_skip | go_guarded | go_step | go_upon | (simp only []; go_step) | (go_ite <;> go_prune <;> (try go_simp)))
    all_goals go_returns
    all_goals exact ⟨_, rfl, OwnI.nil _ _, by repeat' (first | (with_reducible exact Below.refl _ _) | (with_reducible assumption) | (with_reducible refine Below.new ?_ _) | (with_reducible refine Below.alloc ?_ ?_ _) | (with_reducible refine Below.drew ?_) | (with_reducible refine below_drewN ?_ _) | (with_reducible refine Below.setCell ?_ ?_ _) | (refine Below.next ?_ (by with_reducible assumption)) | (refine Below.row ?_ (by with_reducible assumption) (by omega)) | (refine Below.trans ?_ (by with_reducible assumption)) | (refine Below.after ?_ ?_ (by with_reducible assumption)) | go_size)⟩
  · have e1 : fHigh xs ys = hwk ys (ys.length - 1) := by simp [fHigh, hg]
    have e2 : cHigh xs ys = 0 := by simp [cHigh, hg]
    rw [e1, e2]
    have hp := gau_pos' hg
    go_enter Try.func36, Try.ntmps36
    repeat' (first | fail | go_values | go_skip | go_guarded | go_step | go_upon | (simp only []; go_step) | (go_ite <;> go_prune <;> (try go_simp)))
    refine (impl_IsGauge _ _ _ _ _ _ _ (hr.up (by repeat' (first | (with_reducible exact Below.refl _ _) | (with_reducible assumption) | (with_reducible refine Below.new ?_ _) | (with_reducible refine Below.alloc ?_ ?_ _) | (with_reducible refine Below.drew ?_) | (with_reducible refine below_drewN ?_ _) | (with_reducible refine Below.setCell ?_ ?_ _) | (refine Below.next ?_ (by with_reducible assumption)) | (refine Below.row ?_ (by with_reducible assumption) (by omega)) | (refine Below.trans ?_ (by with_reducible assumption)) | (refine Below.after ?_ ?_ (by with_reducible assumption)) | go_size))) (hs.up (by repeat' (first | (with_reducible exact Below.refl _ _) | (with_reducible assumption) | (with_reducible refine Below.new ?_ _) | (with_reducible refine Below.alloc ?_ ?_ _) | (with_reducible refine Below.drew ?_) | (with_reducible refine below_drewN ?_ _) | (with_reducible refine Below.setCell ?_ ?_ _) | (refine Below.next ?_ (by with_reducible assumption)) | (refine Below.row ?_ (by with_reducible assumption) (by omega)) | (refine Below.trans ?_ (by with_reducible assumption)) | (refine Below.after ?_ ?_ (by with_reducible assumption)) | go_size))) (by omega) (by omega)).mono ?_; rintro e w1 ⟨rfl, hbw1⟩; have hzw1 := hbw1.size; (try simp only [World.size_alloc, World.size_setCell, World.size_drew] at hzw1); have hs1 : w.heap.size < w1.heap.size := (by omega); have q1 := bx_id (w := w1) (X := w.heap.size) (o := 0) (by repeat' (first | (with_reducible assumption) | ((with_reducible apply bx_new) <;> first | (simp only [World.size_alloc, World.size_setCell]; done) | rfl) | (with_reducible apply bx_alloc) | (with_reducible apply bx_other; (first | (simp only [World.size_alloc, World.size_setCell]; omega) | omega)) | (with_reducible apply bx_same) | (with_reducible apply bx_drew) | (with_reducible apply bx_drew1) | (with_reducible apply bx_keep; with_reducible assumption) | fail)); (try simp only [List.getElem_toArray, List.getElem_cons_succ, List.getElem_cons_zero] at q1); have q1 := bx_id (w := w1) (X := w.heap.size) (o := 1) (by repeat' (first | (with_reducible assumption) | ((with_reducible apply bx_new) <;> first | (simp only [World.size_alloc, World.size_setCell]; done) | rfl) | (with_reducible apply bx_alloc) | (with_reducible apply bx_other; (first | (simp only [World.size_alloc, World.size_setCell]; omega) | omega)) | (with_reducible apply bx_same) | (with_reducible apply bx_drew) | (with_reducible apply bx_drew1) | (with_reducible apply bx_keep; with_reducible assumption) | fail)); (try simp only [List.getElem_toArray, List.getElem_cons_succ, List.getElem_cons_zero] at q1); have z1 : ∀ o, w1.frozen? ⟨w.heap.size, o, none⟩ = false := (by repeat' (first | (with_reducible assumption) | (with_reducible apply bm_set) | ((with_reducible apply bm_new) <;> (simp only [World.size_alloc, World.size_setCell, World.size_drew]; done)) | (with_reducible apply bm_old; (first | omega | (simp only [World.size_alloc, World.size_setCell, World.size_drew]; omega))) | (with_reducible apply bm_drew) | (with_reducible apply bm_drew1) | (with_reducible apply bm_keep; (with_reducible assumption); (first | omega | (simp only [World.size_alloc, World.size_setCell, World.size_drew]; omega))) | fail))
    rw [hg]
    repeat' (first | fail | go_values | go_skip | go_guarded | go_step | go_upon | (simp only []; go_step) | (go_ite <;> go_prune <;> (try go_simp)))
    refine wp_gen (fun W1 hW1 => ?_)
    have b1 := bx_id (w := W1) (X := w.heap.size) (o := 1) (by rw [hW1]; repeat' (first | (with_reducible assumption) | ((with_reducible apply bx_new) <;> first | (simp only [World.size_alloc, World.size_setCell]; done) | rfl) | (with_reducible apply bx_alloc) | (with_reducible apply bx_other; (first | (simp only [World.size_alloc, World.size_setCell]; omega) | omega)) | (with_reducible apply bx_same) | (with_reducible apply bx_drew) | (with_reducible apply bx_drew1) | (with_reducible apply bx_keep; with_reducible assumption) | fail))
    try simp only [List.getElem_toArray, List.getElem_cons_succ, List.getElem_cons_zero] at b1
    have hb0 : Below w.heap.size w W1 := by (rw [hW1]; repeat' (first | (with_reducible exact Below.refl _ _) | (with_reducible assumption) | (with_reducible refine Below.new ?_ _) | (with_reducible refine Below.alloc ?_ ?_ _) | (with_reducible refine Below.drew ?_) | (with_reducible refine below_drewN ?_ _) | (with_reducible refine Below.setCell ?_ ?_ _) | (refine Below.next ?_ (by with_reducible assumption)) | (refine Below.row ?_ (by with_reducible assumption) (by omega)) | (refine Below.trans ?_ (by with_reducible assumption)) | (refine Below.after ?_ ?_ (by with_reducible assumption)) | go_size))
    have hsz : w.heap.size + 1 ≤ W1.heap.size := by rw [hW1]; first | omega | (simp only [World.size_alloc, World.size_setCell, World.size_drew]; omega)
    have hown : OwnI W1 (w.heap.size + 1) (.slice none 0 0) [] := OwnI.nil _ _
    clear hW1
    go_loopw [4, 5] (fun v i wr => ∃ k : Nat, 1 ≤ k ∧ (k + 1 ≤ ys.length ∨ k = 1) ∧ i = .int .i64 k ∧ OwnI wr (w.heap.size + 1) v (hwk ys k) ∧ wr.cell? ⟨w.heap.size, 1, none⟩ = some (.slice B ys.length d) ∧ Below w.heap.size w wr ∧ w.heap.size + 1 ≤ wr.heap.size) (fun _ i _ => ys.length - (intOf i).toNat)
    case atStart => exact ⟨1, Nat.le_refl _, by omega, rfl, by rw [hwk_one]; exact hown, b1, hb0, hsz⟩
    case round =>
      clear b1 hb0 hsz hown
      obtain ⟨k, hk1, hk2, rfl, ho, b1, hbr, hsz⟩ := hrel
      have hlenk := hwk_len (ys := ys) (n := k)
      by_cases hlt : k + 1 < ys.length
      · obtain ⟨y0, hy0⟩ := get_of_lt (xs := ys) (k := k - 1) (by omega)
        obtain ⟨y1, hy1⟩ := get_of_lt (xs := ys) (k := k) (by omega)
        obtain ⟨y2, hy2⟩ := get_of_lt (xs := ys) (k := k + 1) (by omega)
        obtain ⟨b, o, rfl, hb, hc0⟩ := (hs.below hbr).at_ hy0
        obtain ⟨b', o', e', _, hc1⟩ := (hs.below hbr).at_ hy1
        simp only [Option.some.injEq, Addr.mk.injEq, and_true] at e'
        obtain ⟨rfl, rfl⟩ := e'
        obtain ⟨b', o', e', _, hc2⟩ := (hs.below hbr).at_ hy2
        simp only [Option.some.injEq, Addr.mk.injEq, and_true] at e'
        obtain ⟨rfl, rfl⟩ := e'
        have gt : hwt ys k = (decide (y0 < y1) && decide (y2 ≤ y1)) := by
          rw [hwt, getD_of hy0, getD_of hy1, getD_of hy2, decide_eq_true hk1, Bool.true_and]
        have hsu := hwk_succ (ys := ys) (n := k)
        rw [gt] at hsu
        have p0 : (0 : Int) ≤ (k : Int) := by omega
        have p1 : (k : Int) < (ys.length : Int) := by omega
        have p2 : (0 : Int) ≤ (k : Int) - 1 := by omega
        have p3 : (k : Int) - 1 < (ys.length : Int) := by omega
        have p4 : ((k : Int) - 1).toNat = k - 1 := by omega
        have p5 : (0 : Int) ≤ (k : Int) + 1 := by omega
        have p6 : (k : Int) + 1 < (ys.length : Int) := by omega
        have p7 : ((k : Int) + 1).toNat = k + 1 := by omega
        have p8 : (k : Int) < (ys.length : Int) - 1 := by omega
        clear hy0 hy1 hy2 gt
        by_cases g1 : y0 < y1
        · have d1 : decide (y0 < y1) = true := decide_eq_true g1
          by_cases g2 : y2 ≤ y1
          · have d2 : decide (y2 ≤ y1) = true := decide_eq_true g2
            have hsu' : Hid (hwk ys (k + 1) = hwk ys k ++ [(k : Int)]) := by unfold Hid; rw [hsu, d1, d2]; rfl
            clear hsu
            repeat' (first | fail | go_values | go_skip | go_guarded | go_step | go_upon | (simp only []; go_step) | (go_ite <;> go_prune <;> (try go_simp)))
            all_goals (try go_quiet (fail))
            go_wp2_with (at_builtin; refine push_int (base := w.heap.size + 1) (by first | exact ho | exact ho.drewN _) rfl _ _ rfl rfl rfl (by first | omega | (simp; omega)) (by omega) ?_; intro v' w4 ho4 hg4 hb4)
            have b4 : w4.cell? ⟨w.heap.size, 1, none⟩ = some (.slice (some ⟨b, o, none⟩) ys.length d) := (hb4.cell (p := ⟨w.heap.size, 1, none⟩) (by show w.heap.size < w.heap.size + 1; omega)).trans b1
            have hbb4 := Below.mono hb4 (Nat.le_succ w.heap.size)
            have hbb : Below w.heap.size w w4 := by first | exact hbr.trans hbb4 | exact (below_drewN hbr _).trans hbb4
            have hs4 := hb4.size
            exact ⟨⟨k + 1, by omega, by omega, by go_num, by rw [hsu'.out]; exact ho4, b4, hbb, by simp at hs4; omega⟩, by simp [intOf]; omega⟩
          · have d2 : decide (y2 ≤ y1) = false := decide_eq_false g2
            have hsu' : Hid (hwk ys (k + 1) = hwk ys k) := by unfold Hid; rw [hsu, d1, d2]; simp
            clear hsu
            repeat' (first | fail | go_values | go_skip | go_guarded | go_step | go_upon | (simp only []; go_step) | (go_ite <;> go_prune <;> (try go_simp)))
            all_goals (try go_quiet (fail))
            all_goals repeat' (first | fail | go_values | go_skip | go_guarded | go_step | go_upon | (simp only []; go_step) | (go_ite <;> go_prune <;> (try go_simp)))
            all_goals exact ⟨⟨k + 1, by omega, by omega, by go_num, by rw [hsu'.out]; exact ho, by repeat' (first | (with_reducible assumption) | ((with_reducible apply bx_new) <;> first | (simp only [World.size_alloc, World.size_setCell]; done) | rfl) | (with_reducible apply bx_alloc) | (with_reducible apply bx_other; (first | (simp only [World.size_alloc, World.size_setCell]; omega) | omega)) | (with_reducible apply bx_same) | (with_reducible apply bx_drew) | (with_reducible apply bx_drew1) | (with_reducible apply bx_keep; with_reducible assumption) | fail), by repeat' (first | (with_reducible exact Below.refl _ _) | (with_reducible assumption) | (with_reducible refine Below.new ?_ _) | (with_reducible refine Below.alloc ?_ ?_ _) | (with_reducible refine Below.drew ?_) | (with_reducible refine below_drewN ?_ _) | (with_reducible refine Below.setCell ?_ ?_ _) | (refine Below.next ?_ (by with_reducible assumption)) | (refine Below.row ?_ (by with_reducible assumption) (by omega)) | (refine Below.trans ?_ (by with_reducible assumption)) | (refine Below.after ?_ ?_ (by with_reducible assumption)) | go_size), by first | omega | (simp; omega)⟩, by simp [intOf]; omega⟩
        · have d1 : decide (y0 < y1) = false := decide_eq_false g1
          have hsu' : Hid (hwk ys (k + 1) = hwk ys k) := by unfold Hid; rw [hsu, d1]; simp
          clear hsu
          repeat' (first | fail | go_values | go_skip | go_guarded | go_step | go_upon | (simp only []; go_step) | (go_ite <;> go_prune <;> (try go_simp)))
          all_goals (try go_quiet (fail))
          all_goals repeat' (first | fail | go_values | go_skip | go_guarded | go_step | go_upon | (simp only []; go_step) | (go_ite <;> go_prune <;> (try go_simp)))
          all_goals exact ⟨⟨k + 1, by omega, by omega, by go_num, by rw [hsu'.out]; exact ho, by repeat' (first | (with_reducible assumption) | ((with_reducible apply bx_new) <;> first | (simp only [World.size_alloc, World.size_setCell]; done) | rfl) | (with_reducible apply bx_alloc) | (with_reducible apply bx_other; (first | (simp only [World.size_alloc, World.size_setCell]; omega) | omega)) | (with_reducible apply bx_same) | (with_reducible apply bx_drew) | (with_reducible apply bx_drew1) | (with_reducible apply bx_keep; with_reducible assumption) | fail), by repeat' (first | (with_reducible exact Below.refl _ _) | (with_reducible assumption) | (with_reducible refine Below.new ?_ _) | (with_reducible refine Below.alloc ?_ ?_ _) | (with_reducible refine Below.drew ?_) | (with_reducible refine below_drewN ?_ _) | (with_reducible refine Below.setCell ?_ ?_ _) | (refine Below.next ?_ (by with_reducible assumption)) | (refine Below.row ?_ (by with_reducible assumption) (by omega)) | (refine Below.trans ?_ (by with_reducible assumption)) | (refine Below.after ?_ ?_ (by with_reducible assumption)) | go_size), by first | omega | (simp; omega)⟩, by simp [intOf]; omega⟩
      · have e : hwk ys k = hwk ys (ys.length - 1) := by
          rcases hk2 with h | h
          · rw [show ys.length - 1 = k by omega]
          · subst h
            rcases Nat.lt_or_ge (ys.length - 1) 1 with h | h
            · rw [show ys.length - 1 = 0 by omega, hwk_one, hwk_zero]
            · rw [show ys.length - 1 = 1 by omega]
        have p8 : ¬ (k : Int) < (ys.length : Int) - 1 := by omega
        have p9 : ¬ (k : Int) + 1 < (ys.length : Int) := by omega
        rw [e] at ho
        repeat' (first | fail | go_values | go_skip | go_guarded | go_step | go_upon | (simp only []; go_step) | (go_ite <;> go_prune <;> (try go_simp)))
        all_goals go_returns
        all_goals exact ⟨_, rfl, ho.mono (by omega), by repeat' (first | (with_reducible exact Below.refl _ _) | (with_reducible assumption) | (with_reducible refine Below.new ?_ _) | (with_reducible refine Below.alloc ?_ ?_ _) | (with_reducible refine Below.drew ?_) | (with_reducible refine below_drewN ?_ _) | (with_reducible refine Below.setCell ?_ ?_ _) | (refine Below.next ?_ (by with_reducible assumption)) | (refine Below.row ?_ (by with_reducible assumption) (by omega)) | (refine Below.trans ?_ (by with_reducible assumption)) | (refine Below.after ?_ ?_ (by with_reducible assumption)) | go_size)⟩
set_option maxHeartbeats 1600000 in
theorem spec_HighWaters (A B : Option Addr) (c d : Nat) (xs ys : List Int) (w : World) (hr : I64 w w.heap.size A xs) (hs : I64 w w.heap.size B ys) (hl : xs.length ≤ 1099511627776) (hm : ys.length ≤ 1099511627776) :
    Calls Try.prog 35 #[.agg #[.slice A xs.length c, .slice B ys.length d]] w fun e w' => ∃ v, e = .returned (.tuple #[v, .int .i64 (cHigh xs ys)]) ∧ OwnI w' w.heap.size v (fHigh xs ys) ∧ Below w.heap.size w w' := by
  cases hg : gauB xs ys
  · have e1 : fHigh xs ys = [] := by simp [fHigh, hg]
    have e2 : cHigh xs ys = 1 := by simp [cHigh, hg]
    rw [e1, e2]
    go_enter Try.func35, Try.ntmps35
    repeat' (first | fail | go_values | go_skip | go_guarded | go_step | go_upon | (simp only []; go_step) | (go_ite <;> go_prune <;> (try go_simp)))
    refine (spec_IsGauge _ _ _ _ _ _ _ (hr.up (by repeat' (first | (with_reducible exact Below.refl _ _) | (with_reducible assumption) | (with_reducible refine Below.new ?_ _) | (with_reducible refine Below.alloc ?_ ?_ _) | (with_reducible refine Below.drew ?_) | (with_reducible refine below_drewN ?_ _) | (with_reducible refine Below.setCell ?_ ?_ _) | (refine Below.next ?_ (by with_reducible assumption)) | (refine Below.row ?_ (by with_reducible assumption) (by omega)) | (refine Below.trans ?_ (by with_reducible assumption)) | (refine Below.after ?_ ?_ (by with_reducible assumption)) | go_size))) (hs.up (by repeat' (first | (with_reducible exact Below.refl _ _) | (with_reducible assumption) | (with_reducible refine Below.new ?_ _) | (with_reducible refine Below.alloc ?_ ?_ _) | (with_reducible refine Below.drew ?_) | (with_reducible refine below_drewN ?_ _) | (with_reducible refine Below.setCell ?_ ?_ _) | (refine Below.next ?_ (by with_reducible assumption)) | (refine Below.row ?_ (by with_reducible assumption) (by omega)) | (refine Below.trans ?_ (by with_reducible assumption)) | (refine Below.after ?_ ?_ (by with_reducible assumption)) | go_size))) (by omega) (by omega)).mono ?_; rintro e w1 ⟨rfl, hbw1⟩; have hzw1 := hbw1.size; (try simp only [World.size_alloc, World.size_setCell, World.size_drew] at hzw1); have hs1 : w.heap.size < w1.heap.size := (by omega); have q1 := bx_id (w := w1) (X := w.heap.size) (o := 0) (by repeat' (first | (with_reducible assumption) | ((with_reducible apply bx_new) <;> first | (simp only [World.size_alloc, World.size_setCell]; done) | rfl) | (with_reducible apply bx_alloc) | (with_reducible apply bx_other; (first | (simp only [World.size_alloc, World.size_setCell]; omega) | omega)) | (with_reducible apply bx_same) | (with_reducible apply bx_drew) | (with_reducible apply bx_drew1) | (with_reducible apply bx_keep; with_reducible assumption) | fail)); (try simp only [List.getElem_toArray, List.getElem_cons_succ, List.getElem_cons_zero] at q1); have q1 := bx_id (w := w1) (X := w.heap.size) (o := 1) (by repeat' (first | (with_reducible assumption) | ((with_reducible apply bx_new) <;> first | (simp only [World.size_alloc, World.size_setCell]; done) | rfl) | (with_reducible apply bx_alloc) | (with_reducible apply bx_other; (first | (simp only [World.size_alloc, World.size_setCell]; omega) | omega)) | (with_reducible apply bx_same) | (with_reducible apply bx_drew) | (with_reducible apply bx_drew1) | (with_reducible apply bx_keep; with_reducible assumption) | fail)); (try simp only [List.getElem_toArray, List.getElem_cons_succ, List.getElem_cons_zero] at q1); have z1 : ∀ o, w1.frozen? ⟨w.heap.size, o, none⟩ = false := (by repeat' (first | (with_reducible assumption) | (with_reducible apply bm_set) | ((with_reducible apply bm_new) <;> (simp only [World.size_alloc, World.size_setCell, World.size_drew]; done)) | (with_reducible apply bm_old; (first | omega | (simp only [World.size_alloc, World.size_setCell, World.size_drew]; omega))) | (with_reducible apply bm_drew) | (with_reducible apply bm_drew1) | (with_reducible apply bm_keep; (with_reducible assumption); (first | omega | (simp only [World.size_alloc, World.size_setCell, World.size_drew]; omega))) | fail))
    rw [hg]
    repeat' (first | fail | go_values | go_skip | go_guarded | go_step | go_upon | (simp only []; go_step) | (go_ite <;> go_prune <;> (try go_simp)))
    all_goals go_returns
    all_goals exact ⟨_, rfl, OwnI.nil _ _, by repeat' (first | (with_reducible exact Below.refl _ _) | (with_reducible assumption) | (with_reducible refine Below.new ?_ _) | (with_reducible refine Below.alloc ?_ ?_ _) | (with_reducible refine Below.drew ?_) | (with_reducible refine below_drewN ?_ _) | (with_reducible refine Below.setCell ?_ ?_ _) | (refine Below.next ?_ (by with_reducible assumption)) | (refine Below.row ?_ (by with_reducible assumption) (by omega)) | (refine Below.trans ?_ (by with_reducible assumption)) | (refine Below.after ?_ ?_ (by with_reducible assumption)) | go_size)⟩
  · have e1 : fHigh xs ys = hwk ys (ys.length - 1) := by simp [fHigh, hg]
    have e2 : cHigh xs ys = 0 := by simp [cHigh, hg]
    rw [e1, e2]
    have hp := gau_pos' hg
    go_enter Try.func35, Try.ntmps35
    repeat' (first | fail | go_values | go_skip | go_guarded | go_step | go_upon | (simp only []; go_step) | (go_ite <;> go_prune <;> (try go_simp)))
    refine (spec_IsGauge _ _ _ _ _ _ _ (hr.up (by repeat' (first | (with_reducible exact Below.refl _ _) | (with_reducible assumption) | (with_reducible refine Below.new ?_ _) | (with_reducible refine Below.alloc ?_ ?_ _) | (with_reducible refine Below.drew ?_) | (with_reducible refine below_drewN ?_ _) | (with_reducible refine Below.setCell ?_ ?_ _) | (refine Below.next ?_ (by with_reducible assumption)) | (refine Below.row ?_ (by with_reducible assumption) (by omega)) | (refine Below.trans ?_ (by with_reducible assumption)) | (refine Below.after ?_ ?_ (by with_reducible assumption)) | go_size))) (hs.up (by repeat' (first | (with_reducible exact Below.refl _ _) | (with_reducible assumption) | (with_reducible refine Below.new ?_ _) | (with_reducible refine Below.alloc ?_ ?_ _) | (with_reducible refine Below.drew ?_) | (with_reducible refine below_drewN ?_ _) | (with_reducible refine Below.setCell ?_ ?_ _) | (refine Below.next ?_ (by with_reducible assumption)) | (refine Below.row ?_ (by with_reducible assumption) (by omega)) | (refine Below.trans ?_ (by with_reducible assumption)) | (refine Below.after ?_ ?_ (by with_reducible assumption)) | go_size))) (by omega) (by omega)).mono ?_; rintro e w1 ⟨rfl, hbw1⟩; have hzw1 := hbw1.size; (try simp only [World.size_alloc, World.size_setCell, World.size_drew] at hzw1); have hs1 : w.heap.size < w1.heap.size := (by omega); have q1 := bx_id (w := w1) (X := w.heap.size) (o := 0) (by repeat' (first | (with_reducible assumption) | ((with_reducible apply bx_new) <;> first | (simp only [World.size_alloc, World.size_setCell]; done) | rfl) | (with_reducible apply bx_alloc) | (with_reducible apply bx_other; (first | (simp only [World.size_alloc, World.size_setCell]; omega) | omega)) | (with_reducible apply bx_same) | (with_reducible apply bx_drew) | (with_reducible apply bx_drew1) | (with_reducible apply bx_keep; with_reducible assumption) | fail)); (try simp only [List.getElem_toArray, List.getElem_cons_succ, List.getElem_cons_zero] at q1); have q1 := bx_id (w := w1) (X := w.heap.size) (o := 1) (by repeat' (first | (with_reducible assumption) | ((with_reducible apply bx_new) <;> first | (simp only [World.size_alloc, World.size_setCell]; done) | rfl) | (with_reducible apply bx_alloc) | (with_reducible apply bx_other; (first | (simp only [World.size_alloc, World.size_setCell]; omega) | omega)) | (with_reducible apply bx_same) | (with_reducible apply bx_drew) | (with_reducible apply bx_drew1) | (with_reducible apply bx_keep; with_reducible assumption) | fail)); (try simp only [List.getElem_toArray, List.getElem_cons_succ, List.getElem_cons_zero] at q1); have z1 : ∀ o, w1.frozen? ⟨w.heap.size, o, none⟩ = false := (by repeat' (first | (with_reducible assumption) | (with_reducible apply bm_set) | ((with_reducible apply bm_new) <;> (simp only [World.size_alloc, World.size_setCell, World.size_drew]; done)) | (with_reducible apply bm_old; (first | omega | (simp only [World.size_alloc, World.size_setCell, World.size_drew]; omega))) | (with_reducible apply bm_drew) | (with_reducible apply bm_drew1) | (with_reducible apply bm_keep; (with_reducible assumption); (first | omega | (simp only [World.size_alloc, World.size_setCell, World.size_drew]; omega))) | fail))
    rw [hg]
    repeat' (first | fail | go_values | go_skip | go_guarded | go_step | go_upon | (simp only []; go_step) | (go_ite <;> go_prune <;> (try go_simp)))
    refine wp_gen (fun W1 hW1 => ?_)
    have b1 := bx_id (w := W1) (X := w.heap.size) (o := 1) (by rw [hW1]; repeat' (first | (with_reducible assumption) | ((with_reducible apply bx_new) <;> first | (simp only [World.size_alloc, World.size_setCell]; done) | rfl) | (with_reducible apply bx_alloc) | (with_reducible apply bx_other; (first | (simp only [World.size_alloc, World.size_setCell]; omega) | omega)) | (with_reducible apply bx_same) | (with_reducible apply bx_drew) | (with_reducible apply bx_drew1) | (with_reducible apply bx_keep; with_reducible assumption) | fail))
    try simp only [List.getElem_toArray, List.getElem_cons_succ, List.getElem_cons_zero] at b1
    have hb0 : Below w.heap.size w W1 := by (rw [hW1]; repeat' (first | (with_reducible exact Below.refl _ _) | (with_reducible assumption) | (with_reducible refine Below.new ?_ _) | (with_reducible refine Below.alloc ?_ ?_ _) | (with_reducible refine Below.drew ?_) | (with_reducible refine below_drewN ?_ _) | (with_reducible refine Below.setCell ?_ ?_ _) | (refine Below.next ?_ (by with_reducible assumption)) | (refine Below.row ?_ (by with_reducible assumption) (by omega)) | (refine Below.trans ?_ (by with_reducible assumption)) | (refine Below.after ?_ ?_ (by with_reducible assumption)) | go_size))
    have hsz : w.heap.size + 1 ≤ W1.heap.size := by rw [hW1]; first | omega | (simp only [World.size_alloc, World.size_setCell, World.size_drew]; omega)
    have hown : OwnI W1 (w.heap.size + 1) (.slice (some ⟨w1.heap.size, 0, none⟩) 0 0) [] := by rw [hW1]; exact OwnI.lit0 (by omega)
    clear hW1
    go_loopw [4, 5] (fun v i wr => ∃ k : Nat, 1 ≤ k ∧ (k + 1 ≤ ys.length ∨ k = 1) ∧ i = .int .i64 k ∧ OwnI wr (w.heap.size + 1) v (hwk ys k) ∧ wr.cell? ⟨w.heap.size, 1, none⟩ = some (.slice B ys.length d) ∧ Below w.heap.size w wr ∧ w.heap.size + 1 ≤ wr.heap.size) (fun _ i _ => ys.length - (intOf i).toNat)
    case atStart => exact ⟨1, Nat.le_refl _, by omega, rfl, by rw [hwk_one]; exact hown, b1, hb0, hsz⟩
    case round =>
      clear b1 hb0 hsz hown
      obtain ⟨k, hk1, hk2, rfl, ho, b1, hbr, hsz⟩ := hrel
      have hlenk := hwk_len (ys := ys) (n := k)
      by_cases hlt : k + 1 < ys.length
      · obtain ⟨y0, hy0⟩ := get_of_lt (xs := ys) (k := k - 1) (by omega)
        obtain ⟨y1, hy1⟩ := get_of_lt (xs := ys) (k := k) (by omega)
        obtain ⟨y2, hy2⟩ := get_of_lt (xs := ys) (k := k + 1) (by omega)
        obtain ⟨b, o, rfl, hb, hc0⟩ := (hs.below hbr).at_ hy0
        obtain ⟨b', o', e', _, hc1⟩ := (hs.below hbr).at_ hy1
        simp only [Option.some.injEq, Addr.mk.injEq, and_true] at e'
        obtain ⟨rfl, rfl⟩ := e'
        obtain ⟨b', o', e', _, hc2⟩ := (hs.below hbr).at_ hy2
        simp only [Option.some.injEq, Addr.mk.injEq, and_true] at e'
        obtain ⟨rfl, rfl⟩ := e'
        have gt : hwt ys k = (decide (y0 < y1) && decide (y2 ≤ y1)) := by
          rw [hwt, getD_of hy0, getD_of hy1, getD_of hy2, decide_eq_true hk1, Bool.true_and]
        have hsu := hwk_succ (ys := ys) (n := k)
        rw [gt] at hsu
        have p0 : (0 : Int) ≤ (k : Int) := by omega
        have p1 : (k : Int) < (ys.length : Int) := by omega
        have p2 : (0 : Int) ≤ (k : Int) - 1 := by omega
        have p3 : (k : Int) - 1 < (ys.length : Int) := by omega
        have p4 : ((k : Int) - 1).toNat = k - 1 := by omega
        have p5 : (0 : Int) ≤ (k : Int) + 1 := by omega
        have p6 : (k : Int) + 1 < (ys.length : Int) := by omega
        have p7 : ((k : Int) + 1).toNat = k + 1 := by omega
        have p8 : (k : Int) < (ys.length : Int) - 1 := by omega
        clear hy0 hy1 hy2 gt
        by_cases g1 : y0 < y1
        · have d1 : decide (y0 < y1) = true := decide_eq_true g1
          by_cases g2 : y2 ≤ y1
          · have d2 : decide (y2 ≤ y1) = true := decide_eq_true g2
            have hsu' : Hid (hwk ys (k + 1) = hwk ys k ++ [(k : Int)]) := by unfold Hid; rw [hsu, d1, d2]; rfl
            clear hsu
            repeat' (first | fail | go_values | go_skip | go_guarded | go_step | go_upon | (simp only []; go_step) | (go_ite <;> go_prune <;> (try go_simp)))
            all_goals (try go_quiet (fail))
            go_wp2_with (at_builtin; refine push_int (base := w.heap.size + 1) (by first | exact ho | exact ho.drewN _) rfl _ _ rfl rfl rfl (by first | omega | (simp; omega)) (by omega) ?_; intro v' w4 ho4 hg4 hb4)
            have b4 : w4.cell? ⟨w.heap.size, 1, none⟩ = some (.slice (some ⟨b, o, none⟩) ys.length d) := (hb4.cell (p := ⟨w.heap.size, 1, none⟩) (by show w.heap.size < w.heap.size + 1; omega)).trans b1
            have hbb4 := Below.mono hb4 (Nat.le_succ w.heap.size)
            have hbb : Below w.heap.size w w4 := by first | exact hbr.trans hbb4 | exact (below_drewN hbr _).trans hbb4
            have hs4 := hb4.size
            exact ⟨⟨k + 1, by omega, by omega, by go_num, by rw [hsu'.out]; exact ho4, b4, hbb, by simp at hs4; omega⟩, by simp [intOf]; omega⟩
          · have d2 : decide (y2 ≤ y1) = false := decide_eq_false g2
            have hsu' : Hid (hwk ys (k + 1) = hwk ys k) := by unfold Hid; rw [hsu, d1, d2]; simp
            clear hsu
            repeat' (first | fail | go_values | go_skip | go_guarded | go_step | go_upon | (simp only []; go_step) | (go_ite <;> go_prune <;> (try go_simp)))
            all_goals (try go_quiet (fail))
            all_goals repeat' (first | fail | go_values | go_skip | go_guarded | go_step | go_upon | (simp only []; go_step) | (go_ite <;> go_prune <;> (try go_simp)))
            all_goals exact ⟨⟨k + 1, by omega, by omega, by go_num, by rw [hsu'.out]; exact ho, by repeat' (first | (with_reducible assumption) | ((with_reducible apply bx_new) <;> first | (simp only [World.size_alloc, World.size_setCell]; done) | rfl) | (with_reducible apply bx_alloc) | (with_reducible apply bx_other; (first | (simp only [World.size_alloc, World.size_setCell]; omega) | omega)) | (with_reducible apply bx_same) | (with_reducible apply bx_drew) | (with_reducible apply bx_drew1) | (with_reducible apply bx_keep; with_reducible assumption) | fail), by repeat' (first | (with_reducible exact Below.refl _ _) | (with_reducible assumption) | (with_reducible refine Below.new ?_ _) | (with_reducible refine Below.alloc ?_ ?_ _) | (with_reducible refine Below.drew ?_) | (with_reducible refine below_drewN ?_ _) | (with_reducible refine Below.setCell ?_ ?_ _) | (refine Below.next ?_ (by with_reducible assumption)) | (refine Below.row ?_ (by with_reducible assumption) (by omega)) | (refine Below.trans ?_ (by with_reducible assumption)) | (refine Below.after ?_ ?_ (by with_reducible assumption)) | go_size), by first | omega | (simp; omega)⟩, by simp [intOf]; omega⟩
        · have d1 : decide (y0 < y1) = false := decide_eq_false g1
          have hsu' : Hid (hwk ys (k + 1) = hwk ys k) := by unfold Hid; rw [hsu, d1]; simp
          clear hsu
          repeat' (first | fail | go_values | go_skip | go_guarded | go_step | go_upon | (simp only []; go_step) | (go_ite <;> go_prune <;> (try go_simp)))
          all_goals (try go_quiet (fail))
          all_goals repeat' (first | fail | go_values | go_skip | go_guarded | go_step | go_upon | (simp only []; go_step) | (go_ite <;> go_prune <;> (try go_simp)))
          all_goals exact ⟨⟨k + 1, by omega, by omega, by go_num, by rw [hsu'.out]; exact ho, by repeat' (first | (with_reducible assumption) | ((with_reducible apply bx_new) <;> first | (simp only [World.size_alloc, World.size_setCell]; done) | rfl) | (with_reducible apply bx_alloc) | (with_reducible apply bx_other; (first | (simp only [World.size_alloc, World.size_setCell]; omega) | omega)) | (with_reducible apply bx_same) | (with_reducible apply bx_drew) | (with_reducible apply bx_drew1) | (with_reducible apply bx_keep; with_reducible assumption) | fail), by repeat' (first | (with_reducible exact Below.refl _ _) | (with_reducible assumption) | (with_reducible refine Below.new ?_ _) | (with_reducible refine Below.alloc ?_ ?_ _) | (with_reducible refine Below.drew ?_) | (with_reducible refine below_drewN ?_ _) | (with_reducible refine Below.setCell ?_ ?_ _) | (refine Below.next ?_ (by with_reducible assumption)) | (refine Below.row ?_ (by with_reducible assumption) (by omega)) | (refine Below.trans ?_ (by with_reducible assumption)) | (refine Below.after ?_ ?_ (by with_reducible assumption)) | go_size), by first | omega | (simp; omega)⟩, by simp [intOf]; omega⟩
      · have e : hwk ys k = hwk ys (ys.length - 1) := by
          rcases hk2 with h | h
          · rw [show ys.length - 1 = k by omega]
          · subst h
            rcases Nat.lt_or_ge (ys.length - 1) 1 with h | h
            · rw [show ys.length - 1 = 0 by omega, hwk_one, hwk_zero]
            · rw [show ys.length - 1 = 1 by omega]
        have p8 : ¬ (k : Int) < (ys.length : Int) - 1 := by omega
        have p9 : ¬ (k : Int) + 1 < (ys.length : Int) := by omega
        rw [e] at ho
        repeat' (first | fail | go_values | go_skip | go_guarded | go_step | go_upon | (simp only []; go_step) | (go_ite <;> go_prune <;> (try go_simp)))
        all_goals go_returns
        all_goals exact ⟨_, rfl, ho.mono (by omega), by repeat' (first | (with_reducible exact Below.refl _ _) | (with_reducible assumption) | (with_reducible refine Below.new ?_ _) | (with_reducible refine Below.alloc ?_ ?_ _) | (with_reducible refine Below.drew ?_) | (with_reducible refine below_drewN ?_ _) | (with_reducible refine Below.setCell ?_ ?_ _) | (refine Below.next ?_ (by with_reducible assumption)) | (refine Below.row ?_ (by with_reducible assumption) (by omega)) | (refine Below.trans ?_ (by with_reducible assumption)) | (refine Below.after ?_ ?_ (by with_reducible assumption)) | go_size)⟩
end Go.Proofs.Ythnnnhjhgjbmcaa
