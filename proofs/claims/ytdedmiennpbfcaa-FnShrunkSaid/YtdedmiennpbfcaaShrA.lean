/- Shrunk mosaics: contract of mean. -/
import Derived.Test.YtdedmiennpbfcaaShrM
import Derived.Test.YtdedmiennpbfcaaNum2
import Derived.Test.YtdedmiennpbfcaaNewB
import Derived.BigQuiet
namespace Go.Proofs.Ytdedmiennpbfcaa
open Go.RowKit Go.ChangeShapes Go.WideShapes Go.ChangeAt
set_option linter.unusedVariables false
set_option linter.unusedSimpArgs false
/-- the least grade, 0 if there is none -/
def gq (t : Int × Int × Int) : Int := if t.2.1 = 0 then 0 else t.2.2
/-- the mean, -1 if there is none -/
def meanV (t : Int × Int × Int) : Int := if t.2.1 = 0 then -1 else Pl.nr t.1 t.2.1
theorem shA_mos {p q : Int} {P K CX CY : Nat} {xs ys : List Int} (hm : mosB p q xs ys = true) (n : Nat) : 0 ≤ (shA P K CX CY xs ys n).1 ∧ (shA P K CX CY xs ys n).1 ≤ 1000 * n ∧ 0 ≤ (shA P K CX CY xs ys n).2.1 ∧ (shA P K CX CY xs ys n).2.1 ≤ n ∧
    1 ≤ (shA P K CX CY xs ys n).2.2 ∧ (shA P K CX CY xs ys n).2.2 ≤ 9 := by
  have hl := (mos_facts hm).2.2.2.1
  have cell : ∀ i, (xs.getD i 0 = 0 ∧ ys.getD i 0 = 0) ∨ (xs.getD i 0 = -1 ∧ ys.getD i 0 = 0) ∨ ((0 ≤ xs.getD i 0 ∧ xs.getD i 0 ≤ 1000) ∧ 1 ≤ ys.getD i 0 ∧ ys.getD i 0 ≤ 9) := fun i => by
    rcases Nat.lt_or_ge i xs.length with h | h
    · obtain ⟨x, hx⟩ := get_of_lt h
      obtain ⟨y, hy⟩ := get_of_lt (xs := ys) (k := i) (by omega)
      rw [mget_of hx, mget_of hy]
      exact .inr (mos_cell hm hx hy)
    · left; simp [List.getD, List.getElem?_eq_none h, List.getElem?_eq_none (show ys.length ≤ i by omega)]
  exact shA_bd (fun i => by have := cell i; omega) (fun i => by have := cell i; omega) (fun i => by have := cell i; omega) n
theorem gq_new {u n g v : Int} (h : n = 0) : gq (u, n + 1, min 9 v) = min 9 v := by simp [gq, h]
theorem shA_no {P K CX CY : Nat} {xs ys : List Int} {n : Nat} (h : ys.getD n 0 = 0) : shA P K CX CY xs ys (n + 1) = shA P K CX CY xs ys n := by
  rw [shA, show sel P K CX CY ys n = false by rw [sel, h]; rfl]; rfl
theorem shA_yes {P K CX CY : Nat} {xs ys : List Int} {n : Nat} (h : sel P K CX CY ys n = true) : shA P K CX CY xs ys (n + 1) = ((shA P K CX CY xs ys n).1 + xs.getD n 0, (shA P K CX CY xs ys n).2.1 + 1, min (shA P K CX CY xs ys n).2.2 (ys.getD n 0)) := by
  rw [shA, h]; rfl
theorem shA_cnt {P K CX CY : Nat} {xs ys : List Int} : ∀ n, (shA P K CX CY xs ys n).2.1 = 0 → (shA P K CX CY xs ys n).2.2 = 9
  | 0, _ => rfl
  | n + 1, h => by
    rw [shA] at h ⊢
    split at h
    · rename_i hs
      exfalso
      have : ∀ n, 0 ≤ (shA P K CX CY xs ys n).2.1 := fun n => by
        induction n with
        | zero => simp [shA]
        | succ n ih => rw [shA]; split <;> (try simp only) <;> omega
      have := this n
      simp only at h
      omega
    · rename_i hs
      rw [if_neg hs]; exact shA_cnt n h
set_option maxHeartbeats 3200000 in
set_option maxRecDepth 100000 in
theorem impl_mean (P Q K CX CY : Nat) (A B : Option Addr) (c d : Nat) (xs ys : List Int) (w : World) (hr : I64 w w.heap.size A xs) (hs : I64 w w.heap.size B ys) (hm : mosB P Q xs ys = true) (hK : 1 ≤ K ∧ K ≤ 40) (hX : CX * K < P) (hY : CY * K < Q) :
    Calls Try.prog 20 #[.agg #[.int .i64 P, .int .i64 Q, .slice A xs.length c, .slice B ys.length d], .int .i64 CX, .int .i64 CY, .int .i64 K] w fun e w' => e = .returned (.tuple #[.int .i64 (meanV (shA P K CX CY xs ys (Q * P))), .int .i64 (gq (shA P K CX CY xs ys (Q * P)))]) ∧ Below w.heap.size w w' := by
  obtain ⟨⟨hp1, hp2⟩, ⟨hq1, hq2⟩, hlx, hly, hpq1, hpq2, _⟩ := mos_facts hm
  obtain ⟨a, ha⟩ : ∃ a, a = CY * K := ⟨_, rfl⟩
  obtain ⟨b, hb⟩ : ∃ b, b = CX * K := ⟨_, rfl⟩
  have e1 : (CY : Int) * (K : Int) = (a : Int) := by rw [ha]; push_cast; rfl
  have e2 : (CX : Int) * (K : Int) = (b : Int) := by rw [hb]; push_cast; rfl
  rw [← ha] at hY
  rw [← hb] at hX
  have hP0 : 0 < P := by omega
  have hlxN : xs.length = P * Q := by exact_mod_cast hlx
  have T0 : Hid (shA P K CX CY xs ys (a * P) = (0, 0, 9)) := by unfold Hid; rw [ha]; exact shA_top hP0 (by omega)
  have haH := Lib.hid ha
  have hbH := Lib.hid hb
  have hlxH := Lib.hid hlxN
  have hlyH := Lib.hid hly
  have hmH := Lib.hid hm
  have hbdH := Lib.hid (shA_mos (P := P) (K := K) (CX := CX) (CY := CY) hm)
  clear ha hb hlx hly hm hpq1 hpq2 hlxN
  go_enter Try.func20, Try.ntmps20
  repeat' (first | fail | go_values | go_skip | go_guarded | go_step | go_upon | (simp only []; go_step) | (go_ite <;> go_prune <;> (try go_simp)))
  refine wp_gen (fun W1 hW1 => ?_)
  have b0 := bx_id (w := W1) (X := w.heap.size) (o := 0) (v := .int .i64 P) (by rw [hW1]; exact bxc)
  have b1 := bx_id (w := W1) (X := w.heap.size) (o := 1) (v := .int .i64 Q) (by rw [hW1]; exact bxc)
  have b2 := bx_id (w := W1) (X := w.heap.size) (o := 2) (v := .slice A xs.length c) (by rw [hW1]; exact bxc)
  have b3 := bx_id (w := W1) (X := w.heap.size) (o := 3) (v := .slice B ys.length d) (by rw [hW1]; exact bxc)
  have hB1 : Below w.heap.size w W1 := by rw [hW1]; exact bgr
  have hr' := hr.up hB1
  have hs' := hs.up hB1
  clear hW1 hr hs
  go_loop [10, 11, 12, 13] (fun s10 s11 s12 s13 => ∃ y : Nat, a ≤ y ∧ y ≤ Q ∧ y ≤ a + K ∧ s13 = .int .i64 y ∧ s10 = .int .i64 (shA P K CX CY xs ys (y * P)).1 ∧ s11 = .int .i64 (shA P K CX CY xs ys (y * P)).2.1 ∧ s12 = .int .i64 (gq (shA P K CX CY xs ys (y * P)))) (fun _ _ _ s13 => Q - (intOf s13).toNat)
  case atStart => exact ⟨a, Nat.le_refl _, by omega, by omega, rfl, by rw [T0.out], by rw [T0.out], by rw [T0.out]; rfl⟩
  case round =>
    obtain ⟨y, hy1, hy2, hy3, rfl, rfl, rfl, rfl⟩ := hrel
    by_cases hlt : y < a + K ∧ y < Q
    · obtain ⟨hlt, hlt2⟩ := hlt
      obtain ⟨r, hr0⟩ : ∃ r, r = y * P := ⟨_, rfl⟩
      have e3 : (y : Int) * (P : Int) = (r : Int) := by rw [hr0]; push_cast; rfl
      have hr1 : r + P ≤ xs.length := by
        rw [hlxH.out, hr0, Nat.mul_comm P Q]
        calc y * P + P = (y + 1) * P := by rw [Nat.add_mul, Nat.one_mul]
          _ ≤ Q * P := Nat.mul_le_mul_right P hlt2
      have hr2 : xs.length ≤ 1600 := by rw [hlxH.out]; exact Nat.le_trans (Nat.mul_le_mul (show P ≤ 40 by omega) (show Q ≤ 40 by omega)) (by omega)
      have TL : Hid (shA P K CX CY xs ys (r + b) = shA P K CX CY xs ys r) := by unfold Hid; rw [hr0, hbH.out]; exact shA_left hP0 (by omega) (by rw [← hbH.out]; omega)
      have TR : Hid (∀ h, h = Nat.min (b + K) P → shA P K CX CY xs ys ((y + 1) * P) = shA P K CX CY xs ys (r + h)) := fun h hh => by rw [hr0]; exact shA_right hP0 (by omega) (by rw [← hbH.out]; exact hh)
      rw [← hr0]
      have hr0H := Lib.hid hr0
      clear hr0
      repeat' (first | fail | go_values | go_skip | go_guarded | go_step | go_upon | (simp only []; go_step) | (go_ite <;> go_prune <;> (try go_simp)))
      all_goals
        go_loop [10, 11, 12, 14, 15] (fun s10 s11 s12 s14 s15 => ∃ x : Nat, b ≤ x ∧ x ≤ P ∧ x ≤ b + K ∧ s14 = .int .i64 x ∧ s10 = .int .i64 (shA P K CX CY xs ys (r + x)).1 ∧ s11 = .int .i64 (shA P K CX CY xs ys (r + x)).2.1 ∧ s12 = .int .i64 (gq (shA P K CX CY xs ys (r + x)))) (fun _ _ _ s14 _ => P - (intOf s14).toNat)
        case atStart => exact ⟨b, Nat.le_refl _, by omega, by omega, rfl, by rw [TL.out], by rw [TL.out], by rw [TL.out]⟩
        case round =>
          obtain ⟨x, hx1, hx2, hx3, rfl, rfl, rfl, rfl⟩ := hrel
          by_cases hltx : x < b + K ∧ x < P
          · obtain ⟨hltx, hltx2⟩ := hltx
            have hi : r + x < xs.length := by omega
            obtain ⟨xv, hxv⟩ := get_of_lt hi
            obtain ⟨yv, hyv⟩ := get_of_lt (xs := ys) (k := r + x) (by rw [hlyH.out]; exact hi)
            obtain ⟨B1, o1, rfl, _, hc1⟩ := hr'.at_ hxv
            obtain ⟨B2, o2, rfl, _, hc2⟩ := hs'.at_ hyv
            have hcell := mos_cell hmH.out hxv hyv
            have hbd := hbdH.out (r + x)
            have gx := Lib.hid (mget_of hxv)
            have gy := Lib.hid (mget_of hyv)
            have hcnt := shA_cnt (P := P) (K := K) (CX := CX) (CY := CY) (xs := xs) (ys := ys) (r + x)
            have hsel : Hid (sel P K CX CY ys (r + x) = decide (0 < yv)) := by unfold Hid; rw [← gy.out, hr0H.out]; exact sel_in (by omega) hltx2 (by rw [← hbH.out]; exact hx1) (by rw [← hbH.out]; exact hltx) (by rw [← haH.out]; exact hy1) (by rw [← haH.out]; exact hlt)
            have hno : Hid (yv = 0 → shA P K CX CY xs ys (r + (x + 1)) = shA P K CX CY xs ys (r + x)) := fun h => shA_no (n := r + x) (by rw [gy.out]; exact h)
            have hyes : Hid (0 < yv → shA P K CX CY xs ys (r + (x + 1)) = ((shA P K CX CY xs ys (r + x)).1 + xv, (shA P K CX CY xs ys (r + x)).2.1 + 1, min (shA P K CX CY xs ys (r + x)).2.2 yv)) := fun h => by
              have := shA_yes (xs := xs) (n := r + x) (hsel.out.trans (decide_eq_true h))
              rw [gx.out, gy.out] at this; exact this
            have p0 : (0 : Int) ≤ (r : Int) + (x : Int) := by omega
            have p1 : (r : Int) + (x : Int) < (ys.length : Int) := by have := hlyH.out; omega
            have p3 : (r : Int) + (x : Int) < (xs.length : Int) := by omega
            have p2 : ((r : Int) + (x : Int)).toNat = r + x := by omega
            clear hxv hyv hsel
            rcases hT : shA P K CX CY xs ys (r + x) with ⟨u, n, g⟩
            rw [hT] at hbd hcnt hno hyes
            simp only at hbd hcnt
            by_cases hz : yv = 0
            · have hstep := Lib.hid (hno.out hz)
              clear hno hyes hT hcnt hcell
              repeat' (first | fail | go_values | go_skip | go_guarded | go_step | go_upon | (simp only []; go_step) | (go_ite <;> go_prune <;> (try go_simp)))
              go_round
              case rel => exact ⟨x + 1, by omega, by omega, by omega, by go_num, by rw [hstep.out], by rw [hstep.out], by rw [hstep.out]⟩
              case measure => simp [intOf]; omega
            · have hpos : 1 ≤ yv := by omega
              have hstep := Lib.hid (hyes.out (by omega))
              clear hno hyes hT
              have hyv9 : yv ≤ 9 := by omega
              have hxv9 : 0 ≤ xv ∧ xv ≤ 1000 := by omega
              have hz' : (yv == 0) = false := by simp [hz]
              clear hcell
              by_cases hn : n = 0
              · have hg9 : Hid (g = 9) := hcnt hn
                have hgn : Hid (gq (u + xv, n + 1, min g yv) = yv) := by unfold Hid; rw [gq, if_neg (by simp; omega)]; show min g yv = yv; have := hg9.out; omega
                have hn' : (n == 0) = true := by simp [hn]
                have hnH := Lib.hid hn
                clear hcnt hn
                repeat' (first | fail | go_values | go_skip | go_guarded | go_step | go_upon | (simp only []; go_step) | (go_ite <;> go_prune <;> (try go_simp)))
                all_goals go_round
                case rel => exact ⟨x + 1, by omega, by omega, by omega, by go_num, by rw [hstep.out], by rw [hstep.out], by rw [hstep.out, hgn.out]⟩
                case measure => simp [intOf]; omega
              · have hn' : (n == 0) = false := by simp [hn]
                have hgq : Hid (gq (u, n, g) = g) := by unfold Hid; rw [gq, if_neg hn]
                clear hcnt
                rw [hgq.out]
                by_cases hg : yv < g
                · have hgn : Hid (gq (u + xv, n + 1, min g yv) = yv) := by unfold Hid; rw [gq, if_neg (by simp; omega)]; show min g yv = yv; omega
                  repeat' (first | fail | go_values | go_skip | go_guarded | go_step | go_upon | (simp only []; go_step) | (go_ite <;> go_prune <;> (try go_simp)))
                  all_goals go_round
                  case rel => exact ⟨x + 1, by omega, by omega, by omega, by go_num, by rw [hstep.out], by rw [hstep.out], by rw [hstep.out, hgn.out]⟩
                  case measure => simp [intOf]; omega
                · have hgn : Hid (gq (u + xv, n + 1, min g yv) = g) := by unfold Hid; rw [gq, if_neg (by simp; omega)]; show min g yv = g; omega
                  repeat' (first | fail | go_values | go_skip | go_guarded | go_step | go_upon | (simp only []; go_step) | (go_ite <;> go_prune <;> (try go_simp)))
                  all_goals go_round
                  case rel => exact ⟨x + 1, by omega, by omega, by omega, by go_num, by rw [hstep.out], by rw [hstep.out], by rw [hstep.out, hgn.out]⟩
                  case measure => simp [intOf]; omega
          · have hxe : x = Nat.min (b + K) P := by
              rcases Nat.le_total (b + K) P with h | h
              · rw [show Nat.min (b + K) P = b + K from Nat.min_eq_left h]; omega
              · rw [show Nat.min (b + K) P = P from Nat.min_eq_right h]; omega
            have hstep := Lib.hid (TR.out x hxe)
            have hx' : ¬ x < b + K ∨ ¬ x < P := by omega
            clear hltx hxe TL TR
            rcases hx' with h1 | h1
            all_goals
              repeat' (first | fail | go_values | go_skip | go_guarded | go_step | go_upon | (simp only []; go_step) | (go_ite <;> go_prune <;> (try go_simp)))
              all_goals go_round
              all_goals first | (case rel => exact ⟨y + 1, by omega, by omega, by omega, by go_num, by rw [hstep.out], by rw [hstep.out], by rw [hstep.out]⟩) | (case measure => simp [intOf]; omega) | skip
    · have hye : y = Nat.min (a + K) Q := by
        rcases Nat.le_total (a + K) Q with h | h
        · rw [show Nat.min (a + K) Q = a + K from Nat.min_eq_left h]; omega
        · rw [show Nat.min (a + K) Q = Q from Nat.min_eq_right h]; omega
      have hT : shA P K CX CY xs ys (Q * P) = shA P K CX CY xs ys (y * P) := shA_bottom hP0 (by omega) (by rw [← haH.out]; exact hye)
      have hbd := hbdH.out (y * P)
      have hyP : y * P ≤ 1600 := Nat.le_trans (Nat.mul_le_mul (show y ≤ 40 by omega) (show P ≤ 40 by omega)) (by omega)
      have hy' : ¬ y < a + K ∨ ¬ y < Q := by omega
      rcases hU : shA P K CX CY xs ys (y * P) with ⟨u, n, g⟩
      rw [hU] at hbd
      simp only at hbd
      obtain ⟨h1, h2, h3, h4, _, _⟩ := hbd
      have hu : u ≤ 1600000 := by omega
      have hn4 : n ≤ 1600 := by omega
      have hTH := Lib.hid (hT.trans hU)
      clear hT hU hye hlt h2 h4 hyP
      by_cases hn : n = 0
      · have hn' : (n == 0) = true := by simp [hn]
        have hmv : Hid (meanV (u, n, g) = -1 ∧ gq (u, n, g) = 0) := by unfold Hid; simp [meanV, gq, hn]
        clear hn
        rcases hy' with h | h
        all_goals
          repeat' (first | fail | go_values | go_skip | go_guarded | go_step | go_upon | (simp only []; go_step) | (go_ite <;> go_prune <;> (try go_simp)))
          all_goals go_returns
          all_goals exact ⟨by rw [hTH.out, hmv.out.1, hmv.out.2]; rfl, hB1⟩
      · have hn' : (n == 0) = false := by simp [hn]
        have hmv : Hid (meanV (u, n, g) = Pl.nr u n ∧ gq (u, n, g) = g) := by unfold Hid; simp [meanV, gq, hn]
        have hn0 : 0 < n := by omega
        clear hn
        rw [hmv.out.2]
        rcases hy' with h | h
        all_goals
          repeat' (first | fail | go_values | go_skip | go_guarded | go_step | go_upon | (simp only []; go_step) | (go_ite <;> go_prune <;> (try go_simp)))
          all_goals
            refine (impl_nearest _ _ _ (by omega) (by omega) (by omega)).mono ?_
            rintro e w' ⟨rfl, rfl⟩
            repeat' (first | fail | go_values | go_skip | go_guarded | go_step | go_upon | (simp only []; go_step) | (go_ite <;> go_prune <;> (try go_simp)))
          all_goals go_returns
          all_goals exact ⟨by rw [hTH.out, hmv.out.1, hmv.out.2]; rfl, hB1⟩
end Go.Proofs.Ytdedmiennpbfcaa
