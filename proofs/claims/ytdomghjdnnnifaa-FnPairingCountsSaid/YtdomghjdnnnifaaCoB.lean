/- Costs and misses, bounds of sums: contracts. -/
import Derived.Test.YtdomghjdnnnifaaCoA
namespace Go.Proofs.Ytdomghjdnnnifaa
open Go.RowKit Go.ChangeShapes Go.WideShapes Go.ChangeAt
set_option linter.unusedVariables false
set_option linter.unusedSimpArgs false
def codeC (xss : List (List Int)) (miss : Int) : Int := if areB xss then (if inB miss 0 1000000000000 then 0 else 2) else 1
def minR (miss : Int) (xs : List Int) (k : Nat) : Int := (xs.take k).foldl (fun m c => if 0 ≤ c then min m c else m) miss
def sumR (miss : Int) (xss : List (List Int)) (k : Nat) : Int := (xss.take k).foldl (fun s xs => s + minR miss xs xs.length) 0
theorem minR_succ {miss : Int} {xs : List Int} {k : Nat} {c : Int} (h : xs[k]? = some c) : minR miss xs (k + 1) = if 0 ≤ c then min (minR miss xs k) c else minR miss xs k := by
  rw [minR, take_snoc h, List.foldl_append]; rfl
theorem sumR_succ {miss : Int} {xss : List (List Int)} {k : Nat} {xs : List Int} (h : xss[k]? = some xs) : sumR miss xss (k + 1) = sumR miss xss k + minR miss xs xs.length := by
  rw [sumR, take_snoc h, List.foldl_append]; rfl
theorem minR_bd {miss : Int} (h0 : 0 ≤ miss) {xs : List Int} {k : Nat} : 0 ≤ minR miss xs k ∧ minR miss xs k ≤ miss := by
  induction k with
  | zero => simp [minR]; exact h0
  | succ k ih =>
    by_cases hl : k < xs.length
    · rw [minR_succ (List.getElem?_eq_getElem hl)]
      split <;> omega
    · rw [minR, List.take_of_length_le (by omega)]
      rw [minR, List.take_of_length_le (by omega)] at ih
      exact ih
theorem sumR_bd {miss : Int} (h0 : 0 ≤ miss) (h1 : miss ≤ 1000000000000) {xss : List (List Int)} {k : Nat} : 0 ≤ sumR miss xss k ∧ sumR miss xss k ≤ k * 1000000000000 := by
  induction k with
  | zero => simp [sumR]
  | succ k ih =>
    by_cases hl : k < xss.length
    · rw [sumR_succ (List.getElem?_eq_getElem hl)]
      have := minR_bd h0 (xs := xss[k]) (k := xss[k].length)
      omega
    · rw [sumR, List.take_of_length_le (by omega)]
      rw [sumR, List.take_of_length_le (by omega)] at ih
      omega
theorem are_facts {xss : List (List Int)} (h : areB xss = true) : xss.length ≤ 6 ∧ ∀ (i : Nat) (xs : List Int), xss[i]? = some xs → xs.length ≤ 6 ∧ xs.length = (xss.getD 0 []).length ∧ allB xs (-1) 1000000000000 = true := by
  simp only [areB, Bool.and_eq_true] at h
  refine ⟨of_decide_eq_true h.1, fun i xs hx => ?_⟩
  have h1 := arek_of h.2 (lt_of_get hx)
  rw [lget_of hx] at h1
  simp only [rowB, Bool.and_eq_true] at h1
  exact ⟨of_decide_eq_true h1.1, of_decide_eq_true h1.2.1, h1.2.2⟩
theorem codeC_0 {xss : List (List Int)} {miss : Int} (h : codeC xss miss = 0) : areB xss = true ∧ 0 ≤ miss ∧ miss ≤ 1000000000000 := by
  unfold codeC at h
  split at h
  · split at h
    · rename_i h1 h2
      exact ⟨h1, of_inB h2⟩
    · simp at h
  · simp at h
def fBound (xss : List (List Int)) (miss : Int) : Int × Int := if codeC xss miss = 0 then (sumR miss xss xss.length, 0) else (0, codeC xss miss)
theorem impl_costCode (A : Option Addr) (c : Nat) (xss : List (List Int)) (miss : Int) (w : World) (hr : II64 w w.heap.size A xss) (hl : xss.length ≤ 1099511627776) (hm : ∀ (i : Nat) (xs : List Int), xss[i]? = some xs → xs.length ≤ 1099511627776) :
    Calls Try.prog 55 #[.slice A xss.length c, .int .i64 miss] w fun e w' => e = .returned (.int .i64 (codeC xss miss)) ∧ Below w.heap.size w w' := by
  cases h1 : areB xss
  · go_enter Try.func55, Try.ntmps55
    repeat' (first | fail | go_values | go_skip | go_guarded | go_step | go_upon | (simp only []; go_step) | (go_ite <;> go_prune <;> (try go_simp)))
    refine (impl_AreCosts _ _ _ _ (hr.up (by repeat' (first | (with_reducible exact Below.refl _ _) | (with_reducible assumption) | (with_reducible refine Below.new ?_ _) | (with_reducible refine Below.alloc ?_ ?_ _) | (with_reducible refine Below.drew ?_) | (with_reducible refine below_drewN ?_ _) | (with_reducible refine Below.setCell ?_ ?_ _) | (refine Below.next ?_ (by with_reducible assumption)) | (refine Below.row ?_ (by with_reducible assumption) (by omega)) | (refine Below.trans ?_ (by with_reducible assumption)) | (refine Below.after ?_ ?_ (by with_reducible assumption)) | go_size))) hl hm).mono ?_; rintro e w1 ⟨rfl, hbw1⟩; have hzw1 := hbw1.size; (try simp only [World.size_alloc, World.size_setCell, World.size_drew] at hzw1)
    rw [h1]
    repeat' (first | fail | go_values | go_skip | go_guarded | go_step | go_upon | (simp only []; go_step) | (go_ite <;> go_prune <;> (try go_simp)))
    all_goals go_returns
    all_goals exact ⟨ret_int (by simp [codeC, h1]), by repeat' (first | (with_reducible exact Below.refl _ _) | (with_reducible assumption) | (with_reducible refine Below.new ?_ _) | (with_reducible refine Below.alloc ?_ ?_ _) | (with_reducible refine Below.drew ?_) | (with_reducible refine below_drewN ?_ _) | (with_reducible refine Below.setCell ?_ ?_ _) | (refine Below.next ?_ (by with_reducible assumption)) | (refine Below.row ?_ (by with_reducible assumption) (by omega)) | (refine Below.trans ?_ (by with_reducible assumption)) | (refine Below.after ?_ ?_ (by with_reducible assumption)) | go_size)⟩
  · cases h2 : inB miss 0 1000000000000
    · go_enter Try.func55, Try.ntmps55
      repeat' (first | fail | go_values | go_skip | go_guarded | go_step | go_upon | (simp only []; go_step) | (go_ite <;> go_prune <;> (try go_simp)))
      refine (impl_AreCosts _ _ _ _ (hr.up (by repeat' (first | (with_reducible exact Below.refl _ _) | (with_reducible assumption) | (with_reducible refine Below.new ?_ _) | (with_reducible refine Below.alloc ?_ ?_ _) | (with_reducible refine Below.drew ?_) | (with_reducible refine below_drewN ?_ _) | (with_reducible refine Below.setCell ?_ ?_ _) | (refine Below.next ?_ (by with_reducible assumption)) | (refine Below.row ?_ (by with_reducible assumption) (by omega)) | (refine Below.trans ?_ (by with_reducible assumption)) | (refine Below.after ?_ ?_ (by with_reducible assumption)) | go_size))) hl hm).mono ?_; rintro e w1 ⟨rfl, hbw1⟩; have hzw1 := hbw1.size; (try simp only [World.size_alloc, World.size_setCell, World.size_drew] at hzw1)
      rw [h1]
      repeat' (first | (first | (go_at_call 77; refine (impl_within _ _ _ _).mono ?_; rintro e w' ⟨rfl, rfl⟩)) | go_values | go_skip | go_guarded | go_step | go_upon | (simp only []; go_step) | (go_ite <;> go_prune <;> (try go_simp)))
      all_goals go_returns
      all_goals exact ⟨ret_int (by simp [codeC, h1, h2]), by repeat' (first | (with_reducible exact Below.refl _ _) | (with_reducible assumption) | (with_reducible refine Below.new ?_ _) | (with_reducible refine Below.alloc ?_ ?_ _) | (with_reducible refine Below.drew ?_) | (with_reducible refine below_drewN ?_ _) | (with_reducible refine Below.setCell ?_ ?_ _) | (refine Below.next ?_ (by with_reducible assumption)) | (refine Below.row ?_ (by with_reducible assumption) (by omega)) | (refine Below.trans ?_ (by with_reducible assumption)) | (refine Below.after ?_ ?_ (by with_reducible assumption)) | go_size)⟩
    · go_enter Try.func55, Try.ntmps55
      repeat' (first | fail | go_values | go_skip | go_guarded | go_step | go_upon | (simp only []; go_step) | (go_ite <;> go_prune <;> (try go_simp)))
      refine (impl_AreCosts _ _ _ _ (hr.up (by repeat' (first | (with_reducible exact Below.refl _ _) | (with_reducible assumption) | (with_reducible refine Below.new ?_ _) | (with_reducible refine Below.alloc ?_ ?_ _) | (with_reducible refine Below.drew ?_) | (with_reducible refine below_drewN ?_ _) | (with_reducible refine Below.setCell ?_ ?_ _) | (refine Below.next ?_ (by with_reducible assumption)) | (refine Below.row ?_ (by with_reducible assumption) (by omega)) | (refine Below.trans ?_ (by with_reducible assumption)) | (refine Below.after ?_ ?_ (by with_reducible assumption)) | go_size))) hl hm).mono ?_; rintro e w1 ⟨rfl, hbw1⟩; have hzw1 := hbw1.size; (try simp only [World.size_alloc, World.size_setCell, World.size_drew] at hzw1)
      rw [h1]
      repeat' (first | (first | (go_at_call 77; refine (impl_within _ _ _ _).mono ?_; rintro e w' ⟨rfl, rfl⟩)) | go_values | go_skip | go_guarded | go_step | go_upon | (simp only []; go_step) | (go_ite <;> go_prune <;> (try go_simp)))
      all_goals go_returns
      all_goals exact ⟨ret_int (by simp [codeC, h1, h2]), by repeat' (first | (with_reducible exact Below.refl _ _) | (with_reducible assumption) | (with_reducible refine Below.new ?_ _) | (with_reducible refine Below.alloc ?_ ?_ _) | (with_reducible refine Below.drew ?_) | (with_reducible refine below_drewN ?_ _) | (with_reducible refine Below.setCell ?_ ?_ _) | (refine Below.next ?_ (by with_reducible assumption)) | (refine Below.row ?_ (by with_reducible assumption) (by omega)) | (refine Below.trans ?_ (by with_reducible assumption)) | (refine Below.after ?_ ?_ (by with_reducible assumption)) | go_size)⟩
theorem spec_l15Miss (n : Int) (w : World) : Calls Try.prog 61 #[.int .i64 n] w fun e w' => e = .returned (.bool (inB n 0 1000000000000)) ∧ w = w' := by
  go_enter Try.func61, Try.ntmps61
  go_wp2_with (first | (go_at_call 76; refine (spec_l01In _ _ _ _).mono ?_; rintro e w' ⟨rfl, rfl⟩))
  go_ret
  exact ⟨rfl, rfl⟩
theorem spec_l15Code (A : Option Addr) (c : Nat) (xss : List (List Int)) (miss : Int) (w : World) (hr : II64 w w.heap.size A xss) (hl : xss.length ≤ 1099511627776) (hm : ∀ (i : Nat) (xs : List Int), xss[i]? = some xs → xs.length ≤ 1099511627776) :
    Calls Try.prog 54 #[.slice A xss.length c, .int .i64 miss] w fun e w' => e = .returned (.int .i64 (codeC xss miss)) ∧ Below w.heap.size w w' := by
  cases h1 : areB xss
  · go_enter Try.func54, Try.ntmps54
    repeat' (first | fail | go_values | go_skip | go_guarded | go_step | go_upon | (simp only []; go_step) | (go_ite <;> go_prune <;> (try go_simp)))
    refine (spec_AreCosts _ _ _ _ (hr.up (by repeat' (first | (with_reducible exact Below.refl _ _) | (with_reducible assumption) | (with_reducible refine Below.new ?_ _) | (with_reducible refine Below.alloc ?_ ?_ _) | (with_reducible refine Below.drew ?_) | (with_reducible refine below_drewN ?_ _) | (with_reducible refine Below.setCell ?_ ?_ _) | (refine Below.next ?_ (by with_reducible assumption)) | (refine Below.row ?_ (by with_reducible assumption) (by omega)) | (refine Below.trans ?_ (by with_reducible assumption)) | (refine Below.after ?_ ?_ (by with_reducible assumption)) | go_size))) hl hm).mono ?_; rintro e w1 ⟨rfl, hbw1⟩; have hzw1 := hbw1.size; (try simp only [World.size_alloc, World.size_setCell, World.size_drew] at hzw1)
    rw [h1]
    repeat' (first | fail | go_values | go_skip | go_guarded | go_step | go_upon | (simp only []; go_step) | (go_ite <;> go_prune <;> (try go_simp)))
    all_goals go_returns
    all_goals exact ⟨ret_int (by simp [codeC, h1]), by repeat' (first | (with_reducible exact Below.refl _ _) | (with_reducible assumption) | (with_reducible refine Below.new ?_ _) | (with_reducible refine Below.alloc ?_ ?_ _) | (with_reducible refine Below.drew ?_) | (with_reducible refine below_drewN ?_ _) | (with_reducible refine Below.setCell ?_ ?_ _) | (refine Below.next ?_ (by with_reducible assumption)) | (refine Below.row ?_ (by with_reducible assumption) (by omega)) | (refine Below.trans ?_ (by with_reducible assumption)) | (refine Below.after ?_ ?_ (by with_reducible assumption)) | go_size)⟩
  · cases h2 : inB miss 0 1000000000000
    · go_enter Try.func54, Try.ntmps54
      repeat' (first | fail | go_values | go_skip | go_guarded | go_step | go_upon | (simp only []; go_step) | (go_ite <;> go_prune <;> (try go_simp)))
      refine (spec_AreCosts _ _ _ _ (hr.up (by repeat' (first | (with_reducible exact Below.refl _ _) | (with_reducible assumption) | (with_reducible refine Below.new ?_ _) | (with_reducible refine Below.alloc ?_ ?_ _) | (with_reducible refine Below.drew ?_) | (with_reducible refine below_drewN ?_ _) | (with_reducible refine Below.setCell ?_ ?_ _) | (refine Below.next ?_ (by with_reducible assumption)) | (refine Below.row ?_ (by with_reducible assumption) (by omega)) | (refine Below.trans ?_ (by with_reducible assumption)) | (refine Below.after ?_ ?_ (by with_reducible assumption)) | go_size))) hl hm).mono ?_; rintro e w1 ⟨rfl, hbw1⟩; have hzw1 := hbw1.size; (try simp only [World.size_alloc, World.size_setCell, World.size_drew] at hzw1)
      rw [h1]
      repeat' (first | (first | (go_at_call 61; refine (spec_l15Miss _ _).mono ?_; rintro e w' ⟨rfl, rfl⟩)) | go_values | go_skip | go_guarded | go_step | go_upon | (simp only []; go_step) | (go_ite <;> go_prune <;> (try go_simp)))
      all_goals go_returns
      all_goals exact ⟨ret_int (by simp [codeC, h1, h2]), by repeat' (first | (with_reducible exact Below.refl _ _) | (with_reducible assumption) | (with_reducible refine Below.new ?_ _) | (with_reducible refine Below.alloc ?_ ?_ _) | (with_reducible refine Below.drew ?_) | (with_reducible refine below_drewN ?_ _) | (with_reducible refine Below.setCell ?_ ?_ _) | (refine Below.next ?_ (by with_reducible assumption)) | (refine Below.row ?_ (by with_reducible assumption) (by omega)) | (refine Below.trans ?_ (by with_reducible assumption)) | (refine Below.after ?_ ?_ (by with_reducible assumption)) | go_size)⟩
    · go_enter Try.func54, Try.ntmps54
      repeat' (first | fail | go_values | go_skip | go_guarded | go_step | go_upon | (simp only []; go_step) | (go_ite <;> go_prune <;> (try go_simp)))
      refine (spec_AreCosts _ _ _ _ (hr.up (by repeat' (first | (with_reducible exact Below.refl _ _) | (with_reducible assumption) | (with_reducible refine Below.new ?_ _) | (with_reducible refine Below.alloc ?_ ?_ _) | (with_reducible refine Below.drew ?_) | (with_reducible refine below_drewN ?_ _) | (with_reducible refine Below.setCell ?_ ?_ _) | (refine Below.next ?_ (by with_reducible assumption)) | (refine Below.row ?_ (by with_reducible assumption) (by omega)) | (refine Below.trans ?_ (by with_reducible assumption)) | (refine Below.after ?_ ?_ (by with_reducible assumption)) | go_size))) hl hm).mono ?_; rintro e w1 ⟨rfl, hbw1⟩; have hzw1 := hbw1.size; (try simp only [World.size_alloc, World.size_setCell, World.size_drew] at hzw1)
      rw [h1]
      repeat' (first | (first | (go_at_call 61; refine (spec_l15Miss _ _).mono ?_; rintro e w' ⟨rfl, rfl⟩)) | go_values | go_skip | go_guarded | go_step | go_upon | (simp only []; go_step) | (go_ite <;> go_prune <;> (try go_simp)))
      all_goals go_returns
      all_goals exact ⟨ret_int (by simp [codeC, h1, h2]), by repeat' (first | (with_reducible exact Below.refl _ _) | (with_reducible assumption) | (with_reducible refine Below.new ?_ _) | (with_reducible refine Below.alloc ?_ ?_ _) | (with_reducible refine Below.drew ?_) | (with_reducible refine below_drewN ?_ _) | (with_reducible refine Below.setCell ?_ ?_ _) | (refine Below.next ?_ (by with_reducible assumption)) | (refine Below.row ?_ (by with_reducible assumption) (by omega)) | (refine Below.trans ?_ (by with_reducible assumption)) | (refine Below.after ?_ ?_ (by with_reducible assumption)) | go_size)⟩
set_option maxHeartbeats 800000 in
theorem impl_SumBound (A : Option Addr) (c : Nat) (xss : List (List Int)) (miss : Int) (w : World) (hr : II64 w w.heap.size A xss) (hl : xss.length ≤ 1099511627776) (hm : ∀ (i : Nat) (xs : List Int), xss[i]? = some xs → xs.length ≤ 1099511627776) :
    Calls Try.prog 25 #[.slice A xss.length c, .int .i64 miss] w fun e w' => e = .returned (.tuple #[.int .i64 (fBound xss miss).1, .int .i64 (fBound xss miss).2]) ∧ Below w.heap.size w w' := by
  by_cases hc : codeC xss miss = 0
  · have ef : fBound xss miss = (sumR miss xss xss.length, 0) := by simp [fBound, hc]
    rw [ef]
    obtain ⟨hA, hm0, hm1⟩ := codeC_0 hc
    have fA := Lib.hid (are_facts hA)
    go_enter Try.func25, Try.ntmps25
    repeat' (first | fail | go_values | go_skip | go_guarded | go_step | go_upon | (simp only []; go_step) | (go_ite <;> go_prune <;> (try go_simp)))
    refine (impl_costCode _ _ _ _ _ (hr.up (by repeat' (first | (with_reducible exact Below.refl _ _) | (with_reducible assumption) | (with_reducible refine Below.new ?_ _) | (with_reducible refine Below.alloc ?_ ?_ _) | (with_reducible refine Below.drew ?_) | (with_reducible refine below_drewN ?_ _) | (with_reducible refine Below.setCell ?_ ?_ _) | (refine Below.next ?_ (by with_reducible assumption)) | (refine Below.row ?_ (by with_reducible assumption) (by omega)) | (refine Below.trans ?_ (by with_reducible assumption)) | (refine Below.after ?_ ?_ (by with_reducible assumption)) | go_size))) hl hm).mono ?_; rintro e w1 ⟨rfl, hbw1⟩; have hzw1 := hbw1.size; (try simp only [World.size_alloc, World.size_setCell, World.size_drew] at hzw1)
    rw [hc]
    repeat' (first | fail | go_values | go_skip | go_guarded | go_step | go_upon | (simp only []; go_step) | (go_ite <;> go_prune <;> (try go_simp)))
    go_loopw [7, 21] (fun s i wr => ∃ k : Nat, k ≤ xss.length ∧ i = .int .i64 k ∧ s = .int .i64 (sumR miss xss k) ∧ Below w.heap.size w wr) (fun _ i _ => xss.length - (intOf i).toNat)
    case atStart => exact ⟨0, Nat.zero_le _, rfl, rfl, by repeat' (first | (with_reducible exact Below.refl _ _) | (with_reducible assumption) | (with_reducible refine Below.new ?_ _) | (with_reducible refine Below.alloc ?_ ?_ _) | (with_reducible refine Below.drew ?_) | (with_reducible refine below_drewN ?_ _) | (with_reducible refine Below.setCell ?_ ?_ _) | (refine Below.next ?_ (by with_reducible assumption)) | (refine Below.row ?_ (by with_reducible assumption) (by omega)) | (refine Below.trans ?_ (by with_reducible assumption)) | (refine Below.after ?_ ?_ (by with_reducible assumption)) | go_size)⟩
    case round =>
      obtain ⟨k, hk, rfl, rfl, hbr⟩ := hrel
      by_cases hlt : k < xss.length
      · obtain ⟨xs, hx⟩ := get_of_lt hlt
        obtain ⟨b, o, A', c', rfl, hb, hcc, hi⟩ := (hr.up hbr).at_ hx
        have hf := fA.out.2 k xs hx
        have hxl : xs.length ≤ 6 := hf.1
        have hs2 := Lib.hid (sumR_succ (miss := miss) hx)
        have hb1 := sumR_bd hm0 hm1 (xss := xss) (k := k)
        have hk6 : k ≤ 6 := by have := fA.out.1; omega
        have p0 : (0 : Int) ≤ (k : Int) := by omega
        have p1 : (k : Int) < (xss.length : Int) := by omega
        clear hx hf
        obtain ⟨wo, hwo⟩ : ∃ wo, wo = wr := ⟨_, rfl⟩
        subst hwo
        repeat' (first | fail | go_values | go_skip | go_guarded | go_step | go_upon | (simp only []; go_step) | (go_ite <;> go_prune <;> (try go_simp)))
        go_loopw [10, 28] (fun l j wr => ∃ n : Nat, n ≤ xs.length ∧ j = .int .i64 n ∧ l = .int .i64 (minR miss xs n) ∧ Below wo.heap.size wo wr) (fun _ j _ => xs.length - (intOf j).toNat)
        case atStart => exact ⟨0, Nat.zero_le _, rfl, rfl, by repeat' (first | (with_reducible exact Below.refl _ _) | (with_reducible assumption) | (with_reducible refine Below.new ?_ _) | (with_reducible refine Below.alloc ?_ ?_ _) | (with_reducible refine Below.drew ?_) | (with_reducible refine below_drewN ?_ _) | (with_reducible refine Below.setCell ?_ ?_ _) | (refine Below.next ?_ (by with_reducible assumption)) | (refine Below.row ?_ (by with_reducible assumption) (by omega)) | (refine Below.trans ?_ (by with_reducible assumption)) | (refine Below.after ?_ ?_ (by with_reducible assumption)) | go_size)⟩
        case round =>
          obtain ⟨n, hn, rfl, rfl, hbq⟩ := hrel
          have hcc2 : wr.cell? ⟨b, o + k, none⟩ = some (.slice A' xs.length c') := by repeat' (first | (with_reducible assumption) | ((with_reducible apply bx_new) <;> first | (simp only [World.size_alloc, World.size_setCell]; done) | rfl) | (with_reducible apply bx_alloc) | (with_reducible apply bx_other; (first | (simp only [World.size_alloc, World.size_setCell]; omega) | omega)) | (with_reducible apply bx_same) | (with_reducible apply bx_drew) | (with_reducible apply bx_drew1) | (with_reducible apply bx_keep; with_reducible assumption) | fail)
          by_cases hln : n < xs.length
          · obtain ⟨y, hy⟩ := get_of_lt hln
            obtain ⟨b2, o2, rfl, hb2, hc2⟩ := (hi.up hbq).at_ hy
            have hm2 := minR_succ (miss := miss) hy
            have hbd := minR_bd hm0 (xs := xs) (k := n)
            have q0 : (0 : Int) ≤ (n : Int) := by omega
            have q1 : (n : Int) < (xs.length : Int) := by omega
            clear hy
            by_cases hy0 : 0 ≤ y
            · rw [if_pos hy0] at hm2
              have hm3 := Lib.hid hm2
              clear hm2
              repeat' (first | fail | go_values | go_skip | go_guarded | go_step | go_upon | (simp only []; go_step) | (go_ite <;> go_prune <;> (try go_simp)))
              all_goals (try go_quiet (fail))
              all_goals repeat' (first | fail | go_values | go_skip | go_guarded | go_step | go_upon | (simp only []; go_step) | (go_ite <;> go_prune <;> (try go_simp)))
              all_goals first | exact ⟨⟨n + 1, by omega, by go_num, by rw [hm3.out]; first | rfl | (go_num; done) | (simp; omega), by repeat' (first | (with_reducible exact Below.refl _ _) | (with_reducible assumption) | (with_reducible refine Below.new ?_ _) | (with_reducible refine Below.alloc ?_ ?_ _) | (with_reducible refine Below.drew ?_) | (with_reducible refine below_drewN ?_ _) | (with_reducible refine Below.setCell ?_ ?_ _) | (refine Below.next ?_ (by with_reducible assumption)) | (refine Below.row ?_ (by with_reducible assumption) (by omega)) | (refine Below.trans ?_ (by with_reducible assumption)) | (refine Below.after ?_ ?_ (by with_reducible assumption)) | go_size)⟩, by simp [intOf]; omega⟩ | exact ⟨⟨n + 1, by omega, by omega, by rw [hm3.out]; omega⟩, by simp [intOf]; omega⟩ | exact ⟨⟨n + 1, by omega, by omega, by rw [hm3.out]; omega, by repeat' (first | (with_reducible exact Below.refl _ _) | (with_reducible assumption) | (with_reducible refine Below.new ?_ _) | (with_reducible refine Below.alloc ?_ ?_ _) | (with_reducible refine Below.drew ?_) | (with_reducible refine below_drewN ?_ _) | (with_reducible refine Below.setCell ?_ ?_ _) | (refine Below.next ?_ (by with_reducible assumption)) | (refine Below.row ?_ (by with_reducible assumption) (by omega)) | (refine Below.trans ?_ (by with_reducible assumption)) | (refine Below.after ?_ ?_ (by with_reducible assumption)) | go_size)⟩, by simp [intOf]; omega⟩
            · rw [if_neg hy0] at hm2
              have hm3 := Lib.hid hm2
              clear hm2
              repeat' (first | fail | go_values | go_skip | go_guarded | go_step | go_upon | (simp only []; go_step) | (go_ite <;> go_prune <;> (try go_simp)))
              all_goals (try go_quiet (fail))
              all_goals repeat' (first | fail | go_values | go_skip | go_guarded | go_step | go_upon | (simp only []; go_step) | (go_ite <;> go_prune <;> (try go_simp)))
              all_goals exact ⟨⟨n + 1, by omega, by go_num, by rw [hm3.out], by repeat' (first | (with_reducible exact Below.refl _ _) | (with_reducible assumption) | (with_reducible refine Below.new ?_ _) | (with_reducible refine Below.alloc ?_ ?_ _) | (with_reducible refine Below.drew ?_) | (with_reducible refine below_drewN ?_ _) | (with_reducible refine Below.setCell ?_ ?_ _) | (refine Below.next ?_ (by with_reducible assumption)) | (refine Below.row ?_ (by with_reducible assumption) (by omega)) | (refine Below.trans ?_ (by with_reducible assumption)) | (refine Below.after ?_ ?_ (by with_reducible assumption)) | go_size)⟩, by simp [intOf]; omega⟩
          · have e3 : n = xs.length := by omega
            subst e3
            have hbd := minR_bd hm0 (xs := xs) (k := xs.length)
            repeat' (first | fail | go_values | go_skip | go_guarded | go_step | go_upon | (simp only []; go_step) | (go_ite <;> go_prune <;> (try go_simp)))
            all_goals exact ⟨⟨k + 1, by omega, by go_num, by rw [hs2.out], by repeat' (first | (with_reducible exact Below.refl _ _) | (with_reducible assumption) | (with_reducible refine Below.new ?_ _) | (with_reducible refine Below.alloc ?_ ?_ _) | (with_reducible refine Below.drew ?_) | (with_reducible refine below_drewN ?_ _) | (with_reducible refine Below.setCell ?_ ?_ _) | (refine Below.next ?_ (by with_reducible assumption)) | (refine Below.row ?_ (by with_reducible assumption) (by omega)) | (refine Below.trans ?_ (by with_reducible assumption)) | (refine Below.after ?_ ?_ (by with_reducible assumption)) | go_size)⟩, by simp [intOf]; omega⟩
      · have e2 : k = xss.length := by omega
        subst e2
        repeat' (first | fail | go_values | go_skip | go_guarded | go_step | go_upon | (simp only []; go_step) | (go_ite <;> go_prune <;> (try go_simp)))
        all_goals go_returns
        all_goals exact ⟨rfl, by repeat' (first | (with_reducible exact Below.refl _ _) | (with_reducible assumption) | (with_reducible refine Below.new ?_ _) | (with_reducible refine Below.alloc ?_ ?_ _) | (with_reducible refine Below.drew ?_) | (with_reducible refine below_drewN ?_ _) | (with_reducible refine Below.setCell ?_ ?_ _) | (refine Below.next ?_ (by with_reducible assumption)) | (refine Below.row ?_ (by with_reducible assumption) (by omega)) | (refine Below.trans ?_ (by with_reducible assumption)) | (refine Below.after ?_ ?_ (by with_reducible assumption)) | go_size)⟩
  · have ef : fBound xss miss = (0, codeC xss miss) := by simp [fBound, hc]
    rw [ef]
    have e1 : (codeC xss miss != 0) = true := by simpa using hc
    go_enter Try.func25, Try.ntmps25
    repeat' (first | fail | go_values | go_skip | go_guarded | go_step | go_upon | (simp only []; go_step) | (go_ite <;> go_prune <;> (try go_simp)))
    refine (impl_costCode _ _ _ _ _ (hr.up (by repeat' (first | (with_reducible exact Below.refl _ _) | (with_reducible assumption) | (with_reducible refine Below.new ?_ _) | (with_reducible refine Below.alloc ?_ ?_ _) | (with_reducible refine Below.drew ?_) | (with_reducible refine below_drewN ?_ _) | (with_reducible refine Below.setCell ?_ ?_ _) | (refine Below.next ?_ (by with_reducible assumption)) | (refine Below.row ?_ (by with_reducible assumption) (by omega)) | (refine Below.trans ?_ (by with_reducible assumption)) | (refine Below.after ?_ ?_ (by with_reducible assumption)) | go_size))) hl hm).mono ?_; rintro e w1 ⟨rfl, hbw1⟩; have hzw1 := hbw1.size; (try simp only [World.size_alloc, World.size_setCell, World.size_drew] at hzw1)
    repeat' (first | fail | go_values | go_skip | go_guarded | go_step | go_upon | (simp only []; go_step) | (go_ite <;> go_prune <;> (try go_simp)))
    all_goals go_returns
    all_goals exact ⟨rfl, by repeat' (first | (with_reducible exact Below.refl _ _) | (with_reducible assumption) | (with_reducible refine Below.new ?_ _) | (with_reducible refine Below.alloc ?_ ?_ _) | (with_reducible refine Below.drew ?_) | (with_reducible refine below_drewN ?_ _) | (with_reducible refine Below.setCell ?_ ?_ _) | (refine Below.next ?_ (by with_reducible assumption)) | (refine Below.row ?_ (by with_reducible assumption) (by omega)) | (refine Below.trans ?_ (by with_reducible assumption)) | (refine Below.after ?_ ?_ (by with_reducible assumption)) | go_size)⟩
set_option maxHeartbeats 800000 in
theorem spec_SumBound (A : Option Addr) (c : Nat) (xss : List (List Int)) (miss : Int) (w : World) (hr : II64 w w.heap.size A xss) (hl : xss.length ≤ 1099511627776) (hm : ∀ (i : Nat) (xs : List Int), xss[i]? = some xs → xs.length ≤ 1099511627776) :
    Calls Try.prog 24 #[.slice A xss.length c, .int .i64 miss] w fun e w' => e = .returned (.tuple #[.int .i64 (fBound xss miss).1, .int .i64 (fBound xss miss).2]) ∧ Below w.heap.size w w' := by
  by_cases hc : codeC xss miss = 0
  · have ef : fBound xss miss = (sumR miss xss xss.length, 0) := by simp [fBound, hc]
    rw [ef]
    obtain ⟨hA, hm0, hm1⟩ := codeC_0 hc
    have fA := Lib.hid (are_facts hA)
    go_enter Try.func24, Try.ntmps24
    repeat' (first | fail | go_values | go_skip | go_guarded | go_step | go_upon | (simp only []; go_step) | (go_ite <;> go_prune <;> (try go_simp)))
    refine (spec_l15Code _ _ _ _ _ (hr.up (by repeat' (first | (with_reducible exact Below.refl _ _) | (with_reducible assumption) | (with_reducible refine Below.new ?_ _) | (with_reducible refine Below.alloc ?_ ?_ _) | (with_reducible refine Below.drew ?_) | (with_reducible refine below_drewN ?_ _) | (with_reducible refine Below.setCell ?_ ?_ _) | (refine Below.next ?_ (by with_reducible assumption)) | (refine Below.row ?_ (by with_reducible assumption) (by omega)) | (refine Below.trans ?_ (by with_reducible assumption)) | (refine Below.after ?_ ?_ (by with_reducible assumption)) | go_size))) hl hm).mono ?_; rintro e w1 ⟨rfl, hbw1⟩; have hzw1 := hbw1.size; (try simp only [World.size_alloc, World.size_setCell, World.size_drew] at hzw1)
    rw [hc]
    repeat' (first | fail | go_values | go_skip | go_guarded | go_step | go_upon | (simp only []; go_step) | (go_ite <;> go_prune <;> (try go_simp)))
    go_loopw [7, 8] (fun s i wr => ∃ k : Nat, k ≤ xss.length ∧ i = .int .i64 k ∧ s = .int .i64 (sumR miss xss k) ∧ Below w.heap.size w wr) (fun _ i _ => xss.length - (intOf i).toNat)
    case atStart => exact ⟨0, Nat.zero_le _, rfl, rfl, by repeat' (first | (with_reducible exact Below.refl _ _) | (with_reducible assumption) | (with_reducible refine Below.new ?_ _) | (with_reducible refine Below.alloc ?_ ?_ _) | (with_reducible refine Below.drew ?_) | (with_reducible refine below_drewN ?_ _) | (with_reducible refine Below.setCell ?_ ?_ _) | (refine Below.next ?_ (by with_reducible assumption)) | (refine Below.row ?_ (by with_reducible assumption) (by omega)) | (refine Below.trans ?_ (by with_reducible assumption)) | (refine Below.after ?_ ?_ (by with_reducible assumption)) | go_size)⟩
    case round =>
      obtain ⟨k, hk, rfl, rfl, hbr⟩ := hrel
      by_cases hlt : k < xss.length
      · obtain ⟨xs, hx⟩ := get_of_lt hlt
        obtain ⟨b, o, A', c', rfl, hb, hcc, hi⟩ := (hr.up hbr).at_ hx
        have hf := fA.out.2 k xs hx
        have hxl : xs.length ≤ 6 := hf.1
        have hs2 := Lib.hid (sumR_succ (miss := miss) hx)
        have hb1 := sumR_bd hm0 hm1 (xss := xss) (k := k)
        have hk6 : k ≤ 6 := by have := fA.out.1; omega
        have p0 : (0 : Int) ≤ (k : Int) := by omega
        have p1 : (k : Int) < (xss.length : Int) := by omega
        clear hx hf
        obtain ⟨wo, hwo⟩ : ∃ wo, wo = wr := ⟨_, rfl⟩
        subst hwo
        repeat' (first | fail | go_values | go_skip | go_guarded | go_step | go_upon | (simp only []; go_step) | (go_ite <;> go_prune <;> (try go_simp)))
        go_loopw [9, 10] (fun l j wr => ∃ n : Nat, n ≤ xs.length ∧ j = .int .i64 n ∧ l = .int .i64 (minR miss xs n) ∧ Below wo.heap.size wo wr) (fun _ j _ => xs.length - (intOf j).toNat)
        case atStart => exact ⟨0, Nat.zero_le _, rfl, rfl, by repeat' (first | (with_reducible exact Below.refl _ _) | (with_reducible assumption) | (with_reducible refine Below.new ?_ _) | (with_reducible refine Below.alloc ?_ ?_ _) | (with_reducible refine Below.drew ?_) | (with_reducible refine below_drewN ?_ _) | (with_reducible refine Below.setCell ?_ ?_ _) | (refine Below.next ?_ (by with_reducible assumption)) | (refine Below.row ?_ (by with_reducible assumption) (by omega)) | (refine Below.trans ?_ (by with_reducible assumption)) | (refine Below.after ?_ ?_ (by with_reducible assumption)) | go_size)⟩
        case round =>
          obtain ⟨n, hn, rfl, rfl, hbq⟩ := hrel
          have hcc2 : wr.cell? ⟨b, o + k, none⟩ = some (.slice A' xs.length c') := by repeat' (first | (with_reducible assumption) | ((with_reducible apply bx_new) <;> first | (simp only [World.size_alloc, World.size_setCell]; done) | rfl) | (with_reducible apply bx_alloc) | (with_reducible apply bx_other; (first | (simp only [World.size_alloc, World.size_setCell]; omega) | omega)) | (with_reducible apply bx_same) | (with_reducible apply bx_drew) | (with_reducible apply bx_drew1) | (with_reducible apply bx_keep; with_reducible assumption) | fail)
          by_cases hln : n < xs.length
          · obtain ⟨y, hy⟩ := get_of_lt hln
            obtain ⟨b2, o2, rfl, hb2, hc2⟩ := (hi.up hbq).at_ hy
            have hm2 := minR_succ (miss := miss) hy
            have hbd := minR_bd hm0 (xs := xs) (k := n)
            have q0 : (0 : Int) ≤ (n : Int) := by omega
            have q1 : (n : Int) < (xs.length : Int) := by omega
            clear hy
            by_cases hy0 : 0 ≤ y
            · rw [if_pos hy0] at hm2
              have hm3 := Lib.hid hm2
              clear hm2
              repeat' (first | fail | go_values | go_skip | go_guarded | go_step | go_upon | (simp only []; go_step) | (go_ite <;> go_prune <;> (try go_simp)))
              all_goals (try go_quiet (fail))
              all_goals repeat' (first | fail | go_values | go_skip | go_guarded | go_step | go_upon | (simp only []; go_step) | (go_ite <;> go_prune <;> (try go_simp)))
              all_goals first | exact ⟨⟨n + 1, by omega, by go_num, by rw [hm3.out]; first | rfl | (go_num; done) | (simp; omega), by repeat' (first | (with_reducible exact Below.refl _ _) | (with_reducible assumption) | (with_reducible refine Below.new ?_ _) | (with_reducible refine Below.alloc ?_ ?_ _) | (with_reducible refine Below.drew ?_) | (with_reducible refine below_drewN ?_ _) | (with_reducible refine Below.setCell ?_ ?_ _) | (refine Below.next ?_ (by with_reducible assumption)) | (refine Below.row ?_ (by with_reducible assumption) (by omega)) | (refine Below.trans ?_ (by with_reducible assumption)) | (refine Below.after ?_ ?_ (by with_reducible assumption)) | go_size)⟩, by simp [intOf]; omega⟩ | exact ⟨⟨n + 1, by omega, by omega, by rw [hm3.out]; omega⟩, by simp [intOf]; omega⟩ | exact ⟨⟨n + 1, by omega, by omega, by rw [hm3.out]; omega, by repeat' (first | (with_reducible exact Below.refl _ _) | (with_reducible assumption) | (with_reducible refine Below.new ?_ _) | (with_reducible refine Below.alloc ?_ ?_ _) | (with_reducible refine Below.drew ?_) | (with_reducible refine below_drewN ?_ _) | (with_reducible refine Below.setCell ?_ ?_ _) | (refine Below.next ?_ (by with_reducible assumption)) | (refine Below.row ?_ (by with_reducible assumption) (by omega)) | (refine Below.trans ?_ (by with_reducible assumption)) | (refine Below.after ?_ ?_ (by with_reducible assumption)) | go_size)⟩, by simp [intOf]; omega⟩
            · rw [if_neg hy0] at hm2
              have hm3 := Lib.hid hm2
              clear hm2
              repeat' (first | fail | go_values | go_skip | go_guarded | go_step | go_upon | (simp only []; go_step) | (go_ite <;> go_prune <;> (try go_simp)))
              all_goals (try go_quiet (fail))
              all_goals repeat' (first | fail | go_values | go_skip | go_guarded | go_step | go_upon | (simp only []; go_step) | (go_ite <;> go_prune <;> (try go_simp)))
              all_goals exact ⟨⟨n + 1, by omega, by go_num, by rw [hm3.out], by repeat' (first | (with_reducible exact Below.refl _ _) | (with_reducible assumption) | (with_reducible refine Below.new ?_ _) | (with_reducible refine Below.alloc ?_ ?_ _) | (with_reducible refine Below.drew ?_) | (with_reducible refine below_drewN ?_ _) | (with_reducible refine Below.setCell ?_ ?_ _) | (refine Below.next ?_ (by with_reducible assumption)) | (refine Below.row ?_ (by with_reducible assumption) (by omega)) | (refine Below.trans ?_ (by with_reducible assumption)) | (refine Below.after ?_ ?_ (by with_reducible assumption)) | go_size)⟩, by simp [intOf]; omega⟩
          · have e3 : n = xs.length := by omega
            subst e3
            have hbd := minR_bd hm0 (xs := xs) (k := xs.length)
            repeat' (first | fail | go_values | go_skip | go_guarded | go_step | go_upon | (simp only []; go_step) | (go_ite <;> go_prune <;> (try go_simp)))
            all_goals exact ⟨⟨k + 1, by omega, by go_num, by rw [hs2.out], by repeat' (first | (with_reducible exact Below.refl _ _) | (with_reducible assumption) | (with_reducible refine Below.new ?_ _) | (with_reducible refine Below.alloc ?_ ?_ _) | (with_reducible refine Below.drew ?_) | (with_reducible refine below_drewN ?_ _) | (with_reducible refine Below.setCell ?_ ?_ _) | (refine Below.next ?_ (by with_reducible assumption)) | (refine Below.row ?_ (by with_reducible assumption) (by omega)) | (refine Below.trans ?_ (by with_reducible assumption)) | (refine Below.after ?_ ?_ (by with_reducible assumption)) | go_size)⟩, by simp [intOf]; omega⟩
      · have e2 : k = xss.length := by omega
        subst e2
        repeat' (first | fail | go_values | go_skip | go_guarded | go_step | go_upon | (simp only []; go_step) | (go_ite <;> go_prune <;> (try go_simp)))
        all_goals go_returns
        all_goals exact ⟨rfl, by repeat' (first | (with_reducible exact Below.refl _ _) | (with_reducible assumption) | (with_reducible refine Below.new ?_ _) | (with_reducible refine Below.alloc ?_ ?_ _) | (with_reducible refine Below.drew ?_) | (with_reducible refine below_drewN ?_ _) | (with_reducible refine Below.setCell ?_ ?_ _) | (refine Below.next ?_ (by with_reducible assumption)) | (refine Below.row ?_ (by with_reducible assumption) (by omega)) | (refine Below.trans ?_ (by with_reducible assumption)) | (refine Below.after ?_ ?_ (by with_reducible assumption)) | go_size)⟩
  · have ef : fBound xss miss = (0, codeC xss miss) := by simp [fBound, hc]
    rw [ef]
    have e1 : (codeC xss miss != 0) = true := by simpa using hc
    go_enter Try.func24, Try.ntmps24
    repeat' (first | fail | go_values | go_skip | go_guarded | go_step | go_upon | (simp only []; go_step) | (go_ite <;> go_prune <;> (try go_simp)))
    refine (spec_l15Code _ _ _ _ _ (hr.up (by repeat' (first | (with_reducible exact Below.refl _ _) | (with_reducible assumption) | (with_reducible refine Below.new ?_ _) | (with_reducible refine Below.alloc ?_ ?_ _) | (with_reducible refine Below.drew ?_) | (with_reducible refine below_drewN ?_ _) | (with_reducible refine Below.setCell ?_ ?_ _) | (refine Below.next ?_ (by with_reducible assumption)) | (refine Below.row ?_ (by with_reducible assumption) (by omega)) | (refine Below.trans ?_ (by with_reducible assumption)) | (refine Below.after ?_ ?_ (by with_reducible assumption)) | go_size))) hl hm).mono ?_; rintro e w1 ⟨rfl, hbw1⟩; have hzw1 := hbw1.size; (try simp only [World.size_alloc, World.size_setCell, World.size_drew] at hzw1)
    repeat' (first | fail | go_values | go_skip | go_guarded | go_step | go_upon | (simp only []; go_step) | (go_ite <;> go_prune <;> (try go_simp)))
    all_goals go_returns
    all_goals exact ⟨rfl, by repeat' (first | (with_reducible exact Below.refl _ _) | (with_reducible assumption) | (with_reducible refine Below.new ?_ _) | (with_reducible refine Below.alloc ?_ ?_ _) | (with_reducible refine Below.drew ?_) | (with_reducible refine below_drewN ?_ _) | (with_reducible refine Below.setCell ?_ ?_ _) | (refine Below.next ?_ (by with_reducible assumption)) | (refine Below.row ?_ (by with_reducible assumption) (by omega)) | (refine Below.trans ?_ (by with_reducible assumption)) | (refine Below.after ?_ ?_ (by with_reducible assumption)) | go_size)⟩
end Go.Proofs.Ytdomghjdnnnifaa
