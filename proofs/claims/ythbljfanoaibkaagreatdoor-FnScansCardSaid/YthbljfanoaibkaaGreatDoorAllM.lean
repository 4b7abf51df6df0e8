/- Several texts in one. Printed by merge.py out of CoA, CoB, CoC, CoD, CoE, CoF, AllA, AllB, AllC, AllD, AllE, AllEb, AllF, AllG. -/
import Derived.Test.YthbljfanoaibkaaGreatDoorIIMem
import Derived.BigQuiet
import Derived.Test.YthbljfanoaibkaaGreatDoorLLOwn
import Derived.Test.YthbljfanoaibkaaGreatDoorMKit
import Derived.Laws.AppendOwnNone
import Derived.Lib.SliceRun
namespace Go.Proofs.YthbljfanoaibkaaGreatDoor
open Go.RowKit Go.ChangeShapes Go.WideShapes Go.ChangeAt
set_option linter.unusedVariables false
set_option linter.unusedSimpArgs false
def rowB (n0 : Nat) (xs : List Int) : Bool := decide (xs.length ≤ 6) && (decide (xs.length = n0) && allB xs (-1) 1000000000000)
def arek (xss : List (List Int)) (k : Nat) : Bool := (List.range k).all fun i => rowB (xss.getD 0 []).length (xss.getD i [])
/-- costs -/
def areB (xss : List (List Int)) : Bool := decide (xss.length ≤ 6) && arek xss xss.length
theorem arek_succ {xss : List (List Int)} {k : Nat} : arek xss (k + 1) = (arek xss k && rowB (xss.getD 0 []).length (xss.getD k [])) := by simp [arek, List.range_succ]
theorem arek_no {xss : List (List Int)} {k n : Nat} (hk : k < n) (h : rowB (xss.getD 0 []).length (xss.getD k []) = false) : arek xss n = false := by
  rw [arek, List.all_eq_false]
  exact ⟨k, by simpa using hk, by simp only [h]; decide⟩
theorem arek_of {xss : List (List Int)} {n k : Nat} (h : arek xss n = true) (hk : k < n) : rowB (xss.getD 0 []).length (xss.getD k []) = true := List.all_eq_true.1 h k (by simpa using hk)
theorem lget_of {xss : List (List Int)} {k : Nat} {xs : List Int} (h : xss[k]? = some xs) : xss.getD k [] = xs := by simp [List.getD, h]
end Go.Proofs.YthbljfanoaibkaaGreatDoor
namespace Go.Proofs.YthbljfanoaibkaaGreatDoor
open Go.RowKit Go.ChangeShapes Go.WideShapes Go.ChangeAt
set_option linter.unusedVariables false
set_option linter.unusedSimpArgs false
def codeC (xss : List (List Int)) (miss : Int) : Int := if areB xss then (if inB miss 0 1000000000000 then 0 else 2) else 1
def minR (miss : Int) (xs : List Int) (k : Nat) : Int := (xs.take k).foldl (fun m c => if 0 ≤ c then min m c else m) miss
def sumR (miss : Int) (xss : List (List Int)) (k : Nat) : Int := (xss.take k).foldl (fun s xs => s + minR miss xs xs.length) 0
theorem minR_succ {miss : Int} {xs : List Int} {k : Nat} {c : Int} (h : xs[k]? = some c) : minR miss xs (k + 1) = if 0 ≤ c then min (minR miss xs k) c else minR miss xs k := by
  rw [minR, take_snoc h, List.foldl_append]; rfl
theorem sumR_succ {miss : Int} {xss : List (List Int)} {k : Nat} {xs : List Int} (h : xss[k]? = some xs) : sumR miss xss (k + 1) = sumR miss xss k + minR miss xs xs.length := by
  rw [sumR, take_snoc h, List.foldl_append]; rfl
theorem minR_bd {miss : Int} (h0 : 0 ≤ miss) {xs : List Int} {k : Nat} : 0 ≤ minR miss xs k ∧ minR miss xs k ≤ miss := by
  induction k with
  | zero => simp [minR]; exact h0
  | succ k ih =>
    by_cases hl : k < xs.length
    · rw [minR_succ (List.getElem?_eq_getElem hl)]
      split <;> omega
    · rw [minR, List.take_of_length_le (by omega)]
      rw [minR, List.take_of_length_le (by omega)] at ih
      exact ih
theorem sumR_bd {miss : Int} (h0 : 0 ≤ miss) (h1 : miss ≤ 1000000000000) {xss : List (List Int)} {k : Nat} : 0 ≤ sumR miss xss k ∧ sumR miss xss k ≤ k * 1000000000000 := by
  induction k with
  | zero => simp [sumR]
  | succ k ih =>
    by_cases hl : k < xss.length
    · rw [sumR_succ (List.getElem?_eq_getElem hl)]
      have := minR_bd h0 (xs := xss[k]) (k := xss[k].length)
      omega
    · rw [sumR, List.take_of_length_le (by omega)]
      rw [sumR, List.take_of_length_le (by omega)] at ih
      omega
theorem are_facts {xss : List (List Int)} (h : areB xss = true) : xss.length ≤ 6 ∧ ∀ (i : Nat) (xs : List Int), xss[i]? = some xs → xs.length ≤ 6 ∧ xs.length = (xss.getD 0 []).length ∧ allB xs (-1) 1000000000000 = true := by
  simp only [areB, Bool.and_eq_true] at h
  refine ⟨of_decide_eq_true h.1, fun i xs hx => ?_⟩
  have h1 := arek_of h.2 (lt_of_get hx)
  rw [lget_of hx] at h1
  simp only [rowB, Bool.and_eq_true] at h1
  exact ⟨of_decide_eq_true h1.1, of_decide_eq_true h1.2.1, h1.2.2⟩
theorem codeC_0 {xss : List (List Int)} {miss : Int} (h : codeC xss miss = 0) : areB xss = true ∧ 0 ≤ miss ∧ miss ≤ 1000000000000 := by
  unfold codeC at h
  split at h
  · split at h
    · rename_i h1 h2
      exact ⟨h1, of_inB h2⟩
    · simp at h
  · simp at h
def fBound (xss : List (List Int)) (miss : Int) : Int × Int := if codeC xss miss = 0 then (sumR miss xss xss.length, 0) else (0, codeC xss miss)
end Go.Proofs.YthbljfanoaibkaaGreatDoor
namespace Go.Proofs.YthbljfanoaibkaaGreatDoor
open Go.RowKit Go.ChangeShapes Go.WideShapes Go.ChangeAt
set_option linter.unusedVariables false
set_option linter.unusedSimpArgs false
theorem slices_Index (A : Option Addr) (c : Nat) (xs : List Int) (x : Int) (w : World) (hr : I64 w w.heap.size A xs) (hl : xs.length ≤ 9223372036854775807) :
    Calls Tryz.prog 88 #[.slice A xs.length c, .int .i64 x] w fun e w' => ∃ j : Int, e = .returned (.int .i64 j) ∧ (0 ≤ j ↔ x ∈ xs) ∧ w = w' := by
  go_enter Tryz.func88, Tryz.ntmps88
  go_wp2
  go_loop [8] (fun i => ∃ k : Nat, k ≤ xs.length ∧ i = .int .i64 k ∧ Hid (x ∉ xs.take k)) (fun i => xs.length - (intOf i).toNat)
  case atStart => exact ⟨0, Nat.zero_le _, rfl, by simp [Hid]⟩
  case round =>
    obtain ⟨k, hk, rfl, ha⟩ := hrel
    by_cases hlt : k < xs.length
    · obtain ⟨y, hy⟩ := get_of_lt hlt
      obtain ⟨b, o, rfl, hb, hc⟩ := hr.at_ hy
      have hy' := Lib.hid hy
      clear hy
      by_cases e : x = y
      · have he : (x == y) = true := by simpa using e
        have e' := Lib.hid e
        clear e
        go_wp2
        go_ret
        exact ⟨_, rfl, ⟨fun _ => by have := List.mem_of_getElem? hy'.out; rw [← e'.out] at this; exact this, fun _ => by omega⟩, rfl⟩
      · have he : (x == y) = false := by simpa using e
        have e' := Lib.hid e
        clear e
        go_wp2
        go_round
        case rel => exact ⟨k + 1, by omega, by go_num, by unfold Hid; rw [take_snoc hy'.out, List.mem_append]; exact fun h => h.elim ha.out (fun h => by simp at h; exact e'.out h)⟩
        case measure => simp [intOf]; omega
    · go_wp2
      go_ret
      exact ⟨_, rfl, ⟨fun h => by omega, fun h => by have := ha.out; rw [take_all hlt] at this; exact absurd h this⟩, rfl⟩
theorem slices_Contains (A : Option Addr) (c : Nat) (xs : List Int) (x : Int) (w : World) (hr : I64 w w.heap.size A xs) (hl : xs.length ≤ 9223372036854775807) :
    Calls Tryz.prog 72 #[.slice A xs.length c, .int .i64 x] w fun e w' => e = .returned (.bool (decide (x ∈ xs))) ∧ w = w' := by
  go_enter Tryz.func72, Tryz.ntmps72
  go_wp2_with (go_at_call 88; refine (slices_Index _ _ _ _ _ hr hl).mono ?_; rintro e w' ⟨j, rfl, hj, rfl⟩)
  go_ret
  exact ⟨ret_bool (by by_cases h : x ∈ xs <;> simp [h] <;> omega), rfl⟩
theorem spec_l01Has (A : Option Addr) (c : Nat) (xs : List Int) (x : Int) (w : World) (hr : I64 w w.heap.size A xs) (hl : xs.length ≤ 9223372036854775807) :
    Calls Tryz.prog 77 #[.slice A xs.length c, .int .i64 x] w fun e w' => e = .returned (.bool (decide (x ∈ xs))) ∧ w = w' := by
  go_enter Tryz.func77, Tryz.ntmps77
  go_wp2
  go_loop [5] (fun i => ∃ k : Nat, k ≤ xs.length ∧ i = .int .i64 k ∧ Hid (x ∉ xs.take k)) (fun i => xs.length - (intOf i).toNat)
  case atStart => exact ⟨0, Nat.zero_le _, rfl, by simp [Hid]⟩
  case round =>
    obtain ⟨k, hk, rfl, ha⟩ := hrel
    by_cases hlt : k < xs.length
    · obtain ⟨y, hy⟩ := get_of_lt hlt
      obtain ⟨b, o, rfl, hb, hc⟩ := hr.at_ hy
      have hy' := Lib.hid hy
      clear hy
      by_cases e : y = x
      · have he : (y == x) = true := by simpa using e
        have e' := Lib.hid e
        clear e
        go_wp2
        go_ret
        exact ⟨ret_bool (by have := List.mem_of_getElem? hy'.out; rw [e'.out] at this; simp [this]), rfl⟩
      · have he : (y == x) = false := by simpa using e
        have e' := Lib.hid e
        clear e
        go_wp2
        go_round
        case rel => exact ⟨k + 1, by omega, by go_num, by unfold Hid; rw [take_snoc hy'.out, List.mem_append]; exact fun h => h.elim ha.out (fun h => by simp at h; exact e'.out h.symm)⟩
        case measure => simp [intOf]; omega
    · go_wp2
      go_ret
      exact ⟨ret_bool (by have := ha.out; rw [take_all hlt] at this; simp [this]), rfl⟩
end Go.Proofs.YthbljfanoaibkaaGreatDoor
namespace Go.Proofs.YthbljfanoaibkaaGreatDoor
open Go.RowKit Go.ChangeShapes Go.WideShapes Go.ChangeAt
set_option linter.unusedVariables false
set_option linter.unusedSimpArgs false
def pokB (xss : List (List Int)) (ps : List Int) (i : Nat) : Bool :=
  decide (ps.getD i 0 = -1) || (inB (ps.getD i 0) 0 ((xss.getD i []).length - 1) && (decide (0 ≤ (xss.getD i []).getD (ps.getD i 0).toNat 0) && !(decide (ps.getD i 0 ∈ ps.take i))))
def prk (xss : List (List Int)) (ps : List Int) (k : Nat) : Bool := (List.range k).all (pokB xss ps)
/-- a pairing -/
def pairB (xss : List (List Int)) (ps : List Int) : Bool := decide (ps.length = xss.length) && prk xss ps ps.length
theorem prk_succ {xss : List (List Int)} {ps : List Int} {k : Nat} : prk xss ps (k + 1) = (prk xss ps k && pokB xss ps k) := by simp [prk, List.range_succ]
theorem prk_no {xss : List (List Int)} {ps : List Int} {k n : Nat} (hk : k < n) (h : pokB xss ps k = false) : prk xss ps n = false := by
  rw [prk, List.all_eq_false]
  exact ⟨k, by simpa using hk, by simp only [h]; decide⟩
theorem prk_of {xss : List (List Int)} {ps : List Int} {n k : Nat} (h : prk xss ps n = true) (hk : k < n) : pokB xss ps k = true := List.all_eq_true.1 h k (by simpa using hk)
theorem iget_of {xs : List Int} {k : Nat} {x : Int} (h : xs[k]? = some x) : xs.getD k 0 = x := by simp [List.getD, h]
theorem I64.take {w : World} {B : Nat} {A : Option Addr} {xs : List Int} (h : I64 w B A xs) (k : Nat) : I64 w B A (xs.take k) := by
  rcases h with h | ⟨b, o, h1, h2, h3⟩
  · left
    have : xs = [] := by cases xs <;> simp_all
    simp [this]
  · right
    refine ⟨b, o, h1, h2, fun j v hv => h3 j v ?_⟩
    rw [List.map_take, List.getElem?_take] at hv
    split at hv
    · exact hv
    · simp at hv
theorem pok_m1 {xss : List (List Int)} {ps : List Int} {k : Nat} (h : ps[k]? = some (-1)) : pokB xss ps k = true := by rw [pokB, iget_of h]; simp
theorem pok_out {xss : List (List Int)} {ps xs : List Int} {k : Nat} {p : Int} (h : ps[k]? = some p) (hx : xss[k]? = some xs) (h1 : p ≠ -1) (h2 : ¬ (0 ≤ p ∧ p ≤ (xs.length : Int) - 1)) : pokB xss ps k = false := by
  simp only [pokB, iget_of h, lget_of hx, inB_f h2]
  simp [h1]
theorem pok_in {xss : List (List Int)} {ps xs : List Int} {k m : Nat} {y : Int} (h : ps[k]? = some (m : Int)) (hx : xss[k]? = some xs) (hy : xs[m]? = some y) : pokB xss ps k = (decide (0 ≤ y) && !(decide ((m : Int) ∈ ps.take k))) := by
  have hm := lt_of_get hy
  simp only [pokB, iget_of h, lget_of hx, inB_t (show 0 ≤ (m : Int) ∧ (m : Int) ≤ (xs.length : Int) - 1 by omega), Int.toNat_natCast, iget_of hy]
  have : ¬ ((m : Int) = -1) := by omega
  simp [this]
theorem slices_Contains' (A : Option Addr) (n c : Nat) (xs : List Int) (x : Int) (b : Bool) (w : World) (hn : xs.length = n) (hl : xs.length ≤ 9223372036854775807) (hr : I64 w w.heap.size A xs) (h : decide (x ∈ xs) = b) :
    Calls Tryz.prog 72 #[.slice A n c, .int .i64 x] w fun e w' => e = .returned (.bool b) ∧ w = w' := by
  rw [← h, ← hn]
  exact slices_Contains A c xs x w hr hl
theorem slices_ContainsQ (A : Option Addr) (n c : Nat) (xs : List Int) (x : Int) (b : Bool) (w : World) (hn : xs.length = n) (hl : xs.length ≤ 9223372036854775807) (hr : I64 w w.heap.size A xs) (h : decide (x ∈ xs) = b) :
    Calls Tryz.prog 72 #[.slice A n c, .int .i64 x] w fun e w' => e = .returned (.bool b) ∧ w' = w := (slices_Contains' A n c xs x b w hn hl hr h).mono fun _ _ ⟨a, b⟩ => ⟨a, b.symm⟩
theorem spec_l01Has' (A : Option Addr) (n c : Nat) (xs : List Int) (x : Int) (b : Bool) (w : World) (hn : xs.length = n) (hl : xs.length ≤ 9223372036854775807) (hr : I64 w w.heap.size A xs) (h : decide (x ∈ xs) = b) :
    Calls Tryz.prog 77 #[.slice A n c, .int .i64 x] w fun e w' => e = .returned (.bool b) ∧ w = w' := by
  rw [← h, ← hn]
  exact spec_l01Has A c xs x w hr hl
theorem spec_l01HasQ (A : Option Addr) (n c : Nat) (xs : List Int) (x : Int) (b : Bool) (w : World) (hn : xs.length = n) (hl : xs.length ≤ 9223372036854775807) (hr : I64 w w.heap.size A xs) (h : decide (x ∈ xs) = b) :
    Calls Tryz.prog 77 #[.slice A n c, .int .i64 x] w fun e w' => e = .returned (.bool b) ∧ w' = w := (spec_l01Has' A n c xs x b w hn hl hr h).mono fun _ _ ⟨a, b⟩ => ⟨a, b.symm⟩
theorem impl_withinQ (n lo hi : Int) (b : Bool) (w : World) (h : inB n lo hi = b) : Calls Tryz.prog 50 #[.int .i64 n, .int .i64 lo, .int .i64 hi] w fun e w' => e = .returned (.bool b) ∧ w' = w := by
  rw [← h]; exact (impl_within n lo hi w).mono fun _ _ ⟨a, b⟩ => ⟨a, b.symm⟩
theorem spec_l01InQ (n lo hi : Int) (b : Bool) (w : World) (h : inB n lo hi = b) : Calls Tryz.prog 55 #[.int .i64 n, .int .i64 lo, .int .i64 hi] w fun e w' => e = .returned (.bool b) ∧ w' = w := by
  rw [← h]; exact (spec_l01In n lo hi w).mono fun _ _ ⟨a, b⟩ => ⟨a, b.symm⟩
theorem impl_length64Q (A : Option Addr) (n c : Nat) (w : World) : Calls Tryz.prog 117 #[.slice A n c] w fun e w' => e = .returned (.int .i64 n) ∧ w' = w :=
  (impl_length64 A n c w).mono fun _ _ ⟨a, b⟩ => ⟨a, b.symm⟩
end Go.Proofs.YthbljfanoaibkaaGreatDoor
namespace Go.Proofs.YthbljfanoaibkaaGreatDoor
open Go.RowKit Go.ChangeShapes Go.WideShapes Go.ChangeAt
set_option linter.unusedVariables false
set_option linter.unusedSimpArgs false
def pst (miss : Int) (xss : List (List Int)) (ps : List Int) (i : Nat) : Int := if ps.getD i 0 < 0 then miss else (xss.getD i []).getD (ps.getD i 0).toNat 0
def psk (miss : Int) (xss : List (List Int)) (ps : List Int) : Nat → Int
  | 0 => 0
  | k + 1 => psk miss xss ps k + pst miss xss ps k
theorem pair_facts {xss : List (List Int)} {ps : List Int} (h : pairB xss ps = true) : ps.length = xss.length ∧ prk xss ps ps.length = true := by
  simp only [pairB, Bool.and_eq_true] at h
  exact ⟨of_decide_eq_true h.1, h.2⟩
theorem pok_facts {xss : List (List Int)} {ps xs : List Int} {k : Nat} {p : Int} (h : pokB xss ps k = true) (hp : ps[k]? = some p) (hx : xss[k]? = some xs) : p = -1 ∨ ∃ (m : Nat) (y : Int), p = m ∧ xs[m]? = some y ∧ 0 ≤ y := by
  by_cases h1 : p = -1
  · exact .inl h1
  · right
    by_cases h2 : 0 ≤ p ∧ p ≤ (xs.length : Int) - 1
    · obtain ⟨m, rfl⟩ := Int.eq_ofNat_of_zero_le h2.1
      obtain ⟨y, hy⟩ := get_of_lt (show m < xs.length by omega)
      rw [pok_in hp hx hy, Bool.and_eq_true] at h
      exact ⟨m, y, rfl, hy, of_decide_eq_true h.1⟩
    · rw [pok_out hp hx h1 h2] at h
      cases h
theorem psk_bd {miss : Int} {xss : List (List Int)} {ps : List Int} (hA : areB xss = true) (hp : pairB xss ps = true) (h0 : 0 ≤ miss) (h1 : miss ≤ 1000000000000) : ∀ k, k ≤ ps.length → 0 ≤ psk miss xss ps k ∧ psk miss xss ps k ≤ k * 1000000000000
  | 0, _ => by simp [psk]
  | k + 1, hk => by
    have ih := psk_bd hA hp h0 h1 k (by omega)
    obtain ⟨p, hp1⟩ := get_of_lt (xs := ps) (k := k) (by omega)
    obtain ⟨xs, hx⟩ := get_of_lt (xs := xss) (k := k) (by have := (pair_facts hp).1; omega)
    have hf := pok_facts (prk_of (pair_facts hp).2 (by omega)) hp1 hx
    have hb := ((are_facts hA).2 k xs hx).2.2
    rw [psk, pst, iget_of hp1, lget_of hx]
    rcases hf with rfl | ⟨m, y, rfl, hy, hy0⟩
    · rw [if_pos (by omega)]; omega
    · rw [if_neg (by omega), Int.toNat_natCast, iget_of hy]
      have := of_allB hb hy
      omega
def fSum (xss : List (List Int)) (miss : Int) (ps : List Int) : Int × Int := if areB xss then (if inB miss 0 1000000000000 && pairB xss ps then (psk miss xss ps ps.length, 0) else (0, 2)) else (0, 1)
set_option maxHeartbeats 800000 in
theorem impl_pairSum (A : Option Addr) (c : Nat) (xss : List (List Int)) (miss : Int) (B : Option Addr) (d : Nat) (ps : List Int) (w : World) (hr : II64 w w.heap.size A xss) (hl : xss.length ≤ 1099511627776) (hm : ∀ (i : Nat) (xs : List Int), xss[i]? = some xs → xs.length ≤ 1099511627776) (hs : I64 w w.heap.size B ps) (hq : ps.length ≤ 1099511627776) (hA : areB xss = true) (hp : pairB xss ps = true) (h0 : 0 ≤ miss) (h1 : miss ≤ 1000000000000) :
    Calls Tryz.prog 105 #[.slice A xss.length c, .int .i64 miss, .slice B ps.length d] w fun e w' => e = .returned (.int .i64 (psk miss xss ps ps.length)) ∧ Below w.heap.size w w' := by
  have hbd := Lib.hid (psk_bd hA hp h0 h1)
  have hF := Lib.hid (pair_facts hp)
  have hG := Lib.hid (are_facts hA)
  go_enter Tryz.func105, Tryz.ntmps105
  repeat' (first | fail | go_values | go_skip | go_guarded | go_step | go_upon | (simp only []; go_step) | (go_ite <;> go_prune <;> (try go_simp)))
  go_loopw [7, 12] (fun s i wr => ∃ k : Nat, k ≤ ps.length ∧ i = .int .i64 k ∧ s = .int .i64 (psk miss xss ps k) ∧ Below w.heap.size w wr) (fun _ i _ => ps.length - (intOf i).toNat)
  case atStart => exact ⟨0, Nat.zero_le _, rfl, rfl, by exact bgr⟩
  case round =>
    obtain ⟨k, hk, rfl, rfl, hbr⟩ := hrel
    by_cases hlt : k < ps.length
    · obtain ⟨p, hp1⟩ := get_of_lt hlt
      obtain ⟨xs, hx⟩ := get_of_lt (xs := xss) (k := k) (by have := hF.out.1; omega)
      obtain ⟨b, o, rfl, hb, hc⟩ := (hs.up hbr).at_ hp1
      obtain ⟨b2, o2, A', c', rfl, hb2, hc2, hi⟩ := (hr.up hbr).at_ hx
      have hk6 : k ≤ 6 := by have := hF.out.1; have := hG.out.1; omega
      have hs0 := hbd.out k (by omega)
      have hs1 := hbd.out (k + 1) (by omega)
      have k0 : (0 : Int) ≤ (k : Int) := by omega
      have k1 : (k : Int) < (ps.length : Int) := by omega
      have k2 : (k : Int) < (xss.length : Int) := by have := hF.out.1; omega
      have hok := pok_facts (prk_of hF.out.2 hlt) hp1 hx
      have hpH := Lib.hid hp1
      have hxH := Lib.hid hx
      clear hp1 hx
      rcases hok with rfl | ⟨m, y, rfl, hy, hy0⟩
      · have hst : Hid (psk miss xss ps (k + 1) = psk miss xss ps k + miss) := by unfold Hid; rw [psk, pst, iget_of hpH.out, if_pos (by omega)]
        have hs1 : 0 ≤ psk miss xss ps k + miss ∧ psk miss xss ps k + miss ≤ 7000000000000 := by rw [hst.out] at hs1; omega
        repeat' (first | fail | go_values | go_skip | go_guarded | go_step | go_upon | (simp only []; go_step) | (go_ite <;> go_prune <;> (try go_simp)))
        all_goals (try go_quiet (fail))
        all_goals repeat' (first | fail | go_values | go_skip | go_guarded | go_step | go_upon | (simp only []; go_step) | (go_ite <;> go_prune <;> (try go_simp)))
        all_goals exact ⟨⟨k + 1, by omega, by go_num, by rw [hst.out], by exact bgr⟩, by simp [intOf]; omega⟩
      · obtain ⟨b3, o3, rfl, hb3, hc3⟩ := hi.at_ hy
        have hst : Hid (psk miss xss ps (k + 1) = psk miss xss ps k + y) := by unfold Hid; rw [psk, pst, iget_of hpH.out, lget_of hxH.out, if_neg (by omega), Int.toNat_natCast, iget_of hy]
        have hs1 : 0 ≤ psk miss xss ps k + y ∧ psk miss xss ps k + y ≤ 7000000000000 := by rw [hst.out] at hs1; omega
        have m0 : (0 : Int) ≤ (m : Int) := by omega
        have m1 : (m : Int) < (xs.length : Int) := by have := lt_of_get hy; omega
        have m2 : ¬ (m : Int) < 0 := by omega
        clear hy
        repeat' (first | fail | go_values | go_skip | go_guarded | go_step | go_upon | (simp only []; go_step) | (go_ite <;> go_prune <;> (try go_simp)))
        all_goals (try go_quiet (fail))
        all_goals repeat' (first | fail | go_values | go_skip | go_guarded | go_step | go_upon | (simp only []; go_step) | (go_ite <;> go_prune <;> (try go_simp)))
        all_goals (try go_quiet (fail))
        all_goals repeat' (first | fail | go_values | go_skip | go_guarded | go_step | go_upon | (simp only []; go_step) | (go_ite <;> go_prune <;> (try go_simp)))
        all_goals exact ⟨⟨k + 1, by omega, by go_num, by rw [hst.out], by exact bgr⟩, by simp [intOf]; omega⟩
    · have e : k = ps.length := by omega
      subst e
      repeat' (first | fail | go_values | go_skip | go_guarded | go_step | go_upon | (simp only []; go_step) | (go_ite <;> go_prune <;> (try go_simp)))
      all_goals go_returns
      all_goals exact ⟨rfl, by exact bgr⟩
set_option maxHeartbeats 800000 in
theorem spec_pairSum (A : Option Addr) (c : Nat) (xss : List (List Int)) (miss : Int) (B : Option Addr) (d : Nat) (ps : List Int) (w : World) (hr : II64 w w.heap.size A xss) (hl : xss.length ≤ 1099511627776) (hm : ∀ (i : Nat) (xs : List Int), xss[i]? = some xs → xs.length ≤ 1099511627776) (hs : I64 w w.heap.size B ps) (hq : ps.length ≤ 1099511627776) (hA : areB xss = true) (hp : pairB xss ps = true) (h0 : 0 ≤ miss) (h1 : miss ≤ 1000000000000) :
    Calls Tryz.prog 90 #[.slice A xss.length c, .int .i64 miss, .slice B ps.length d] w fun e w' => e = .returned (.int .i64 (psk miss xss ps ps.length)) ∧ Below w.heap.size w w' := by
  have hbd := Lib.hid (psk_bd hA hp h0 h1)
  have hF := Lib.hid (pair_facts hp)
  have hG := Lib.hid (are_facts hA)
  go_enter Tryz.func90, Tryz.ntmps90
  repeat' (first | fail | go_values | go_skip | go_guarded | go_step | go_upon | (simp only []; go_step) | (go_ite <;> go_prune <;> (try go_simp)))
  go_loopw [7, 8] (fun s i wr => ∃ k : Nat, k ≤ ps.length ∧ i = .int .i64 k ∧ s = .int .i64 (psk miss xss ps k) ∧ Below w.heap.size w wr) (fun _ i _ => ps.length - (intOf i).toNat)
  case atStart => exact ⟨0, Nat.zero_le _, rfl, rfl, by exact bgr⟩
  case round =>
    obtain ⟨k, hk, rfl, rfl, hbr⟩ := hrel
    by_cases hlt : k < ps.length
    · obtain ⟨p, hp1⟩ := get_of_lt hlt
      obtain ⟨xs, hx⟩ := get_of_lt (xs := xss) (k := k) (by have := hF.out.1; omega)
      obtain ⟨b, o, rfl, hb, hc⟩ := (hs.up hbr).at_ hp1
      obtain ⟨b2, o2, A', c', rfl, hb2, hc2, hi⟩ := (hr.up hbr).at_ hx
      have hk6 : k ≤ 6 := by have := hF.out.1; have := hG.out.1; omega
      have hs0 := hbd.out k (by omega)
      have hs1 := hbd.out (k + 1) (by omega)
      have k0 : (0 : Int) ≤ (k : Int) := by omega
      have k1 : (k : Int) < (ps.length : Int) := by omega
      have k2 : (k : Int) < (xss.length : Int) := by have := hF.out.1; omega
      have hok := pok_facts (prk_of hF.out.2 hlt) hp1 hx
      have hpH := Lib.hid hp1
      have hxH := Lib.hid hx
      clear hp1 hx
      rcases hok with rfl | ⟨m, y, rfl, hy, hy0⟩
      · have hst : Hid (psk miss xss ps (k + 1) = psk miss xss ps k + miss) := by unfold Hid; rw [psk, pst, iget_of hpH.out, if_pos (by omega)]
        have hs1 : 0 ≤ psk miss xss ps k + miss ∧ psk miss xss ps k + miss ≤ 7000000000000 := by rw [hst.out] at hs1; omega
        repeat' (first | fail | go_values | go_skip | go_guarded | go_step | go_upon | (simp only []; go_step) | (go_ite <;> go_prune <;> (try go_simp)))
        all_goals (try go_quiet (fail))
        all_goals repeat' (first | fail | go_values | go_skip | go_guarded | go_step | go_upon | (simp only []; go_step) | (go_ite <;> go_prune <;> (try go_simp)))
        all_goals exact ⟨⟨k + 1, by omega, by go_num, by rw [hst.out], by exact bgr⟩, by simp [intOf]; omega⟩
      · obtain ⟨b3, o3, rfl, hb3, hc3⟩ := hi.at_ hy
        have hst : Hid (psk miss xss ps (k + 1) = psk miss xss ps k + y) := by unfold Hid; rw [psk, pst, iget_of hpH.out, lget_of hxH.out, if_neg (by omega), Int.toNat_natCast, iget_of hy]
        have hs1 : 0 ≤ psk miss xss ps k + y ∧ psk miss xss ps k + y ≤ 7000000000000 := by rw [hst.out] at hs1; omega
        have m0 : (0 : Int) ≤ (m : Int) := by omega
        have m1 : (m : Int) < (xs.length : Int) := by have := lt_of_get hy; omega
        have m2 : ¬ (m : Int) < 0 := by omega
        clear hy
        repeat' (first | fail | go_values | go_skip | go_guarded | go_step | go_upon | (simp only []; go_step) | (go_ite <;> go_prune <;> (try go_simp)))
        all_goals (try go_quiet (fail))
        all_goals repeat' (first | fail | go_values | go_skip | go_guarded | go_step | go_upon | (simp only []; go_step) | (go_ite <;> go_prune <;> (try go_simp)))
        all_goals (try go_quiet (fail))
        all_goals repeat' (first | fail | go_values | go_skip | go_guarded | go_step | go_upon | (simp only []; go_step) | (go_ite <;> go_prune <;> (try go_simp)))
        all_goals exact ⟨⟨k + 1, by omega, by go_num, by rw [hst.out], by exact bgr⟩, by simp [intOf]; omega⟩
    · have e : k = ps.length := by omega
      subst e
      repeat' (first | fail | go_values | go_skip | go_guarded | go_step | go_upon | (simp only []; go_step) | (go_ite <;> go_prune <;> (try go_simp)))
      all_goals go_returns
      all_goals exact ⟨rfl, by exact bgr⟩
end Go.Proofs.YthbljfanoaibkaaGreatDoor
namespace Go.Proofs.YthbljfanoaibkaaGreatDoor
open Go.RowKit Go.ChangeShapes Go.WideShapes Go.ChangeAt
set_option linter.unusedVariables false
set_option linter.unusedSimpArgs false
def frk (ps : List Int) (n : Nat) : List Int := ((List.range n).filter fun (j : Nat) => !(decide ((j : Int) ∈ ps))).map fun (j : Nat) => (j : Int)
theorem frk_succ {ps : List Int} {n : Nat} : frk ps (n + 1) = frk ps n ++ if decide ((n : Int) ∈ ps) then [] else [(n : Int)] := by
  rw [frk, List.range_succ, List.filter_append, List.map_append]
  congr 1
  by_cases h : (n : Int) ∈ ps <;> simp [h]
theorem frk_zero {ps : List Int} : frk ps 0 = [] := by simp [frk]
theorem frk_len {ps : List Int} {n : Nat} : (frk ps n).length ≤ n := by
  rw [frk, List.length_map]
  exact Nat.le_trans (List.length_filter_le _ _) (by simp)
def n0 (xss : List (List Int)) : Nat := (xss.getD 0 []).length
def fFree (xss : List (List Int)) (ps : List Int) : List Int := if areB xss && pairB xss ps then (if xss.length = 0 then [] else frk ps (n0 xss)) else []
def cFree (xss : List (List Int)) (ps : List Int) : Int := if areB xss then (if pairB xss ps then 0 else 2) else 1
theorem n0_le {xss : List (List Int)} (h : areB xss = true) (h0 : ¬ xss.length = 0) : n0 xss ≤ 6 := by
  obtain ⟨xs, hx⟩ := get_of_lt (xs := xss) (k := 0) (by omega)
  rw [n0, lget_of hx]
  exact ((are_facts h).2 0 xs hx).1
theorem fFree_len {xss : List (List Int)} {ps : List Int} : (fFree xss ps).length ≤ 6 := by
  unfold fFree
  split
  · rename_i h
    rw [Bool.and_eq_true] at h
    split
    · simp
    · rename_i h0
      have := n0_le h.1 h0
      have := frk_len (ps := ps) (n := n0 xss)
      omega
  · simp
theorem slices_ContainsB (A : Option Addr) (c : Nat) (xs : List Int) (x : Int) (b : Bool) (w : World) (hr : I64 w w.heap.size A xs) (hl : xs.length ≤ 1099511627776) (h : decide (x ∈ xs) = b) :
    Calls Tryz.prog 72 #[.slice A xs.length c, .int .i64 x] w fun e w' => e = .returned (.bool b) ∧ w = w' := by
  rw [← h]; exact slices_Contains A c xs x w hr (by omega)
theorem spec_l01HasB (A : Option Addr) (c : Nat) (xs : List Int) (x : Int) (b : Bool) (w : World) (hr : I64 w w.heap.size A xs) (hl : xs.length ≤ 1099511627776) (h : decide (x ∈ xs) = b) :
    Calls Tryz.prog 77 #[.slice A xs.length c, .int .i64 x] w fun e w' => e = .returned (.bool b) ∧ w = w' := by
  rw [← h]; exact spec_l01Has A c xs x w hr (by omega)
set_option maxHeartbeats 800000 in
theorem spec_l15Free (n : Nat) (B : Option Addr) (d : Nat) (ps : List Int) (w : World) (hs : I64 w w.heap.size B ps) (hq : ps.length ≤ 1099511627776) (hn : n ≤ 6) :
    Calls Tryz.prog 47 #[.int .i64 n, .slice B ps.length d] w fun e w' => ∃ v, e = .returned v ∧ OwnI w' w.heap.size v (frk ps n) ∧ Below w.heap.size w w' := by
  have hsW := hs
  go_enter Tryz.func47, Tryz.ntmps47
  repeat' (first | fail | go_values | go_skip | go_guarded | go_step | go_upon | (simp only []; go_step) | (go_ite <;> go_prune <;> (try go_simp)))
  go_loopw [5, 6] (fun v i wr => ∃ k : Nat, k ≤ n ∧ i = .int .i64 k ∧ OwnI wr w.heap.size v (frk ps k) ∧ Below w.heap.size w wr) (fun _ i _ => n - (intOf i).toNat)
  case atStart => exact ⟨0, Nat.zero_le _, rfl, by rw [frk_zero]; exact OwnI.lit0 (Nat.le_refl _), by exact bgr⟩
  case round =>
    obtain ⟨k, hk, rfl, ho, hbr⟩ := hrel
    have hlenk := frk_len (ps := ps) (n := k)
    have hsz := hbr.size
    have hsu := frk_succ (ps := ps) (n := k)
    by_cases hlt : k < n
    · have k1 : (k : Int) < (n : Int) := by omega
      cases hmem : decide ((k : Int) ∈ ps)
      · have hsu' : Hid (frk ps (k + 1) = frk ps k ++ [(k : Int)]) := by unfold Hid; rw [hsu, hmem]; rfl
        clear hsu
        repeat' (first | fail | go_values | go_skip | go_guarded | go_step | go_upon | (simp only []; go_step) | (go_ite <;> go_prune <;> (try go_simp)))
        refine (spec_l01HasB _ _ _ _ _ _ (hsW.up hbr) hq hmem).mono ?_
        rintro e w' ⟨rfl, rfl⟩
        go_wp2_with (at_builtin; refine push_int (base := w.heap.size) ho rfl _ _ rfl rfl rfl (by omega) (by omega) ?_; intro v' w4 ho4 hg4 hb4)
        exact ⟨⟨k + 1, by omega, by go_num, by rw [hsu'.out]; exact ho4, hbr.trans (Below.mono hb4 (by omega))⟩, by simp [intOf]; omega⟩
      · have hsu' : Hid (frk ps (k + 1) = frk ps k) := by unfold Hid; rw [hsu, hmem]; simp
        clear hsu
        repeat' (first | fail | go_values | go_skip | go_guarded | go_step | go_upon | (simp only []; go_step) | (go_ite <;> go_prune <;> (try go_simp)))
        refine (spec_l01HasB _ _ _ _ _ _ (hsW.up hbr) hq hmem).mono ?_
        rintro e w' ⟨rfl, rfl⟩
        repeat' (first | fail | go_values | go_skip | go_guarded | go_step | go_upon | (simp only []; go_step) | (go_ite <;> go_prune <;> (try go_simp)))
        all_goals exact ⟨⟨k + 1, by omega, by go_num, by rw [hsu'.out]; exact ho, by exact bgr⟩, by simp [intOf]; omega⟩
    · have e : k = n := by omega
      subst e
      repeat' (first | fail | go_values | go_skip | go_guarded | go_step | go_upon | (simp only []; go_step) | (go_ite <;> go_prune <;> (try go_simp)))
      all_goals go_returns
      all_goals exact ⟨_, rfl, ho, by exact bgr⟩
end Go.Proofs.YthbljfanoaibkaaGreatDoor
namespace Go.Proofs.YthbljfanoaibkaaGreatDoor
set_option linter.unusedVariables false
set_option linter.unusedSimpArgs false
/-- the options of a row: -1 and the columns below m - 1 that are allowed and free -/
def optU (row ps : List Int) : Nat → List Int
  | 0 => []
  | 1 => [-1]
  | m + 2 => optU row ps (m + 1) ++ (if decide (0 ≤ row.getD m 0) && !(decide ((m : Int) ∈ ps)) then [(m : Int)] else [])
def optA (row ps : List Int) : List Int := optU row ps (row.length + 1)
/-- all pairings that begin with ps, over the rows that are left -/
def allR : List (List Int) → List Int → List (List Int)
  | [], ps => [ps]
  | row :: rest, ps => (optA row ps).flatMap fun k => allR rest (ps ++ [k])
/-- those of the options below m - 1 -/
def accU (row : List Int) (rest : List (List Int)) (ps : List Int) (m : Nat) : List (List Int) := (optU row ps m).flatMap fun k => allR rest (ps ++ [k])
theorem accU_zero {row : List Int} {rest : List (List Int)} {ps : List Int} : accU row rest ps 0 = [] := rfl
theorem accU_one {row : List Int} {rest : List (List Int)} {ps : List Int} : accU row rest ps 1 = allR rest (ps ++ [-1]) := by simp [accU, optU]
theorem accU_yes {row : List Int} {rest : List (List Int)} {ps : List Int} {m : Nat} {y : Int} (hy : row[m]? = some y) (h0 : 0 ≤ y) (h1 : ¬ (m : Int) ∈ ps) : accU row rest ps (m + 2) = accU row rest ps (m + 1) ++ allR rest (ps ++ [(m : Int)]) := by
  rw [accU, optU, List.flatMap_append]
  simp [accU, List.getD, hy, h0, h1]
theorem accU_no {row : List Int} {rest : List (List Int)} {ps : List Int} {m : Nat} {y : Int} (hy : row[m]? = some y) (h : ¬ 0 ≤ y ∨ (m : Int) ∈ ps) : accU row rest ps (m + 2) = accU row rest ps (m + 1) := by
  rw [accU, optU, List.flatMap_append]
  rcases h with h | h <;> simp [accU, List.getD, hy, h]
theorem allR_cons {row : List Int} {rest : List (List Int)} {ps : List Int} : allR (row :: rest) ps = accU row rest ps (row.length + 1) := rfl
theorem optU_len {row ps : List Int} : ∀ m, (optU row ps m).length ≤ m
  | 0 => by simp [optU]
  | 1 => by simp [optU]
  | m + 2 => by
    have := optU_len (row := row) (ps := ps) (m + 1)
    rw [optU, List.length_append]
    split <;> simp <;> omega
theorem flatMap_len {α β : Type} {f : α → List β} {n : Nat} : ∀ (l : List α), (∀ a, (f a).length ≤ n) → (l.flatMap f).length ≤ l.length * n
  | [], _ => by simp
  | a :: l, h => by
    have h1 := h a
    have h2 := flatMap_len l h
    rw [List.flatMap_cons, List.length_append, List.length_cons, Nat.add_mul]; omega
theorem allR_len : ∀ {rest : List (List Int)} {ps : List Int}, (∀ r ∈ rest, r.length ≤ 6) → (allR rest ps).length ≤ 7 ^ rest.length
  | [], ps, _ => by simp [allR]
  | row :: rest, ps, h => by
    have h1 := h row (by simp)
    have h2 := optU_len (row := row) (ps := ps) (row.length + 1)
    have h3 := flatMap_len (f := fun k => allR rest (ps ++ [k])) (optA row ps) (fun k => allR_len (ps := ps ++ [k]) (fun r hr => h r (by simp [hr])))
    rw [allR, List.length_cons, Nat.pow_succ]
    refine Nat.le_trans h3 ?_
    rw [Nat.mul_comm (7 ^ rest.length) 7]
    exact Nat.mul_le_mul_right _ (by unfold optA; omega)
theorem accU_len {row : List Int} {rest : List (List Int)} {ps : List Int} (h : ∀ r ∈ rest, r.length ≤ 6) {m : Nat} (hm : m ≤ 7) : (accU row rest ps m).length ≤ 7 ^ (rest.length + 1) := by
  have h2 := optU_len (row := row) (ps := ps) m
  have h3 := flatMap_len (f := fun k => allR rest (ps ++ [k])) (optU row ps m) (fun k => allR_len (ps := ps ++ [k]) h)
  rw [accU, Nat.pow_succ, Nat.mul_comm (7 ^ rest.length) 7]
  exact Nat.le_trans h3 (Nat.mul_le_mul_right _ (by omega))
theorem pow7 {n : Nat} (h : n ≤ 6) : 7 ^ n ≤ 117649 := Nat.le_trans (Nat.pow_le_pow_right (by omega) h) (by decide)
theorem optU_mem {row ps : List Int} {x : Int} : ∀ {m : Nat}, x ∈ optU row ps m → x = -1 ∨ ∃ j : Nat, x = j ∧ j + 1 < m ∧ 0 ≤ row.getD j 0 ∧ ¬ (j : Int) ∈ ps
  | 0, h => by simp [optU] at h
  | 1, h => by simp [optU] at h; exact .inl h
  | m + 2, h => by
    rw [optU, List.mem_append] at h
    rcases h with h | h
    · rcases optU_mem h with h | ⟨j, h1, h2, h3, h4⟩
      · exact .inl h
      · exact .inr ⟨j, h1, by omega, h3, h4⟩
    · split at h
      · rename_i hc
        simp only [Bool.and_eq_true, Bool.not_eq_true', decide_eq_true_eq, decide_eq_false_iff_not] at hc
        rw [List.mem_singleton] at h
        exact .inr ⟨m, h, by omega, hc.1, hc.2⟩
      · cases h
/-- the list that is reached is never empty -/
theorem allR_pos : ∀ {rest : List (List Int)} {ps : List Int}, 0 < (allR rest ps).length
  | [], ps => by simp [allR]
  | row :: rest, ps => by
    have h : optA row ps = -1 :: (optA row ps).tail := by
      have : ∀ m, optU row ps (m + 1) = -1 :: (optU row ps (m + 1)).tail := fun m => by
        induction m with
        | zero => rfl
        | succ m ih => rw [optU, ih]; rfl
      exact this row.length
    rw [allR, h, List.flatMap_cons, List.length_append]
    have := allR_pos (rest := rest) (ps := ps ++ [-1])
    omega
/-- every pairing that is reached has the prefix's length and that of the rows -/
theorem allR_mem_len : ∀ {rest : List (List Int)} {ps qs : List Int}, qs ∈ allR rest ps → qs.length = ps.length + rest.length
  | [], ps, qs, h => by
    rw [allR, List.mem_singleton] at h
    subst h; simp
  | row :: rest, ps, qs, h => by
    rw [allR, List.mem_flatMap] at h
    obtain ⟨k, _, h⟩ := h
    have := allR_mem_len h
    simp at this ⊢; omega
theorem optA_bd {row ps : List Int} {x : Int} (h : x ∈ optA row ps) : x = -1 ∨ ∃ (j : Nat) (y : Int), x = j ∧ row[j]? = some y ∧ 0 ≤ y ∧ ¬ (j : Int) ∈ ps := by
  rcases optU_mem h with h | ⟨j, h1, h2, h3, h4⟩
  · exact .inl h
  · obtain ⟨y, hy⟩ := get_of_lt (xs := row) (k := j) (by omega)
    rw [iget_of hy] at h3
    exact .inr ⟨j, y, h1, hy, h3, h4⟩
/-- what is reached is a pairing -/
theorem allR_pok : ∀ {rest pre : List (List Int)} {ps qs : List Int}, ps.length = pre.length → prk (pre ++ rest) ps ps.length = true → qs ∈ allR rest ps → prk (pre ++ rest) qs qs.length = true
  | [], pre, ps, qs, hl, hp, h => by
    rw [allR, List.mem_singleton] at h
    subst h; exact hp
  | row :: rest, pre, ps, qs, hl, hp, h => by
    rw [allR, List.mem_flatMap] at h
    obtain ⟨k, hk, h⟩ := h
    have e : pre ++ row :: rest = (pre ++ [row]) ++ rest := by simp
    rw [e]
    refine allR_pok (by simp [hl]) ?_ h
    rw [← e]
    have hrow : (pre ++ row :: rest)[ps.length]? = some row := by rw [hl, List.getElem?_append_right (Nat.le_refl _), Nat.sub_self]; rfl
    have hkk : (ps ++ [k])[ps.length]? = some k := by rw [List.getElem?_append_right (Nat.le_refl _), Nat.sub_self]; rfl
    rw [List.length_append, show [k].length = 1 from rfl, prk_succ, Bool.and_eq_true]
    refine ⟨?_, ?_⟩
    · rw [prk, List.all_eq_true] at hp ⊢
      intro j hj
      have hj' : j < ps.length := by simpa using hj
      have h1 := hp j hj
      rw [pokB] at h1 ⊢
      rw [show (ps ++ [k]).getD j 0 = ps.getD j 0 by simp [List.getD, List.getElem?_append_left hj'], show (ps ++ [k]).take j = ps.take j by rw [List.take_append_of_le_length (by omega)]]
      exact h1
    · rcases optA_bd hk with rfl | ⟨j, y, rfl, hy, h0, h1⟩
      · exact pok_m1 hkk
      · rw [pok_in hkk hrow hy, List.take_append_of_le_length (Nat.le_refl _), List.take_length]
        simp [h0, h1]
/-- the first index of a least value among 0 .. n -/
def mI (f : Nat → Int) : Nat → Nat
  | 0 => 0
  | n + 1 => if f (n + 1) < f (mI f n) then n + 1 else mI f n
theorem mI_le {f : Nat → Int} : ∀ n, mI f n ≤ n
  | 0 => Nat.le_refl _
  | n + 1 => by have := mI_le (f := f) n; rw [mI]; split <;> omega
theorem mI_min {f : Nat → Int} : ∀ {n i : Nat}, i ≤ n → f (mI f n) ≤ f i
  | 0, i, h => by rw [show i = 0 by omega]; exact Int.le_refl _
  | n + 1, i, h => by
    rw [mI]
    rcases Nat.lt_or_ge i (n + 1) with h1 | h1
    · have := mI_min (f := f) (show i ≤ n by omega)
      split <;> omega
    · rw [show i = n + 1 by omega]
      split <;> omega
/-- the sums of pairings -/
def sumA (miss : Int) (css all : List (List Int)) (i : Nat) : Int := psk miss css (all.getD i []) (all.getD i []).length
def bestA (miss : Int) (css all : List (List Int)) : List Int := all.getD (mI (sumA miss css all) (all.length - 1)) []
def allP (css : List (List Int)) : List (List Int) := allR css []
def bstP (css : List (List Int)) (miss : Int) : List Int := bestA miss css (allP css)
def lstP (css : List (List Int)) (miss : Int) : Int := psk miss css (bstP css miss) (bstP css miss).length
theorem allP_pair {css : List (List Int)} {qs : List Int} (h : qs ∈ allP css) : pairB css qs = true := by
  have h1 := allR_mem_len h
  have h2 := allR_pok (pre := []) (ps := []) rfl (by rfl) h
  simp only [List.length_nil, Nat.zero_add, List.nil_append] at h1 h2
  rw [pairB, decide_eq_true h1, h2]; rfl
theorem bstP_mem {css : List (List Int)} {miss : Int} : bstP css miss ∈ allP css := by
  have h0 : 0 < (allP css).length := allR_pos
  have h1 := mI_le (f := sumA miss css (allP css)) ((allP css).length - 1)
  obtain ⟨x, hx⟩ := get_of_lt (xs := allP css) (k := mI (sumA miss css (allP css)) ((allP css).length - 1)) (by omega)
  rw [bstP, bestA, show (allP css).getD (mI (sumA miss css (allP css)) ((allP css).length - 1)) [] = x by simp [List.getD, hx]]
  exact List.mem_of_getElem? hx
theorem bstP_len {css : List (List Int)} {miss : Int} : (bstP css miss).length = css.length := by
  have := allR_mem_len (bstP_mem (css := css) (miss := miss))
  simpa using this
def fBest (css : List (List Int)) (miss : Int) : List Int := if codeC css miss = 0 then bstP css miss else []
def fLeast (css : List (List Int)) (miss : Int) : Int := if codeC css miss = 0 then lstP css miss else 0
def fCnt (css : List (List Int)) : Int × Int := if areB css then (((allP css).length : Int), 0) else (0, 1)
end Go.Proofs.YthbljfanoaibkaaGreatDoor
namespace Go.Proofs.YthbljfanoaibkaaGreatDoor
open Go.RowKit Go.ChangeShapes Go.WideShapes Go.ChangeAt
set_option linter.unusedVariables false
set_option linter.unusedSimpArgs false
/-- 'append(out, list...)' onto a slice of numbers of the call's own -/
theorem push_ints {ops : Array Oper} {rest : List Oper} {o : Oper} {a : Act} {Q : Exit → Act → World → Prop} {W : World} {xs ys : List Int} {v u : Value} {base base2 : Nat} (hown : OwnI W base v xs) (hu : OwnI W base2 u ys) (hgd : o.guard = none) (s x : Operand)
    (ho : o.op = .call { callee := .builtin .append, args := #[s, x], argTypes := #[34, 34] }) (hs : a.eval s = v) (hx : a.eval x = u) (hbase : base ≤ W.heap.size) (hb : xs.length ≤ 1048576) (hb2 : ys.length ≤ 1048576)
    (h : ∀ v' w', OwnI w' base v' (xs ++ ys) → W.grownBy w' v.ownBlock → Below base W w' → wpList Tryz.prog ops Q rest (a.put o.dst v') w') : wpList Tryz.prog ops Q (o :: rest) a W := by
  obtain ⟨i0, hi, hz0, hz1, hz2⟩ := info_parts int_info
  have hown' := hown
  obtain ⟨A, c, hv, hr2⟩ := hown
  obtain ⟨B, d, hu1, hu2⟩ := hu
  subst hv hu1
  rcases Joins.ownsRow_forms hu2 with ⟨e1, e2⟩ | ⟨g, cap, e1⟩
  · have e3 : ys = [] := List.eq_nil_of_length_eq_zero e2
    subst e3
    refine wpList_append_own_none hgd s x 34 ho base 2 i0 1 Tryz.underlying34 hi _ xs.length (xs.map (Value.int .i64)) hs hr2 (by rw [hx]; exact e1) (h _ _ (by rw [List.append_nil]; exact hown') (World.grownBy.refl _ _) (Below.refl _ _))
  · have hc := hu2.cells (g := g) (by rw [e1]; rfl)
    refine wpList_append_own W hgd s x 34 ho base 2 i0 _ 1 8 Tryz.underlying34 hi hz0 hz1 hz2 rfl (by omega) _ xs.length (xs.map (Value.int .i64)) hs hr2 ⟨g, 0, none⟩ ys.length cap (ys.map (Value.int .i64)) (by rw [hx]; exact e1) (by simp) hc (fun u hu => ?_) (by simp only [maxLen]; omega) (by omega) hbase ?_
    · rw [List.mem_map] at hu
      obtain ⟨u', _, rfl⟩ := hu
      rfl
    · intro v' w1 h1 h2 h3
      rw [← List.map_append] at h1
      rcases Joins.ownsRow_forms h1 with ⟨e4, e5⟩ | ⟨g', cap', e4⟩
      · subst e4
        refine h _ _ ⟨none, 0, by rw [List.length_append, e5], ?_⟩ h2 (below_of_grownBy h2 hown' hbase)
        rw [List.length_append]; rw [e5] at h1 ⊢; exact h1
      · subst e4
        refine h _ _ ⟨some ⟨g', 0, none⟩, cap', by rw [List.length_append], ?_⟩ h2 (below_of_grownBy h2 hown' hbase)
        rw [List.length_append]; exact h1
/-- 'append(out, rows...)' -/
theorem push_rows {ops : Array Oper} {rest : List Oper} {o : Oper} {a : Act} {Q : Exit → Act → World → Prop} {W : World} {xss yss : List (List Int)} {v u : Value} {lo mid hi : Nat} (hown : OwnLL W lo mid v xss) (hu : OwnLL W mid hi u yss) (hgd : o.guard = none) (s x : Operand)
    (ho : o.op = .call { callee := .builtin .append, args := #[s, x], argTypes := #[100, 100] }) (hs : a.eval s = v) (hx : a.eval x = u) (hlm : lo ≤ mid) (hbase : mid ≤ W.heap.size) (hb : xss.length ≤ 1048576) (hb2 : yss.length ≤ 1048576)
    (h : ∀ v' w', OwnLL w' lo w'.heap.size v' (xss ++ yss) → W.grownBy w' v.ownBlock → Below lo W w' → wpList Tryz.prog ops Q rest (a.put o.dst v') w') : wpList Tryz.prog ops Q (o :: rest) a W := by
  obtain ⟨i0, hinf, hz0, hz1, hz2⟩ := info_parts ints_info'
  have hown' := hown
  obtain ⟨A, c, zs, hv, hz, hr, hk, h4, h5⟩ := hown
  obtain ⟨B, d, zs2, hu1, hz2', hr2, hk2, h42, h52⟩ := hu
  subst hv hu1
  rcases Joins.ownsRow_forms hr2 with ⟨e1, e2⟩ | ⟨g, cap, e1⟩
  · have e3 : yss = [] := List.eq_nil_of_length_eq_zero e2
    subst e3
    refine wpList_append_own_none hgd s x 100 ho lo 34 i0 1 Tryz.underlying100 hinf _ xss.length zs hs hr (by rw [hx]; exact e1) (h _ _ (by rw [List.append_nil]; exact hown'.mono (Nat.le_refl _) hbase) (World.grownBy.refl _ _) (Below.refl _ _))
  · have hc := hr2.cells (g := g) (by rw [e1]; rfl)
    have hone : ∀ z ∈ zs2, z.oneCell' = true := fun z hzm => by
      obtain ⟨j, hj⟩ := List.getElem?_of_mem hzm
      obtain ⟨ys, hy⟩ := get_of_lt (xs := yss) (k := j) (by have := lt_of_get hj; omega)
      obtain ⟨Az, cz, rfl, _⟩ := (h42 j z ys hj hy).1
      rfl
    refine wpList_append_own W hgd s x 100 ho lo 34 i0 _ 1 24 Tryz.underlying100 hinf hz0 hz1 hz2 rfl (by omega) _ xss.length zs hs hr ⟨g, 0, none⟩ yss.length cap zs2 (by rw [hx]; exact e1) (by rw [hz2']; omega) hc hone (by simp only [maxLen]; omega) (by omega) (by omega) ?_
    intro v' w1 h1 h2 h3
    have hB : Below lo W w1 := ⟨h2.os, h2.tape, h2.output, h2.size, fun k hk => h2.block k (by omega) (fun e => by have := (hr.lt k e.symm).1; omega)⟩
    have hform : ∃ A' c', v' = .slice A' (xss.length + yss.length) c' := by
      rcases Joins.ownsRow_forms h1 with ⟨e4, e5⟩ | ⟨g', cap', e4⟩
      · exact ⟨none, 0, by rw [e4, e5]⟩
      · exact ⟨_, _, e4⟩
    obtain ⟨A', c', rfl⟩ := hform
    refine h _ _ ⟨A', c', zs ++ zs2, by rw [List.length_append], by rw [List.length_append, List.length_append, hz, hz2'], by rw [List.length_append]; exact h1, fun k hk => (h1.lt k hk).2, fun j z xs hj hxj => ?_, fun i j zi zj hij hi hj => ?_⟩ h2 hB
    · rcases Nat.lt_or_ge j xss.length with h | h
      · rw [List.getElem?_append_left (by omega)] at hj
        rw [List.getElem?_append_left h] at hxj
        have q := (h4 j z xs hj hxj).1.kept h2 (own_kinds (h4 j z xs hj hxj).1 hr)
        exact ⟨q, fun k hk => (q.lt k hk).2⟩
      · rw [List.getElem?_append_right (by omega), hz] at hj
        rw [List.getElem?_append_right h] at hxj
        have q0 := (h42 _ z xs hj hxj).1.mono hlm
        have q := q0.kept h2 (own_kinds q0 hr)
        exact ⟨q, fun k hk => (q.lt k hk).2⟩
    · rcases Nat.lt_or_ge j zs.length with h | h
      · rw [List.getElem?_append_left (by omega)] at hi
        rw [List.getElem?_append_left h] at hj
        exact h5 i j zi zj hij hi hj
      · rw [List.getElem?_append_right h] at hj
        rcases Nat.lt_or_ge i zs.length with h' | h'
        · rw [List.getElem?_append_left h'] at hi
          obtain ⟨xs, hxi⟩ := get_of_lt (xs := xss) (k := i) (by omega)
          obtain ⟨ys, hyj⟩ := get_of_lt (xs := yss) (k := j - zs.length) (by have := lt_of_get hj; omega)
          cases hzi : zi.ownBlock with
          | none => exact .inl rfl
          | some q =>
            refine .inr fun e => ?_
            have := (h4 i zi xs hi hxi).2 q hzi
            have := ((h42 _ zj ys hj hyj).1.lt q e.symm).1
            omega
        · rw [List.getElem?_append_right h'] at hi
          exact h52 _ _ zi zj (by omega) hi hj
set_option maxHeartbeats 400000 in
theorem spec_l01Own (v : Value) (base : Nat) (ys : List Int) (w : World) (ho : OwnI w base v ys) (hl : ys.length ≤ 1048576) :
    Calls Tryz.prog 107 #[v] w fun e w' => ∃ v', e = .returned v' ∧ OwnI w' w.heap.size v' ys ∧ Below w.heap.size w w' := by
  obtain ⟨B, d, rfl, _⟩ := id ho
  go_enter Tryz.func107, Tryz.ntmps107
  go_wp2_with (at_builtin; refine push_ints (W := w.alloc (.cells #[] 2)) (xs := []) (base := w.heap.size) (by exact OwnI.lit0 (Nat.le_refl _)) (by exact ho.alloc _) rfl _ _ rfl rfl rfl (by simp) (by simp) hl ?_; intro v' w4 ho4 hg4 hb4)
  all_goals go_returns
  rw [List.nil_append] at ho4
  exact ⟨_, rfl, ho4, (show Below w.heap.size w (w.alloc (.cells #[] 2)) from by exact bgr).trans hb4⟩
theorem OwnLL.lit1 {W : World} {lo : Nat} {y : Value} {ys : List Int} (hy : OwnI W lo y ys) (h : lo ≤ W.heap.size) : OwnLL (W.alloc (.cells #[y] 34)) lo (W.heap.size + 1) (.slice (some ⟨W.heap.size, 0, none⟩) 1 1) [ys] := by
  refine ⟨some ⟨W.heap.size, 0, none⟩, 1, [y], rfl, rfl, World.ownsRow_lit W #[y] 1 h (by simp [maxLen]) rfl, fun k hk => by simp [Value.ownBlock] at hk; omega, fun j z xs hz hx => ?_, fun i j zi zj hij hi hj => ?_⟩
  · have : j = 0 := by have := lt_of_get hz; simp at this; omega
    subst this
    simp at hz hx
    subst hz hx
    exact ⟨hy.alloc _, fun k hk => by have := (hy.lt k hk).2; omega⟩
  · have := lt_of_get hj
    simp at this; omega
set_option maxRecDepth 100000 in
set_option maxHeartbeats 1600000 in
theorem spec_l15All : ∀ (rest pre : List (List Int)) (A : Option Addr) (c base : Nat) (v : Value) (ps : List Int) (w : World) (hr : II64 w w.heap.size A (pre ++ rest)) (hA : areB (pre ++ rest) = true) (ho : OwnI w base v ps) (hlen : ps.length = pre.length) ,
    Calls Tryz.prog 89 #[.slice A (pre ++ rest).length c, v] w fun e w' => ∃ v', e = .returned v' ∧ OwnLL w' w.heap.size w'.heap.size v' (allR rest ps) ∧ Below w.heap.size w w'
  | [], pre, A, c, base, v, ps, w, hr, hA, ho, hlen => by
    obtain ⟨B, d, rfl, _⟩ := id ho
    have e0 : (pre ++ ([] : List (List Int))).length = ps.length := by simp [hlen]
    have h6 := (are_facts hA).1
    rw [e0] at h6 ⊢
    have hone : Hid (allR [] ps = [ps]) := rfl
    have hlH := Lib.hid hlen
    clear hlen e0
    go_enter Tryz.func89, Tryz.ntmps89
    go_wp2_with (go_at_call 107; refine (spec_l01Own _ _ _ _ (ho.below (by exact bgr)) (by omega)).mono ?_; rintro e w1 ⟨v1, rfl, o1, hbw1⟩; have hzw1 := hbw1.size; (try simp only [World.size_alloc, World.size_setCell, World.size_drew] at hzw1); obtain ⟨A1, c1, rfl, _⟩ := id o1)
    all_goals go_returns
    rw [hone.out]
    have o1' : OwnI w1 w.heap.size (.slice A1 ps.length c1) ps := OwnI.mono o1 (by simp)
    exact ⟨_, rfl, (OwnLL.lit1 o1' (by omega)).mono (Nat.le_refl _) (by simp), by exact bgr⟩
  | row :: rest, pre, A, c, base, v, ps, w, hr, hA, ho, hlen => by
    obtain ⟨B, d, rfl, _⟩ := id ho
    obtain ⟨css, hcss⟩ : ∃ css, css = pre ++ row :: rest := ⟨_, rfl⟩
    have e1 : (pre ++ [row]) ++ rest = css := by rw [hcss]; simp
    rw [← hcss] at hr hA ⊢
    have h6 := (are_facts hA).1
    have hrow : css[ps.length]? = some row := by rw [hcss, hlen, List.getElem?_append_right (Nat.le_refl _), Nat.sub_self]; rfl
    have hrl := ((are_facts hA).2 _ row hrow).1
    have hne : ((ps.length : Int) == (css.length : Int)) = false := by have := lt_of_get hrow; simp; omega
    have hps6 : ps.length < css.length := lt_of_get hrow
    have hrest : ∀ r ∈ rest, r.length ≤ 6 := fun r hr => by
      obtain ⟨j, hj⟩ := List.getElem?_of_mem (show r ∈ css by rw [hcss]; simp [hr])
      exact ((are_facts hA).2 j r hj).1
    have hrest6 : rest.length + 1 ≤ 6 := by have := congrArg List.length hcss; simp at this; omega
    have IH := Lib.hid (fun (base' : Nat) (v' : Value) (qs : List Int) (w' : World) (hr' : II64 w' w'.heap.size A css) (ho' : OwnI w' base' v' qs) (hl' : qs.length = ps.length + 1) => by
      have h := spec_l15All rest (pre ++ [row]) A c base' v' qs w' (by rw [e1]; exact hr') (by rw [e1]; exact hA) ho' (by rw [hl', hlen]; simp)
      rw [e1] at h; exact h)
    have hrowH := Lib.hid hrow
    have hrestH := Lib.hid hrest
    have hacc := Lib.hid (allR_cons (row := row) (rest := rest) (ps := ps))
    clear hcss e1 hlen hrow hrest hA
    obtain ⟨b, o, A', c', rfl, hb, hc, hi⟩ := hr.at_ hrowH.out
    have p0 : (0 : Int) ≤ (ps.length : Int) := by omega
    have p1 : (ps.length : Int) < (css.length : Int) := by omega
    go_enter Tryz.func89, Tryz.ntmps89
    repeat' (first | fail | go_values | go_skip | go_guarded | go_step | go_upon | (simp only []; go_step) | (go_ite <;> go_prune <;> (try go_simp)))
    go_loopw [6, 7] (fun vv kv wr => ∃ m : Nat, m ≤ row.length + 1 ∧ kv = .int .i64 ((m : Int) - 1) ∧ OwnLL wr w.heap.size wr.heap.size vv (accU row rest ps m) ∧ Below w.heap.size w wr) (fun _ kv _ => row.length + 1 - (intOf kv + 1).toNat)
    case atStart => exact ⟨0, Nat.zero_le _, by simp, by simpa [accU_zero] using OwnLL.lit0 (lo := w.heap.size) (W := w) (Nat.le_refl _), by exact bgr⟩
    case round =>
      rename World => W0
      obtain ⟨m, hm, rfl, hv, hbr⟩ := hrel
      have hsz := hbr.size
      have hrW := hr.up hbr
      have hlm := accU_len (row := row) (ps := ps) hrestH.out (m := m) (by omega)
      have hp7 := pow7 hrest6
      have hbig : (accU row rest ps m).length ≤ 1048576 := by omega
      clear hlm hp7
      obtain ⟨Av, cv, rfl⟩ := hv.form
      rcases m with _ | j
      · rw [show ((0 : Nat) : Int) - 1 = -1 by rfl]
        have hsu := Lib.hid (accU_one (row := row) (rest := rest) (ps := ps))
        repeat' (first | fail | go_values | go_skip | go_guarded | go_step | go_upon | (simp only []; go_step) | (go_ite <;> go_prune <;> (try go_simp)))
        refine (spec_l01Own _ _ _ _ (ho.below (show Below w.heap.size w W0 from hbr)) (by omega)).mono ?_; rintro e w1 ⟨v1, rfl, o1, hbw1⟩; have hzw1 := hbw1.size; (try simp only [World.size_alloc, World.size_setCell, World.size_drew] at hzw1)
        go_wp2_with (at_builtin; refine push_int (base := W0.heap.size) (by exact o1) rfl _ _ rfl rfl rfl (by omega) (by omega) ?_; intro v2 w2 o2 hg2 hb2)
        have B2 : Below W0.heap.size W0 w2 := hbw1.trans hb2
        have hsz2 := B2.size
        refine (IH.out _ _ _ _ (hrW.up B2) o2 (by simp)).mono ?_; rintro e w3 ⟨v3, rfl, o3, hbw3⟩; have hzw3 := hbw3.size; (try simp only [World.size_alloc, World.size_setCell, World.size_drew] at hzw3)
        have B3 : Below W0.heap.size W0 w3 := B2.trans (hbw3.mono hsz2)
        have hv3 := hv.next B3
        have o3' : OwnLL w3 W0.heap.size w3.heap.size v3 (allR rest (ps ++ [-1])) := o3.mono hsz2 (Nat.le_refl _)
        have hl3 := allR_len (ps := ps ++ [-1]) hrestH.out
        have hp3 := pow7 (show rest.length ≤ 6 by omega)
        have hl3' : (allR rest (ps ++ [-1])).length ≤ 1048576 := by omega
        have hsz3 := B3.size
        clear hl3 hp3
        go_wp2_with (at_builtin; refine push_rows (lo := w.heap.size) (mid := W0.heap.size) (by exact hv3) (by exact o3') rfl _ _ rfl rfl rfl hsz hsz3 hbig hl3' ?_; intro v4 w4 o4 hg4 hb4)
        exact ⟨⟨1, by omega, by rfl, by rw [hsu.out, ← List.nil_append (allR rest (ps ++ [-1]))]; exact o4, (hbr.trans (B3.mono hsz)).trans hb4⟩, by simp [intOf] <;> omega⟩
      · rw [show ((j + 1 : Nat) : Int) - 1 = (j : Int) by omega]
        have q0 : ¬ (j : Int) < 0 := by omega
        by_cases hj : j < row.length
        · obtain ⟨y, hy⟩ := get_of_lt hj
          obtain ⟨b3, o3, rfl, hb3, hc3⟩ := (hi.up hbr).at_ hy
          have q1 : (0 : Int) ≤ (j : Int) := by omega
          have q2 : (j : Int) < (row.length : Int) := by omega
          have q3 : (-1 : Int) < (row.length : Int) := by omega
          have hyes := Lib.hid (accU_yes (row := row) (rest := rest) (ps := ps) hy)
          have hno := Lib.hid (accU_no (row := row) (rest := rest) (ps := ps) hy)
          clear hy
          by_cases y0 : 0 ≤ y
          · cases y2 : decide ((j : Int) ∈ ps)
            · have hsu := Lib.hid (hyes.out y0 (by simpa using y2))
              clear hyes hno
              repeat' (first | fail | go_values | go_skip | go_guarded | go_step | go_upon | (simp only []; go_step) | (go_ite <;> go_prune <;> (try go_simp)))
              refine (spec_l01HasB _ _ _ _ _ _ (ho.reads.2.up hbr) (by omega) y2).mono ?_
              rintro e w' ⟨rfl, rfl⟩
              repeat' (first | fail | go_values | go_skip | go_guarded | go_step | go_upon | (simp only []; go_step) | (go_ite <;> go_prune <;> (try go_simp)))
              refine (spec_l01Own _ _ _ _ (ho.below (show Below w.heap.size w W0 from hbr)) (by omega)).mono ?_; rintro e w1 ⟨v1, rfl, o1, hbw1⟩; have hzw1 := hbw1.size; (try simp only [World.size_alloc, World.size_setCell, World.size_drew] at hzw1)
              go_wp2_with (at_builtin; refine push_int (base := W0.heap.size) (by exact o1) rfl _ _ rfl rfl rfl (by omega) (by omega) ?_; intro v2 w2 o2 hg2 hb2)
              have B2 : Below W0.heap.size W0 w2 := hbw1.trans hb2
              have hsz2 := B2.size
              refine (IH.out _ _ _ _ (hrW.up B2) o2 (by simp)).mono ?_; rintro e w3 ⟨v3, rfl, o3, hbw3⟩; have hzw3 := hbw3.size; (try simp only [World.size_alloc, World.size_setCell, World.size_drew] at hzw3)
              have B3 : Below W0.heap.size W0 w3 := B2.trans (hbw3.mono hsz2)
              have hv3 := hv.next B3
              have o3' : OwnLL w3 W0.heap.size w3.heap.size v3 (allR rest (ps ++ [(j : Int)])) := o3.mono hsz2 (Nat.le_refl _)
              have hl3 := allR_len (ps := ps ++ [(j : Int)]) hrestH.out
              have hp3 := pow7 (show rest.length ≤ 6 by omega)
              have hl3' : (allR rest (ps ++ [(j : Int)])).length ≤ 1048576 := by omega
              have hsz3 := B3.size
              clear hl3 hp3
              go_wp2_with (at_builtin; refine push_rows (lo := w.heap.size) (mid := W0.heap.size) (by exact hv3) (by exact o3') rfl _ _ rfl rfl rfl hsz hsz3 hbig hl3' ?_; intro v4 w4 o4 hg4 hb4)
              exact ⟨⟨j + 1 + 1, by omega, by congr 1; omega, by rw [hsu.out]; exact o4, (hbr.trans (B3.mono hsz)).trans hb4⟩, by simp [intOf]; omega⟩
            · have hsu := Lib.hid (hno.out (.inr (by simpa using y2)))
              clear hyes hno
              repeat' (first | fail | go_values | go_skip | go_guarded | go_step | go_upon | (simp only []; go_step) | (go_ite <;> go_prune <;> (try go_simp)))
              refine (spec_l01HasB _ _ _ _ _ _ (ho.reads.2.up hbr) (by omega) y2).mono ?_
              rintro e w' ⟨rfl, rfl⟩
              repeat' (first | fail | go_values | go_skip | go_guarded | go_step | go_upon | (simp only []; go_step) | (go_ite <;> go_prune <;> (try go_simp)))
              all_goals exact ⟨⟨j + 1 + 1, by omega, by congr 1; omega, by rw [hsu.out]; exact hv, by exact bgr⟩, by simp [intOf]; omega⟩
          · have hsu := Lib.hid (hno.out (.inl y0))
            clear hyes hno
            repeat' (first | fail | go_values | go_skip | go_guarded | go_step | go_upon | (simp only []; go_step) | (go_ite <;> go_prune <;> (try go_simp)))
            all_goals exact ⟨⟨j + 1 + 1, by omega, by congr 1; omega, by rw [hsu.out]; exact hv, by exact bgr⟩, by simp [intOf]; omega⟩
        · have e : j = row.length := by omega
          subst e
          repeat' (first | fail | go_values | go_skip | go_guarded | go_step | go_upon | (simp only []; go_step) | (go_ite <;> go_prune <;> (try go_simp)))
          all_goals go_returns
          all_goals exact ⟨_, rfl, by rw [hacc.out]; exact hv, hbr⟩
end Go.Proofs.YthbljfanoaibkaaGreatDoor
namespace Go.Proofs.YthbljfanoaibkaaGreatDoor
open Go.RowKit Go.ChangeShapes Go.WideShapes Go.ChangeAt
set_option linter.unusedVariables false
set_option linter.unusedSimpArgs false
theorem OwnLL.row {w : World} {lo hi n c j : Nat} {A : Option Addr} {xss : List (List Int)} {xs : List Int} (h : OwnLL w lo hi (.slice A n c) xss) (hx : xss[j]? = some xs) :
    ∃ g A' c', A = some ⟨g, 0, none⟩ ∧ lo ≤ g ∧ w.cell? ⟨g, j, none⟩ = some (.slice A' xs.length c') ∧ OwnI w lo (.slice A' xs.length c') xs := by
  obtain ⟨A', c', zs, h1, h2, h3, hk, h4, h5⟩ := h
  injection h1 with h1 hn hc
  subst h1 hn hc
  have hj := lt_of_get hx
  obtain ⟨g, cap, hv, hb, hlt⟩ := h3.form (by omega)
  injection hv with e1 e2 e3
  subst e1 e3
  obtain ⟨z, hz⟩ := get_of_lt (xs := zs) (k := j) (by omega)
  have ho := (h4 j z xs hz hx).1
  obtain ⟨A', c', rfl, _⟩ := id ho
  exact ⟨g, A', c', rfl, hb, by rw [h3.cellAt j (by omega), hz], ho⟩
theorem mI_succ {f : Nat → Int} {n : Nat} : mI f (n + 1) = if f (n + 1) < f (mI f n) then n + 1 else mI f n := rfl
set_option maxRecDepth 100000 in
set_option maxHeartbeats 1600000 in
theorem spec_l15Best (A : Option Addr) (c : Nat) (css : List (List Int)) (miss : Int) (w : World) (hr : II64 w w.heap.size A css) (hA : areB css = true) (h0 : 0 ≤ miss) (h1 : miss ≤ 1000000000000) :
    Calls Tryz.prog 74 #[.slice A css.length c, .int .i64 miss] w fun e w' => ∃ v, e = .returned v ∧ OwnI w' w.heap.size v (bstP css miss) ∧ Below w.heap.size w w' := by
  have h6 := (are_facts hA).1
  have hrw : ∀ (i : Nat) (xs : List Int), css[i]? = some xs → xs.length ≤ 1099511627776 := fun i xs h => by have := ((are_facts hA).2 i xs h).1; omega
  have hAll := fun w' (hr' : II64 w' w'.heap.size A css) => spec_l15All css [] A c 0 (.slice none 0 0) [] w' (by simpa using hr') (by simpa using hA) (OwnI.nil _ _) rfl
  obtain ⟨all, hall⟩ : ∃ all, all = allP css := ⟨_, rfl⟩
  have hAll : ∀ w' (hr' : II64 w' w'.heap.size A css), Calls Tryz.prog 89 #[.slice A css.length c, .slice none 0 0] w' fun e w2 => ∃ v', e = .returned v' ∧ OwnLL w2 w'.heap.size w2.heap.size v' all ∧ Below w'.heap.size w' w2 := fun w' hr' => by
    have h := hAll w' hr'
    rw [hall, allP]; simpa using h
  have hpos : 0 < all.length := by rw [hall]; exact allR_pos
  have hlen : all.length ≤ 117649 := by
    rw [hall]
    refine Nat.le_trans (allR_len (fun r hr => ?_)) (pow7 h6)
    obtain ⟨j, hj⟩ := List.getElem?_of_mem hr
    exact ((are_facts hA).2 j r hj).1
  have hpair : ∀ (i : Nat) (qs : List Int), all[i]? = some qs → pairB css qs = true ∧ qs.length ≤ 6 := fun i qs h => by
    have hm : qs ∈ allP css := by rw [← hall]; exact List.mem_of_getElem? h
    have := allP_pair hm
    have := (pair_facts this).1
    exact ⟨allP_pair hm, by omega⟩
  have hbst : Hid (bstP css miss = all.getD (mI (sumA miss css all) (all.length - 1)) []) := by unfold Hid; rw [bstP, bestA, ← hall]
  have hallH := Lib.hid hAll
  have hpairH := Lib.hid hpair
  have hrwH := Lib.hid hrw
  have hAH := Lib.hid hA
  obtain ⟨f, hf⟩ : ∃ f, f = sumA miss css all := ⟨_, rfl⟩
  rw [← hf] at hbst
  have hfv : Hid (∀ (i : Nat) (qs : List Int), all[i]? = some qs → f i = psk miss css qs qs.length) := fun i qs h => by rw [hf, sumA]; simp [List.getD, h]
  have hrwl : css.length ≤ 1099511627776 := by omega
  clear hAll hpair hrw hA hall hf
  go_enter Tryz.func74, Tryz.ntmps74
  repeat' (first | fail | go_values | go_skip | go_guarded | go_step | go_upon | (simp only []; go_step) | (go_ite <;> go_prune <;> (try go_simp)))
  refine (hallH.out _ (hr.up (by exact bgr))).mono ?_; rintro e w1 ⟨v1, rfl, o1, hbw1⟩; have hzw1 := hbw1.size; (try simp only [World.size_alloc, World.size_setCell, World.size_drew] at hzw1)
  obtain ⟨Al, cl, rfl⟩ := o1.form
  repeat' (first | fail | go_values | go_skip | go_guarded | go_step | go_upon | (simp only []; go_step) | (go_ite <;> go_prune <;> (try go_simp)))
  go_loopw [6, 7] (fun bv iv wr => ∃ i : Nat, 1 ≤ i ∧ i ≤ all.length ∧ iv = .int .i64 i ∧ bv = .int .i64 (mI f (i - 1)) ∧ Below w1.heap.size w1 wr) (fun _ iv _ => all.length - (intOf iv).toNat)
  case atStart => exact ⟨1, Nat.le_refl _, hpos, rfl, rfl, by exact bgr⟩
  case round =>
    obtain ⟨i, hi1, hi2, rfl, rfl, hbr⟩ := hrel
    have hmle := mI_le (f := f) (i - 1)
    obtain ⟨m, hm⟩ : ∃ m, m = mI f (i - 1) := ⟨_, rfl⟩
    rw [← hm] at hmle ⊢
    have hmH := Lib.hid hm
    have ol := o1.next hbr
    have hrW := (hr.up hbw1).up hbr
    clear hm
    by_cases hlt : i < all.length
    · obtain ⟨qs, hq⟩ := get_of_lt hlt
      obtain ⟨bs, hb⟩ := get_of_lt (xs := all) (k := m) (by omega)
      obtain ⟨g, A1, c1, rfl, hg, hc1, oq⟩ := ol.row hq
      obtain ⟨g2, A2, c2, eg, _, hc2, ob⟩ := ol.row hb
      simp only [Option.some.injEq, Addr.mk.injEq, and_true] at eg
      subst eg
      have hpq := hpairH.out i qs hq
      have hpb := hpairH.out m bs hb
      have fq := Lib.hid (hfv.out i qs hq)
      have fb := Lib.hid (hfv.out m bs hb)
      have p0 : (0 : Int) ≤ (i : Int) := by omega
      have p1 : (i : Int) < (all.length : Int) := by omega
      have p2 : (0 : Int) ≤ (m : Int) := by omega
      have p3 : (m : Int) < (all.length : Int) := by omega
      have hms : Hid (mI f (i + 1 - 1) = if psk miss css qs qs.length < psk miss css bs bs.length then i else m) := by
        unfold Hid
        rw [show i + 1 - 1 = (i - 1) + 1 by omega, mI_succ, ← hmH.out, show i - 1 + 1 = i by omega, fq.out, fb.out]
      obtain ⟨hpq1, hpq2⟩ := hpq
      obtain ⟨hpb1, hpb2⟩ := hpb
      have hpqH := Lib.hid hpq1
      have hpbH := Lib.hid hpb1
      clear hq hb hpq1 hpb1
      by_cases hcmp : psk miss css qs qs.length < psk miss css bs bs.length
      · have e : Hid (mI f (i + 1 - 1) = i) := by unfold Hid; rw [hms.out, if_pos hcmp]
        clear hms
        repeat' (first | fail | go_values | go_skip | go_guarded | go_step | go_upon | (simp only []; go_step) | (go_ite <;> go_prune <;> (try go_simp)))
        (refine wp_region_noPanic ?_; refine wp_region_held_drew (S := (fun w' => w'.cell? ⟨g, i, none⟩ = some (.slice A1 qs.length c1) ∧ w'.cell? ⟨g, m, none⟩ = some (.slice A2 bs.length c2))) (by kernel_rfl) ?_ (fun hHeld => ?_); (focus ((try dsimp only); (refine ⟨?_, ?_⟩ <;> exact bxc))); (refine takeT (i := 0) (d := 16) rfl rfl (by kernel_rfl) (by kernel_rfl) (by kernel_rfl) (by rfl) (by assumption) (v := ?_) ?_ ?_; rotate_left; (focus (intro wq hSw; (try dsimp only at hSw); go_simp; (try (with_reducible rfl)); done)); (try simp only [Act.put, List.setIfInBounds_toArray, List.set_cons_zero, List.set_cons_succ])); (refine takeT (i := 1) (d := 17) rfl rfl (by kernel_rfl) (by kernel_rfl) (by kernel_rfl) (by rfl) (by assumption) (v := ?_) ?_ ?_; rotate_left; (focus (intro wq hSw; (try dsimp only at hSw); go_simp; (try (with_reducible rfl)); done)); (try simp only [Act.put, List.setIfInBounds_toArray, List.set_cons_zero, List.set_cons_succ])); (refine takeT (i := 2) (d := 18) rfl rfl (by kernel_rfl) (by kernel_rfl) (by kernel_rfl) (by rfl) (by assumption) (v := ?_) ?_ ?_; rotate_left; (focus (intro wq hSw; (try dsimp only at hSw); go_simp; (try (with_reducible rfl)); done)); (try simp only [Act.put, List.setIfInBounds_toArray, List.set_cons_zero, List.set_cons_succ])); (refine takeT (i := 3) (d := 19) rfl rfl (by kernel_rfl) (by kernel_rfl) (by kernel_rfl) (by rfl) (by assumption) (v := ?_) ?_ ?_; rotate_left; (focus (intro wq hSw; (try dsimp only at hSw); go_simp; (try (with_reducible rfl)); done)); (try simp only [Act.put, List.setIfInBounds_toArray, List.set_cons_zero, List.set_cons_succ])); (refine takeT (i := 4) (d := 20) rfl rfl (by kernel_rfl) (by kernel_rfl) (by kernel_rfl) (by rfl) (by assumption) (v := ?_) ?_ ?_; rotate_left; (focus (intro wq hSw; (try dsimp only at hSw); go_simp; (try (with_reducible rfl)); done)); (try simp only [Act.put, List.setIfInBounds_toArray, List.set_cons_zero, List.set_cons_succ])); (refine takeT (i := 5) (d := 21) rfl rfl (by kernel_rfl) (by kernel_rfl) (by kernel_rfl) (by rfl) (by assumption) (v := ?_) ?_ ?_; rotate_left; (focus (intro wq hSw; (try dsimp only at hSw); go_simp; (try (with_reducible rfl)); done)); (try simp only [Act.put, List.setIfInBounds_toArray, List.set_cons_zero, List.set_cons_succ])); (refine takeT (i := 7) (d := 23) rfl rfl (by kernel_rfl) (by kernel_rfl) (by kernel_rfl) (by rfl) (by assumption) (v := ?_) ?_ ?_; rotate_left; (focus (intro wq hSw; (try dsimp only at hSw); go_simp; (try (with_reducible rfl)); done)); (try simp only [Act.put, List.setIfInBounds_toArray, List.set_cons_zero, List.set_cons_succ])); (refine takeT (i := 8) (d := 24) rfl rfl (by kernel_rfl) (by kernel_rfl) (by kernel_rfl) (by rfl) (by assumption) (v := ?_) ?_ ?_; rotate_left; (focus (intro wq hSw; (try dsimp only at hSw); go_simp; (try (with_reducible rfl)); done)); (try simp only [Act.put, List.setIfInBounds_toArray, List.set_cons_zero, List.set_cons_succ])); (refine takeT (i := 9) (d := 25) rfl rfl (by kernel_rfl) (by kernel_rfl) (by kernel_rfl) (by rfl) (by assumption) (v := ?_) ?_ ?_; rotate_left; (focus (intro wq hSw; (try dsimp only at hSw); go_simp; (try (with_reducible rfl)); done)); (try simp only [Act.put, List.setIfInBounds_toArray, List.set_cons_zero, List.set_cons_succ])); (refine takeT (i := 10) (d := 26) rfl rfl (by kernel_rfl) (by kernel_rfl) (by kernel_rfl) (by rfl) (by assumption) (v := ?_) ?_ ?_; rotate_left; (focus (intro wq hSw; (try dsimp only at hSw); go_simp; (try (with_reducible rfl)); done)); (try simp only [Act.put, List.setIfInBounds_toArray, List.set_cons_zero, List.set_cons_succ])); (refine takeT (i := 11) (d := 27) rfl rfl (by kernel_rfl) (by kernel_rfl) (by kernel_rfl) (by rfl) (by assumption) (v := ?_) ?_ ?_; rotate_left; (focus (intro wq hSw; (try dsimp only at hSw); go_simp; (try (with_reducible rfl)); done)); (try simp only [Act.put, List.setIfInBounds_toArray, List.set_cons_zero, List.set_cons_succ])); (refine takeT (i := 12) (d := 28) rfl rfl (by kernel_rfl) (by kernel_rfl) (by kernel_rfl) (by rfl) (by assumption) (v := ?_) ?_ ?_; rotate_left; (focus (intro wq hSw; (try dsimp only at hSw); go_simp; (try (with_reducible rfl)); done)); (try simp only [Act.put, List.setIfInBounds_toArray, List.set_cons_zero, List.set_cons_succ])); (refine wpAnyH_ready (rs := [6]) (by kernel_rfl) (by simp) ?_; refine AllReadyH.cons rfl (fun K hK => ?_) AllReadyH.nil; go_simp; (first | (go_at_call 90; (first | (with_reducible refine (spec_pairSum _ _ _ _ A1 c1 qs _ ?_ ?_ hrwH.out ?_ ?_ hAH.out hpqH.out h0 h1).mono ?_) | (with_reducible refine (spec_pairSum _ _ _ _ A2 c2 bs _ ?_ ?_ hrwH.out ?_ ?_ hAH.out hpbH.out h0 h1).mono ?_)); (focus (exact hrW.up (by exact bgr))); (focus (omega)); (focus (first | exact oq.reads.2.up (by exact bgr) | exact ob.reads.2.up (by exact bgr))); (focus (omega)); rintro e w2 ⟨rfl, hbw2⟩; have hzw2 := hbw2.size; (try simp only [World.size_drew] at hzw2)) | skip); (try go_wp2_with fail); refine hK.out _ _ ?_ (fun hHeld => ?_); (focus ((try dsimp only); (refine ⟨?_, ?_⟩ <;> exact bxc))); clear hK K; (try simp only [Act.put, List.setIfInBounds_toArray, List.set_cons_zero, List.set_cons_succ])); (refine wpAnyH_ready (rs := [13]) (by kernel_rfl) (by simp) ?_; refine AllReadyH.cons rfl (fun K hK => ?_) AllReadyH.nil; go_simp; (first | (go_at_call 90; (first | (with_reducible refine (spec_pairSum _ _ _ _ A1 c1 qs _ ?_ ?_ hrwH.out ?_ ?_ hAH.out hpqH.out h0 h1).mono ?_) | (with_reducible refine (spec_pairSum _ _ _ _ A2 c2 bs _ ?_ ?_ hrwH.out ?_ ?_ hAH.out hpbH.out h0 h1).mono ?_)); (focus (exact hrW.up (by exact bgr))); (focus (omega)); (focus (first | exact oq.reads.2.up (by exact bgr) | exact ob.reads.2.up (by exact bgr))); (focus (omega)); rintro e w2 ⟨rfl, hbw2⟩; have hzw2 := hbw2.size; (try simp only [World.size_drew] at hzw2)) | skip); (try go_wp2_with fail); refine hK.out _ _ ?_ (fun hHeld => ?_); (focus ((try dsimp only); (refine ⟨?_, ?_⟩ <;> exact bxc))); clear hK K; (try simp only [Act.put, List.setIfInBounds_toArray, List.set_cons_zero, List.set_cons_succ])); (refine takeT (i := 14) (d := 30) rfl rfl (by kernel_rfl) (by kernel_rfl) (by kernel_rfl) (by rfl) (by assumption) (v := ?_) ?_ ?_; rotate_left; (focus (intro wq hSw; (try dsimp only at hSw); go_simp; (try (with_reducible rfl)); done)); (try simp only [Act.put, List.setIfInBounds_toArray, List.set_cons_zero, List.set_cons_succ])); refine wpAnyH_done (by kernel_rfl) ?_ _; refine NoPanic.normal ?_)
        repeat' (first | fail | go_values | go_skip | go_guarded | go_step | go_upon | (simp only []; go_step) | (go_ite <;> go_prune <;> (try go_simp)))
        all_goals exact ⟨⟨i + 1, by omega, by omega, by go_num, by rw [e.out], by exact bgr⟩, by simp [intOf]; omega⟩
      · have e : Hid (mI f (i + 1 - 1) = m) := by unfold Hid; rw [hms.out, if_neg hcmp]
        clear hms
        repeat' (first | fail | go_values | go_skip | go_guarded | go_step | go_upon | (simp only []; go_step) | (go_ite <;> go_prune <;> (try go_simp)))
        (refine wp_region_noPanic ?_; refine wp_region_held_drew (S := (fun w' => w'.cell? ⟨g, i, none⟩ = some (.slice A1 qs.length c1) ∧ w'.cell? ⟨g, m, none⟩ = some (.slice A2 bs.length c2))) (by kernel_rfl) ?_ (fun hHeld => ?_); (focus ((try dsimp only); (refine ⟨?_, ?_⟩ <;> exact bxc))); (refine takeT (i := 0) (d := 16) rfl rfl (by kernel_rfl) (by kernel_rfl) (by kernel_rfl) (by rfl) (by assumption) (v := ?_) ?_ ?_; rotate_left; (focus (intro wq hSw; (try dsimp only at hSw); go_simp; (try (with_reducible rfl)); done)); (try simp only [Act.put, List.setIfInBounds_toArray, List.set_cons_zero, List.set_cons_succ])); (refine takeT (i := 1) (d := 17) rfl rfl (by kernel_rfl) (by kernel_rfl) (by kernel_rfl) (by rfl) (by assumption) (v := ?_) ?_ ?_; rotate_left; (focus (intro wq hSw; (try dsimp only at hSw); go_simp; (try (with_reducible rfl)); done)); (try simp only [Act.put, List.setIfInBounds_toArray, List.set_cons_zero, List.set_cons_succ])); (refine takeT (i := 2) (d := 18) rfl rfl (by kernel_rfl) (by kernel_rfl) (by kernel_rfl) (by rfl) (by assumption) (v := ?_) ?_ ?_; rotate_left; (focus (intro wq hSw; (try dsimp only at hSw); go_simp; (try (with_reducible rfl)); done)); (try simp only [Act.put, List.setIfInBounds_toArray, List.set_cons_zero, List.set_cons_succ])); (refine takeT (i := 3) (d := 19) rfl rfl (by kernel_rfl) (by kernel_rfl) (by kernel_rfl) (by rfl) (by assumption) (v := ?_) ?_ ?_; rotate_left; (focus (intro wq hSw; (try dsimp only at hSw); go_simp; (try (with_reducible rfl)); done)); (try simp only [Act.put, List.setIfInBounds_toArray, List.set_cons_zero, List.set_cons_succ])); (refine takeT (i := 4) (d := 20) rfl rfl (by kernel_rfl) (by kernel_rfl) (by kernel_rfl) (by rfl) (by assumption) (v := ?_) ?_ ?_; rotate_left; (focus (intro wq hSw; (try dsimp only at hSw); go_simp; (try (with_reducible rfl)); done)); (try simp only [Act.put, List.setIfInBounds_toArray, List.set_cons_zero, List.set_cons_succ])); (refine takeT (i := 5) (d := 21) rfl rfl (by kernel_rfl) (by kernel_rfl) (by kernel_rfl) (by rfl) (by assumption) (v := ?_) ?_ ?_; rotate_left; (focus (intro wq hSw; (try dsimp only at hSw); go_simp; (try (with_reducible rfl)); done)); (try simp only [Act.put, List.setIfInBounds_toArray, List.set_cons_zero, List.set_cons_succ])); (refine takeT (i := 7) (d := 23) rfl rfl (by kernel_rfl) (by kernel_rfl) (by kernel_rfl) (by rfl) (by assumption) (v := ?_) ?_ ?_; rotate_left; (focus (intro wq hSw; (try dsimp only at hSw); go_simp; (try (with_reducible rfl)); done)); (try simp only [Act.put, List.setIfInBounds_toArray, List.set_cons_zero, List.set_cons_succ])); (refine takeT (i := 8) (d := 24) rfl rfl (by kernel_rfl) (by kernel_rfl) (by kernel_rfl) (by rfl) (by assumption) (v := ?_) ?_ ?_; rotate_left; (focus (intro wq hSw; (try dsimp only at hSw); go_simp; (try (with_reducible rfl)); done)); (try simp only [Act.put, List.setIfInBounds_toArray, List.set_cons_zero, List.set_cons_succ])); (refine takeT (i := 9) (d := 25) rfl rfl (by kernel_rfl) (by kernel_rfl) (by kernel_rfl) (by rfl) (by assumption) (v := ?_) ?_ ?_; rotate_left; (focus (intro wq hSw; (try dsimp only at hSw); go_simp; (try (with_reducible rfl)); done)); (try simp only [Act.put, List.setIfInBounds_toArray, List.set_cons_zero, List.set_cons_succ])); (refine takeT (i := 10) (d := 26) rfl rfl (by kernel_rfl) (by kernel_rfl) (by kernel_rfl) (by rfl) (by assumption) (v := ?_) ?_ ?_; rotate_left; (focus (intro wq hSw; (try dsimp only at hSw); go_simp; (try (with_reducible rfl)); done)); (try simp only [Act.put, List.setIfInBounds_toArray, List.set_cons_zero, List.set_cons_succ])); (refine takeT (i := 11) (d := 27) rfl rfl (by kernel_rfl) (by kernel_rfl) (by kernel_rfl) (by rfl) (by assumption) (v := ?_) ?_ ?_; rotate_left; (focus (intro wq hSw; (try dsimp only at hSw); go_simp; (try (with_reducible rfl)); done)); (try simp only [Act.put, List.setIfInBounds_toArray, List.set_cons_zero, List.set_cons_succ])); (refine takeT (i := 12) (d := 28) rfl rfl (by kernel_rfl) (by kernel_rfl) (by kernel_rfl) (by rfl) (by assumption) (v := ?_) ?_ ?_; rotate_left; (focus (intro wq hSw; (try dsimp only at hSw); go_simp; (try (with_reducible rfl)); done)); (try simp only [Act.put, List.setIfInBounds_toArray, List.set_cons_zero, List.set_cons_succ])); (refine wpAnyH_ready (rs := [6]) (by kernel_rfl) (by simp) ?_; refine AllReadyH.cons rfl (fun K hK => ?_) AllReadyH.nil; go_simp; (first | (go_at_call 90; (first | (with_reducible refine (spec_pairSum _ _ _ _ A1 c1 qs _ ?_ ?_ hrwH.out ?_ ?_ hAH.out hpqH.out h0 h1).mono ?_) | (with_reducible refine (spec_pairSum _ _ _ _ A2 c2 bs _ ?_ ?_ hrwH.out ?_ ?_ hAH.out hpbH.out h0 h1).mono ?_)); (focus (exact hrW.up (by exact bgr))); (focus (omega)); (focus (first | exact oq.reads.2.up (by exact bgr) | exact ob.reads.2.up (by exact bgr))); (focus (omega)); rintro e w2 ⟨rfl, hbw2⟩; have hzw2 := hbw2.size; (try simp only [World.size_drew] at hzw2)) | skip); (try go_wp2_with fail); refine hK.out _ _ ?_ (fun hHeld => ?_); (focus ((try dsimp only); (refine ⟨?_, ?_⟩ <;> exact bxc))); clear hK K; (try simp only [Act.put, List.setIfInBounds_toArray, List.set_cons_zero, List.set_cons_succ])); (refine wpAnyH_ready (rs := [13]) (by kernel_rfl) (by simp) ?_; refine AllReadyH.cons rfl (fun K hK => ?_) AllReadyH.nil; go_simp; (first | (go_at_call 90; (first | (with_reducible refine (spec_pairSum _ _ _ _ A1 c1 qs _ ?_ ?_ hrwH.out ?_ ?_ hAH.out hpqH.out h0 h1).mono ?_) | (with_reducible refine (spec_pairSum _ _ _ _ A2 c2 bs _ ?_ ?_ hrwH.out ?_ ?_ hAH.out hpbH.out h0 h1).mono ?_)); (focus (exact hrW.up (by exact bgr))); (focus (omega)); (focus (first | exact oq.reads.2.up (by exact bgr) | exact ob.reads.2.up (by exact bgr))); (focus (omega)); rintro e w2 ⟨rfl, hbw2⟩; have hzw2 := hbw2.size; (try simp only [World.size_drew] at hzw2)) | skip); (try go_wp2_with fail); refine hK.out _ _ ?_ (fun hHeld => ?_); (focus ((try dsimp only); (refine ⟨?_, ?_⟩ <;> exact bxc))); clear hK K; (try simp only [Act.put, List.setIfInBounds_toArray, List.set_cons_zero, List.set_cons_succ])); (refine takeT (i := 14) (d := 30) rfl rfl (by kernel_rfl) (by kernel_rfl) (by kernel_rfl) (by rfl) (by assumption) (v := ?_) ?_ ?_; rotate_left; (focus (intro wq hSw; (try dsimp only at hSw); go_simp; (try (with_reducible rfl)); done)); (try simp only [Act.put, List.setIfInBounds_toArray, List.set_cons_zero, List.set_cons_succ])); refine wpAnyH_done (by kernel_rfl) ?_ _; refine NoPanic.normal ?_)
        repeat' (first | fail | go_values | go_skip | go_guarded | go_step | go_upon | (simp only []; go_step) | (go_ite <;> go_prune <;> (try go_simp)))
        all_goals exact ⟨⟨i + 1, by omega, by omega, by go_num, by rw [e.out], by exact bgr⟩, by simp [intOf]; omega⟩
    · obtain ⟨bs, hb⟩ := get_of_lt (xs := all) (k := m) (by omega)
      obtain ⟨g2, A2, c2, rfl, _, hc2, ob⟩ := ol.row hb
      have hbb : Hid (bs = bstP css miss) := by
        unfold Hid
        rw [hbst.out, show all.length - 1 = i - 1 by omega, ← hmH.out]
        simp [List.getD, hb]
      have p2 : (0 : Int) ≤ (m : Int) := by omega
      have p3 : (m : Int) < (all.length : Int) := by omega
      clear hb
      repeat' (first | fail | go_values | go_skip | go_guarded | go_step | go_upon | (simp only []; go_step) | (go_ite <;> go_prune <;> (try go_simp)))
      all_goals go_returns
      all_goals exact ⟨_, rfl, by rw [← hbb.out]; exact ob.mono (by omega), by exact bgr⟩
end Go.Proofs.YthbljfanoaibkaaGreatDoor
namespace Go.Proofs.YthbljfanoaibkaaGreatDoor
open Go.RowKit Go.ChangeShapes Go.WideShapes Go.ChangeAt
set_option linter.unusedVariables false
set_option linter.unusedSimpArgs false
theorem bst_pair {css : List (List Int)} {miss : Int} : pairB css (bstP css miss) = true := allP_pair bstP_mem
theorem fBest_len {css : List (List Int)} {miss : Int} : (fBest css miss).length ≤ 6 := by
  unfold fBest
  split
  · rename_i h
    rw [bstP_len]; exact (are_facts (codeC_0 h).1).1
  · simp
theorem are_rows {css : List (List Int)} (hA : areB css = true) : ∀ (i : Nat) (xs : List Int), css[i]? = some xs → xs.length ≤ 1099511627776 := fun i xs h => by have := ((are_facts hA).2 i xs h).1; omega
theorem allP_len {css : List (List Int)} (hA : areB css = true) : (allP css).length ≤ 117649 := by
  refine Nat.le_trans (allR_len (fun r hr => ?_)) (pow7 (are_facts hA).1)
  obtain ⟨j, hj⟩ := List.getElem?_of_mem hr
  exact ((are_facts hA).2 j r hj).1
end Go.Proofs.YthbljfanoaibkaaGreatDoor
namespace Go.Proofs.YthbljfanoaibkaaGreatDoor
open Go.RowKit Go.ChangeShapes Go.WideShapes Go.ChangeAt
set_option linter.unusedVariables false
set_option linter.unusedSimpArgs false
/-- nothing has turned but in the blocks S and in new ones -/
structure Off (S : Nat → Prop) (w w' : World) : Prop where
  os : w'.os = w.os
  tape : w'.tape = w.tape
  output : w'.output = w.output
  size : w.heap.size ≤ w'.heap.size
  block : ∀ k, k < w.heap.size → ¬ S k → w'.heap[k]? = w.heap[k]?
theorem Off.refl (S : Nat → Prop) (w : World) : Off S w w := ⟨rfl, rfl, rfl, Nat.le_refl _, fun _ _ _ => rfl⟩
theorem Off.trans {S : Nat → Prop} {a b c : World} (h : Off S a b) (k : Off S b c) : Off S a c :=
  ⟨k.os.trans h.os, k.tape.trans h.tape, k.output.trans h.output, Nat.le_trans h.size k.size, fun i hi hn => (k.block i (Nat.lt_of_lt_of_le hi h.size) hn).trans (h.block i hi hn)⟩
theorem Off.mono {S T : Nat → Prop} {a b : World} (h : Off S a b) (hs : ∀ k, S k → T k) : Off T a b := ⟨h.os, h.tape, h.output, h.size, fun i hi hn => h.block i hi (fun hk => hn (hs i hk))⟩
theorem Off.of_below {S : Nat → Prop} {a b : World} (h : Below a.heap.size a b) : Off S a b := ⟨h.os, h.tape, h.output, h.size, fun i hi _ => h.block i hi⟩
theorem Off.below {S : Nat → Prop} {a b : World} {B : Nat} (h : Off S a b) (hs : ∀ k, S k → B ≤ k) (hB : B ≤ a.heap.size) : Below B a b := ⟨h.os, h.tape, h.output, h.size, fun i hi => h.block i (by omega) (fun hk => by have := hs i hk; omega)⟩
theorem Off.cell {S : Nat → Prop} {a b : World} (h : Off S a b) {X o : Nat} {v : Value} (hc : a.cell? ⟨X, o, none⟩ = some v) (hX : ¬ S X) : b.cell? ⟨X, o, none⟩ = some v :=
  (World.cell?_of_block (a := ⟨X, o, none⟩) (h.block X (World.block_lt_of_cell? a ⟨X, o, none⟩ hc) hX)).trans hc
theorem Off.of_grown {S : Nat → Prop} {a b : World} {g : Nat} (h : a.grownBy b (some g)) (hg : S g) : Off S a b := ⟨h.os, h.tape, h.output, h.size, fun i hi hn => h.block i hi (fun e => by injection e with e; exact hn (e ▸ hg))⟩
theorem OwnI.offS {S : Nat → Prop} {w w' : World} {base : Nat} {v : Value} {xs : List Int} (h : OwnI w base v xs) (hw : Off S w w') (hS : ∀ k, v.ownBlock = some k → ¬ S k) : OwnI w' base v xs := by
  obtain ⟨A, c, rfl, h1, h2⟩ := h
  refine ⟨A, c, rfl, h1, ?_⟩
  rcases h2 with h2 | ⟨g, cap, cur, q1, q2, q3, q4⟩
  · exact .inl h2
  · exact .inr ⟨g, cap, cur, q1, q2, by rw [hw.block g (Array.getElem?_eq_some_iff.1 q3).1 (hS g (by rw [q1]; rfl))]; exact q3, q4⟩
/-- what the closure finds in its boxes -/
structure Fr (B C D Pp Wk g n cp : Nat) (A : Option Addr) (c : Nat) (css : List (List Int)) (dv wv : Value) (w : World) : Prop where
  c : w.cell? ⟨C, 0, none⟩ = some (.slice A css.length c)
  d : w.cell? ⟨D, 0, none⟩ = some dv
  p : w.cell? ⟨Pp, 0, none⟩ = some (.slice (some ⟨g, 0, none⟩) n cp)
  k : w.cell? ⟨Wk, 0, none⟩ = some wv
  r : II64 w B A css
  s : B ≤ w.heap.size
theorem Fr.off {B C D Pp Wk g n cp : Nat} {A : Option Addr} {c : Nat} {css : List (List Int)} {dv wv : Value} {w w' : World} {S : Nat → Prop} (h : Fr B C D Pp Wk g n cp A c css dv wv w) (hw : Off S w w') (hs : ∀ k, S k → B ≤ k) (h1 : ¬ S C) (h2 : ¬ S D) (h3 : ¬ S Pp) (h4 : ¬ S Wk) : Fr B C D Pp Wk g n cp A c css dv wv w' :=
  ⟨hw.cell h.c h1, hw.cell h.d h2, hw.cell h.p h3, hw.cell h.k h4, h.r.below (hw.below hs h.s), Nat.le_trans h.s hw.size⟩
theorem prk_app {css pre rest : List (List Int)} {row ps : List Int} {k : Int} (hc : css = pre ++ row :: rest) (hl : ps.length = pre.length) (hp : prk css ps ps.length = true) (hk : k = -1 ∨ ∃ (j : Nat) (y : Int), k = j ∧ row[j]? = some y ∧ 0 ≤ y ∧ ¬ (j : Int) ∈ ps) : prk css (ps ++ [k]) (ps ++ [k]).length = true := by
  have hrow : css[ps.length]? = some row := by rw [hc, hl, List.getElem?_append_right (Nat.le_refl _), Nat.sub_self]; rfl
  have hkk : (ps ++ [k])[ps.length]? = some k := by rw [List.getElem?_append_right (Nat.le_refl _), Nat.sub_self]; rfl
  rw [List.length_append, show [k].length = 1 from rfl, prk_succ, Bool.and_eq_true]
  refine ⟨?_, ?_⟩
  · rw [prk, List.all_eq_true] at hp ⊢
    intro j hj
    have hj' : j < ps.length := by simpa using hj
    have h1 := hp j hj
    rw [pokB] at h1 ⊢
    rw [show (ps ++ [k]).getD j 0 = ps.getD j 0 by simp [List.getD, List.getElem?_append_left hj'], show (ps ++ [k]).take j = ps.take j by rw [List.take_append_of_le_length (by omega)]]
    exact h1
  · rcases hk with rfl | ⟨j, y, rfl, hy, h0, h1⟩
    · exact pok_m1 hkk
    · rw [pok_in hkk hrow hy, List.take_append_of_le_length (Nat.le_refl _), List.take_length]
      simp [h0, h1]
end Go.Proofs.YthbljfanoaibkaaGreatDoor
namespace Go.Proofs.YthbljfanoaibkaaGreatDoor
open Go.RowKit Go.ChangeShapes Go.WideShapes Go.ChangeAt
set_option linter.unusedVariables false
set_option linter.unusedSimpArgs false
set_option maxRecDepth 100000 in
set_option maxHeartbeats 3200000 in
theorem each_walk_best (I : List (List Int) → World → Prop) (S : Nat → Prop) (B C D Pp Wk g n cp c Co Mi Le Be : Nat) (A : Option Addr) (css : List (List Int)) (hA : areB css = true) (hn : n = css.length) (hcp : n ≤ cp) (hSB : ∀ k, S k → B ≤ k) (hgB : B ≤ g) (hgS : ¬ S g) (hC : ¬ S C ∧ C ≠ g) (hD : ¬ S D ∧ D ≠ g) (hP : ¬ S Pp ∧ Pp ≠ g) (hW : ¬ S Wk ∧ Wk ≠ g)
    (hIst : ∀ vis w w', I vis w → Off (fun k => k = g) w w' → I vis w')
    (hdo : ∀ vis w qs, I vis w → B ≤ w.heap.size → II64 w B A css → w.cell? ⟨C, 0, none⟩ = some (.slice A css.length c) → OwnI w B (.slice (some ⟨g, 0, none⟩) n cp) qs → pairB css qs = true →
      Calls Tryz.prog 104 #[.slice (some ⟨g, 0, none⟩) n cp, .pointer (some ⟨Co, 0, none⟩), .pointer (some ⟨Mi, 0, none⟩), .pointer (some ⟨Le, 0, none⟩), .pointer (some ⟨Be, 0, none⟩)] w fun e w' => e = .returned (.tuple #[]) ∧ I (vis ++ [qs]) w' ∧ Off S w w') :
    ∀ (rest pre : List (List Int)) (ps : List Int) (vis : List (List Int)) (qs : List Int) (w : World), css = pre ++ rest → ps.length = pre.length → prk css ps ps.length = true →
      Fr B C D Pp Wk g n cp A c css (.func (.func 104) #[] #[.pointer (some ⟨Co, 0, none⟩), .pointer (some ⟨Mi, 0, none⟩), .pointer (some ⟨Le, 0, none⟩), .pointer (some ⟨Be, 0, none⟩)]) (.func (.func 116) #[] #[.pointer (some ⟨C, 0, none⟩), .pointer (some ⟨D, 0, none⟩), .pointer (some ⟨Pp, 0, none⟩), .pointer (some ⟨Wk, 0, none⟩)]) w → I vis w → OwnI w B (.slice (some ⟨g, 0, none⟩) n cp) qs → qs.take ps.length = ps →
      Calls Tryz.prog 116 #[.int .i64 ps.length, .pointer (some ⟨C, 0, none⟩), .pointer (some ⟨D, 0, none⟩), .pointer (some ⟨Pp, 0, none⟩), .pointer (some ⟨Wk, 0, none⟩)] w fun e w' =>
        e = .returned (.tuple #[]) ∧ I (vis ++ allR rest ps) w' ∧ Off (fun k => S k ∨ k = g) w w' ∧ ∃ qs', OwnI w' B (.slice (some ⟨g, 0, none⟩) n cp) qs' ∧ qs'.take ps.length = ps
  | [], pre, ps, vis, qs, w, hcs, hl, hp, hF, hI, ho, ht => by
    have hqn := ho.reads.1
    have hpn : ps.length = css.length := by rw [hcs, hl]; simp
    have hq : qs = ps := by rw [← ht, List.take_of_length_le (by omega)]
    subst hq
    have hpair : pairB css qs = true := by rw [pairB, decide_eq_true hpn, hp]; rfl
    obtain ⟨f1, f2, f3, f4, f5, f6⟩ := hF
    have hpnH := Lib.hid hpn
    have heq : ((qs.length : Int) == (css.length : Int)) = true := by simp [hpn]
    have hcall := hdo vis w qs hI f6 f5 f1 ho hpair
    have hallH : Hid (allR [] qs = [qs]) := rfl
    have hoH := Lib.hid ho
    have htH := Lib.hid ht
    clear hpn ht ho hl hqn hn hcs
    go_enter Tryz.func116, Tryz.ntmps116
    repeat' (first | fail | go_values | go_skip | go_guarded | go_step | go_upon | (simp only []; go_step) | (go_ite <;> go_prune <;> (try go_simp)))
    refine hcall.mono ?_
    rintro e w1 ⟨rfl, hI1, hO1⟩
    repeat' (first | fail | go_values | go_skip | go_guarded | go_step | go_upon | (simp only []; go_step) | (go_ite <;> go_prune <;> (try go_simp)))
    all_goals go_returns
    all_goals exact ⟨rfl, by rw [hallH.out]; exact hI1, hO1.mono (fun k h => .inl h), qs, hoH.out.offS hO1 (fun k hk => by simp only [Value.ownBlock, Option.some.injEq] at hk; exact hk ▸ hgS), htH.out⟩
  | row :: rest, pre, ps, vis, qs, w, hcs, hl, hp, hF, hI, ho, ht => by
    have hqn := ho.reads.1
    have hrow : css[ps.length]? = some row := by rw [hcs, hl, List.getElem?_append_right (Nat.le_refl _), Nat.sub_self]; rfl
    have hrl := ((are_facts hA).2 _ row hrow).1
    have h6 := (are_facts hA).1
    have hpl : ps.length < css.length := lt_of_get hrow
    have heq : ((ps.length : Int) == (css.length : Int)) = false := by simp; omega
    have e1 : css = (pre ++ [row]) ++ rest := by rw [hcs]; simp
    have hS2 : ∀ k, (S k ∨ k = g) → B ≤ k := fun k h => h.elim (hSB k) (fun h => h ▸ hgB)
    have IH := Lib.hid (fun (k : Int) (vis' : List (List Int)) (qs' : List Int) (w' : World) (hk : k = -1 ∨ ∃ (j : Nat) (y : Int), k = j ∧ row[j]? = some y ∧ 0 ≤ y ∧ ¬ (j : Int) ∈ ps) (hF' : Fr B C D Pp Wk g n cp A c css (.func (.func 104) #[] #[.pointer (some ⟨Co, 0, none⟩), .pointer (some ⟨Mi, 0, none⟩), .pointer (some ⟨Le, 0, none⟩), .pointer (some ⟨Be, 0, none⟩)]) (.func (.func 116) #[] #[.pointer (some ⟨C, 0, none⟩), .pointer (some ⟨D, 0, none⟩), .pointer (some ⟨Pp, 0, none⟩), .pointer (some ⟨Wk, 0, none⟩)]) w') (hI' : I vis' w') (ho' : OwnI w' B (.slice (some ⟨g, 0, none⟩) n cp) qs') (ht' : qs'.take ps.length = ps) (hlt' : ps.length < qs'.length) (hk' : qs'[ps.length]? = some k) => by
      have h := each_walk_best I S B C D Pp Wk g n cp c Co Mi Le Be A css hA hn hcp hSB hgB hgS hC hD hP hW hIst hdo rest (pre ++ [row]) (ps ++ [k]) vis' qs' w' e1 (by simp [hl]) (prk_app hcs hl hp hk) hF' hI' ho' (by rw [List.length_append, show [k].length = 1 from rfl, take_snoc hk', ht'])
      rw [show ((ps ++ [k]).length : Int) = (ps.length : Int) + 1 by simp] at h
      exact h)
    have hacc := Lib.hid (allR_cons (row := row) (rest := rest) (ps := ps))
    have hrowH := Lib.hid hrow
    have hFH := Lib.hid hF
    have hnH := Lib.hid hn
    obtain ⟨f1, f2, f3, f4, f5, f6⟩ := hF
    obtain ⟨b, o, A', c', rfl, hb, hc, hi⟩ := f5.at_ hrowH.out
    have p0 : (0 : Int) ≤ (ps.length : Int) := by omega
    have p1 : (ps.length : Int) < (css.length : Int) := by omega
    have hoH := Lib.hid ho
    have htH := Lib.hid ht
    have hIH := Lib.hid hI
    have hqnH := Lib.hid hqn
    clear hcs hl hp hrow e1 hdo hn ho ht hI hqn
    go_enter Tryz.func116, Tryz.ntmps116
    repeat' (first | fail | go_values | go_skip | go_guarded | go_step | go_upon | (simp only []; go_step) | (go_ite <;> go_prune <;> (try go_simp)))
    go_loopw [6] (fun kv wr => ∃ (m : Nat) (qs' : List Int), m ≤ row.length + 1 ∧ kv = .int .i64 ((m : Int) - 1) ∧ I (vis ++ accU row rest ps m) wr ∧ Off (fun k => S k ∨ k = g) w wr ∧ OwnI wr B (.slice (some ⟨g, 0, none⟩) n cp) qs' ∧ Hid (qs'.take ps.length = ps)) (fun kv _ => row.length + 1 - (intOf kv + 1).toNat)
    case atStart => exact ⟨0, qs, Nat.zero_le _, by simp, by rw [accU_zero, List.append_nil]; exact hIH.out, Off.refl _ _, hoH.out, htH.out⟩
    case round =>
      clear f1 f2 f3 f4 f5 
      obtain ⟨m, qs', hm, rfl, hI', hO, ho', ht'⟩ := hrel
      have hF' := hFH.out.off hO hS2 (fun h => h.elim hC.1 hC.2) (fun h => h.elim hD.1 hD.2) (fun h => h.elim hP.1 hP.2) (fun h => h.elim hW.1 hW.2)
      have hFW := Lib.hid hF'
      obtain ⟨f1, f2, f3, f4, f5, f6'⟩ := hF'
      have hbel := hO.below hS2 f6
      have hiW := hi.below hbel
      have hcW := (hbel.cell (p := ⟨b, o + ps.length, none⟩) hb).trans hc
      have hqn' := ho'.reads.1
      obtain ⟨z, hz⟩ := get_of_lt (xs := qs') (k := ps.length) (by have := hnH.out; omega)
      obtain ⟨g', eg, hgb', hcz, hfz, hst⟩ := ho'.cell hz
      simp only [Option.some.injEq, Addr.mk.injEq, and_true] at eg
      subst eg
      have hlt' : ps.length < qs'.length := lt_of_get hz
      have hnn : (ps.length : Int) < (n : Int) := by have := hnH.out; omega
      have hnc : (ps.length : Int) ≤ (cp : Int) := by omega
      have hstH := Lib.hid hst
      have hqnH' := Lib.hid hqn'
      have hI'H := Lib.hid hI'
      have hgw : g < wr.heap.size := World.block_lt_of_cell? wr ⟨g, ps.length, none⟩ hcz
      clear hst hz hqn' hI'
      rcases m with _ | j
      · rw [show ((0 : Nat) : Int) - 1 = -1 by rfl]
        have q3 : (-1 : Int) < (row.length : Int) := by omega
        have hsu := Lib.hid (accU_one (row := row) (rest := rest) (ps := ps))
        repeat' (first | (first | (go_at_call 117; refine (impl_length64 _ _ _ _).mono ?_; rintro e w' ⟨rfl, rfl⟩)) | go_values | go_skip | go_guarded | go_step | go_upon | (simp only []; go_step) | (go_ite <;> go_prune <;> (try go_simp)))
        have hs := hstH.out (-1)
        have hOg : Off (fun k => k = g) wr _ := Off.of_grown hs.2 rfl
        have hF2 := hFW.out.off hOg (fun k h => h ▸ hgB) hC.2 hD.2 hP.2 hW.2
        have hI2 := hIst _ _ _ hI'H.out hOg
        have ht2 : (qs'.set ps.length (-1)).take ps.length = ps := by rw [List.take_set_of_le (Nat.le_refl _)]; exact ht'.out
        have hk2 : (qs'.set ps.length (-1))[ps.length]? = some (-1) := List.getElem?_set_self hlt'
        refine (IH.out (-1) (vis ++ accU row rest ps 0) (qs'.set ps.length (-1)) _ (.inl rfl) hF2 hI2 hs.1 ht2 (by rw [List.length_set]; exact hlt') hk2).mono ?_
        rintro e w3 ⟨rfl, hI3, hO3, qs3, ho3, ht3⟩
        have ht3' : qs3.take ps.length = ps := by
          have h := congrArg (List.take ps.length) ht3
          rw [List.take_take, List.length_append, Nat.min_eq_left (by omega), List.take_append_of_le_length (Nat.le_refl _), List.take_length] at h; exact h
        repeat' (first | fail | go_values | go_skip | go_guarded | go_step | go_upon | (simp only []; go_step) | (go_ite <;> go_prune <;> (try go_simp)))
        all_goals exact ⟨⟨0 + 1, qs3, by omega, by rfl, by rw [hsu.out]; simpa [accU_zero] using hI3, (hO.trans (hOg.mono (fun k h => .inr h))).trans hO3, ho3, ht3'⟩, by simp [intOf] <;> omega⟩
      · rw [show ((j + 1 : Nat) : Int) - 1 = (j : Int) by omega]
        have q0 : ¬ (j : Int) < 0 := by omega
        have q1 : (0 : Int) ≤ (j : Int) := by omega
        by_cases hj : j < row.length
        · obtain ⟨y, hy⟩ := get_of_lt hj
          obtain ⟨b3, o3, rfl, hb3, hc3⟩ := hiW.at_ hy
          have q2 : (j : Int) < (row.length : Int) := by omega
          have hyes := Lib.hid (accU_yes (row := row) (rest := rest) (ps := ps) hy)
          have hno := Lib.hid (accU_no (row := row) (rest := rest) (ps := ps) hy)
          have hyH := Lib.hid hy
          have hcon : I64 wr wr.heap.size (some ⟨g, 0, none⟩) ps := by have h := ho'.reads.2.take ps.length; rw [ht'.out] at h; exact h
          clear hy
          by_cases y0 : y < 0
          · have hsu := Lib.hid (hno.out (.inl (by omega)))
            clear hyes hno
            repeat' (first | (first | (go_at_call 117; refine (impl_length64 _ _ _ _).mono ?_; rintro e w' ⟨rfl, rfl⟩)) | go_values | go_skip | go_guarded | go_step | go_upon | (simp only []; go_step) | (go_ite <;> go_prune <;> (try go_simp)))
            all_goals exact ⟨⟨j + 1 + 1, qs', by omega, by congr 1; omega, by rw [hsu.out]; exact hI'H.out, hO, ho', ht'⟩, by simp [intOf]; omega⟩
          · cases y2 : decide ((j : Int) ∈ ps)
            · have hsu := Lib.hid (hyes.out (by omega) (by simpa using y2))
              clear hno hyes
              repeat' (first | (first | (go_at_call 117; refine (impl_length64 _ _ _ _).mono ?_; rintro e w' ⟨rfl, rfl⟩)) | go_values | go_skip | go_guarded | go_step | go_upon | (simp only []; go_step) | (go_ite <;> go_prune <;> (try go_simp)))
              refine (slices_Contains' _ _ _ ps _ _ wr rfl (by omega) hcon y2).mono ?_
              rintro e w' ⟨rfl, rfl⟩
              repeat' (first | fail | go_values | go_skip | go_guarded | go_step | go_upon | (simp only []; go_step) | (go_ite <;> go_prune <;> (try go_simp)))
              have hs := hstH.out (j : Int)
              have hOg : Off (fun k => k = g) wr _ := Off.of_grown hs.2 rfl
              have hF2 := hFW.out.off hOg (fun k h => h ▸ hgB) hC.2 hD.2 hP.2 hW.2
              have hI2 := hIst _ _ _ hI'H.out hOg
              have ht2 : (qs'.set ps.length (j : Int)).take ps.length = ps := by rw [List.take_set_of_le (Nat.le_refl _)]; exact ht'.out
              have hk2 : (qs'.set ps.length (j : Int))[ps.length]? = some (j : Int) := List.getElem?_set_self hlt'
              refine (IH.out (j : Int) (vis ++ accU row rest ps (j + 1)) (qs'.set ps.length (j : Int)) _ (.inr ⟨j, y, rfl, hyH.out, by omega, by simpa using y2⟩) hF2 hI2 hs.1 ht2 (by rw [List.length_set]; exact hlt') hk2).mono ?_
              rintro e w3 ⟨rfl, hI3, hO3, qs3, ho3, ht3⟩
              have ht3' : qs3.take ps.length = ps := by
                have h := congrArg (List.take ps.length) ht3
                rw [List.take_take, List.length_append, Nat.min_eq_left (by omega), List.take_append_of_le_length (Nat.le_refl _), List.take_length] at h; exact h
              repeat' (first | fail | go_values | go_skip | go_guarded | go_step | go_upon | (simp only []; go_step) | (go_ite <;> go_prune <;> (try go_simp)))
              all_goals exact ⟨⟨j + 1 + 1, qs3, by omega, by congr 1; omega, by rw [hsu.out]; simpa using hI3, (hO.trans (hOg.mono (fun k h => .inr h))).trans hO3, ho3, ht3'⟩, by simp [intOf]; omega⟩
            · have hsu := Lib.hid (hno.out (.inr (by simpa using y2)))
              clear hno hyes
              repeat' (first | (first | (go_at_call 117; refine (impl_length64 _ _ _ _).mono ?_; rintro e w' ⟨rfl, rfl⟩)) | go_values | go_skip | go_guarded | go_step | go_upon | (simp only []; go_step) | (go_ite <;> go_prune <;> (try go_simp)))
              refine (slices_Contains' _ _ _ ps _ _ wr rfl (by omega) hcon y2).mono ?_
              rintro e w' ⟨rfl, rfl⟩
              repeat' (first | fail | go_values | go_skip | go_guarded | go_step | go_upon | (simp only []; go_step) | (go_ite <;> go_prune <;> (try go_simp)))
              all_goals exact ⟨⟨j + 1 + 1, qs', by omega, by congr 1; omega, by rw [hsu.out]; exact hI'H.out, hO, ho', ht'⟩, by simp [intOf]; omega⟩
        · have e : j = row.length := by omega
          subst e
          repeat' (first | (first | (go_at_call 117; refine (impl_length64 _ _ _ _).mono ?_; rintro e w' ⟨rfl, rfl⟩)) | go_values | go_skip | go_guarded | go_step | go_upon | (simp only []; go_step) | (go_ite <;> go_prune <;> (try go_simp)))
          all_goals go_returns
          all_goals exact ⟨rfl, by rw [hacc.out]; exact hI'H.out, hO, qs', ho', ht'.out⟩
end Go.Proofs.YthbljfanoaibkaaGreatDoor
namespace Go.Proofs.YthbljfanoaibkaaGreatDoor
open Go.RowKit Go.ChangeShapes Go.WideShapes Go.ChangeAt
set_option linter.unusedVariables false
set_option linter.unusedSimpArgs false
theorem Off.set {S : Nat → Prop} {a b : World} {g j : Nat} {v : Value} (h : Off S a b) (hg : S g) : Off S a (b.setCell ⟨g, j, none⟩ v) :=
  ⟨h.os, h.tape, h.output, by simpa [World.setCell] using h.size, fun i hi hn => (Below.heap_setCell b ⟨g, j, none⟩ v i (fun e => hn (e ▸ hg))).trans (h.block i hi hn)⟩
theorem Off.drewN {S : Nat → Prop} {a b : World} (h : Off S a b) (n : Nat) : Off S a (b.drewN n) := ⟨h.os, h.tape, h.output, h.size, h.block⟩
theorem Off.frozen {S : Nat → Prop} {a b : World} (h : Off S a b) {X : Nat} (hx : X < a.heap.size) (hX : ¬ S X) (hf : ∀ o, a.frozen? ⟨X, o, none⟩ = false) : ∀ o, b.frozen? ⟨X, o, none⟩ = false := fun o =>
  (World.frozen?_of_block (a := ⟨X, o, none⟩) (h.block X hx hX)).trans (hf o)
/-- the counter's box -/
def cntI (K : Nat) (vis : List (List Int)) (w : World) : Prop := ∃ z : Int, w.cell? ⟨K, 0, none⟩ = some (.int .i64 z) ∧ (∀ o, w.frozen? ⟨K, o, none⟩ = false) ∧ (vis.length ≤ 1000000 → z = (vis.length : Int))
theorem cntI.off {S : Nat → Prop} {K : Nat} {vis : List (List Int)} {a b : World} (h : cntI K vis a) (hw : Off S a b) (hK : ¬ S K) : cntI K vis b := by
  obtain ⟨z, h1, h2, h3⟩ := h
  exact ⟨z, hw.cell h1 hK, hw.frozen (World.block_lt_of_cell? a ⟨K, 0, none⟩ h1) hK h2, h3⟩
end Go.Proofs.YthbljfanoaibkaaGreatDoor
namespace Go.Proofs.YthbljfanoaibkaaGreatDoor
open Go.RowKit Go.ChangeShapes Go.WideShapes Go.ChangeAt
set_option linter.unusedVariables false
set_option linter.unusedSimpArgs false
/-- the best pairing so far, and its sum -/
def stB (miss : Int) (css : List (List Int)) (acc : List Int × Int) (qs : List Int) : List Int × Int := if acc.2 < 0 ∨ psk miss css qs qs.length < acc.2 then (qs, psk miss css qs qs.length) else acc
def foB (miss : Int) (css vis : List (List Int)) : List Int × Int := vis.foldl (stB miss css) ([], -1)
theorem foB_snoc {miss : Int} {css vis : List (List Int)} {qs : List Int} : foB miss css (vis ++ [qs]) = stB miss css (foB miss css vis) qs := by rw [foB, List.foldl_append]; rfl
theorem foB_take {miss : Int} {css all : List (List Int)} (h : ∀ (i : Nat) (qs : List Int), all[i]? = some qs → 0 ≤ psk miss css qs qs.length) : ∀ k, k < all.length → foB miss css (all.take (k + 1)) = (all.getD (mI (sumA miss css all) k) [], sumA miss css all (mI (sumA miss css all) k))
  | 0, hk => by
    obtain ⟨x, hx⟩ := get_of_lt hk
    rw [take_snoc hx, foB_snoc]
    simp [foB, stB, mI, sumA, List.getD, hx]
  | k + 1, hk => by
    have ih := foB_take h k (by omega)
    obtain ⟨x, hx⟩ := get_of_lt hk
    have hm := mI_le (f := sumA miss css all) k
    obtain ⟨y, hy⟩ := get_of_lt (xs := all) (k := mI (sumA miss css all) k) (by omega)
    have h0 : 0 ≤ sumA miss css all (mI (sumA miss css all) k) := by
      have := h _ y hy
      rw [sumA, show all.getD (mI (sumA miss css all) k) [] = y by simp [List.getD, hy]]; exact this
    have e1 : sumA miss css all (k + 1) = psk miss css x x.length := by rw [sumA, show all.getD (k + 1) [] = x by simp [List.getD, hx]]
    rw [take_snoc hx, foB_snoc, ih, stB, mI_succ, e1]
    by_cases hc : psk miss css x x.length < sumA miss css all (mI (sumA miss css all) k)
    · rw [if_pos (.inr hc), if_pos hc, e1, show all.getD (k + 1) [] = x by simp [List.getD, hx]]
    · rw [if_neg hc, if_neg (fun e => e.elim (fun e => by have : sumA miss css all (mI (sumA miss css all) k) < 0 := e; omega) hc)]
theorem foB_best {css : List (List Int)} {miss : Int} (hA : areB css = true) (h0 : 0 ≤ miss) (h1 : miss ≤ 1000000000000) : foB miss css (allP css) = (bstP css miss, lstP css miss) := by
  have hp : ∀ (i : Nat) (qs : List Int), (allP css)[i]? = some qs → 0 ≤ psk miss css qs qs.length := fun i qs h => (psk_bd hA (allP_pair (List.mem_of_getElem? h)) h0 h1 qs.length (Nat.le_refl _)).1
  have hpos : 0 < (allP css).length := allR_pos
  have h := foB_take hp ((allP css).length - 1) (by omega)
  rw [List.take_of_length_le (by omega)] at h
  rw [h]; rfl
theorem slices_CloneO (g n c base : Nat) (xs : List Int) (w : World) (ho : OwnI w base (.slice (some ⟨g, 0, none⟩) n c) xs) (hl : xs.length ≤ 1048576) :
    Calls Tryz.prog 106 #[.slice (some ⟨g, 0, none⟩) n c] w fun e w' => ∃ v, e = .returned v ∧ OwnI w' w.heap.size v xs ∧ Below w.heap.size w w' := by
  have hoH := Lib.hid ho
  have hnil : ∀ w, (binOp .eql 34 (.slice (some ⟨g, 0, none⟩) n c) (.slice none 0 0)).run Tryz.prog w = .ok (.bool false) w := fun w => Lib.run_eql_slice_nil w _ _ _ _ _ _ _ Tryz.underlying34
  clear ho
  go_enter Tryz.func106, Tryz.ntmps106
  go_wp2_with (at_builtin; refine push_ints (OwnI.lit0 (Nat.le_refl _)) (hoH.out.alloc _) rfl _ _ rfl (by rfl) (by rfl) (by simp) (by simp) hl ?_; intro v' w1 ho1 hg1 hb1)
  all_goals go_returns
  all_goals exact ⟨_, rfl, by simpa using ho1, (Below.new (Below.refl _ _) _).trans (hb1)⟩
/-- the boxes of bestPairs -/
structure BI (Co Mi Le Be : Nat) (A : Option Addr) (c : Nat) (css : List (List Int)) (miss : Int) (g : Nat) (vis : List (List Int)) (w : World) : Prop where
  co : w.cell? ⟨Co, 0, none⟩ = some (.slice A css.length c)
  mi : w.cell? ⟨Mi, 0, none⟩ = some (.int .i64 miss)
  le : w.cell? ⟨Le, 0, none⟩ = some (.int .i64 (foB miss css vis).2)
  be : ∃ v, w.cell? ⟨Be, 0, none⟩ = some v ∧ OwnI w (g + 1) v (foB miss css vis).1
  zl : ∀ o, w.frozen? ⟨Le, o, none⟩ = false
  zb : ∀ o, w.frozen? ⟨Be, o, none⟩ = false
section
variable {Co Mi Le Be : Nat} {A : Option Addr} {c : Nat} {css : List (List Int)} {miss : Int} {g : Nat} {vis : List (List Int)} {w w' : World}
theorem BI.off {S : Nat → Prop} (h : BI Co Mi Le Be A c css miss g vis w) (hw : Off S w w') (h1 : ¬ S Co) (h2 : ¬ S Mi) (h3 : ¬ S Le) (h4 : ¬ S Be) (h5 : ∀ k, g < k → ¬ S k) : BI Co Mi Le Be A c css miss g vis w' := by
  obtain ⟨v, hv, ho⟩ := h.be
  exact ⟨hw.cell h.co h1, hw.cell h.mi h2, hw.cell h.le h3, ⟨v, hw.cell hv h4, ho.offS hw (fun k hk => h5 k (by have := (ho.lt k hk).1; omega))⟩, hw.frozen (World.block_lt_of_cell? w ⟨Le, 0, none⟩ h.le) h3 h.zl, hw.frozen (World.block_lt_of_cell? w ⟨Be, 0, none⟩ hv) h4 h.zb⟩
end
set_option maxHeartbeats 1600000 in
theorem impl_best_do (B Co Mi Le Be g n cp c : Nat) (A : Option Addr) (css : List (List Int)) (miss : Int) (vis : List (List Int)) (qs : List Int) (w : World) (h : BI Co Mi Le Be A c css miss g vis w) (hA : areB css = true) (h0 : 0 ≤ miss) (h1 : miss ≤ 1000000000000)
    (hr : II64 w B A css) (hB : B ≤ w.heap.size) (ho : OwnI w B (.slice (some ⟨g, 0, none⟩) n cp) qs) (hp : pairB css qs = true) (hne : ¬ Le = Be) (hne2 : ¬ Be = Le) (hcl : Co ≠ Le) (hcb : Co ≠ Be) (hml : Mi ≠ Le) (hmb : Mi ≠ Be) (hgl : Le < g) (hgb : Be < g) :
    Calls Tryz.prog 104 #[.slice (some ⟨g, 0, none⟩) n cp, .pointer (some ⟨Co, 0, none⟩), .pointer (some ⟨Mi, 0, none⟩), .pointer (some ⟨Le, 0, none⟩), .pointer (some ⟨Be, 0, none⟩)] w fun e w' => e = .returned (.tuple #[]) ∧ BI Co Mi Le Be A c css miss g (vis ++ [qs]) w' ∧ Off (fun k => k = Le ∨ k = Be) w w' := by
  obtain ⟨c0, c1, c2, ⟨v, c3, ov⟩, z2, z3⟩ := h
  obtain ⟨bl, hbl⟩ : ∃ bl, bl = (foB miss css vis).1 := ⟨_, rfl⟩
  obtain ⟨l, hl⟩ : ∃ l, l = (foB miss css vis).2 := ⟨_, rfl⟩
  obtain ⟨s, hs⟩ : ∃ s, s = psk miss css qs qs.length := ⟨_, rfl⟩
  rw [← hbl] at ov
  rw [← hl] at c2
  have hsn : foB miss css (vis ++ [qs]) = if l < 0 ∨ s < l then (qs, s) else (bl, l) := by rw [foB_snoc, stB, ← hl, ← hs, hbl, hl]
  have hq := ho.reads
  obtain ⟨rfl, hqr⟩ := hq
  have hq6 : qs.length ≤ 6 := by have := (pair_facts hp).1; have := (are_facts hA).1; omega
  have hgw : g < w.heap.size := (ho.lt g rfl).2
  have hPS := fun w' (hb : Below w.heap.size w w') => impl_pairSum A c css miss (some ⟨g, 0, none⟩) cp qs w' ((hr.more hB).up hb) (by have := (are_facts hA).1; omega) (are_rows hA) (hqr.up hb) (by omega) hA hp h0 h1
  rw [← hs] at hPS
  have hPSH := Lib.hid hPS
  have hsnH := Lib.hid hsn
  have hoH := Lib.hid ho
  have ovH := Lib.hid ov
  have hnl := Lib.hid hne
  clear hPS hsn hbl hl hs ho hqr hr hp hA ov
  by_cases hc : l < 0 ∨ s < l
  · have hsn := hsnH.out
    rw [if_pos hc] at hsn
    have hsnH := Lib.hid hsn
    clear hsn
    rcases Int.lt_or_le l 0 with hl0 | hl0
    all_goals
      try (have hsl : s < l := by omega)
      clear hc
      go_enter Tryz.func104, Tryz.ntmps104
      repeat' (first | fail | go_values | go_skip | go_guarded | go_step | go_upon | (simp only []; go_step) | (go_ite <;> go_prune <;> (try go_simp)))
      refine (hPSH.out _ (Below.refl _ _)).mono ?_; rintro e w1 ⟨rfl, hbw1⟩; have hzw1 := hbw1.size; (try simp only [World.size_alloc, World.size_setCell, World.size_drew] at hzw1)
      have d2 := bx_keep hbw1 c2
      have d3 := bx_keep hbw1 c3
      have y2 : ∀ o, w1.frozen? ⟨Le, o, none⟩ = false := bm_keep hbw1 (World.block_lt_of_cell? w ⟨Le, 0, none⟩ c2) z2
      have y3 : ∀ o, w1.frozen? ⟨Be, o, none⟩ = false := bm_keep hbw1 (World.block_lt_of_cell? w ⟨Be, 0, none⟩ c3) z3
      repeat' (first | fail | go_values | go_skip | go_guarded | go_step | go_upon | (simp only []; go_step) | (go_ite <;> go_prune <;> (try go_simp)))
      refine (slices_CloneO g qs.length cp B qs _ (hoH.out.below hbw1) (by omega)).mono ?_; rintro e w2 ⟨v2, rfl, ov2, hbw2⟩; have hzw2 := hbw2.size; (try simp only [World.size_alloc, World.size_setCell, World.size_drew] at hzw2)
      have e2 := bx_keep hbw2 d2
      have e3 := bx_keep hbw2 d3
      have x2 : ∀ o, w2.frozen? ⟨Le, o, none⟩ = false := bm_keep hbw2 (World.block_lt_of_cell? w1 ⟨Le, 0, none⟩ d2) y2
      have x3 : ∀ o, w2.frozen? ⟨Be, o, none⟩ = false := bm_keep hbw2 (World.block_lt_of_cell? w1 ⟨Be, 0, none⟩ d3) y3
      obtain ⟨Av, cv, rfl, hov⟩ := id ov2
      clear hov
      repeat' (first | fail | go_values | go_skip | go_guarded | go_step | go_upon | (simp only []; go_step) | (go_ite <;> go_prune <;> (try go_simp)))
      all_goals go_returns
      all_goals exact ⟨rfl, ⟨by exact bxc, by exact bxc, by rw [hsnH.out]; (show _ = some (Value.int .i64 s)); exact bxc, ⟨_, by exact bxc, by rw [hsnH.out]; exact ((OwnI.mono ov2 (by omega)).off (by omega) _).off (by omega) _⟩, bm_set (bm_set x2), bm_set (bm_set x3)⟩, (((Off.of_below hbw1).trans (Off.of_below hbw2)).set (.inr rfl)).set (.inl rfl)⟩
  · have hsn := hsnH.out
    rw [if_neg hc] at hsn
    have hsnH := Lib.hid hsn
    have hl0 : ¬ l < 0 := by omega
    have hsl : ¬ s < l := by omega
    clear hsn hc
    go_enter Tryz.func104, Tryz.ntmps104
    repeat' (first | fail | go_values | go_skip | go_guarded | go_step | go_upon | (simp only []; go_step) | (go_ite <;> go_prune <;> (try go_simp)))
    refine (hPSH.out _ (Below.refl _ _)).mono ?_; rintro e w1 ⟨rfl, hbw1⟩; have hzw1 := hbw1.size; (try simp only [World.size_alloc, World.size_setCell, World.size_drew] at hzw1)
    have d2 := bx_keep hbw1 c2
    repeat' (first | fail | go_values | go_skip | go_guarded | go_step | go_upon | (simp only []; go_step) | (go_ite <;> go_prune <;> (try go_simp)))
    all_goals go_returns
    all_goals exact ⟨rfl, ⟨bx_keep hbw1 c0, bx_keep hbw1 c1, by rw [hsnH.out]; exact d2, ⟨v, bx_keep hbw1 c3, by rw [hsnH.out]; exact ovH.out.below hbw1⟩, bm_keep hbw1 (World.block_lt_of_cell? w ⟨Le, 0, none⟩ c2) z2, bm_keep hbw1 (World.block_lt_of_cell? w ⟨Be, 0, none⟩ c3) z3⟩, Off.of_below hbw1⟩
set_option maxRecDepth 100000 in
set_option maxHeartbeats 3200000 in
theorem impl_each_best (I : Nat → List (List Int) → World → Prop) (S : Nat → Prop) (B c Co Mi Le Be : Nat) (A : Option Addr) (css : List (List Int)) (w : World) (hA : areB css = true) (hB : B ≤ w.heap.size) (hr : II64 w B A css) (hS : ∀ k, S k → B ≤ k ∧ k < w.heap.size)
    (hI0 : ∀ g, I g [] w) (hIal : ∀ g vis w1 w2, I g vis w1 → Below w1.heap.size w1 w2 → I g vis w2) (hIst : ∀ g vis w1 w2, w.heap.size ≤ g → I g vis w1 → Off (fun k => k = g) w1 w2 → I g vis w2)
    (hdo : ∀ (g n cp : Nat) vis w1 qs, w.heap.size ≤ g → I g vis w1 → B ≤ w1.heap.size → II64 w1 B A css → OwnI w1 B (.slice (some ⟨g, 0, none⟩) n cp) qs → pairB css qs = true →
      Calls Tryz.prog 104 #[.slice (some ⟨g, 0, none⟩) n cp, .pointer (some ⟨Co, 0, none⟩), .pointer (some ⟨Mi, 0, none⟩), .pointer (some ⟨Le, 0, none⟩), .pointer (some ⟨Be, 0, none⟩)] w1 fun e w' => e = .returned (.tuple #[]) ∧ I g (vis ++ [qs]) w' ∧ Off S w1 w') :
    Calls Tryz.prog 103 #[.slice A css.length c, .func (.func 104) #[] #[.pointer (some ⟨Co, 0, none⟩), .pointer (some ⟨Mi, 0, none⟩), .pointer (some ⟨Le, 0, none⟩), .pointer (some ⟨Be, 0, none⟩)]] w fun e w' => e = .returned (.tuple #[]) ∧ (∃ g, I g (allP css) w') ∧ Below B w w' ∧ w.heap.size ≤ w'.heap.size := by
  obtain ⟨i0, hi, hz0, hz1, hz2⟩ := info_parts int_info
  have hmf : ∀ (fn : Fn) (first cap : Array Value) (w : World), (Instr.makeFunc fn first cap).run Tryz.prog w = .ok (.func fn first cap) w := fun _ _ _ _ => rfl
  have hsf : ∀ (w : World) (a : Addr) (fn : Fn) (fi ca : Array Value) (m : Mode), (store a (.func fn fi ca) m).run Tryz.prog w = stored Tryz.prog w a (.func fn fi ca) m := fun w a fn fi ca m => run_store Tryz.prog w a _ m rfl
  have h6 := (are_facts hA).1
  have hI0H := Lib.hid hI0
  have hIalH := Lib.hid hIal
  have hIstH := Lib.hid hIst
  have hdoH := Lib.hid hdo
  clear hI0 hIal hIst hdo
  go_enter Tryz.func103, Tryz.ntmps103
  go_wp2_with (at_make; refine wpList_make_full _ rfl _ _ 34 rfl w.heap.size 2 i0 _ 1 Tryz.underlying34 hi hz0 hz1 .i64 .i64 _ _ css.length rfl rfl rfl rfl (by rw [hz2]; omega) (by simp only [maxLen]; omega) (by simp; omega) ?_; intro w1 hown hg; have hcw : ∀ o1 t, ((w1.alloc o1).alloc (.cells #[.nilFunc] t)).cell? ⟨w1.heap.size + 1, 0, none⟩ = some .nilFunc := fun o1 t => bx_new (by simp) rfl; have hfw : ∀ o1 t o, ((w1.alloc o1).alloc (.cells #[.nilFunc] t)).frozen? ⟨w1.heap.size + 1, o, none⟩ = false := fun o1 t o => bm_new (by simp) o)
  have hWb : Below ((w.alloc (.cells #[.slice A css.length c] 100)).alloc (.cells #[.func (.func 104) #[] #[.pointer (some ⟨Co, 0, none⟩), .pointer (some ⟨Mi, 0, none⟩), .pointer (some ⟨Le, 0, none⟩), .pointer (some ⟨Be, 0, none⟩)]] 136)).heap.size ((w.alloc (.cells #[.slice A css.length c] 100)).alloc (.cells #[.func (.func 104) #[] #[.pointer (some ⟨Co, 0, none⟩), .pointer (some ⟨Mi, 0, none⟩), .pointer (some ⟨Le, 0, none⟩), .pointer (some ⟨Be, 0, none⟩)]] 136)) w1 := ⟨hg.os, hg.tape, hg.output, hg.size, fun k hk => hg.block k hk (by simp)⟩
  have hgl := (hown.lt (w.heap.size + 1 + 1) (by simp [Value.ownBlock])).2
  have how : OwnI w1 B (.slice (some ⟨w.heap.size + 1 + 1, 0, none⟩) css.length css.length) (List.replicate css.length 0) := by
    refine OwnI.mono (base := w.heap.size) ⟨some ⟨w.heap.size + 1 + 1, 0, none⟩, css.length, by simp, ?_⟩ hB
    have h := hown
    simp only [show (Value.int .i64 0).cells = #[Value.int .i64 0] from rfl, Nat.mul_one, toList_madeCells_one] at h
    simpa using h
  clear hown hg hcw hfw
  have c0 : w1.cell? ⟨w.heap.size, 0, none⟩ = some (.slice A css.length c) := by exact bxc
  have c1 : w1.cell? ⟨w.heap.size + 1, 0, none⟩ = some (.func (.func 104) #[] #[.pointer (some ⟨Co, 0, none⟩), .pointer (some ⟨Mi, 0, none⟩), .pointer (some ⟨Le, 0, none⟩), .pointer (some ⟨Be, 0, none⟩)]) := by exact bxc
  have hw1 : Below w.heap.size w w1 := by exact bgr
  clear hWb
  have hnS : ∀ k, w.heap.size ≤ k → ¬ S k := fun k hk h => by have := (hS k h).2; omega
  have hC := hnS (w.heap.size) (by omega)
  have hD := hnS (w.heap.size + 1) (by omega)
  have hG := hnS (w.heap.size + 1 + 1) (by omega)
  have hP := hnS w1.heap.size (by omega)
  have hK := hnS (w1.heap.size + 1) (by omega)
  refine (each_walk_best (I (w.heap.size + 1 + 1)) S B w.heap.size (w.heap.size + 1) w1.heap.size (w1.heap.size + 1) (w.heap.size + 1 + 1) css.length css.length c Co Mi Le Be A css hA rfl (Nat.le_refl _) (fun k h => (hS k h).1) (by omega) hG ⟨hC, by omega⟩ ⟨hD, by omega⟩ ⟨hP, by omega⟩ ⟨hK, by omega⟩ (fun vis a b h1 h2 => hIstH.out _ vis a b (by omega) h1 h2) (fun vis a qs h1 h2 h3 _ h5 h6 => hdoH.out _ _ _ vis a qs (by omega) h1 h2 h3 h5 h6) css [] [] [] (List.replicate css.length 0) _ rfl rfl rfl ?_ ?_ ?_ rfl).mono ?_
  · exact ⟨by exact bxc, by exact bxc, by exact bxc, by exact bxc, hr.below (Below.mono (by exact bgr) hB), by simp only [World.size_alloc]; omega⟩
  · exact hIalH.out _ _ w _ (hI0H.out _) (by exact bgr)
  · exact (how.alloc _).alloc _
  · rintro e w3 ⟨rfl, hI3, hO3, _⟩
    have hz3 := hO3.size
    (try simp only [World.size_alloc] at hz3)
    have hB3 := hO3.below (B := B) (fun k h => h.elim (fun h => (hS k h).1) (fun h => by omega)) (by simp only [World.size_alloc]; omega)
    repeat' (first | fail | go_values | go_skip | go_guarded | go_step | go_upon | (simp only []; go_step) | (go_ite <;> go_prune <;> (try go_simp)))
    all_goals go_returns
    all_goals exact ⟨rfl, ⟨_, hI3⟩, Below.trans (Below.mono (show Below w.heap.size w _ from by exact bgr) hB) hB3, by omega⟩
set_option maxHeartbeats 1600000 in
theorem impl_bestPairs (A : Option Addr) (c : Nat) (css : List (List Int)) (miss : Int) (w : World) (hr : II64 w w.heap.size A css) (hA : areB css = true) (h0 : 0 ≤ miss) (h1 : miss ≤ 1000000000000) :
    Calls Tryz.prog 86 #[.slice A css.length c, .int .i64 miss] w fun e w' => ∃ v, e = .returned (.tuple #[v, .int .i64 (lstP css miss)]) ∧ OwnI w' w.heap.size v (bstP css miss) ∧ Below w.heap.size w w' := by
  have hE : ∀ (B Co Mi Le Be : Nat) (w' : World) (hB : B ≤ w'.heap.size) (hr' : II64 w' B A css) (hw : B ≤ Co ∧ Co < w'.heap.size ∧ B ≤ Mi ∧ Mi < w'.heap.size ∧ B ≤ Le ∧ Le < w'.heap.size ∧ B ≤ Be ∧ Be < w'.heap.size) (hd : Co ≠ Le ∧ Co ≠ Be ∧ Mi ≠ Le ∧ Mi ≠ Be ∧ Le ≠ Be)
      (hI : ∀ g, BI Co Mi Le Be A c css miss g [] w'), Calls Tryz.prog 103 #[.slice A css.length c, .func (.func 104) #[] #[.pointer (some ⟨Co, 0, none⟩), .pointer (some ⟨Mi, 0, none⟩), .pointer (some ⟨Le, 0, none⟩), .pointer (some ⟨Be, 0, none⟩)]] w' fun e w2 => e = .returned (.tuple #[]) ∧ (∃ g, B ≤ g ∧ BI Co Mi Le Be A c css miss g (allP css) w2) ∧ Below B w' w2 ∧ w'.heap.size ≤ w2.heap.size := fun B Co Mi Le Be w' hB hr' hw hd hI =>
    (impl_each_best (fun g vis W => w'.heap.size ≤ g ∧ BI Co Mi Le Be A c css miss g vis W ∨ vis = [] ∧ BI Co Mi Le Be A c css miss g vis W) (fun k => k = Le ∨ k = Be) B c Co Mi Le Be A css w' hA hB hr' (fun k h => by rcases h with rfl | rfl <;> omega) (fun g => .inr ⟨rfl, hI g⟩)
      (fun g vis w1 w2 h hb => h.imp (fun ⟨a, h⟩ => ⟨a, h.off (Off.of_below (S := fun _ => False) hb) id id id id (fun _ _ => id)⟩) (fun ⟨a, h⟩ => ⟨a, h.off (Off.of_below (S := fun _ => False) hb) id id id id (fun _ _ => id)⟩))
      (fun g vis w1 w2 hg h ho => h.imp (fun ⟨a, h⟩ => ⟨a, h.off ho (by omega) (by omega) (by omega) (by omega) (fun k hk e => by omega)⟩) (fun ⟨a, h⟩ => ⟨a, h.off ho (by omega) (by omega) (by omega) (by omega) (fun k hk e => by omega)⟩))
      (fun g n cp vis w1 qs hg h hB1 hr1 ho hp => (impl_best_do B Co Mi Le Be g n cp c A css miss vis qs w1 (h.elim (·.2) (·.2)) hA h0 h1 hr1 hB1 ho hp hd.2.2.2.2 (fun e => hd.2.2.2.2 e.symm) hd.1 hd.2.1 hd.2.2.1 hd.2.2.2.1 (by omega) (by omega)).mono fun e w2 ⟨he, hi, hf⟩ => ⟨he, .inl ⟨hg, hi⟩, hf⟩)).mono
      fun e w2 ⟨he, ⟨g, hg⟩, hb, hs⟩ => ⟨he, hg.elim (fun ⟨a, h⟩ => ⟨g, by omega, h⟩) (fun ⟨a, _⟩ => absurd a (fun e => by have : 0 < (allP css).length := allR_pos; rw [e] at this; simp at this)), hb, hs⟩
  have hfin := foB_best hA h0 h1
  obtain ⟨bl, hbl⟩ : ∃ bl, bl = bstP css miss := ⟨_, rfl⟩
  obtain ⟨l, hl⟩ : ∃ l, l = lstP css miss := ⟨_, rfl⟩
  rw [← hbl, ← hl] at hfin ⊢
  have hEH := Lib.hid hE
  have hfinH := Lib.hid hfin
  obtain ⟨i0, hi, hz0, hz1, hz2⟩ := info_parts int_info
  have hmf : ∀ (fn : Fn) (first cap : Array Value) (w : World), (Instr.makeFunc fn first cap).run Tryz.prog w = .ok (.func fn first cap) w := fun _ _ _ _ => rfl
  clear hE hfin hbl hl
  go_enter Tryz.func86, Tryz.ntmps86
  repeat' (first | fail | go_values | go_skip | go_guarded | go_step | go_upon | (simp only []; go_step) | (go_ite <;> go_prune <;> (try go_simp)))
  refine (hEH.out w.heap.size w.heap.size (w.heap.size + 1) (w.heap.size + 1 + 1 + 1) (w.heap.size + 1 + 1) _ ?_ ?_ ?_ ?_ ?_).mono ?_
  · simp only [World.size_alloc]; omega
  · exact hr.below (by exact bgr)
  · simp only [World.size_alloc]; omega
  · omega
  · intro g; exact ⟨by exact bxc, by exact bxc, by (show _ = some (Value.int .i64 (-1))); exact bxc, ⟨_, by exact bxc, OwnI.nil _ _⟩, by exact bxm, by exact bxm⟩
  · rintro e w3 ⟨rfl, ⟨g, hg, hb⟩, hbw3, hs3⟩
    obtain ⟨_, _, c2, ⟨v, c3, ov⟩, _, _⟩ := hb
    rw [hfinH.out] at c2 ov
    have ov := ov.mono (base' := w.heap.size) (by omega)
    have hB3 : Below w.heap.size w w3 := Below.trans (by exact bgr) hbw3
    have ovH := Lib.hid ov
    clear ov hbw3
    repeat' (first | fail | go_values | go_skip | go_guarded | go_step | go_upon | (simp only []; go_step) | (go_ite <;> go_prune <;> (try go_simp)))
    all_goals (try go_quiet (fail))
    all_goals repeat' (first | fail | go_values | go_skip | go_guarded | go_step | go_upon | (simp only []; go_step) | (go_ite <;> go_prune <;> (try go_simp)))
    all_goals go_returns
    all_goals exact ⟨_, rfl, ovH.out, by exact bgr⟩
end Go.Proofs.YthbljfanoaibkaaGreatDoor
