/- Sums of pairings: contracts. -/
import Derived.Test.YtdomghjdnnnifaaCoD
namespace Go.Proofs.Ytdomghjdnnnifaa
open Go.RowKit Go.ChangeShapes Go.WideShapes Go.ChangeAt
set_option linter.unusedVariables false
set_option linter.unusedSimpArgs false
def pst (miss : Int) (xss : List (List Int)) (ps : List Int) (i : Nat) : Int := if ps.getD i 0 < 0 then miss else (xss.getD i []).getD (ps.getD i 0).toNat 0
def psk (miss : Int) (xss : List (List Int)) (ps : List Int) : Nat → Int
  | 0 => 0
  | k + 1 => psk miss xss ps k + pst miss xss ps k
theorem pair_facts {xss : List (List Int)} {ps : List Int} (h : pairB xss ps = true) : ps.length = xss.length ∧ prk xss ps ps.length = true := by
  simp only [pairB, Bool.and_eq_true] at h
  exact ⟨of_decide_eq_true h.1, h.2⟩
theorem pok_facts {xss : List (List Int)} {ps xs : List Int} {k : Nat} {p : Int} (h : pokB xss ps k = true) (hp : ps[k]? = some p) (hx : xss[k]? = some xs) : p = -1 ∨ ∃ (m : Nat) (y : Int), p = m ∧ xs[m]? = some y ∧ 0 ≤ y := by
  by_cases h1 : p = -1
  · exact .inl h1
  · right
    by_cases h2 : 0 ≤ p ∧ p ≤ (xs.length : Int) - 1
    · obtain ⟨m, rfl⟩ := Int.eq_ofNat_of_zero_le h2.1
      obtain ⟨y, hy⟩ := get_of_lt (show m < xs.length by omega)
      rw [pok_in hp hx hy, Bool.and_eq_true] at h
      exact ⟨m, y, rfl, hy, of_decide_eq_true h.1⟩
    · rw [pok_out hp hx h1 h2] at h
      cases h
theorem psk_bd {miss : Int} {xss : List (List Int)} {ps : List Int} (hA : areB xss = true) (hp : pairB xss ps = true) (h0 : 0 ≤ miss) (h1 : miss ≤ 1000000000000) : ∀ k, k ≤ ps.length → 0 ≤ psk miss xss ps k ∧ psk miss xss ps k ≤ k * 1000000000000
  | 0, _ => by simp [psk]
  | k + 1, hk => by
    have ih := psk_bd hA hp h0 h1 k (by omega)
    obtain ⟨p, hp1⟩ := get_of_lt (xs := ps) (k := k) (by omega)
    obtain ⟨xs, hx⟩ := get_of_lt (xs := xss) (k := k) (by have := (pair_facts hp).1; omega)
    have hf := pok_facts (prk_of (pair_facts hp).2 (by omega)) hp1 hx
    have hb := ((are_facts hA).2 k xs hx).2.2
    rw [psk, pst, iget_of hp1, lget_of hx]
    rcases hf with rfl | ⟨m, y, rfl, hy, hy0⟩
    · rw [if_pos (by omega)]; omega
    · rw [if_neg (by omega), Int.toNat_natCast, iget_of hy]
      have := of_allB hb hy
      omega
def fSum (xss : List (List Int)) (miss : Int) (ps : List Int) : Int × Int := if areB xss then (if inB miss 0 1000000000000 && pairB xss ps then (psk miss xss ps ps.length, 0) else (0, 2)) else (0, 1)
set_option maxHeartbeats 800000 in
theorem impl_pairSum (A : Option Addr) (c : Nat) (xss : List (List Int)) (miss : Int) (B : Option Addr) (d : Nat) (ps : List Int) (w : World) (hr : II64 w w.heap.size A xss) (hl : xss.length ≤ 1099511627776) (hm : ∀ (i : Nat) (xs : List Int), xss[i]? = some xs → xs.length ≤ 1099511627776) (hs : I64 w w.heap.size B ps) (hq : ps.length ≤ 1099511627776) (hA : areB xss = true) (hp : pairB xss ps = true) (h0 : 0 ≤ miss) (h1 : miss ≤ 1000000000000) :
    Calls Try.prog 63 #[.slice A xss.length c, .int .i64 miss, .slice B ps.length d] w fun e w' => e = .returned (.int .i64 (psk miss xss ps ps.length)) ∧ Below w.heap.size w w' := by
  have hbd := Lib.hid (psk_bd hA hp h0 h1)
  have hF := Lib.hid (pair_facts hp)
  have hG := Lib.hid (are_facts hA)
  go_enter Try.func63, Try.ntmps63
  repeat' (first | fail | go_values | go_skip | go_guarded | go_step | go_upon | (simp only []; go_step) | (go_ite <;> go_prune <;> (try go_simp)))
  go_loopw [7, 12] (fun s i wr => ∃ k : Nat, k ≤ ps.length ∧ i = .int .i64 k ∧ s = .int .i64 (psk miss xss ps k) ∧ Below w.heap.size w wr) (fun _ i _ => ps.length - (intOf i).toNat)
  case atStart => exact ⟨0, Nat.zero_le _, rfl, rfl, by repeat' (first | (with_reducible exact Below.refl _ _) | (with_reducible assumption) | (with_reducible refine Below.new ?_ _) | (with_reducible refine Below.alloc ?_ ?_ _) | (with_reducible refine Below.drew ?_) | (with_reducible refine below_drewN ?_ _) | (with_reducible refine Below.setCell ?_ ?_ _) | (refine Below.next ?_ (by with_reducible assumption)) | (refine Below.row ?_ (by with_reducible assumption) (by omega)) | (refine Below.trans ?_ (by with_reducible assumption)) | (refine Below.after ?_ ?_ (by with_reducible assumption)) | go_size)⟩
  case round =>
    obtain ⟨k, hk, rfl, rfl, hbr⟩ := hrel
    by_cases hlt : k < ps.length
    · obtain ⟨p, hp1⟩ := get_of_lt hlt
      obtain ⟨xs, hx⟩ := get_of_lt (xs := xss) (k := k) (by have := hF.out.1; omega)
      obtain ⟨b, o, rfl, hb, hc⟩ := (hs.up hbr).at_ hp1
      obtain ⟨b2, o2, A', c', rfl, hb2, hc2, hi⟩ := (hr.up hbr).at_ hx
      have hk6 : k ≤ 6 := by have := hF.out.1; have := hG.out.1; omega
      have hs0 := hbd.out k (by omega)
      have hs1 := hbd.out (k + 1) (by omega)
      have k0 : (0 : Int) ≤ (k : Int) := by omega
      have k1 : (k : Int) < (ps.length : Int) := by omega
      have k2 : (k : Int) < (xss.length : Int) := by have := hF.out.1; omega
      have hok := pok_facts (prk_of hF.out.2 hlt) hp1 hx
      have hpH := Lib.hid hp1
      have hxH := Lib.hid hx
      clear hp1 hx
      rcases hok with rfl | ⟨m, y, rfl, hy, hy0⟩
      · have hst : Hid (psk miss xss ps (k + 1) = psk miss xss ps k + miss) := by unfold Hid; rw [psk, pst, iget_of hpH.out, if_pos (by omega)]
        have hs1 : 0 ≤ psk miss xss ps k + miss ∧ psk miss xss ps k + miss ≤ 7000000000000 := by rw [hst.out] at hs1; omega
        repeat' (first | fail | go_values | go_skip | go_guarded | go_step | go_upon | (simp only []; go_step) | (go_ite <;> go_prune <;> (try go_simp)))
        all_goals (try go_quiet (fail))
        all_goals repeat' (first | fail | go_values | go_skip | go_guarded | go_step | go_upon | (simp only []; go_step) | (go_ite <;> go_prune <;> (try go_simp)))
        all_goals exact ⟨⟨k + 1, by omega, by go_num, by rw [hst.out], by repeat' (first | (with_reducible exact Below.refl _ _) | (with_reducible assumption) | (with_reducible refine Below.new ?_ _) | (with_reducible refine Below.alloc ?_ ?_ _) | (with_reducible refine Below.drew ?_) | (with_reducible refine below_drewN ?_ _) | (with_reducible refine Below.setCell ?_ ?_ _) | (refine Below.next ?_ (by with_reducible assumption)) | (refine Below.row ?_ (by with_reducible assumption) (by omega)) | (refine Below.trans ?_ (by with_reducible assumption)) | (refine Below.after ?_ ?_ (by with_reducible assumption)) | go_size)⟩, by simp [intOf]; omega⟩
      · obtain ⟨b3, o3, rfl, hb3, hc3⟩ := hi.at_ hy
        have hst : Hid (psk miss xss ps (k + 1) = psk miss xss ps k + y) := by unfold Hid; rw [psk, pst, iget_of hpH.out, lget_of hxH.out, if_neg (by omega), Int.toNat_natCast, iget_of hy]
        have hs1 : 0 ≤ psk miss xss ps k + y ∧ psk miss xss ps k + y ≤ 7000000000000 := by rw [hst.out] at hs1; omega
        have m0 : (0 : Int) ≤ (m : Int) := by omega
        have m1 : (m : Int) < (xs.length : Int) := by have := lt_of_get hy; omega
        have m2 : ¬ (m : Int) < 0 := by omega
        clear hy
        repeat' (first | fail | go_values | go_skip | go_guarded | go_step | go_upon | (simp only []; go_step) | (go_ite <;> go_prune <;> (try go_simp)))
        all_goals (try go_quiet (fail))
        all_goals repeat' (first | fail | go_values | go_skip | go_guarded | go_step | go_upon | (simp only []; go_step) | (go_ite <;> go_prune <;> (try go_simp)))
        all_goals (try go_quiet (fail))
        all_goals repeat' (first | fail | go_values | go_skip | go_guarded | go_step | go_upon | (simp only []; go_step) | (go_ite <;> go_prune <;> (try go_simp)))
        all_goals exact ⟨⟨k + 1, by omega, by go_num, by rw [hst.out], by repeat' (first | (with_reducible exact Below.refl _ _) | (with_reducible assumption) | (with_reducible refine Below.new ?_ _) | (with_reducible refine Below.alloc ?_ ?_ _) | (with_reducible refine Below.drew ?_) | (with_reducible refine below_drewN ?_ _) | (with_reducible refine Below.setCell ?_ ?_ _) | (refine Below.next ?_ (by with_reducible assumption)) | (refine Below.row ?_ (by with_reducible assumption) (by omega)) | (refine Below.trans ?_ (by with_reducible assumption)) | (refine Below.after ?_ ?_ (by with_reducible assumption)) | go_size)⟩, by simp [intOf]; omega⟩
    · have e : k = ps.length := by omega
      subst e
      repeat' (first | fail | go_values | go_skip | go_guarded | go_step | go_upon | (simp only []; go_step) | (go_ite <;> go_prune <;> (try go_simp)))
      all_goals go_returns
      all_goals exact ⟨rfl, by repeat' (first | (with_reducible exact Below.refl _ _) | (with_reducible assumption) | (with_reducible refine Below.new ?_ _) | (with_reducible refine Below.alloc ?_ ?_ _) | (with_reducible refine Below.drew ?_) | (with_reducible refine below_drewN ?_ _) | (with_reducible refine Below.setCell ?_ ?_ _) | (refine Below.next ?_ (by with_reducible assumption)) | (refine Below.row ?_ (by with_reducible assumption) (by omega)) | (refine Below.trans ?_ (by with_reducible assumption)) | (refine Below.after ?_ ?_ (by with_reducible assumption)) | go_size)⟩
set_option maxHeartbeats 800000 in
theorem spec_pairSum (A : Option Addr) (c : Nat) (xss : List (List Int)) (miss : Int) (B : Option Addr) (d : Nat) (ps : List Int) (w : World) (hr : II64 w w.heap.size A xss) (hl : xss.length ≤ 1099511627776) (hm : ∀ (i : Nat) (xs : List Int), xss[i]? = some xs → xs.length ≤ 1099511627776) (hs : I64 w w.heap.size B ps) (hq : ps.length ≤ 1099511627776) (hA : areB xss = true) (hp : pairB xss ps = true) (h0 : 0 ≤ miss) (h1 : miss ≤ 1000000000000) :
    Calls Try.prog 62 #[.slice A xss.length c, .int .i64 miss, .slice B ps.length d] w fun e w' => e = .returned (.int .i64 (psk miss xss ps ps.length)) ∧ Below w.heap.size w w' := by
  have hbd := Lib.hid (psk_bd hA hp h0 h1)
  have hF := Lib.hid (pair_facts hp)
  have hG := Lib.hid (are_facts hA)
  go_enter Try.func62, Try.ntmps62
  repeat' (first | fail | go_values | go_skip | go_guarded | go_step | go_upon | (simp only []; go_step) | (go_ite <;> go_prune <;> (try go_simp)))
  go_loopw [7, 8] (fun s i wr => ∃ k : Nat, k ≤ ps.length ∧ i = .int .i64 k ∧ s = .int .i64 (psk miss xss ps k) ∧ Below w.heap.size w wr) (fun _ i _ => ps.length - (intOf i).toNat)
  case atStart => exact ⟨0, Nat.zero_le _, rfl, rfl, by repeat' (first | (with_reducible exact Below.refl _ _) | (with_reducible assumption) | (with_reducible refine Below.new ?_ _) | (with_reducible refine Below.alloc ?_ ?_ _) | (with_reducible refine Below.drew ?_) | (with_reducible refine below_drewN ?_ _) | (with_reducible refine Below.setCell ?_ ?_ _) | (refine Below.next ?_ (by with_reducible assumption)) | (refine Below.row ?_ (by with_reducible assumption) (by omega)) | (refine Below.trans ?_ (by with_reducible assumption)) | (refine Below.after ?_ ?_ (by with_reducible assumption)) | go_size)⟩
  case round =>
    obtain ⟨k, hk, rfl, rfl, hbr⟩ := hrel
    by_cases hlt : k < ps.length
    · obtain ⟨p, hp1⟩ := get_of_lt hlt
      obtain ⟨xs, hx⟩ := get_of_lt (xs := xss) (k := k) (by have := hF.out.1; omega)
      obtain ⟨b, o, rfl, hb, hc⟩ := (hs.up hbr).at_ hp1
      obtain ⟨b2, o2, A', c', rfl, hb2, hc2, hi⟩ := (hr.up hbr).at_ hx
      have hk6 : k ≤ 6 := by have := hF.out.1; have := hG.out.1; omega
      have hs0 := hbd.out k (by omega)
      have hs1 := hbd.out (k + 1) (by omega)
      have k0 : (0 : Int) ≤ (k : Int) := by omega
      have k1 : (k : Int) < (ps.length : Int) := by omega
      have k2 : (k : Int) < (xss.length : Int) := by have := hF.out.1; omega
      have hok := pok_facts (prk_of hF.out.2 hlt) hp1 hx
      have hpH := Lib.hid hp1
      have hxH := Lib.hid hx
      clear hp1 hx
      rcases hok with rfl | ⟨m, y, rfl, hy, hy0⟩
      · have hst : Hid (psk miss xss ps (k + 1) = psk miss xss ps k + miss) := by unfold Hid; rw [psk, pst, iget_of hpH.out, if_pos (by omega)]
        have hs1 : 0 ≤ psk miss xss ps k + miss ∧ psk miss xss ps k + miss ≤ 7000000000000 := by rw [hst.out] at hs1; omega
        repeat' (first | fail | go_values | go_skip | go_guarded | go_step | go_upon | (simp only []; go_step) | (go_ite <;> go_prune <;> (try go_simp)))
        all_goals (try go_quiet (fail))
        all_goals repeat' (first | fail | go_values | go_skip | go_guarded | go_step | go_upon | (simp only []; go_step) | (go_ite <;> go_prune <;> (try go_simp)))
        all_goals exact ⟨⟨k + 1, by omega, by go_num, by rw [hst.out], by repeat' (first | (with_reducible exact Below.refl _ _) | (with_reducible assumption) | (with_reducible refine Below.new ?_ _) | (with_reducible refine Below.alloc ?_ ?_ _) | (with_reducible refine Below.drew ?_) | (with_reducible refine below_drewN ?_ _) | (with_reducible refine Below.setCell ?_ ?_ _) | (refine Below.next ?_ (by with_reducible assumption)) | (refine Below.row ?_ (by with_reducible assumption) (by omega)) | (refine Below.trans ?_ (by with_reducible assumption)) | (refine Below.after ?_ ?_ (by with_reducible assumption)) | go_size)⟩, by simp [intOf]; omega⟩
      · obtain ⟨b3, o3, rfl, hb3, hc3⟩ := hi.at_ hy
        have hst : Hid (psk miss xss ps (k + 1) = psk miss xss ps k + y) := by unfold Hid; rw [psk, pst, iget_of hpH.out, lget_of hxH.out, if_neg (by omega), Int.toNat_natCast, iget_of hy]
        have hs1 : 0 ≤ psk miss xss ps k + y ∧ psk miss xss ps k + y ≤ 7000000000000 := by rw [hst.out] at hs1; omega
        have m0 : (0 : Int) ≤ (m : Int) := by omega
        have m1 : (m : Int) < (xs.length : Int) := by have := lt_of_get hy; omega
        have m2 : ¬ (m : Int) < 0 := by omega
        clear hy
        repeat' (first | fail | go_values | go_skip | go_guarded | go_step | go_upon | (simp only []; go_step) | (go_ite <;> go_prune <;> (try go_simp)))
        all_goals (try go_quiet (fail))
        all_goals repeat' (first | fail | go_values | go_skip | go_guarded | go_step | go_upon | (simp only []; go_step) | (go_ite <;> go_prune <;> (try go_simp)))
        all_goals (try go_quiet (fail))
        all_goals repeat' (first | fail | go_values | go_skip | go_guarded | go_step | go_upon | (simp only []; go_step) | (go_ite <;> go_prune <;> (try go_simp)))
        all_goals exact ⟨⟨k + 1, by omega, by go_num, by rw [hst.out], by repeat' (first | (with_reducible exact Below.refl _ _) | (with_reducible assumption) | (with_reducible refine Below.new ?_ _) | (with_reducible refine Below.alloc ?_ ?_ _) | (with_reducible refine Below.drew ?_) | (with_reducible refine below_drewN ?_ _) | (with_reducible refine Below.setCell ?_ ?_ _) | (refine Below.next ?_ (by with_reducible assumption)) | (refine Below.row ?_ (by with_reducible assumption) (by omega)) | (refine Below.trans ?_ (by with_reducible assumption)) | (refine Below.after ?_ ?_ (by with_reducible assumption)) | go_size)⟩, by simp [intOf]; omega⟩
    · have e : k = ps.length := by omega
      subst e
      repeat' (first | fail | go_values | go_skip | go_guarded | go_step | go_upon | (simp only []; go_step) | (go_ite <;> go_prune <;> (try go_simp)))
      all_goals go_returns
      all_goals exact ⟨rfl, by repeat' (first | (with_reducible exact Below.refl _ _) | (with_reducible assumption) | (with_reducible refine Below.new ?_ _) | (with_reducible refine Below.alloc ?_ ?_ _) | (with_reducible refine Below.drew ?_) | (with_reducible refine below_drewN ?_ _) | (with_reducible refine Below.setCell ?_ ?_ _) | (refine Below.next ?_ (by with_reducible assumption)) | (refine Below.row ?_ (by with_reducible assumption) (by omega)) | (refine Below.trans ?_ (by with_reducible assumption)) | (refine Below.after ?_ ?_ (by with_reducible assumption)) | go_size)⟩
set_option maxHeartbeats 800000 in
theorem impl_SumOfPairs (A : Option Addr) (c : Nat) (xss : List (List Int)) (miss : Int) (B : Option Addr) (d : Nat) (ps : List Int) (w : World) (hr : II64 w w.heap.size A xss) (hl : xss.length ≤ 1099511627776) (hm : ∀ (i : Nat) (xs : List Int), xss[i]? = some xs → xs.length ≤ 1099511627776) (hs : I64 w w.heap.size B ps) (hq : ps.length ≤ 1099511627776) (hd : ps.length ≤ d) :
    Calls Try.prog 32 #[.slice A xss.length c, .int .i64 miss, .slice B ps.length d] w fun e w' => e = .returned (.tuple #[.int .i64 (fSum xss miss ps).1, .int .i64 (fSum xss miss ps).2]) ∧ Below w.heap.size w w' := by
  by_cases hc : codeC xss miss = 0
  · obtain ⟨hA, h0, h1⟩ := codeC_0 hc
    cases hp : pairB xss ps
    · have ef : fSum xss miss ps = (0, 2) := by simp [fSum, hA, hp]
      rw [ef]
      go_enter Try.func32, Try.ntmps32
      repeat' (first | fail | go_values | go_skip | go_guarded | go_step | go_upon | (simp only []; go_step) | (go_ite <;> go_prune <;> (try go_simp)))
      refine (impl_costCode _ _ _ _ _ (hr.up (by repeat' (first | (with_reducible exact Below.refl _ _) | (with_reducible assumption) | (with_reducible refine Below.new ?_ _) | (with_reducible refine Below.alloc ?_ ?_ _) | (with_reducible refine Below.drew ?_) | (with_reducible refine below_drewN ?_ _) | (with_reducible refine Below.setCell ?_ ?_ _) | (refine Below.next ?_ (by with_reducible assumption)) | (refine Below.row ?_ (by with_reducible assumption) (by omega)) | (refine Below.trans ?_ (by with_reducible assumption)) | (refine Below.after ?_ ?_ (by with_reducible assumption)) | go_size))) hl hm).mono ?_; rintro e w1 ⟨rfl, hbw1⟩; have hzw1 := hbw1.size; (try simp only [World.size_alloc, World.size_setCell, World.size_drew] at hzw1)
      rw [hc]
      repeat' (first | fail | go_values | go_skip | go_guarded | go_step | go_upon | (simp only []; go_step) | (go_ite <;> go_prune <;> (try go_simp)))
      refine (impl_isPairing _ _ _ _ _ _ _ (hr.up (by repeat' (first | (with_reducible exact Below.refl _ _) | (with_reducible assumption) | (with_reducible refine Below.new ?_ _) | (with_reducible refine Below.alloc ?_ ?_ _) | (with_reducible refine Below.drew ?_) | (with_reducible refine below_drewN ?_ _) | (with_reducible refine Below.setCell ?_ ?_ _) | (refine Below.next ?_ (by with_reducible assumption)) | (refine Below.row ?_ (by with_reducible assumption) (by omega)) | (refine Below.trans ?_ (by with_reducible assumption)) | (refine Below.after ?_ ?_ (by with_reducible assumption)) | go_size))) hl hm (hs.up (by repeat' (first | (with_reducible exact Below.refl _ _) | (with_reducible assumption) | (with_reducible refine Below.new ?_ _) | (with_reducible refine Below.alloc ?_ ?_ _) | (with_reducible refine Below.drew ?_) | (with_reducible refine below_drewN ?_ _) | (with_reducible refine Below.setCell ?_ ?_ _) | (refine Below.next ?_ (by with_reducible assumption)) | (refine Below.row ?_ (by with_reducible assumption) (by omega)) | (refine Below.trans ?_ (by with_reducible assumption)) | (refine Below.after ?_ ?_ (by with_reducible assumption)) | go_size))) hq hd).mono ?_; rintro e w2 ⟨rfl, hbw2⟩; have hzw2 := hbw2.size; (try simp only [World.size_alloc, World.size_setCell, World.size_drew] at hzw2)
      rw [hp]
      repeat' (first | fail | go_values | go_skip | go_guarded | go_step | go_upon | (simp only []; go_step) | (go_ite <;> go_prune <;> (try go_simp)))
      all_goals go_returns
      all_goals exact ⟨rfl, by repeat' (first | (with_reducible exact Below.refl _ _) | (with_reducible assumption) | (with_reducible refine Below.new ?_ _) | (with_reducible refine Below.alloc ?_ ?_ _) | (with_reducible refine Below.drew ?_) | (with_reducible refine below_drewN ?_ _) | (with_reducible refine Below.setCell ?_ ?_ _) | (refine Below.next ?_ (by with_reducible assumption)) | (refine Below.row ?_ (by with_reducible assumption) (by omega)) | (refine Below.trans ?_ (by with_reducible assumption)) | (refine Below.after ?_ ?_ (by with_reducible assumption)) | go_size)⟩
    · have ef : fSum xss miss ps = (psk miss xss ps ps.length, 0) := by simp [fSum, hA, hp, inB_t ⟨h0, h1⟩]
      rw [ef]
      go_enter Try.func32, Try.ntmps32
      repeat' (first | fail | go_values | go_skip | go_guarded | go_step | go_upon | (simp only []; go_step) | (go_ite <;> go_prune <;> (try go_simp)))
      refine (impl_costCode _ _ _ _ _ (hr.up (by repeat' (first | (with_reducible exact Below.refl _ _) | (with_reducible assumption) | (with_reducible refine Below.new ?_ _) | (with_reducible refine Below.alloc ?_ ?_ _) | (with_reducible refine Below.drew ?_) | (with_reducible refine below_drewN ?_ _) | (with_reducible refine Below.setCell ?_ ?_ _) | (refine Below.next ?_ (by with_reducible assumption)) | (refine Below.row ?_ (by with_reducible assumption) (by omega)) | (refine Below.trans ?_ (by with_reducible assumption)) | (refine Below.after ?_ ?_ (by with_reducible assumption)) | go_size))) hl hm).mono ?_; rintro e w1 ⟨rfl, hbw1⟩; have hzw1 := hbw1.size; (try simp only [World.size_alloc, World.size_setCell, World.size_drew] at hzw1)
      rw [hc]
      repeat' (first | fail | go_values | go_skip | go_guarded | go_step | go_upon | (simp only []; go_step) | (go_ite <;> go_prune <;> (try go_simp)))
      refine (impl_isPairing _ _ _ _ _ _ _ (hr.up (by repeat' (first | (with_reducible exact Below.refl _ _) | (with_reducible assumption) | (with_reducible refine Below.new ?_ _) | (with_reducible refine Below.alloc ?_ ?_ _) | (with_reducible refine Below.drew ?_) | (with_reducible refine below_drewN ?_ _) | (with_reducible refine Below.setCell ?_ ?_ _) | (refine Below.next ?_ (by with_reducible assumption)) | (refine Below.row ?_ (by with_reducible assumption) (by omega)) | (refine Below.trans ?_ (by with_reducible assumption)) | (refine Below.after ?_ ?_ (by with_reducible assumption)) | go_size))) hl hm (hs.up (by repeat' (first | (with_reducible exact Below.refl _ _) | (with_reducible assumption) | (with_reducible refine Below.new ?_ _) | (with_reducible refine Below.alloc ?_ ?_ _) | (with_reducible refine Below.drew ?_) | (with_reducible refine below_drewN ?_ _) | (with_reducible refine Below.setCell ?_ ?_ _) | (refine Below.next ?_ (by with_reducible assumption)) | (refine Below.row ?_ (by with_reducible assumption) (by omega)) | (refine Below.trans ?_ (by with_reducible assumption)) | (refine Below.after ?_ ?_ (by with_reducible assumption)) | go_size))) hq hd).mono ?_; rintro e w2 ⟨rfl, hbw2⟩; have hzw2 := hbw2.size; (try simp only [World.size_alloc, World.size_setCell, World.size_drew] at hzw2)
      rw [hp]
      repeat' (first | fail | go_values | go_skip | go_guarded | go_step | go_upon | (simp only []; go_step) | (go_ite <;> go_prune <;> (try go_simp)))
      refine (impl_pairSum _ _ _ _ _ _ _ _ (hr.up (by repeat' (first | (with_reducible exact Below.refl _ _) | (with_reducible assumption) | (with_reducible refine Below.new ?_ _) | (with_reducible refine Below.alloc ?_ ?_ _) | (with_reducible refine Below.drew ?_) | (with_reducible refine below_drewN ?_ _) | (with_reducible refine Below.setCell ?_ ?_ _) | (refine Below.next ?_ (by with_reducible assumption)) | (refine Below.row ?_ (by with_reducible assumption) (by omega)) | (refine Below.trans ?_ (by with_reducible assumption)) | (refine Below.after ?_ ?_ (by with_reducible assumption)) | go_size))) hl hm (hs.up (by repeat' (first | (with_reducible exact Below.refl _ _) | (with_reducible assumption) | (with_reducible refine Below.new ?_ _) | (with_reducible refine Below.alloc ?_ ?_ _) | (with_reducible refine Below.drew ?_) | (with_reducible refine below_drewN ?_ _) | (with_reducible refine Below.setCell ?_ ?_ _) | (refine Below.next ?_ (by with_reducible assumption)) | (refine Below.row ?_ (by with_reducible assumption) (by omega)) | (refine Below.trans ?_ (by with_reducible assumption)) | (refine Below.after ?_ ?_ (by with_reducible assumption)) | go_size))) hq hA hp h0 h1).mono ?_; rintro e w3 ⟨rfl, hbw3⟩; have hzw3 := hbw3.size; (try simp only [World.size_alloc, World.size_setCell, World.size_drew] at hzw3)
      repeat' (first | fail | go_values | go_skip | go_guarded | go_step | go_upon | (simp only []; go_step) | (go_ite <;> go_prune <;> (try go_simp)))
      all_goals go_returns
      all_goals exact ⟨rfl, by repeat' (first | (with_reducible exact Below.refl _ _) | (with_reducible assumption) | (with_reducible refine Below.new ?_ _) | (with_reducible refine Below.alloc ?_ ?_ _) | (with_reducible refine Below.drew ?_) | (with_reducible refine below_drewN ?_ _) | (with_reducible refine Below.setCell ?_ ?_ _) | (refine Below.next ?_ (by with_reducible assumption)) | (refine Below.row ?_ (by with_reducible assumption) (by omega)) | (refine Below.trans ?_ (by with_reducible assumption)) | (refine Below.after ?_ ?_ (by with_reducible assumption)) | go_size)⟩
  · have ef : fSum xss miss ps = (0, codeC xss miss) := by
      unfold codeC at hc ⊢
      unfold fSum
      cases hA : areB xss
      · simp
      · cases hi : inB miss 0 1000000000000
        · simp
        · simp [hA, hi] at hc
    rw [ef]
    have e1 : (codeC xss miss != 0) = true := by simpa using hc
    go_enter Try.func32, Try.ntmps32
    repeat' (first | fail | go_values | go_skip | go_guarded | go_step | go_upon | (simp only []; go_step) | (go_ite <;> go_prune <;> (try go_simp)))
    refine (impl_costCode _ _ _ _ _ (hr.up (by repeat' (first | (with_reducible exact Below.refl _ _) | (with_reducible assumption) | (with_reducible refine Below.new ?_ _) | (with_reducible refine Below.alloc ?_ ?_ _) | (with_reducible refine Below.drew ?_) | (with_reducible refine below_drewN ?_ _) | (with_reducible refine Below.setCell ?_ ?_ _) | (refine Below.next ?_ (by with_reducible assumption)) | (refine Below.row ?_ (by with_reducible assumption) (by omega)) | (refine Below.trans ?_ (by with_reducible assumption)) | (refine Below.after ?_ ?_ (by with_reducible assumption)) | go_size))) hl hm).mono ?_; rintro e w1 ⟨rfl, hbw1⟩; have hzw1 := hbw1.size; (try simp only [World.size_alloc, World.size_setCell, World.size_drew] at hzw1)
    repeat' (first | fail | go_values | go_skip | go_guarded | go_step | go_upon | (simp only []; go_step) | (go_ite <;> go_prune <;> (try go_simp)))
    all_goals go_returns
    all_goals exact ⟨rfl, by repeat' (first | (with_reducible exact Below.refl _ _) | (with_reducible assumption) | (with_reducible refine Below.new ?_ _) | (with_reducible refine Below.alloc ?_ ?_ _) | (with_reducible refine Below.drew ?_) | (with_reducible refine below_drewN ?_ _) | (with_reducible refine Below.setCell ?_ ?_ _) | (refine Below.next ?_ (by with_reducible assumption)) | (refine Below.row ?_ (by with_reducible assumption) (by omega)) | (refine Below.trans ?_ (by with_reducible assumption)) | (refine Below.after ?_ ?_ (by with_reducible assumption)) | go_size)⟩
set_option maxHeartbeats 800000 in
theorem spec_SumOfPairs (A : Option Addr) (c : Nat) (xss : List (List Int)) (miss : Int) (B : Option Addr) (d : Nat) (ps : List Int) (w : World) (hr : II64 w w.heap.size A xss) (hl : xss.length ≤ 1099511627776) (hm : ∀ (i : Nat) (xs : List Int), xss[i]? = some xs → xs.length ≤ 1099511627776) (hs : I64 w w.heap.size B ps) (hq : ps.length ≤ 1099511627776) (hd : ps.length ≤ d) :
    Calls Try.prog 31 #[.slice A xss.length c, .int .i64 miss, .slice B ps.length d] w fun e w' => e = .returned (.tuple #[.int .i64 (fSum xss miss ps).1, .int .i64 (fSum xss miss ps).2]) ∧ Below w.heap.size w w' := by
  cases hA : areB xss
  · have ef : fSum xss miss ps = (0, 1) := by simp [fSum, hA]
    rw [ef]
    go_enter Try.func31, Try.ntmps31
    repeat' (first | fail | go_values | go_skip | go_guarded | go_step | go_upon | (simp only []; go_step) | (go_ite <;> go_prune <;> (try go_simp)))
    refine (spec_AreCosts _ _ _ _ (hr.up (by repeat' (first | (with_reducible exact Below.refl _ _) | (with_reducible assumption) | (with_reducible refine Below.new ?_ _) | (with_reducible refine Below.alloc ?_ ?_ _) | (with_reducible refine Below.drew ?_) | (with_reducible refine below_drewN ?_ _) | (with_reducible refine Below.setCell ?_ ?_ _) | (refine Below.next ?_ (by with_reducible assumption)) | (refine Below.row ?_ (by with_reducible assumption) (by omega)) | (refine Below.trans ?_ (by with_reducible assumption)) | (refine Below.after ?_ ?_ (by with_reducible assumption)) | go_size))) hl hm).mono ?_; rintro e w1 ⟨rfl, hbw1⟩; have hzw1 := hbw1.size; (try simp only [World.size_alloc, World.size_setCell, World.size_drew] at hzw1)
    rw [hA]
    repeat' (first | fail | go_values | go_skip | go_guarded | go_step | go_upon | (simp only []; go_step) | (go_ite <;> go_prune <;> (try go_simp)))
    all_goals go_returns
    all_goals exact ⟨rfl, by repeat' (first | (with_reducible exact Below.refl _ _) | (with_reducible assumption) | (with_reducible refine Below.new ?_ _) | (with_reducible refine Below.alloc ?_ ?_ _) | (with_reducible refine Below.drew ?_) | (with_reducible refine below_drewN ?_ _) | (with_reducible refine Below.setCell ?_ ?_ _) | (refine Below.next ?_ (by with_reducible assumption)) | (refine Below.row ?_ (by with_reducible assumption) (by omega)) | (refine Below.trans ?_ (by with_reducible assumption)) | (refine Below.after ?_ ?_ (by with_reducible assumption)) | go_size)⟩
  · cases hi : inB miss 0 1000000000000
    · have ef : fSum xss miss ps = (0, 2) := by simp [fSum, hA, hi]
      rw [ef]
      go_enter Try.func31, Try.ntmps31
      repeat' (first | fail | go_values | go_skip | go_guarded | go_step | go_upon | (simp only []; go_step) | (go_ite <;> go_prune <;> (try go_simp)))
      refine (spec_AreCosts _ _ _ _ (hr.up (by repeat' (first | (with_reducible exact Below.refl _ _) | (with_reducible assumption) | (with_reducible refine Below.new ?_ _) | (with_reducible refine Below.alloc ?_ ?_ _) | (with_reducible refine Below.drew ?_) | (with_reducible refine below_drewN ?_ _) | (with_reducible refine Below.setCell ?_ ?_ _) | (refine Below.next ?_ (by with_reducible assumption)) | (refine Below.row ?_ (by with_reducible assumption) (by omega)) | (refine Below.trans ?_ (by with_reducible assumption)) | (refine Below.after ?_ ?_ (by with_reducible assumption)) | go_size))) hl hm).mono ?_; rintro e w1 ⟨rfl, hbw1⟩; have hzw1 := hbw1.size; (try simp only [World.size_alloc, World.size_setCell, World.size_drew] at hzw1)
      rw [hA]
      repeat' (first | (first | (go_at_call 61; refine (spec_l15Miss _ _).mono ?_; rintro e w' ⟨rfl, rfl⟩)) | go_values | go_skip | go_guarded | go_step | go_upon | (simp only []; go_step) | (go_ite <;> go_prune <;> (try go_simp)))
      all_goals go_returns
      all_goals exact ⟨rfl, by repeat' (first | (with_reducible exact Below.refl _ _) | (with_reducible assumption) | (with_reducible refine Below.new ?_ _) | (with_reducible refine Below.alloc ?_ ?_ _) | (with_reducible refine Below.drew ?_) | (with_reducible refine below_drewN ?_ _) | (with_reducible refine Below.setCell ?_ ?_ _) | (refine Below.next ?_ (by with_reducible assumption)) | (refine Below.row ?_ (by with_reducible assumption) (by omega)) | (refine Below.trans ?_ (by with_reducible assumption)) | (refine Below.after ?_ ?_ (by with_reducible assumption)) | go_size)⟩
    · have hmb := of_inB hi
      cases hp : pairB xss ps
      · have ef : fSum xss miss ps = (0, 2) := by simp [fSum, hA, hp]
        rw [ef]
        go_enter Try.func31, Try.ntmps31
        repeat' (first | fail | go_values | go_skip | go_guarded | go_step | go_upon | (simp only []; go_step) | (go_ite <;> go_prune <;> (try go_simp)))
        refine (spec_AreCosts _ _ _ _ (hr.up (by repeat' (first | (with_reducible exact Below.refl _ _) | (with_reducible assumption) | (with_reducible refine Below.new ?_ _) | (with_reducible refine Below.alloc ?_ ?_ _) | (with_reducible refine Below.drew ?_) | (with_reducible refine below_drewN ?_ _) | (with_reducible refine Below.setCell ?_ ?_ _) | (refine Below.next ?_ (by with_reducible assumption)) | (refine Below.row ?_ (by with_reducible assumption) (by omega)) | (refine Below.trans ?_ (by with_reducible assumption)) | (refine Below.after ?_ ?_ (by with_reducible assumption)) | go_size))) hl hm).mono ?_; rintro e w1 ⟨rfl, hbw1⟩; have hzw1 := hbw1.size; (try simp only [World.size_alloc, World.size_setCell, World.size_drew] at hzw1)
        rw [hA]
        repeat' (first | (first | (go_at_call 61; refine (spec_l15Miss _ _).mono ?_; rintro e w' ⟨rfl, rfl⟩)) | go_values | go_skip | go_guarded | go_step | go_upon | (simp only []; go_step) | (go_ite <;> go_prune <;> (try go_simp)))
        refine (spec_l15Pairing _ _ _ _ _ _ _ (hr.up (by repeat' (first | (with_reducible exact Below.refl _ _) | (with_reducible assumption) | (with_reducible refine Below.new ?_ _) | (with_reducible refine Below.alloc ?_ ?_ _) | (with_reducible refine Below.drew ?_) | (with_reducible refine below_drewN ?_ _) | (with_reducible refine Below.setCell ?_ ?_ _) | (refine Below.next ?_ (by with_reducible assumption)) | (refine Below.row ?_ (by with_reducible assumption) (by omega)) | (refine Below.trans ?_ (by with_reducible assumption)) | (refine Below.after ?_ ?_ (by with_reducible assumption)) | go_size))) hl hm (hs.up (by repeat' (first | (with_reducible exact Below.refl _ _) | (with_reducible assumption) | (with_reducible refine Below.new ?_ _) | (with_reducible refine Below.alloc ?_ ?_ _) | (with_reducible refine Below.drew ?_) | (with_reducible refine below_drewN ?_ _) | (with_reducible refine Below.setCell ?_ ?_ _) | (refine Below.next ?_ (by with_reducible assumption)) | (refine Below.row ?_ (by with_reducible assumption) (by omega)) | (refine Below.trans ?_ (by with_reducible assumption)) | (refine Below.after ?_ ?_ (by with_reducible assumption)) | go_size))) hq hd).mono ?_; rintro e w2 ⟨rfl, hbw2⟩; have hzw2 := hbw2.size; (try simp only [World.size_alloc, World.size_setCell, World.size_drew] at hzw2)
        rw [hp]
        repeat' (first | fail | go_values | go_skip | go_guarded | go_step | go_upon | (simp only []; go_step) | (go_ite <;> go_prune <;> (try go_simp)))
        all_goals go_returns
        all_goals exact ⟨rfl, by repeat' (first | (with_reducible exact Below.refl _ _) | (with_reducible assumption) | (with_reducible refine Below.new ?_ _) | (with_reducible refine Below.alloc ?_ ?_ _) | (with_reducible refine Below.drew ?_) | (with_reducible refine below_drewN ?_ _) | (with_reducible refine Below.setCell ?_ ?_ _) | (refine Below.next ?_ (by with_reducible assumption)) | (refine Below.row ?_ (by with_reducible assumption) (by omega)) | (refine Below.trans ?_ (by with_reducible assumption)) | (refine Below.after ?_ ?_ (by with_reducible assumption)) | go_size)⟩
      · have ef : fSum xss miss ps = (psk miss xss ps ps.length, 0) := by simp [fSum, hA, hp, hi]
        rw [ef]
        go_enter Try.func31, Try.ntmps31
        repeat' (first | fail | go_values | go_skip | go_guarded | go_step | go_upon | (simp only []; go_step) | (go_ite <;> go_prune <;> (try go_simp)))
        refine (spec_AreCosts _ _ _ _ (hr.up (by repeat' (first | (with_reducible exact Below.refl _ _) | (with_reducible assumption) | (with_reducible refine Below.new ?_ _) | (with_reducible refine Below.alloc ?_ ?_ _) | (with_reducible refine Below.drew ?_) | (with_reducible refine below_drewN ?_ _) | (with_reducible refine Below.setCell ?_ ?_ _) | (refine Below.next ?_ (by with_reducible assumption)) | (refine Below.row ?_ (by with_reducible assumption) (by omega)) | (refine Below.trans ?_ (by with_reducible assumption)) | (refine Below.after ?_ ?_ (by with_reducible assumption)) | go_size))) hl hm).mono ?_; rintro e w1 ⟨rfl, hbw1⟩; have hzw1 := hbw1.size; (try simp only [World.size_alloc, World.size_setCell, World.size_drew] at hzw1)
        rw [hA]
        repeat' (first | (first | (go_at_call 61; refine (spec_l15Miss _ _).mono ?_; rintro e w' ⟨rfl, rfl⟩)) | go_values | go_skip | go_guarded | go_step | go_upon | (simp only []; go_step) | (go_ite <;> go_prune <;> (try go_simp)))
        refine (spec_l15Pairing _ _ _ _ _ _ _ (hr.up (by repeat' (first | (with_reducible exact Below.refl _ _) | (with_reducible assumption) | (with_reducible refine Below.new ?_ _) | (with_reducible refine Below.alloc ?_ ?_ _) | (with_reducible refine Below.drew ?_) | (with_reducible refine below_drewN ?_ _) | (with_reducible refine Below.setCell ?_ ?_ _) | (refine Below.next ?_ (by with_reducible assumption)) | (refine Below.row ?_ (by with_reducible assumption) (by omega)) | (refine Below.trans ?_ (by with_reducible assumption)) | (refine Below.after ?_ ?_ (by with_reducible assumption)) | go_size))) hl hm (hs.up (by repeat' (first | (with_reducible exact Below.refl _ _) | (with_reducible assumption) | (with_reducible refine Below.new ?_ _) | (with_reducible refine Below.alloc ?_ ?_ _) | (with_reducible refine Below.drew ?_) | (with_reducible refine below_drewN ?_ _) | (with_reducible refine Below.setCell ?_ ?_ _) | (refine Below.next ?_ (by with_reducible assumption)) | (refine Below.row ?_ (by with_reducible assumption) (by omega)) | (refine Below.trans ?_ (by with_reducible assumption)) | (refine Below.after ?_ ?_ (by with_reducible assumption)) | go_size))) hq hd).mono ?_; rintro e w2 ⟨rfl, hbw2⟩; have hzw2 := hbw2.size; (try simp only [World.size_alloc, World.size_setCell, World.size_drew] at hzw2)
        rw [hp]
        repeat' (first | fail | go_values | go_skip | go_guarded | go_step | go_upon | (simp only []; go_step) | (go_ite <;> go_prune <;> (try go_simp)))
        refine (spec_pairSum _ _ _ _ _ _ _ _ (hr.up (by repeat' (first | (with_reducible exact Below.refl _ _) | (with_reducible assumption) | (with_reducible refine Below.new ?_ _) | (with_reducible refine Below.alloc ?_ ?_ _) | (with_reducible refine Below.drew ?_) | (with_reducible refine below_drewN ?_ _) | (with_reducible refine Below.setCell ?_ ?_ _) | (refine Below.next ?_ (by with_reducible assumption)) | (refine Below.row ?_ (by with_reducible assumption) (by omega)) | (refine Below.trans ?_ (by with_reducible assumption)) | (refine Below.after ?_ ?_ (by with_reducible assumption)) | go_size))) hl hm (hs.up (by repeat' (first | (with_reducible exact Below.refl _ _) | (with_reducible assumption) | (with_reducible refine Below.new ?_ _) | (with_reducible refine Below.alloc ?_ ?_ _) | (with_reducible refine Below.drew ?_) | (with_reducible refine below_drewN ?_ _) | (with_reducible refine Below.setCell ?_ ?_ _) | (refine Below.next ?_ (by with_reducible assumption)) | (refine Below.row ?_ (by with_reducible assumption) (by omega)) | (refine Below.trans ?_ (by with_reducible assumption)) | (refine Below.after ?_ ?_ (by with_reducible assumption)) | go_size))) hq hA hp hmb.1 hmb.2).mono ?_; rintro e w3 ⟨rfl, hbw3⟩; have hzw3 := hbw3.size; (try simp only [World.size_alloc, World.size_setCell, World.size_drew] at hzw3)
        repeat' (first | fail | go_values | go_skip | go_guarded | go_step | go_upon | (simp only []; go_step) | (go_ite <;> go_prune <;> (try go_simp)))
        all_goals go_returns
        all_goals exact ⟨rfl, by repeat' (first | (with_reducible exact Below.refl _ _) | (with_reducible assumption) | (with_reducible refine Below.new ?_ _) | (with_reducible refine Below.alloc ?_ ?_ _) | (with_reducible refine Below.drew ?_) | (with_reducible refine below_drewN ?_ _) | (with_reducible refine Below.setCell ?_ ?_ _) | (refine Below.next ?_ (by with_reducible assumption)) | (refine Below.row ?_ (by with_reducible assumption) (by omega)) | (refine Below.trans ?_ (by with_reducible assumption)) | (refine Below.after ?_ ?_ (by with_reducible assumption)) | go_size)⟩
end Go.Proofs.Ytdomghjdnnnifaa
