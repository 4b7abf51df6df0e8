/- Corrected lines: contracts. -/
import Derived.Test.YtboagjiejjapfaaGain
import Derived.Test.YtboagjiejjapfaaBounds
namespace Go.Proofs.Ytboagjiejjapfaa
open Go.RowKit
set_option linter.unusedVariables false
set_option linter.unusedSimpArgs false

def corrIx (s a : Int) (j : Nat) : Int := Pl.nr (Pl.nrt ((j : Int) * s * ((j : Int) * s) + a * a)) s
def corrOne (xs : List Int) (s a : Int) (j : Nat) : Int := if corrIx s a j < (xs.length : Int) then xs.getD (corrIx s a j).toNat 0 else -1
def corrAll (xs : List Int) (s a : Int) : List Int := (List.range xs.length).map (corrOne xs s a)
def corrCode (xs : List Int) (s a : Int) : Int := if lineB xs then (if inB s 1 5000 && inB a 0 1000000 then 0 else 2) else 1
def corrRow (xs : List Int) (s a : Int) : List Int := if lineB xs && (inB s 1 5000 && inB a 0 1000000) then corrAll xs s a else []
theorem corrAll_get {xs : List Int} {s a : Int} {k : Nat} (h : k < xs.length) : (corrAll xs s a)[k]? = some (corrOne xs s a k) := by simp [corrAll, h]

theorem nrt_bd {n : Int} (h0 : 0 ≤ n) (h1 : n ≤ 4000000000000000000) : 0 ≤ Pl.nrt n ∧ Pl.nrt n ≤ 2000000001 := by
  have hp := Pl.rt_nonneg n
  have hu : Pl.rt n ≤ 2000000000 := Pl.rt_le (by omega) (by omega) h0
  unfold Pl.nrt; split <;> omega
theorem nr_nonneg {a b : Int} (hb : 0 < b) (ha : 0 ≤ a) : 0 ≤ Pl.nr a b := by
  have := ((Pl.div_bd (a := a) hb).1 ha).1
  unfold Pl.nr; split <;> omega
theorem corr_bd {s a : Int} {j : Nat} (hs : 1 ≤ s ∧ s ≤ 5000) (ha : 0 ≤ a ∧ a ≤ 1000000) (hj : j < 200) :
    (0 ≤ (j : Int) * s ∧ (j : Int) * s ≤ 1000000) ∧ (0 ≤ (j : Int) * s * ((j : Int) * s) ∧ (j : Int) * s * ((j : Int) * s) ≤ 1000000000000) ∧ 0 ≤ a * a ∧ a * a ≤ 1000000000000 := by
  have h1 : 0 ≤ (j : Int) * s := Int.mul_nonneg (by omega) (by omega)
  have h2 : (j : Int) * s ≤ 200 * 5000 := Int.mul_le_mul (by omega) hs.2 (by omega) (by omega)
  have h3 := sfacts (a := (j : Int) * s) ⟨h1, by omega⟩
  exact ⟨⟨h1, by omega⟩, h3, sfacts ha⟩

theorem impl_length (A : Option Addr) (n c : Nat) (w : World) : Calls Try.prog 79 #[.slice A n c] w fun e w' => e = .returned (.int .i64 n) ∧ w = w' := by
  go_enter Try.func79, Try.ntmps79
  go_wp2
  go_ret
  exact ⟨rfl, rfl⟩
theorem impl_CorrectLine (A : Option Addr) (c : Nat) (xs : List Int) (s a : Int) (w : World) (hr : I64 w w.heap.size A xs) (hl : xs.length ≤ 9223372036854775807) :
    Calls Try.prog 43 #[.slice A xs.length c, .int .i64 s, .int .i64 a] w fun e w' => ∃ v, e = .returned (.tuple #[v, .int .i64 (corrCode xs s a)]) ∧ OwnI w' w.heap.size v (corrRow xs s a) ∧ Below w.heap.size w w' := by
  cases h1 : lineB xs
  · go_enter Try.func43, Try.ntmps43
    go_wp2_with (first | (go_at_call 61; refine (impl_isLine _ _ _ _ (by assumption) (by omega)).mono ?_; rintro e w' ⟨rfl, rfl⟩))
    go_ret2
    exact ⟨_, ret_vi (by simp [corrCode, h1]), by simp only [corrRow, h1]; exact OwnI.nil _ _, by repeat' (first | (with_reducible exact Below.refl _ _) | (with_reducible assumption) | (with_reducible refine Below.new ?_ _) | (with_reducible refine Below.alloc ?_ ?_ _) | (with_reducible refine Below.drew ?_) | (with_reducible refine below_drewN ?_ _) | (with_reducible refine Below.setCell ?_ ?_ _) | (refine Below.next ?_ (by with_reducible assumption)) | (refine Below.trans ?_ (by with_reducible assumption)) | (refine Below.after ?_ ?_ (by with_reducible assumption)) | go_size)⟩
  · cases h2 : inB s 1 5000
    · go_enter Try.func43, Try.ntmps43
      go_wp2_with (first | (go_at_call 61; refine (impl_isLine _ _ _ _ (by assumption) (by omega)).mono ?_; rintro e w' ⟨rfl, rfl⟩) | (go_at_call 53; refine (impl_isSideStep _ _).mono ?_; rintro e w' ⟨rfl, rfl⟩) | (go_at_call 54; refine (impl_isSlant _ _).mono ?_; rintro e w' ⟨rfl, rfl⟩))
      go_ret2
      exact ⟨_, ret_vi (by simp [corrCode, h1, h2]), by simp only [corrRow, h1, h2]; exact OwnI.nil _ _, by repeat' (first | (with_reducible exact Below.refl _ _) | (with_reducible assumption) | (with_reducible refine Below.new ?_ _) | (with_reducible refine Below.alloc ?_ ?_ _) | (with_reducible refine Below.drew ?_) | (with_reducible refine below_drewN ?_ _) | (with_reducible refine Below.setCell ?_ ?_ _) | (refine Below.next ?_ (by with_reducible assumption)) | (refine Below.trans ?_ (by with_reducible assumption)) | (refine Below.after ?_ ?_ (by with_reducible assumption)) | go_size)⟩
    · cases h3 : inB a 0 1000000
      · go_enter Try.func43, Try.ntmps43
        go_wp2_with (first | (go_at_call 61; refine (impl_isLine _ _ _ _ (by assumption) (by omega)).mono ?_; rintro e w' ⟨rfl, rfl⟩) | (go_at_call 53; refine (impl_isSideStep _ _).mono ?_; rintro e w' ⟨rfl, rfl⟩) | (go_at_call 54; refine (impl_isSlant _ _).mono ?_; rintro e w' ⟨rfl, rfl⟩))
        go_ret2
        exact ⟨_, ret_vi (by simp [corrCode, h1, h2, h3]), by simp only [corrRow, h1, h2, h3]; exact OwnI.nil _ _, by repeat' (first | (with_reducible exact Below.refl _ _) | (with_reducible assumption) | (with_reducible refine Below.new ?_ _) | (with_reducible refine Below.alloc ?_ ?_ _) | (with_reducible refine Below.drew ?_) | (with_reducible refine below_drewN ?_ _) | (with_reducible refine Below.setCell ?_ ?_ _) | (refine Below.next ?_ (by with_reducible assumption)) | (refine Below.trans ?_ (by with_reducible assumption)) | (refine Below.after ?_ ?_ (by with_reducible assumption)) | go_size)⟩
      · have hlen := line_len h1
        have b2 := of_inB h2
        have b3 := of_inB h3
        go_enter Try.func43, Try.ntmps43
        go_wp2_with (first | (go_at_call 61; refine (impl_isLine _ _ _ _ (by assumption) (by omega)).mono ?_; rintro e w' ⟨rfl, rfl⟩) | (go_at_call 53; refine (impl_isSideStep _ _).mono ?_; rintro e w' ⟨rfl, rfl⟩) | (go_at_call 54; refine (impl_isSlant _ _).mono ?_; rintro e w' ⟨rfl, rfl⟩) | (go_at_call 79; refine (impl_length _ _ _ _).mono ?_; rintro e w' ⟨rfl, rfl⟩))
        go_loopw [8, 27] (fun v i wr => ∃ k : Nat, k ≤ xs.length ∧ i = .int .i64 k ∧ OwnI wr w.heap.size v ((corrAll xs s a).take k) ∧ Below w.heap.size w wr) (fun _ i _ => xs.length - (intOf i).toNat)
        case atStart => exact ⟨0, Nat.zero_le _, rfl, OwnI.nil _ _, Below.refl _ _⟩
        case round =>
          obtain ⟨k, hk, rfl, ho, hbr⟩ := hrel
          by_cases hlt : k < xs.length
          · obtain ⟨⟨d1, d2⟩, ⟨d3, d4⟩, d5, d6⟩ := corr_bd b2 b3 (show k < 200 by omega)
            have hn := nrt_bd (n := (k : Int) * s * ((k : Int) * s) + a * a) (by omega) (by omega)
            have hq0 := nr_nonneg (a := Pl.nrt ((k : Int) * s * ((k : Int) * s) + a * a)) (b := s) (by omega) hn.1
            obtain ⟨q, hq⟩ := Int.eq_ofNat_of_zero_le hq0
            have hy := Lib.hid (corrAll_get (s := s) (a := a) hlt)
            have hone : corrOne xs s a k = if (q : Int) < (xs.length : Int) then xs.getD q 0 else -1 := by unfold corrOne corrIx; rw [hq]; simp
            have hone' := Lib.hid hone
            have hsz := hbr.size
            have htk : ((corrAll xs s a).take k).length ≤ 200 := by simp; omega
            clear hone hq0
            by_cases hql : q < xs.length
            · obtain ⟨x, hx⟩ := get_of_lt hql
              obtain ⟨b, o, rfl, hb1, hc1⟩ := (hr.below hbr).at_ hx
              have hx' := Lib.hid hx
              clear hx
              go_wp2_with (first | (go_at_call 79; refine (impl_length _ _ _ _).mono ?_; rintro e w' ⟨rfl, rfl⟩) | (go_at_call 66; refine (impl_square _ _ _ (by omega) (by omega)).mono ?_; rintro e w' ⟨rfl, rfl⟩) | (go_at_call 59; refine (impl_nearestRoot _ _ (by omega) (by omega)).mono ?_; rintro e w' ⟨rfl, rfl⟩) | (go_at_call 72; refine (impl_nearest _ _ _ (by omega) (by omega) (by omega)).mono ?_; rintro e w' ⟨rfl, rfl⟩) | (at_builtin; refine push_int ho rfl _ _ rfl rfl rfl hsz (by omega) ?_; intro v' w' ho' hg2 hb'))
              go_roundw
              case rel => exact ⟨k + 1, by omega, by go_num, by rw [take_snoc hy.out, hone'.out, if_pos (by omega), List.getD_eq_getElem?_getD, hx'.out]; exact ho', by repeat' (first | (with_reducible exact Below.refl _ _) | (with_reducible assumption) | (with_reducible refine Below.new ?_ _) | (with_reducible refine Below.alloc ?_ ?_ _) | (with_reducible refine Below.drew ?_) | (with_reducible refine below_drewN ?_ _) | (with_reducible refine Below.setCell ?_ ?_ _) | (refine Below.next ?_ (by with_reducible assumption)) | (refine Below.trans ?_ (by with_reducible assumption)) | (refine Below.after ?_ ?_ (by with_reducible assumption)) | go_size)⟩
              case measure => simp [intOf]; omega
            · go_wp2_with (first | (go_at_call 79; refine (impl_length _ _ _ _).mono ?_; rintro e w' ⟨rfl, rfl⟩) | (go_at_call 66; refine (impl_square _ _ _ (by omega) (by omega)).mono ?_; rintro e w' ⟨rfl, rfl⟩) | (go_at_call 59; refine (impl_nearestRoot _ _ (by omega) (by omega)).mono ?_; rintro e w' ⟨rfl, rfl⟩) | (go_at_call 72; refine (impl_nearest _ _ _ (by omega) (by omega) (by omega)).mono ?_; rintro e w' ⟨rfl, rfl⟩) | (at_builtin; refine push_int ho rfl _ _ rfl rfl rfl hsz (by omega) ?_; intro v' w' ho' hg2 hb'))
              go_roundw
              case rel => exact ⟨k + 1, by omega, by go_num, by rw [take_snoc hy.out, hone'.out, if_neg (by omega)]; exact ho', by repeat' (first | (with_reducible exact Below.refl _ _) | (with_reducible assumption) | (with_reducible refine Below.new ?_ _) | (with_reducible refine Below.alloc ?_ ?_ _) | (with_reducible refine Below.drew ?_) | (with_reducible refine below_drewN ?_ _) | (with_reducible refine Below.setCell ?_ ?_ _) | (refine Below.next ?_ (by with_reducible assumption)) | (refine Below.trans ?_ (by with_reducible assumption)) | (refine Below.after ?_ ?_ (by with_reducible assumption)) | go_size)⟩
              case measure => simp [intOf]; omega
          · have hf : (corrAll xs s a).take k = corrRow xs s a := by
              rw [corrRow, h1, h2, h3, List.take_of_length_le (by simp [corrAll]; omega)]; rfl
            rw [hf] at ho
            go_wp2
            go_ret2
            exact ⟨_, ret_vi (by simp [corrCode, h1, h2, h3]), ho, hbr⟩
theorem spec_CorrectLine (A : Option Addr) (c : Nat) (xs : List Int) (s a : Int) (w : World) (hr : I64 w w.heap.size A xs) (hl : xs.length ≤ 9223372036854775807) :
    Calls Try.prog 42 #[.slice A xs.length c, .int .i64 s, .int .i64 a] w fun e w' => ∃ v, e = .returned (.tuple #[v, .int .i64 (corrCode xs s a)]) ∧ OwnI w' w.heap.size v (corrRow xs s a) ∧ Below w.heap.size w w' := by
  cases h1 : lineB xs
  · go_enter Try.func42, Try.ntmps42
    go_wp2_with (first | (go_at_call 60; refine (spec_l18Line _ _ _ _ (by assumption) (by omega)).mono ?_; rintro e w' ⟨rfl, rfl⟩))
    go_ret2
    exact ⟨_, ret_vi (by simp [corrCode, h1]), by simp only [corrRow, h1]; exact OwnI.nil _ _, by repeat' (first | (with_reducible exact Below.refl _ _) | (with_reducible assumption) | (with_reducible refine Below.new ?_ _) | (with_reducible refine Below.alloc ?_ ?_ _) | (with_reducible refine Below.drew ?_) | (with_reducible refine below_drewN ?_ _) | (with_reducible refine Below.setCell ?_ ?_ _) | (refine Below.next ?_ (by with_reducible assumption)) | (refine Below.trans ?_ (by with_reducible assumption)) | (refine Below.after ?_ ?_ (by with_reducible assumption)) | go_size)⟩
  · cases h2 : inB s 1 5000 && inB a 0 1000000
    · go_enter Try.func42, Try.ntmps42
      go_wp2_with (first | (go_at_call 60; refine (spec_l18Line _ _ _ _ (by assumption) (by omega)).mono ?_; rintro e w' ⟨rfl, rfl⟩) | (go_at_call 51; refine (spec_l18Step _ _ _).mono ?_; rintro e w' ⟨rfl, rfl⟩))
      go_ret2
      exact ⟨_, ret_vi (by simp [corrCode, h1, h2]), by simp only [corrRow, h1, h2]; exact OwnI.nil _ _, by repeat' (first | (with_reducible exact Below.refl _ _) | (with_reducible assumption) | (with_reducible refine Below.new ?_ _) | (with_reducible refine Below.alloc ?_ ?_ _) | (with_reducible refine Below.drew ?_) | (with_reducible refine below_drewN ?_ _) | (with_reducible refine Below.setCell ?_ ?_ _) | (refine Below.next ?_ (by with_reducible assumption)) | (refine Below.trans ?_ (by with_reducible assumption)) | (refine Below.after ?_ ?_ (by with_reducible assumption)) | go_size)⟩
    · have hlen := line_len h1
      have b0 := h2
      rw [Bool.and_eq_true] at b0
      have b2 := of_inB b0.1
      have b3 := of_inB b0.2
      clear b0
      go_enter Try.func42, Try.ntmps42
      go_wp2_with (first | (go_at_call 60; refine (spec_l18Line _ _ _ _ (by assumption) (by omega)).mono ?_; rintro e w' ⟨rfl, rfl⟩) | (go_at_call 51; refine (spec_l18Step _ _ _).mono ?_; rintro e w' ⟨rfl, rfl⟩))
      go_loopw [8, 9] (fun v i wr => ∃ k : Nat, k ≤ xs.length ∧ i = .int .i64 k ∧ OwnI wr w.heap.size v ((corrAll xs s a).take k) ∧ Below w.heap.size w wr) (fun _ i _ => xs.length - (intOf i).toNat)
      case atStart => exact ⟨0, Nat.zero_le _, rfl, OwnI.lit0 (Nat.le_refl _), by repeat' (first | (with_reducible exact Below.refl _ _) | (with_reducible assumption) | (with_reducible refine Below.new ?_ _) | (with_reducible refine Below.alloc ?_ ?_ _) | (with_reducible refine Below.drew ?_) | (with_reducible refine below_drewN ?_ _) | (with_reducible refine Below.setCell ?_ ?_ _) | (refine Below.next ?_ (by with_reducible assumption)) | (refine Below.trans ?_ (by with_reducible assumption)) | (refine Below.after ?_ ?_ (by with_reducible assumption)) | go_size)⟩
      case round =>
        obtain ⟨k, hk, rfl, ho, hbr⟩ := hrel
        by_cases hlt : k < xs.length
        · obtain ⟨⟨d1, d2⟩, ⟨d3, d4⟩, d5, d6⟩ := corr_bd b2 b3 (show k < 200 by omega)
          have hn := nrt_bd (n := (k : Int) * s * ((k : Int) * s) + a * a) (by omega) (by omega)
          have hq0 := nr_nonneg (a := Pl.nrt ((k : Int) * s * ((k : Int) * s) + a * a)) (b := s) (by omega) hn.1
          obtain ⟨q, hq⟩ := Int.eq_ofNat_of_zero_le hq0
          have hy := Lib.hid (corrAll_get (s := s) (a := a) hlt)
          have hone : corrOne xs s a k = if (q : Int) < (xs.length : Int) then xs.getD q 0 else -1 := by unfold corrOne corrIx; rw [hq]; simp
          have hone' := Lib.hid hone
          have hsz := hbr.size
          have htk : ((corrAll xs s a).take k).length ≤ 200 := by simp; omega
          clear hone hq0
          have e1 : (k : Int) * s * (k : Int) * s = (k : Int) * s * ((k : Int) * s) := by rw [Int.mul_assoc ((k : Int) * s)]
          have d7 : 0 ≤ (k : Int) * s * (k : Int) := Int.mul_nonneg d1 (by omega)
          have d8 : (k : Int) * s * (k : Int) ≤ 1000000 * 200 := Int.mul_le_mul d2 (by omega) (by omega) (by omega)
          by_cases hql : q < xs.length
          · obtain ⟨x, hx⟩ := get_of_lt hql
            obtain ⟨b, o, rfl, hb1, hc1⟩ := (hr.below hbr).at_ hx
            have hx' := Lib.hid hx
            clear hx
            go_wp2_with (first | (go_at_call 57; refine (spec_l18Root _ _ (by omega) (by omega)).mono ?_; rintro e w' ⟨rfl, rfl⟩) | (go_at_call 70; refine (spec_l01Nearest _ _ _ (by omega) (by omega) (by omega)).mono ?_; rintro e w' ⟨rfl, rfl⟩) | (at_builtin; refine push_int ho rfl _ _ rfl rfl rfl hsz (by omega) ?_; intro v' w' ho' hg2 hb'))
            go_roundw
            case rel => exact ⟨k + 1, by omega, by go_num, by rw [take_snoc hy.out, hone'.out, if_pos (by omega), List.getD_eq_getElem?_getD, hx'.out]; exact ho', by repeat' (first | (with_reducible exact Below.refl _ _) | (with_reducible assumption) | (with_reducible refine Below.new ?_ _) | (with_reducible refine Below.alloc ?_ ?_ _) | (with_reducible refine Below.drew ?_) | (with_reducible refine below_drewN ?_ _) | (with_reducible refine Below.setCell ?_ ?_ _) | (refine Below.next ?_ (by with_reducible assumption)) | (refine Below.trans ?_ (by with_reducible assumption)) | (refine Below.after ?_ ?_ (by with_reducible assumption)) | go_size)⟩
            case measure => simp [intOf]; omega
          · go_wp2_with (first | (go_at_call 57; refine (spec_l18Root _ _ (by omega) (by omega)).mono ?_; rintro e w' ⟨rfl, rfl⟩) | (go_at_call 70; refine (spec_l01Nearest _ _ _ (by omega) (by omega) (by omega)).mono ?_; rintro e w' ⟨rfl, rfl⟩) | (at_builtin; refine push_int ho rfl _ _ rfl rfl rfl hsz (by omega) ?_; intro v' w' ho' hg2 hb'))
            go_roundw
            case rel => exact ⟨k + 1, by omega, by go_num, by rw [take_snoc hy.out, hone'.out, if_neg (by omega)]; exact ho', by repeat' (first | (with_reducible exact Below.refl _ _) | (with_reducible assumption) | (with_reducible refine Below.new ?_ _) | (with_reducible refine Below.alloc ?_ ?_ _) | (with_reducible refine Below.drew ?_) | (with_reducible refine below_drewN ?_ _) | (with_reducible refine Below.setCell ?_ ?_ _) | (refine Below.next ?_ (by with_reducible assumption)) | (refine Below.trans ?_ (by with_reducible assumption)) | (refine Below.after ?_ ?_ (by with_reducible assumption)) | go_size)⟩
            case measure => simp [intOf]; omega
        · have hf : (corrAll xs s a).take k = corrRow xs s a := by
            rw [corrRow, h1, h2, List.take_of_length_le (by simp [corrAll]; omega)]; rfl
          rw [hf] at ho
          go_wp2
          go_ret2
          exact ⟨_, ret_vi (by simp [corrCode, h1, h2]), ho, hbr⟩
end Go.Proofs.Ytboagjiejjapfaa
