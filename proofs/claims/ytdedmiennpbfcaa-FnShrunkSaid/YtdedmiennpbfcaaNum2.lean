/- Contracts of the small functions on numbers: the nearest quotient. -/
import Derived.Test.YtdedmiennpbfcaaNum
namespace Go.Proofs.Ytdedmiennpbfcaa
open Go.RowKit
set_option linter.unusedVariables false
set_option linter.unusedSimpArgs false

/-- the last bit of a number of at least 0 -/
theorem ofInt_i64 (a : Nat) (ha : a < 9223372036854775808) : (BitVec.ofInt 64 (a : Int)).toNat = a := by
  rw [BitVec.ofInt_natCast, BitVec.toNat_ofNat]; exact Nat.mod_eq_of_lt (by omega)
theorem and_one (q : Int) (h0 : 0 ≤ q) (h1 : q ≤ 9223372036854775807) : bits .and .i64 q 1 = q % 2 := by
  obtain ⟨a, rfl⟩ := Int.eq_ofNat_of_zero_le h0
  have ha : a < 9223372036854775808 := by omega
  show IntKind.i64.wrap ((BitVec.ofInt 64 (a : Int) &&& BitVec.ofInt 64 ((1 : Nat) : Int)).toNat : Int) = _
  rw [BitVec.toNat_and, ofInt_i64 a ha, ofInt_i64 1 (by omega), IntKind.wrap_i64, Nat.and_one_is_mod]
  omega
theorem impl_nearest (a b : Int) (w : World) (hb : 0 < b ∧ b ≤ 1152921504606846976) (h1 : 0 ≤ a) (h2 : a ≤ 1152921504606846976) : Calls Try.prog 33 #[.int .i64 a, .int .i64 b] w fun e w' => e = .returned (.int .i64 (Pl.nr a b)) ∧ w = w' := by
  have hd := (Pl.div_bd (a := a) hb.1).1 h1
  have hm : a - a / b * b = a % b := by rw [Int.emod_def, Int.mul_comm]
  have hm1 := Int.emod_nonneg a (show b ≠ 0 by omega)
  have hm2 := Int.emod_lt_of_pos a hb.1
  have hm3 : 0 ≤ a / b * b ∧ a / b * b ≤ a := by rw [← hm] at hm1; exact ⟨Int.mul_nonneg hd.1 (by omega), by omega⟩
  have hand := and_one (a / b) hd.1 (by omega)
  generalize hr : a % b = r at *
  have H := Lib.hid hr
  clear hr
  have K : Pl.nr a b = if b - r < r ∨ (r = b - r ∧ (a / b) % 2 = 1) then a / b + 1 else a / b := by unfold Pl.nr; rw [H.out]
  have K' := Lib.hid K
  clear K
  by_cases c1 : b - r < r
  · go_enter Try.func33, Try.ntmps33
    go_wp2_with (first | (go_at_call 32; refine (impl_floorDiv _ _ _ (by omega) (by omega) (by omega)).mono ?_; rintro e w' ⟨rfl, rfl⟩))
    all_goals go_ret
    all_goals exact ⟨ret_int (by rw [K'.out, if_pos (Or.inl c1)]), rfl⟩
  · by_cases c2 : r = b - r
    · by_cases c3 : (a / b) % 2 = 1
      · have e2 : (r == b - r) = true := by simpa using c2
        have e3 : (a / b % 2 == 1) = true := by simpa using c3
        have c2' := Lib.hid c2
        have c3' := Lib.hid c3
        clear c2 c3
        go_enter Try.func33, Try.ntmps33
        go_wp2_with (first | (go_at_call 32; refine (impl_floorDiv _ _ _ (by omega) (by omega) (by omega)).mono ?_; rintro e w' ⟨rfl, rfl⟩))
        all_goals go_ret
        all_goals exact ⟨ret_int (by rw [K'.out, if_pos (Or.inr ⟨c2'.out, c3'.out⟩)]), rfl⟩
      · have e2 : (r == b - r) = true := by simpa using c2
        have e3 : (a / b % 2 == 1) = false := by simpa using c3
        have c2' := Lib.hid c2
        have c3' := Lib.hid c3
        clear c2 c3
        go_enter Try.func33, Try.ntmps33
        go_wp2_with (first | (go_at_call 32; refine (impl_floorDiv _ _ _ (by omega) (by omega) (by omega)).mono ?_; rintro e w' ⟨rfl, rfl⟩))
        all_goals go_ret
        all_goals exact ⟨ret_int (by rw [K'.out, if_neg (fun h => h.elim (fun h => by omega) (fun h => c3'.out h.2))]), rfl⟩
    · have e2 : (r == b - r) = false := by simpa using c2
      have c2' := Lib.hid c2
      clear c2
      go_enter Try.func33, Try.ntmps33
      go_wp2_with (first | (go_at_call 32; refine (impl_floorDiv _ _ _ (by omega) (by omega) (by omega)).mono ?_; rintro e w' ⟨rfl, rfl⟩))
      all_goals go_ret
      all_goals exact ⟨ret_int (by rw [K'.out, if_neg (fun h => h.elim (fun h => by omega) (fun h => c2'.out h.1))]), rfl⟩
theorem spec_l01Nearest (a b : Int) (w : World) (hb : 0 < b ∧ b ≤ 1152921504606846976) (h1 : 0 ≤ a) (h2 : a ≤ 1152921504606846976) : Calls Try.prog 26 #[.int .i64 a, .int .i64 b] w fun e w' => e = .returned (.int .i64 (Pl.nr a b)) ∧ w = w' := by
  have hd := (Pl.div_bd (a := a) hb.1).1 h1
  have hm : a - a / b * b = a % b := by rw [Int.emod_def, Int.mul_comm]
  have hm1 := Int.emod_nonneg a (show b ≠ 0 by omega)
  have hm2 := Int.emod_lt_of_pos a hb.1
  have hm3 : 0 ≤ a / b * b ∧ a / b * b ≤ a := by rw [← hm] at hm1; exact ⟨Int.mul_nonneg hd.1 (by omega), by omega⟩
  generalize hr : a % b = r at *
  have H := Lib.hid hr
  clear hr
  have K : Pl.nr a b = if b - r < r ∨ (r = b - r ∧ (a / b) % 2 = 1) then a / b + 1 else a / b := by unfold Pl.nr; rw [H.out]
  have K' := Lib.hid K
  clear K
  have nb : ¬ b < 0 := by omega
  by_cases c1 : 0 < 2 * r - b
  · go_enter Try.func26, Try.ntmps26
    go_wp2_with (first | (go_at_call 35; refine (spec_l01Floor _ _ _ (by omega) (by omega) (by omega)).mono ?_; rintro e w' ⟨rfl, rfl⟩))
    all_goals go_ret
    all_goals exact ⟨ret_int (by rw [K'.out, if_pos (Or.inl (by omega))]), rfl⟩
  · by_cases c2 : 2 * r - b = 0
    · by_cases c3 : a / b / 2 * 2 = a / b
      · have e2 : (2 * r - b == 0) = true := by simpa using c2
        have e3 : (a / b / 2 * 2 != a / b) = false := by simpa using c3
        have c2' := Lib.hid c2
        have c3' := Lib.hid c3
        clear c2 c3
        go_enter Try.func26, Try.ntmps26
        go_wp2_with (first | (go_at_call 35; refine (spec_l01Floor _ _ _ (by omega) (by omega) (by omega)).mono ?_; rintro e w' ⟨rfl, rfl⟩))
        all_goals go_ret
        all_goals exact ⟨ret_int (by rw [K'.out, if_neg (fun h => h.elim (fun h => by omega) (fun h => by have := c3'.out; omega))]), rfl⟩
      · have e2 : (2 * r - b == 0) = true := by simpa using c2
        have e3 : (a / b / 2 * 2 != a / b) = true := by simpa using c3
        have c2' := Lib.hid c2
        have c3' := Lib.hid c3
        clear c2 c3
        go_enter Try.func26, Try.ntmps26
        go_wp2_with (first | (go_at_call 35; refine (spec_l01Floor _ _ _ (by omega) (by omega) (by omega)).mono ?_; rintro e w' ⟨rfl, rfl⟩))
        all_goals go_ret
        all_goals exact ⟨ret_int (by rw [K'.out, if_pos (Or.inr ⟨by have := c2'.out; omega, by have := c3'.out; omega⟩)]), rfl⟩
    · have e2 : (2 * r - b == 0) = false := by simpa using c2
      have c2' := Lib.hid c2
      clear c2
      go_enter Try.func26, Try.ntmps26
      go_wp2_with (first | (go_at_call 35; refine (spec_l01Floor _ _ _ (by omega) (by omega) (by omega)).mono ?_; rintro e w' ⟨rfl, rfl⟩))
      all_goals go_ret
      all_goals exact ⟨ret_int (by rw [K'.out, if_neg (fun h => h.elim (fun h => by omega) (fun h => c2'.out (by omega)))]), rfl⟩
end Go.Proofs.Ytdedmiennpbfcaa
