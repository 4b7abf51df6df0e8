/- Contracts of the small functions on numbers. -/
import Derived.Test.YtboagjiejjapfaaBase
import Derived.Test.YtboagjiejjapfaaMath
import Derived.Handy
set_option linter.unusedVariables false
set_option linter.unusedSimpArgs false
namespace Go.Proofs.Ytboagjiejjapfaa
open Go.RowKit

theorem ret_bool {a b : Bool} (h : a = b) : Ending.returned (.bool a) = .returned (.bool b) := by rw [h]
theorem ret_int {k : IntKind} {a b : Int} (h : a = b) : Ending.returned (.int k a) = .returned (.int k b) := by rw [h]

theorem ret_ii {k l : IntKind} {a b c d : Int} (h : a = b) (h' : c = d) : Ending.returned (.tuple #[.int k a, .int l c]) = .returned (.tuple #[.int k b, .int l d]) := by rw [h, h']

theorem min_l (a b : Int) : (if b < a then b else a) = min a b := by split <;> omega
theorem max_l (a b : Int) : (if a < b then b else a) = max a b := by split <;> omega

/-- lo ≤ n ≤ hi, as a Bool that the walk does not open. -/
def inB (n lo hi : Int) : Bool := decide (lo ≤ n ∧ n ≤ hi)
theorem inB_t {n lo hi : Int} (h : lo ≤ n ∧ n ≤ hi) : inB n lo hi = true := by unfold inB; exact decide_eq_true h
theorem inB_f {n lo hi : Int} (h : ¬ (lo ≤ n ∧ n ≤ hi)) : inB n lo hi = false := by unfold inB; exact decide_eq_false h
theorem of_inB {n lo hi : Int} (h : inB n lo hi = true) : lo ≤ n ∧ n ≤ hi := by unfold inB at h; exact of_decide_eq_true h
theorem of_inB_f {n lo hi : Int} (h : inB n lo hi = false) : ¬ (lo ≤ n ∧ n ≤ hi) := by unfold inB at h; exact of_decide_eq_false h

theorem spec_l01In (n lo hi : Int) (w : World) : Calls Try.prog 56 #[.int .i64 n, .int .i64 lo, .int .i64 hi] w fun e w' => e = .returned (.bool (inB n lo hi)) ∧ w = w' := by
  go_enter Try.func56, Try.ntmps56
  go_wp2
  all_goals go_ret
  all_goals exact ⟨ret_bool (by unfold inB; simp; try omega), rfl⟩
theorem impl_within (n lo hi : Int) (w : World) : Calls Try.prog 58 #[.int .i64 n, .int .i64 lo, .int .i64 hi] w fun e w' => e = .returned (.bool (inB n lo hi)) ∧ w = w' := by
  go_enter Try.func58, Try.ntmps58
  go_wp2
  all_goals go_ret
  all_goals exact ⟨ret_bool (by unfold inB; simp; try omega), rfl⟩
theorem impl_isSlant (n : Int) (w : World) : Calls Try.prog 54 #[.int .i64 n] w fun e w' => e = .returned (.bool (inB n 0 1000000)) ∧ w = w' := by
  go_enter Try.func54, Try.ntmps54
  go_wp2_with (go_at_call 58; refine (impl_within _ _ _ _).mono ?_; rintro e w' ⟨rfl, rfl⟩)
  go_ret
  exact ⟨rfl, rfl⟩
theorem spec_l18Length (n : Int) (w : World) : Calls Try.prog 62 #[.int .i64 n] w fun e w' => e = .returned (.bool (inB n 0 1000000)) ∧ w = w' := by
  go_enter Try.func62, Try.ntmps62
  go_wp2_with (go_at_call 56; refine (spec_l01In _ _ _ _).mono ?_; rintro e w' ⟨rfl, rfl⟩)
  go_ret
  exact ⟨rfl, rfl⟩
theorem impl_isSideStep (n : Int) (w : World) : Calls Try.prog 53 #[.int .i64 n] w fun e w' => e = .returned (.bool (inB n 1 5000)) ∧ w = w' := by
  go_enter Try.func53, Try.ntmps53
  go_wp2_with (go_at_call 58; refine (impl_within _ _ _ _).mono ?_; rintro e w' ⟨rfl, rfl⟩)
  go_ret
  exact ⟨rfl, rfl⟩
theorem spec_l18Step (n a : Int) (w : World) : Calls Try.prog 51 #[.int .i64 n, .int .i64 a] w fun e w' => e = .returned (.bool (inB n 1 5000 && inB a 0 1000000)) ∧ w = w' := by
  go_enter Try.func51, Try.ntmps51
  go_wp2_with (first | (go_at_call 56; refine (spec_l01In _ _ _ _).mono ?_; rintro e w' ⟨rfl, rfl⟩) | (go_at_call 62; refine (spec_l18Length _ _).mono ?_; rintro e w' ⟨rfl, rfl⟩))
  all_goals go_ret
  all_goals exact ⟨ret_bool (by simp [*]), rfl⟩

/-! ### Quotients rounded down and up, by a number greater than 0 -/
theorem impl_floorDiv (a b : Int) (w : World) (hb : 0 < b) (h1 : -4611686018427387904 ≤ a) (h2 : a ≤ 4611686018427387904) : Calls Try.prog 83 #[.int .i64 a, .int .i64 b] w fun e w' => e = .returned (.int .i64 (a / b)) ∧ w = w' := by
  have hd := Pl.div_bd (a := a) hb
  by_cases ha : 0 ≤ a
  · have hd' := hd.1 ha
    have na : ¬ a < 0 := by omega
    have nb : ¬ b < 0 := by omega
    clear hd
    go_enter Try.func83, Try.ntmps83
    go_wp2
    all_goals go_ret
    all_goals exact ⟨rfl, rfl⟩
  · have hd' := hd.2 (by omega)
    clear hd
    by_cases hm : a.tmod b = 0
    · have e := Pl.fdiv1 hb hm
      have H := Lib.hid e
      clear e
      go_enter Try.func83, Try.ntmps83
      go_wp2
      go_ret
      exact ⟨ret_int H.out, rfl⟩
    · have e := Pl.fdiv2 hb hm (by omega)
      have H := Lib.hid e
      clear e
      have hn : a < 0 := by omega
      have hb' : ¬ b < 0 := by omega
      have hm' : (a.tmod b != 0) = true := by simpa using hm
      go_enter Try.func83, Try.ntmps83
      go_wp2
      go_ret
      exact ⟨ret_int (by rw [← H.out, IntWalk.wrap64_in _ (by have := H.out; omega)]), rfl⟩
theorem spec_l01Floor (a b : Int) (w : World) (hb : 0 < b) (h1 : -4611686018427387904 ≤ a) (h2 : a ≤ 4611686018427387904) : Calls Try.prog 82 #[.int .i64 a, .int .i64 b] w fun e w' => e = .returned (.int .i64 (a / b)) ∧ w = w' := by
  have hd := Pl.div_bd (a := a) hb
  by_cases ha : 0 ≤ a
  · have hd' := hd.1 ha
    have na : ¬ a < 0 := by omega
    have nb : ¬ b < 0 := by omega
    clear hd
    go_enter Try.func82, Try.ntmps82
    go_wp2
    all_goals go_ret
    all_goals exact ⟨rfl, rfl⟩
  · have hd' := hd.2 (by omega)
    clear hd
    by_cases hm : a.tmod b = 0
    · have e := Pl.fdiv1 hb hm
      have H := Lib.hid e
      clear e
      go_enter Try.func82, Try.ntmps82
      go_wp2
      go_ret
      exact ⟨ret_int H.out, rfl⟩
    · have e := Pl.fdiv2 hb hm (by omega)
      have H := Lib.hid e
      clear e
      have hn : a < 0 := by omega
      have hb' : ¬ b < 0 := by omega
      have hm' : (a.tmod b != 0) = true := by simpa using hm
      go_enter Try.func82, Try.ntmps82
      go_wp2
      go_ret
      exact ⟨ret_int (by rw [← H.out, IntWalk.wrap64_in _ (by have := H.out; omega)]), rfl⟩
theorem impl_ceilDiv (a b : Int) (w : World) (hb : 0 < b) (h1 : -4611686018427387904 ≤ a) (h2 : a ≤ 4611686018427387904) : Calls Try.prog 55 #[.int .i64 a, .int .i64 b] w fun e w' => e = .returned (.int .i64 (Pl.cdv a b)) ∧ w = w' := by
  have hd := Pl.div_bd (a := -a) hb
  have hd1 : -4611686018427387904 ≤ (-a) / b ∧ (-a) / b ≤ 4611686018427387904 := by
    rcases Int.lt_or_le (-a) 0 with h | h
    · have := hd.2 h; omega
    · have := hd.1 h; omega
  clear hd
  go_enter Try.func55, Try.ntmps55
  go_wp2_with (go_at_call 83; refine (impl_floorDiv _ _ _ (by omega) (by omega) (by omega)).mono ?_; rintro e w' ⟨rfl, rfl⟩)
  go_ret
  exact ⟨rfl, rfl⟩
theorem spec_l01Ceil (a b : Int) (w : World) (hb : 0 < b) (h1 : -4611686018427387904 ≤ a) (h2 : a ≤ 4611686018427387904) : Calls Try.prog 52 #[.int .i64 a, .int .i64 b] w fun e w' => e = .returned (.int .i64 (Pl.cdv a b)) ∧ w = w' := by
  have hd := Pl.div_bd (a := -a) hb
  have hd1 : -4611686018427387904 ≤ (-a) / b ∧ (-a) / b ≤ 4611686018427387904 := by
    rcases Int.lt_or_le (-a) 0 with h | h
    · have := hd.2 h; omega
    · have := hd.1 h; omega
  clear hd
  go_enter Try.func52, Try.ntmps52
  go_wp2_with (go_at_call 82; refine (spec_l01Floor _ _ _ (by omega) (by omega) (by omega)).mono ?_; rintro e w' ⟨rfl, rfl⟩)
  go_ret
  exact ⟨rfl, rfl⟩
theorem impl_rootDown (n : Int) (w : World) (h0 : 0 ≤ n) (h1 : n ≤ 4000000000000000000) : Calls Try.prog 76 #[.int .i64 n] w fun e w' => e = .returned (.int .i64 (Pl.rt n)) ∧ w = w' := by
  go_enter Try.func76, Try.ntmps76
  go_wp2
  go_loop [3, 4] (fun low high => ∃ l h : Int, low = .int .i64 l ∧ high = .int .i64 h ∧ 0 ≤ l ∧ l ≤ h ∧ h ≤ 2000000000 ∧ l * l ≤ n ∧ n < (h + 1) * (h + 1)) (fun low high => (intOf high - intOf low).toNat)
  case atStart => exact ⟨0, 2000000000, rfl, rfl, by omega, by omega, by omega, by omega, by omega⟩
  case round =>
    obtain ⟨l, h, rfl, rfl, a1, a2, a3, a4, a5⟩ := hrel
    by_cases hlt : l < h
    · have hm : l < (l + h + 1) / 2 ∧ (l + h + 1) / 2 ≤ h := by omega
      have hq := Pl.sq_le (a := (l + h + 1) / 2) (b := 2000000000) (by omega) (by omega)
      have hp : 0 ≤ (l + h + 1) / 2 * ((l + h + 1) / 2) := Int.mul_nonneg (by omega) (by omega)
      by_cases hc : (l + h + 1) / 2 * ((l + h + 1) / 2) ≤ n
      · go_wp2
        go_round
        case rel => exact ⟨(l + h + 1) / 2, h, rfl, rfl, by omega, by omega, a3, hc, a5⟩
        case measure => simp only [intOf]; omega
      · go_wp2
        go_round
        case rel => exact ⟨l, (l + h + 1) / 2 - 1, rfl, rfl, by omega, by omega, by omega, a4, by rw [Int.sub_add_cancel]; omega⟩
        case measure => simp only [intOf]; omega
    · have e : l = h := by omega
      subst e
      have e2 := Lib.hid (Pl.rt_uniq a1 a4 a5)
      clear a4 a5
      go_wp2
      go_ret
      exact ⟨ret_int e2.out, rfl⟩
theorem spec_l01Root (n : Int) (w : World) (h0 : 0 ≤ n) (h1 : n ≤ 4000000000000000000) : Calls Try.prog 63 #[.int .i64 n] w fun e w' => e = .returned (.int .i64 (Pl.rt n)) ∧ w = w' := by
  go_enter Try.func63, Try.ntmps63
  go_wp2
  go_loop [3, 4] (fun low high => ∃ l h : Int, low = .int .i64 l ∧ high = .int .i64 h ∧ 0 ≤ l ∧ l < h ∧ h ≤ 2000000001 ∧ l * l ≤ n ∧ n < h * h) (fun low high => (intOf high - intOf low).toNat)
  case atStart => exact ⟨0, 2000000001, rfl, rfl, by omega, by omega, by omega, by omega, by omega⟩
  case round =>
    obtain ⟨l, h, rfl, rfl, a1, a2, a3, a4, a5⟩ := hrel
    by_cases hlt : 1 < h - l
    · have hm : l < (l + h) / 2 ∧ (l + h) / 2 < h := by omega
      have hq := Pl.sq_le (a := (l + h) / 2) (b := 2000000001) (by omega) (by omega)
      have hp : 0 ≤ (l + h) / 2 * ((l + h) / 2) := Int.mul_nonneg (by omega) (by omega)
      by_cases hc : (l + h) / 2 * ((l + h) / 2) ≤ n
      · go_wp2
        go_round
        case rel => exact ⟨(l + h) / 2, h, rfl, rfl, by omega, by omega, a3, hc, a5⟩
        case measure => simp only [intOf]; omega
      · go_wp2
        go_round
        case rel => exact ⟨l, (l + h) / 2, rfl, rfl, by omega, by omega, by omega, a4, by omega⟩
        case measure => simp only [intOf]; omega
    · have e : h = l + 1 := by omega
      subst e
      have e2 := Lib.hid (Pl.rt_uniq a1 a4 a5)
      clear a4 a5
      go_wp2
      go_ret
      exact ⟨ret_int e2.out, rfl⟩
theorem impl_rootUp (n : Int) (w : World) (h0 : 0 ≤ n) (h1 : n ≤ 4000000000000000000) : Calls Try.prog 77 #[.int .i64 n] w fun e w' => e = .returned (.int .i64 (Pl.rtu n)) ∧ w = w' := by
  have hp := Pl.rt_nonneg n
  have hu : Pl.rt n ≤ 2000000000 := Pl.rt_le (by omega) (by omega) h0
  have hs := (Pl.rt_spec h0).1
  have hq : 0 ≤ Pl.rt n * Pl.rt n := Int.mul_nonneg hp hp
  by_cases hc : Pl.rt n * Pl.rt n < n
  · go_enter Try.func77, Try.ntmps77
    go_wp2_with (go_at_call 76; refine (impl_rootDown _ _ (by omega) (by omega)).mono ?_; rintro e w' ⟨rfl, rfl⟩)
    go_ret
    exact ⟨ret_int (by rw [Pl.rtu, if_pos hc]), rfl⟩
  · go_enter Try.func77, Try.ntmps77
    go_wp2_with (go_at_call 76; refine (impl_rootDown _ _ (by omega) (by omega)).mono ?_; rintro e w' ⟨rfl, rfl⟩)
    go_ret
    exact ⟨ret_int (by rw [Pl.rtu, if_neg (by omega)]), rfl⟩
theorem spec_l01RootUp (n : Int) (w : World) (h0 : 0 ≤ n) (h1 : n ≤ 4000000000000000000) : Calls Try.prog 64 #[.int .i64 n] w fun e w' => e = .returned (.int .i64 (Pl.rtu n)) ∧ w = w' := by
  have hp := Pl.rt_nonneg n
  have hu : Pl.rt n ≤ 2000000000 := Pl.rt_le (by omega) (by omega) h0
  have hs := (Pl.rt_spec h0).1
  have hq : 0 ≤ Pl.rt n * Pl.rt n := Int.mul_nonneg hp hp
  by_cases hc : Pl.rt n * Pl.rt n < n
  · go_enter Try.func64, Try.ntmps64
    go_wp2_with (go_at_call 63; refine (spec_l01Root _ _ (by omega) (by omega)).mono ?_; rintro e w' ⟨rfl, rfl⟩)
    go_ret
    exact ⟨ret_int (by rw [Pl.rtu, if_pos hc]), rfl⟩
  · go_enter Try.func64, Try.ntmps64
    go_wp2_with (go_at_call 63; refine (spec_l01Root _ _ (by omega) (by omega)).mono ?_; rintro e w' ⟨rfl, rfl⟩)
    go_ret
    exact ⟨ret_int (by rw [Pl.rtu, if_neg (by omega)]), rfl⟩
theorem impl_nearestRoot (n : Int) (w : World) (h0 : 0 ≤ n) (h1 : n ≤ 4000000000000000000) : Calls Try.prog 59 #[.int .i64 n] w fun e w' => e = .returned (.int .i64 (Pl.nrt n)) ∧ w = w' := by
  have hp := Pl.rt_nonneg n
  have hu : Pl.rt n ≤ 2000000000 := Pl.rt_le (by omega) (by omega) h0
  have hs := (Pl.rt_spec h0).1
  have hq : 0 ≤ Pl.rt n * Pl.rt n := Int.mul_nonneg hp hp
  by_cases hc : Pl.rt n < n - Pl.rt n * Pl.rt n
  · go_enter Try.func59, Try.ntmps59
    go_wp2_with (go_at_call 76; refine (impl_rootDown _ _ (by omega) (by omega)).mono ?_; rintro e w' ⟨rfl, rfl⟩)
    go_ret
    exact ⟨ret_int (by rw [Pl.nrt, if_pos hc]), rfl⟩
  · go_enter Try.func59, Try.ntmps59
    go_wp2_with (go_at_call 76; refine (impl_rootDown _ _ (by omega) (by omega)).mono ?_; rintro e w' ⟨rfl, rfl⟩)
    go_ret
    exact ⟨ret_int (by rw [Pl.nrt, if_neg (by omega)]), rfl⟩
theorem spec_l18Root (n : Int) (w : World) (h0 : 0 ≤ n) (h1 : n ≤ 4000000000000000000) : Calls Try.prog 57 #[.int .i64 n] w fun e w' => e = .returned (.int .i64 (Pl.nrt n)) ∧ w = w' := by
  have hp := Pl.rt_nonneg n
  have hu : Pl.rt n ≤ 2000000000 := Pl.rt_le (by omega) (by omega) h0
  have hs := (Pl.rt_spec h0).1
  have hq : 0 ≤ Pl.rt n * Pl.rt n := Int.mul_nonneg hp hp
  by_cases hc : Pl.rt n < n - Pl.rt n * Pl.rt n
  · go_enter Try.func57, Try.ntmps57
    go_wp2_with (go_at_call 63; refine (spec_l01Root _ _ (by omega) (by omega)).mono ?_; rintro e w' ⟨rfl, rfl⟩)
    go_ret
    exact ⟨ret_int (by rw [Pl.nrt, if_pos hc]), rfl⟩
  · go_enter Try.func57, Try.ntmps57
    go_wp2_with (go_at_call 63; refine (spec_l01Root _ _ (by omega) (by omega)).mono ?_; rintro e w' ⟨rfl, rfl⟩)
    go_ret
    exact ⟨ret_int (by rw [Pl.nrt, if_neg (by omega)]), rfl⟩
theorem impl_square (x y : Int) (w : World) (h1 : -1000000000 ≤ x ∧ x ≤ 1000000000) (h2 : -1000000000 ≤ y ∧ y ≤ 1000000000) : Calls Try.prog 66 #[.int .i64 x, .int .i64 y] w fun e w' => e = .returned (.int .i64 (x * x + y * y)) ∧ w = w' := by
  have hx := Pl.sq_bd h1
  have hy := Pl.sq_bd h2
  go_enter Try.func66, Try.ntmps66
  go_wp2
  go_ret
  exact ⟨rfl, rfl⟩
end Go.Proofs.Ytboagjiejjapfaa
