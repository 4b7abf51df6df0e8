/- Contracts of the small functions on numbers. -/
import Derived.Test.YtdedmiennpbfcaaBase
import Derived.Test.YtdedmiennpbfcaaMath
import Derived.Handy
set_option linter.unusedVariables false
set_option linter.unusedSimpArgs false
namespace Go.Proofs.Ytdedmiennpbfcaa
open Go.RowKit

theorem ret_bool {a b : Bool} (h : a = b) : Ending.returned (.bool a) = .returned (.bool b) := by rw [h]
theorem ret_int {k : IntKind} {a b : Int} (h : a = b) : Ending.returned (.int k a) = .returned (.int k b) := by rw [h]

theorem ret_ii {k l : IntKind} {a b c d : Int} (h : a = b) (h' : c = d) : Ending.returned (.tuple #[.int k a, .int l c]) = .returned (.tuple #[.int k b, .int l d]) := by rw [h, h']

theorem min_l (a b : Int) : (if b < a then b else a) = min a b := by split <;> omega
theorem max_l (a b : Int) : (if a < b then b else a) = max a b := by split <;> omega

/-- lo ≤ n ≤ hi, as a Bool that the walk does not open. -/
def inB (n lo hi : Int) : Bool := decide (lo ≤ n ∧ n ≤ hi)
theorem inB_t {n lo hi : Int} (h : lo ≤ n ∧ n ≤ hi) : inB n lo hi = true := by unfold inB; exact decide_eq_true h
theorem inB_f {n lo hi : Int} (h : ¬ (lo ≤ n ∧ n ≤ hi)) : inB n lo hi = false := by unfold inB; exact decide_eq_false h
theorem of_inB {n lo hi : Int} (h : inB n lo hi = true) : lo ≤ n ∧ n ≤ hi := by unfold inB at h; exact of_decide_eq_true h
theorem of_inB_f {n lo hi : Int} (h : inB n lo hi = false) : ¬ (lo ≤ n ∧ n ≤ hi) := by unfold inB at h; exact of_decide_eq_false h

theorem spec_l01In (n lo hi : Int) (w : World) : Calls Try.prog 22 #[.int .i64 n, .int .i64 lo, .int .i64 hi] w fun e w' => e = .returned (.bool (inB n lo hi)) ∧ w = w' := by
  go_enter Try.func22, Try.ntmps22
  go_wp2
  all_goals go_ret
  all_goals exact ⟨ret_bool (by unfold inB; simp; try omega), rfl⟩
theorem impl_within (n lo hi : Int) (w : World) : Calls Try.prog 30 #[.int .i64 n, .int .i64 lo, .int .i64 hi] w fun e w' => e = .returned (.bool (inB n lo hi)) ∧ w = w' := by
  go_enter Try.func30, Try.ntmps30
  go_wp2
  all_goals go_ret
  all_goals exact ⟨ret_bool (by unfold inB; simp; try omega), rfl⟩
theorem impl_floorDiv (a b : Int) (w : World) (hb : 0 < b) (h1 : -4611686018427387904 ≤ a) (h2 : a ≤ 4611686018427387904) : Calls Try.prog 32 #[.int .i64 a, .int .i64 b] w fun e w' => e = .returned (.int .i64 (a / b)) ∧ w = w' := by
  have hd := Pl.div_bd (a := a) hb
  by_cases ha : 0 ≤ a
  · have hd' := hd.1 ha
    have na : ¬ a < 0 := by omega
    have nb : ¬ b < 0 := by omega
    clear hd
    go_enter Try.func32, Try.ntmps32
    go_wp2
    all_goals go_ret
    all_goals exact ⟨rfl, rfl⟩
  · have hd' := hd.2 (by omega)
    clear hd
    by_cases hm : a.tmod b = 0
    · have e := Pl.fdiv1 hb hm
      have H := Lib.hid e
      clear e
      go_enter Try.func32, Try.ntmps32
      go_wp2
      go_ret
      exact ⟨ret_int H.out, rfl⟩
    · have e := Pl.fdiv2 hb hm (by omega)
      have H := Lib.hid e
      clear e
      have hn : a < 0 := by omega
      have hb' : ¬ b < 0 := by omega
      have hm' : (a.tmod b != 0) = true := by simpa using hm
      go_enter Try.func32, Try.ntmps32
      go_wp2
      go_ret
      exact ⟨ret_int (by rw [← H.out, IntWalk.wrap64_in _ (by have := H.out; omega)]), rfl⟩
theorem spec_l01Floor (a b : Int) (w : World) (hb : 0 < b) (h1 : -4611686018427387904 ≤ a) (h2 : a ≤ 4611686018427387904) : Calls Try.prog 35 #[.int .i64 a, .int .i64 b] w fun e w' => e = .returned (.int .i64 (a / b)) ∧ w = w' := by
  have hd := Pl.div_bd (a := a) hb
  by_cases ha : 0 ≤ a
  · have hd' := hd.1 ha
    have na : ¬ a < 0 := by omega
    have nb : ¬ b < 0 := by omega
    clear hd
    go_enter Try.func35, Try.ntmps35
    go_wp2
    all_goals go_ret
    all_goals exact ⟨rfl, rfl⟩
  · have hd' := hd.2 (by omega)
    clear hd
    by_cases hm : a.tmod b = 0
    · have e := Pl.fdiv1 hb hm
      have H := Lib.hid e
      clear e
      go_enter Try.func35, Try.ntmps35
      go_wp2
      go_ret
      exact ⟨ret_int H.out, rfl⟩
    · have e := Pl.fdiv2 hb hm (by omega)
      have H := Lib.hid e
      clear e
      have hn : a < 0 := by omega
      have hb' : ¬ b < 0 := by omega
      have hm' : (a.tmod b != 0) = true := by simpa using hm
      go_enter Try.func35, Try.ntmps35
      go_wp2
      go_ret
      exact ⟨ret_int (by rw [← H.out, IntWalk.wrap64_in _ (by have := H.out; omega)]), rfl⟩
theorem impl_ceilDiv (a b : Int) (w : World) (hb : 0 < b) (h1 : -4611686018427387904 ≤ a) (h2 : a ≤ 4611686018427387904) : Calls Try.prog 19 #[.int .i64 a, .int .i64 b] w fun e w' => e = .returned (.int .i64 (Pl.cdv a b)) ∧ w = w' := by
  have hd := Pl.div_bd (a := -a) hb
  have hd1 : -4611686018427387904 ≤ (-a) / b ∧ (-a) / b ≤ 4611686018427387904 := by
    rcases Int.lt_or_le (-a) 0 with h | h
    · have := hd.2 h; omega
    · have := hd.1 h; omega
  clear hd
  go_enter Try.func19, Try.ntmps19
  go_wp2_with (go_at_call 32; refine (impl_floorDiv _ _ _ (by omega) (by omega) (by omega)).mono ?_; rintro e w' ⟨rfl, rfl⟩)
  go_ret
  exact ⟨rfl, rfl⟩
theorem spec_l01Ceil (a b : Int) (w : World) (hb : 0 < b) (h1 : -4611686018427387904 ≤ a) (h2 : a ≤ 4611686018427387904) : Calls Try.prog 24 #[.int .i64 a, .int .i64 b] w fun e w' => e = .returned (.int .i64 (Pl.cdv a b)) ∧ w = w' := by
  have hd := Pl.div_bd (a := -a) hb
  have hd1 : -4611686018427387904 ≤ (-a) / b ∧ (-a) / b ≤ 4611686018427387904 := by
    rcases Int.lt_or_le (-a) 0 with h | h
    · have := hd.2 h; omega
    · have := hd.1 h; omega
  clear hd
  go_enter Try.func24, Try.ntmps24
  go_wp2_with (go_at_call 35; refine (spec_l01Floor _ _ _ (by omega) (by omega) (by omega)).mono ?_; rintro e w' ⟨rfl, rfl⟩)
  go_ret
  exact ⟨rfl, rfl⟩
end Go.Proofs.Ytdedmiennpbfcaa
