/- Pairings: contracts. -/
import Derived.Test.YtdomghjdnnnifaaCoB
namespace Go.Proofs.Ytdomghjdnnnifaa
open Go.RowKit Go.ChangeShapes Go.WideShapes Go.ChangeAt
set_option linter.unusedVariables false
set_option linter.unusedSimpArgs false
theorem slices_Index (A : Option Addr) (c : Nat) (xs : List Int) (x : Int) (w : World) (hr : I64 w w.heap.size A xs) (hl : xs.length ≤ 9223372036854775807) :
    Calls Try.prog 82 #[.slice A xs.length c, .int .i64 x] w fun e w' => ∃ j : Int, e = .returned (.int .i64 j) ∧ (0 ≤ j ↔ x ∈ xs) ∧ w = w' := by
  go_enter Try.func82, Try.ntmps82
  go_wp2
  go_loop [8] (fun i => ∃ k : Nat, k ≤ xs.length ∧ i = .int .i64 k ∧ Hid (x ∉ xs.take k)) (fun i => xs.length - (intOf i).toNat)
  case atStart => exact ⟨0, Nat.zero_le _, rfl, by simp [Hid]⟩
  case round =>
    obtain ⟨k, hk, rfl, ha⟩ := hrel
    by_cases hlt : k < xs.length
    · obtain ⟨y, hy⟩ := get_of_lt hlt
      obtain ⟨b, o, rfl, hb, hc⟩ := hr.at_ hy
      have hy' := Lib.hid hy
      clear hy
      by_cases e : x = y
      · have he : (x == y) = true := by simpa using e
        have e' := Lib.hid e
        clear e
        go_wp2
        go_ret
        exact ⟨_, rfl, ⟨fun _ => by have := List.mem_of_getElem? hy'.out; rw [← e'.out] at this; exact this, fun _ => by omega⟩, rfl⟩
      · have he : (x == y) = false := by simpa using e
        have e' := Lib.hid e
        clear e
        go_wp2
        go_round
        case rel => exact ⟨k + 1, by omega, by go_num, by unfold Hid; rw [take_snoc hy'.out, List.mem_append]; exact fun h => h.elim ha.out (fun h => by simp at h; exact e'.out h)⟩
        case measure => simp [intOf]; omega
    · go_wp2
      go_ret
      exact ⟨_, rfl, ⟨fun h => by omega, fun h => by have := ha.out; rw [take_all hlt] at this; exact absurd h this⟩, rfl⟩
theorem slices_Contains (A : Option Addr) (c : Nat) (xs : List Int) (x : Int) (w : World) (hr : I64 w w.heap.size A xs) (hl : xs.length ≤ 9223372036854775807) :
    Calls Try.prog 66 #[.slice A xs.length c, .int .i64 x] w fun e w' => e = .returned (.bool (decide (x ∈ xs))) ∧ w = w' := by
  go_enter Try.func66, Try.ntmps66
  go_wp2_with (go_at_call 82; refine (slices_Index _ _ _ _ _ hr hl).mono ?_; rintro e w' ⟨j, rfl, hj, rfl⟩)
  go_ret
  exact ⟨ret_bool (by by_cases h : x ∈ xs <;> simp [h] <;> omega), rfl⟩
theorem spec_l01Has (A : Option Addr) (c : Nat) (xs : List Int) (x : Int) (w : World) (hr : I64 w w.heap.size A xs) (hl : xs.length ≤ 9223372036854775807) :
    Calls Try.prog 69 #[.slice A xs.length c, .int .i64 x] w fun e w' => e = .returned (.bool (decide (x ∈ xs))) ∧ w = w' := by
  go_enter Try.func69, Try.ntmps69
  go_wp2
  go_loop [5] (fun i => ∃ k : Nat, k ≤ xs.length ∧ i = .int .i64 k ∧ Hid (x ∉ xs.take k)) (fun i => xs.length - (intOf i).toNat)
  case atStart => exact ⟨0, Nat.zero_le _, rfl, by simp [Hid]⟩
  case round =>
    obtain ⟨k, hk, rfl, ha⟩ := hrel
    by_cases hlt : k < xs.length
    · obtain ⟨y, hy⟩ := get_of_lt hlt
      obtain ⟨b, o, rfl, hb, hc⟩ := hr.at_ hy
      have hy' := Lib.hid hy
      clear hy
      by_cases e : y = x
      · have he : (y == x) = true := by simpa using e
        have e' := Lib.hid e
        clear e
        go_wp2
        go_ret
        exact ⟨ret_bool (by have := List.mem_of_getElem? hy'.out; rw [e'.out] at this; simp [this]), rfl⟩
      · have he : (y == x) = false := by simpa using e
        have e' := Lib.hid e
        clear e
        go_wp2
        go_round
        case rel => exact ⟨k + 1, by omega, by go_num, by unfold Hid; rw [take_snoc hy'.out, List.mem_append]; exact fun h => h.elim ha.out (fun h => by simp at h; exact e'.out h.symm)⟩
        case measure => simp [intOf]; omega
    · go_wp2
      go_ret
      exact ⟨ret_bool (by have := ha.out; rw [take_all hlt] at this; simp [this]), rfl⟩
end Go.Proofs.Ytdomghjdnnnifaa
