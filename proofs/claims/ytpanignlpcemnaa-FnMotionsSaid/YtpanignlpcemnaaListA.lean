/- Contracts of functions that read slices of numbers. -/
import Derived.Test.YtpanignlpcemnaaNum
import Derived.Test.YtpanignlpcemnaaMem
namespace Go.Proofs.Ytpanignlpcemnaa
open Go.RowKit
set_option linter.unusedVariables false
set_option linter.unusedSimpArgs false

/-- all numbers lie in a range -/
def allB (xs : List Int) (lo hi : Int) : Bool := xs.all fun x => inB x lo hi

theorem take_snoc {α : Type} {xs : List α} {k : Nat} {x : α} (h : xs[k]? = some x) : xs.take (k + 1) = xs.take k ++ [x] := by
  rw [List.take_add_one, h]; rfl
theorem lt_of_get {α : Type} {xs : List α} {k : Nat} {x : α} (h : xs[k]? = some x) : k < xs.length := (List.getElem?_eq_some_iff.1 h).1
theorem get_of_lt {α : Type} {xs : List α} {k : Nat} (h : k < xs.length) : ∃ x, xs[k]? = some x := ⟨_, List.getElem?_eq_getElem h⟩
theorem take_all {α : Type} {xs : List α} {k : Nat} (h : ¬ k < xs.length) : xs.take k = xs := List.take_of_length_le (by omega)
theorem allB_snoc {xs : List Int} {k : Nat} {x lo hi : Int} (h : xs[k]? = some x) : allB (xs.take (k + 1)) lo hi = (allB (xs.take k) lo hi && inB x lo hi) := by
  rw [take_snoc h, allB, List.all_append]; simp [allB]
theorem allB_no {xs : List Int} {k : Nat} {x lo hi : Int} (h : xs[k]? = some x) (hx : inB x lo hi = false) : allB xs lo hi = false := by
  rw [allB, List.all_eq_false]
  exact ⟨x, List.mem_of_getElem? h, by simp [hx]⟩
theorem of_allB {xs : List Int} {k : Nat} {x lo hi : Int} (h : allB xs lo hi = true) (hk : xs[k]? = some x) : lo ≤ x ∧ x ≤ hi :=
  of_inB (List.all_eq_true.1 h x (List.mem_of_getElem? hk))

theorem impl_areWithin (A : Option Addr) (c : Nat) (xs : List Int) (lo hi : Int) (w : World) (hr : I64 w w.heap.size A xs) (hl : xs.length ≤ 9223372036854775807) :
    Calls Try.prog 71 #[.slice A xs.length c, .int .i64 lo, .int .i64 hi] w fun e w' => e = .returned (.bool (allB xs lo hi)) ∧ w = w' := by
  go_enter Try.func71, Try.ntmps71
  go_wp2
  go_loop [11] (fun i => ∃ k : Nat, k ≤ xs.length ∧ i = .int .i64 k ∧ Hid (allB (xs.take k) lo hi = true)) (fun i => xs.length - (intOf i).toNat)
  case atStart => exact ⟨0, Nat.zero_le _, rfl, by simp [allB, Hid]⟩
  case round =>
    obtain ⟨k, hk, rfl, ha⟩ := hrel
    by_cases hlt : k < xs.length
    · obtain ⟨x, hx⟩ := get_of_lt hlt
      obtain ⟨b, o, rfl, hb, hc⟩ := hr.at_ hx
      have hx' := Lib.hid hx
      clear hx
      cases h1 : inB x lo hi
      · go_wp2_with (first | (go_at_call 49; refine (impl_within _ _ _ _).mono ?_; rintro e w' ⟨rfl, rfl⟩))
        go_ret
        exact ⟨ret_bool (allB_no hx'.out h1).symm, rfl⟩
      · go_wp2_with (first | (go_at_call 49; refine (impl_within _ _ _ _).mono ?_; rintro e w' ⟨rfl, rfl⟩))
        go_round
        case rel => exact ⟨k + 1, by omega, by go_num, by unfold Hid; rw [allB_snoc hx'.out, ha.out, h1]; rfl⟩
        case measure => simp [intOf]; omega
    · go_wp2
      go_ret
      exact ⟨ret_bool (by have := ha.out; rw [take_all hlt] at this; exact this.symm), rfl⟩
end Go.Proofs.Ytpanignlpcemnaa
