/- Contracts of functions that read slices of numbers. -/
import Derived.Test.YtgokiedhdihamaaDoorNum
import Derived.Test.YtgokiedhdihamaaDoorMem
namespace Go.Proofs.YtgokiedhdihamaaDoor
open Go.RowKit
set_option linter.unusedVariables false
set_option linter.unusedSimpArgs false

/-- all numbers lie in a range -/
def allB (xs : List Int) (lo hi : Int) : Bool := xs.all fun x => inB x lo hi

theorem take_snoc {α : Type} {xs : List α} {k : Nat} {x : α} (h : xs[k]? = some x) : xs.take (k + 1) = xs.take k ++ [x] := by
  rw [List.take_add_one, h]; rfl
theorem lt_of_get {α : Type} {xs : List α} {k : Nat} {x : α} (h : xs[k]? = some x) : k < xs.length := (List.getElem?_eq_some_iff.1 h).1
theorem get_of_lt {α : Type} {xs : List α} {k : Nat} (h : k < xs.length) : ∃ x, xs[k]? = some x := ⟨_, List.getElem?_eq_getElem h⟩
theorem take_all {α : Type} {xs : List α} {k : Nat} (h : ¬ k < xs.length) : xs.take k = xs := List.take_of_length_le (by omega)
theorem allB_snoc {xs : List Int} {k : Nat} {x lo hi : Int} (h : xs[k]? = some x) : allB (xs.take (k + 1)) lo hi = (allB (xs.take k) lo hi && inB x lo hi) := by
  rw [take_snoc h, allB, List.all_append]; simp [allB]
theorem allB_no {xs : List Int} {k : Nat} {x lo hi : Int} (h : xs[k]? = some x) (hx : inB x lo hi = false) : allB xs lo hi = false := by
  rw [allB, List.all_eq_false]
  exact ⟨x, List.mem_of_getElem? h, by simp [hx]⟩
theorem of_allB {xs : List Int} {k : Nat} {x lo hi : Int} (h : allB xs lo hi = true) (hk : xs[k]? = some x) : lo ≤ x ∧ x ≤ hi :=
  of_inB (List.all_eq_true.1 h x (List.mem_of_getElem? hk))

end Go.Proofs.YtgokiedhdihamaaDoor
