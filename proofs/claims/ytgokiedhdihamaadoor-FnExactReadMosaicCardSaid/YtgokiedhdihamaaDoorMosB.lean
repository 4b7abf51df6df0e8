/- Known cells: contracts. -/
import Derived.Test.YtgokiedhdihamaaDoorMosA
namespace Go.Proofs.YtgokiedhdihamaaDoor
open Go.RowKit Go.ChangeShapes Go.WideShapes Go.ChangeAt
set_option linter.unusedVariables false
set_option linter.unusedSimpArgs false
/-- how many of the first k grades are greater than 0 -/
def knk (ys : List Int) (k : Nat) : Nat := (ys.take k).countP fun y => decide (0 < y)
theorem knk_succ {ys : List Int} {k : Nat} {y : Int} (h : ys[k]? = some y) : knk ys (k + 1) = knk ys k + if 0 < y then 1 else 0 := by
  rw [knk, take_snoc h, List.countP_append]; simp [knk, List.countP_cons]
theorem knk_le {ys : List Int} {k : Nat} : knk ys k ≤ k := Nat.le_trans List.countP_le_length (by simp; omega)
def fKnown (p q : Int) (xs ys : List Int) : Int × Int := if mosB p q xs ys then ((knk ys ys.length : Int), 0) else (0, 1)
theorem mos_facts {p q : Int} {xs ys : List Int} (h : mosB p q xs ys = true) : (1 ≤ p ∧ p ≤ 40) ∧ (1 ≤ q ∧ q ≤ 40) ∧ (xs.length : Int) = p * q ∧ ys.length = xs.length ∧ 1 ≤ p * q ∧ p * q ≤ 1600 ∧ celk xs ys xs.length = true := by
  simp only [mosB, Bool.and_eq_true] at h
  have h3 := of_decide_eq_true h.2.2.1
  have h4 := of_decide_eq_true h.2.2.2.1
  have := side_bd h.1 h.2.1
  exact ⟨of_inB h.1, of_inB h.2.1, h3, h4, this.1, this.2, h.2.2.2.2⟩
theorem mos_cell {p q : Int} {xs ys : List Int} {k : Nat} {x y : Int} (h : mosB p q xs ys = true) (hx : xs[k]? = some x) (hy : ys[k]? = some y) : (x = -1 ∧ y = 0) ∨ ((0 ≤ x ∧ x ≤ 1000) ∧ 1 ≤ y ∧ y ≤ 9) := by
  have hc := celk_of (mos_facts h).2.2.2.2.2.2 (lt_of_get hx)
  rw [mget_of hx, mget_of hy] at hc
  simp only [celB, Bool.or_eq_true, Bool.and_eq_true] at hc
  rcases hc with hc | hc
  · exact .inl ⟨of_decide_eq_true hc.1, of_decide_eq_true hc.2⟩
  · exact .inr ⟨of_inB hc.1, of_inB hc.2⟩
end Go.Proofs.YtgokiedhdihamaaDoor
