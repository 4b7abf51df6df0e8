/- Costs of contacts, gates: contracts. -/
import Derived.Test.YthbljfanoaibkaaDoorMoS
import Derived.BigQuiet
import Derived.Test.YthbljfanoaibkaaDoorMath
namespace Go.Proofs.YthbljfanoaibkaaDoor
open Go.RowKit Go.ChangeShapes Go.WideShapes Go.ChangeAt
set_option linter.unusedVariables false
set_option linter.unusedSimpArgs false
def cst (x y a b : Int) : Int := (a - x) * (a - x) + (b - y) * (b - y)
def gin (x y s a b : Int) : Bool := decide (cst x y a b ≤ s * s)
theorem co_bds {a b : Int} (h : coB a b = true) : (-100000 ≤ a ∧ a ≤ 100000) ∧ (-100000 ≤ b ∧ b ≤ 100000) := by
  simp only [coB, Bool.and_eq_true] at h
  exact ⟨of_inB h.1, of_inB h.2⟩
theorem mo_bds {x y p q s : Int} (h : moB x y p q s = true) : (-100000 ≤ x ∧ x ≤ 100000) ∧ (-100000 ≤ y ∧ y ≤ 100000) ∧ (-1000 ≤ p ∧ p ≤ 1000) ∧ (-1000 ≤ q ∧ q ≤ 1000) ∧ 0 ≤ s ∧ s ≤ 10000 := by
  simp only [moB, Bool.and_eq_true] at h
  have := co_bds h.1
  exact ⟨this.1, this.2, of_inB h.2.1, of_inB h.2.2.1, of_inB h.2.2.2⟩
theorem sqs_bd {a x : Int} (ha : -100000 ≤ a ∧ a ≤ 100000) (hx : -100000 ≤ x ∧ x ≤ 100000) : 0 ≤ (a - x) * (a - x) ∧ (a - x) * (a - x) ≤ 40000000000 := by
  have h1 : 0 ≤ (a - x) * (a - x) := by
    rcases Int.le_total 0 (a - x) with h | h
    · exact Int.mul_nonneg h h
    · exact Int.mul_nonneg_of_nonpos_of_nonpos h h
  refine ⟨h1, ?_⟩
  rcases Int.le_total 0 (a - x) with h | h
  · exact Int.mul_le_mul (a := a - x) (b := a - x) (c := 200000) (d := 200000) (by omega) (by omega) h (by omega)
  · have := Int.mul_le_mul (a := x - a) (b := x - a) (c := 200000) (d := 200000) (by omega) (by omega) (by omega) (by omega)
    rw [show (a - x) * (a - x) = (x - a) * (x - a) by rw [← Int.neg_sub x a, Int.neg_mul_neg]]
    omega
theorem sp_bd {s : Int} (h : 0 ≤ s ∧ s ≤ 10000) : 0 ≤ s * s ∧ s * s ≤ 100000000 :=
  ⟨Int.mul_nonneg h.1 h.1, Int.mul_le_mul (c := 10000) (d := 10000) h.2 h.2 h.1 (by omega)⟩
theorem cst_bd {x y a b : Int} (hx : -100000 ≤ x ∧ x ≤ 100000) (hy : -100000 ≤ y ∧ y ≤ 100000) (ha : -100000 ≤ a ∧ a ≤ 100000) (hb : -100000 ≤ b ∧ b ≤ 100000) : 0 ≤ cst x y a b ∧ cst x y a b ≤ 80000000000 := by
  have h1 := sqs_bd ha hx
  have h2 := sqs_bd hb hy
  unfold cst
  omega
/-- the index of the nearest of the first k contacts in the gate, -1 if there is none -/
def nrk (x y s : Int) (cs : List (Int × Int)) : Nat → Int
  | 0 => -1
  | k + 1 => if gin x y s (cs.getD k (0, 0)).1 (cs.getD k (0, 0)).2 && (decide (nrk x y s cs k < 0) || decide (cst x y (cs.getD k (0, 0)).1 (cs.getD k (0, 0)).2 < cst x y (cs.getD (nrk x y s cs k).toNat (0, 0)).1 (cs.getD (nrk x y s cs k).toNat (0, 0)).2)) then (k : Int) else nrk x y s cs k
theorem nrk_bd {x y s : Int} {cs : List (Int × Int)} : ∀ k, -1 ≤ nrk x y s cs k ∧ nrk x y s cs k < k
  | 0 => by simp [nrk]
  | k + 1 => by
    have ih := nrk_bd (x := x) (y := y) (s := s) (cs := cs) k
    rw [nrk]
    split <;> omega
theorem nrk_out {x y s : Int} {cs : List (Int × Int)} {k : Nat} {a b : Int} (hx : cs[k]? = some (a, b)) (hg : gin x y s a b = false) : nrk x y s cs (k + 1) = nrk x y s cs k := by
  rw [nrk]; simp [List.getD, hx, hg]
theorem nrk_first {x y s : Int} {cs : List (Int × Int)} {k : Nat} {a b : Int} (hx : cs[k]? = some (a, b)) (hg : gin x y s a b = true) (hn : nrk x y s cs k < 0) : nrk x y s cs (k + 1) = k := by
  rw [nrk]; simp [List.getD, hx, hg, hn]
theorem nrk_less {x y s : Int} {cs : List (Int × Int)} {k j : Nat} {a b c d : Int} (hx : cs[k]? = some (a, b)) (hg : gin x y s a b = true) (hn : nrk x y s cs k = j) (hj : cs[j]? = some (c, d)) (hl : cst x y a b < cst x y c d) : nrk x y s cs (k + 1) = k := by
  rw [nrk, hn]; simp [List.getD, hx, hg, hj, hl]
theorem nrk_more {x y s : Int} {cs : List (Int × Int)} {k j : Nat} {a b c d : Int} (hx : cs[k]? = some (a, b)) (hg : gin x y s a b = true) (hn : nrk x y s cs k = j) (hj : cs[j]? = some (c, d)) (hl : ¬ cst x y a b < cst x y c d) : nrk x y s cs (k + 1) = j := by
  rw [nrk, hn]; simp [List.getD, hx, hg, hj, hl]; omega
end Go.Proofs.YthbljfanoaibkaaDoor
