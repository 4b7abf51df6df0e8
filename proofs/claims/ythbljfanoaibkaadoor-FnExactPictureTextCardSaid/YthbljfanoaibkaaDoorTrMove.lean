/- Moving on, misses: contracts. -/
import Derived.Test.YthbljfanoaibkaaDoorTrA
import Derived.Test.YthbljfanoaibkaaDoorMath
import Derived.BigQuiet
import Derived.Deep.RegionWith
import Derived.Deep.RegionHeld3
namespace Go.Proofs.YthbljfanoaibkaaDoor
open Go.RowKit
set_option linter.unusedVariables false
set_option linter.unusedSimpArgs false
structure Tr where
  x : Int
  y : Int
  p : Int
  q : Int
  s : Int
  t : Int
  h : Int
  m : Int
def fMoved (a : Tr) : Tr := if a.t = 2 then a else if coB (a.x + a.p) (a.y + a.q) then ⟨a.x + a.p, a.y + a.q, a.p, a.q, min (a.s + 50) 10000, a.t, a.h, a.m⟩ else ⟨a.x, a.y, a.p, a.q, a.s, 2, a.h, a.m⟩
def fMiss (a : Tr) : Tr := if a.t = 2 then a else ⟨a.x, a.y, a.p, a.q, a.s, if a.t = 0 ∧ a.m + 1 = 2 ∨ a.m + 1 = 4 then 2 else a.t, a.h, a.m + 1⟩
def fGoes (a : Tr) : Bool := decide (a.t ≠ 2) && coB (a.x + a.p) (a.y + a.q)
theorem mo_facts {x y p q s : Int} (h : moB x y p q s = true) : (-100000 ≤ x ∧ x ≤ 100000) ∧ (-100000 ≤ y ∧ y ≤ 100000) ∧ (-1000 ≤ p ∧ p ≤ 1000) ∧ (-1000 ≤ q ∧ q ≤ 1000) ∧ 0 ≤ s ∧ s ≤ 10000 := by
  simp only [moB, coB, Bool.and_eq_true] at h
  exact ⟨of_inB h.1.1, of_inB h.1.2, of_inB h.2.1, of_inB h.2.2.1, of_inB h.2.2.2⟩
theorem step_bd {n p : Int} (hn : 0 ≤ n ∧ n ≤ 100) (hp : -1000 ≤ p ∧ p ≤ 1000) : -100000 ≤ n * p ∧ n * p ≤ 100000 := by
  have h1 : n * p ≤ n * 1000 := Int.mul_le_mul_of_nonneg_left hp.2 hn.1
  have h2 : n * (-1000) ≤ n * p := Int.mul_le_mul_of_nonneg_left hp.1 hn.1
  omega
theorem impl_isReach' (n : Int) (b : Bool) (w : World) (h : inB n (-100000) 100000 = b) : Calls Tryd.prog 37 #[.int .i64 n] w fun e w' => e = .returned (.bool b) ∧ w' = w := by
  rw [← h]; exact (impl_isReach n w).mono fun _ _ ⟨a, b⟩ => ⟨a, b.symm⟩
end Go.Proofs.YthbljfanoaibkaaDoor
