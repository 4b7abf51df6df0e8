/- New mosaics: contracts of both NewMosaic. -/
import Derived.Test.YtdedmiennpbfcaaNewA
import Derived.Test.YtdedmiennpbfcaaNewS
namespace Go.Proofs.Ytdedmiennpbfcaa
open Go.RowKit Go.ChangeShapes Go.WideShapes Go.ChangeAt
set_option linter.unusedVariables false
set_option linter.unusedSimpArgs false
def sideB (p q : Int) : Bool := inB p 1 40 && inB q 1 40
def nmv (p q : Int) : List Int := if sideB p q then List.replicate (p * q).toNat (-1) else []
def nmg (p q : Int) : List Int := if sideB p q then List.replicate (p * q).toNat 0 else []
def nms (p q a : Int) : Int := if sideB p q then a else 0
def nmc (p q : Int) : Int := if sideB p q then 0 else 2
theorem side_facts {p q : Int} (h : sideB p q = true) : (1 ≤ p ∧ p ≤ 40) ∧ (1 ≤ q ∧ q ≤ 40) ∧ ∃ n : Nat, p * q = (n : Int) ∧ (p * q).toNat = n ∧ 1 ≤ n ∧ n ≤ 1600 := by
  simp only [sideB, Bool.and_eq_true] at h
  have h3 := side_bd h.1 h.2
  exact ⟨of_inB h.1, of_inB h.2, (p * q).toNat, by omega, rfl, by omega, by omega⟩
theorem nmv_len {p q : Int} : (nmv p q).length ≤ 1600 := by
  unfold nmv
  split
  · rename_i h; obtain ⟨_, _, n, _, e, _, h2⟩ := side_facts h; rw [e]; simpa using h2
  · simp
theorem nmg_len {p q : Int} : (nmg p q).length ≤ 1600 := by
  unfold nmg
  split
  · rename_i h; obtain ⟨_, _, n, _, e, _, h2⟩ := side_facts h; rw [e]; simpa using h2
  · simp
/-- a value of the call's own and another in a block of its own -/
def Apart2 (v u : Value) : Prop := v.ownBlock = none ∨ v.ownBlock ≠ u.ownBlock
theorem apart_nm {w : World} {base : Nat} {v u : Value} {n : Nat} (hv : OwnI w base v (List.replicate n (-1))) (hu : OwnI w base u (List.replicate n 0)) (hn : 1 ≤ n) : Apart2 v u := by
  obtain ⟨m, rfl⟩ : ∃ m, n = m + 1 := ⟨n - 1, by omega⟩
  rw [List.replicate_succ] at hv hu
  obtain ⟨A, c, rfl, _⟩ := id hu
  obtain ⟨g, rfl, _, hc, _⟩ := hu.cell (k := 0) (x := 0) rfl
  exact .inr fun e => own_ne_cell hv hc (by simp) (e.trans (by simp [Value.ownBlock]))
end Go.Proofs.Ytdedmiennpbfcaa
