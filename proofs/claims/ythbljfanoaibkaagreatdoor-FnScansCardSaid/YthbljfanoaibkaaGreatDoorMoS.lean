/- Lists of motions, codes of gates: contracts. -/
import Derived.Test.YthbljfanoaibkaaGreatDoorCtA
namespace Go.Proofs.YthbljfanoaibkaaGreatDoor
open Go.RowKit Go.ChangeShapes Go.WideShapes Go.ChangeAt
set_option linter.unusedVariables false
set_option linter.unusedSimpArgs false
structure Mo where
  x : Int
  y : Int
  p : Int
  q : Int
  s : Int
def mol (m : Mo) : List Int := [m.x, m.y, m.p, m.q, m.s]
def mom (l : List Int) : Mo := ⟨l.getD 0 0, l.getD 1 0, l.getD 2 0, l.getD 3 0, l.getD 4 0⟩
theorem mol_len (m : Mo) : (mol m).length = 5 := rfl
theorem mom_inv (l : List Int) (h : l.length = 5) : mol (mom l) = l := by
  match l, h with
  | [a, b, c, d, e], _ => rfl
/-- a slice of motions -/
def M64 (w : World) (B : Nat) (A : Option Addr) (ms : List Mo) : Prop := S64 mol w B A ms
section
variable {w w' : World} {B B' : Nat} {A : Option Addr} {ms : List Mo}
theorem M64.below (h : M64 w B A ms) (hb : Below B w w') : M64 w' B A ms := S64.below h hb
theorem M64.more (h : M64 w B A ms) (hB : B ≤ B') : M64 w B' A ms := S64.more h hB
theorem M64.up (h : M64 w w.heap.size A ms) (hb : Below w.heap.size w w') : M64 w' w'.heap.size A ms := S64.up h hb
theorem M64.nil : M64 w B A [] := S64.nil
theorem M64.at_ {i : Nat} {x y p q s : Int} (h : M64 w B A ms) (hx : ms[i]? = some ⟨x, y, p, q, s⟩) : ∃ b o, A = some ⟨b, o, none⟩ ∧ b < B ∧ w.cell? ⟨b, o + i * 5, none⟩ = some (.int .i64 x) ∧ w.cell? ⟨b, o + i * 5 + 1, none⟩ = some (.int .i64 y) ∧
    w.cell? ⟨b, o + i * 5 + 2, none⟩ = some (.int .i64 p) ∧ w.cell? ⟨b, o + i * 5 + 3, none⟩ = some (.int .i64 q) ∧ w.cell? ⟨b, o + i * 5 + 4, none⟩ = some (.int .i64 s) := by
  obtain ⟨b, o, h1, h2, h3⟩ := S64.at_ mol_len (by omega) h hx
  exact ⟨b, o, h1, h2, h3 0 x rfl, h3 1 y rfl, h3 2 p rfl, h3 3 q rfl, h3 4 s rfl⟩
/-- one motion in a block of its own -/
theorem M64.one {W : World} {b : Nat} {x y p q s : Int} (h0 : W.cell? ⟨b, 0, none⟩ = some (.int .i64 x)) (h1 : W.cell? ⟨b, 1, none⟩ = some (.int .i64 y)) (h2 : W.cell? ⟨b, 2, none⟩ = some (.int .i64 p)) (h3 : W.cell? ⟨b, 3, none⟩ = some (.int .i64 q)) (h4 : W.cell? ⟨b, 4, none⟩ = some (.int .i64 s)) :
    M64 W W.heap.size (some ⟨b, 0, none⟩) [⟨x, y, p, q, s⟩] :=
  .inr ⟨b, 0, rfl, World.block_lt_of_cell? W ⟨b, 0, none⟩ h0, fun j v hj => by
    have hl : j < 5 := by have := (List.getElem?_eq_some_iff.1 hj).1; simpa [flat, mol] using this
    have hc : j = 0 ∨ j = 1 ∨ j = 2 ∨ j = 3 ∨ j = 4 := by omega
    rcases hc with rfl | rfl | rfl | rfl | rfl <;> (simp [flat, mol] at hj; subst hj; assumption)⟩
end
def mssB (ms : List Mo) : Bool := ms.all fun m => moB m.x m.y m.p m.q m.s
theorem mssB_snoc {ms : List Mo} {k : Nat} {x y p q s : Int} (h : ms[k]? = some ⟨x, y, p, q, s⟩) : mssB (ms.take (k + 1)) = (mssB (ms.take k) && moB x y p q s) := by
  rw [take_snoc h, mssB, List.all_append]; simp [mssB]
theorem mssB_no {ms : List Mo} {k : Nat} {x y p q s : Int} (h : ms[k]? = some ⟨x, y, p, q, s⟩) (hx : moB x y p q s = false) : mssB ms = false := by
  rw [mssB, List.all_eq_false]
  exact ⟨_, List.mem_of_getElem? h, by simp [hx]⟩
theorem mssB_of {ms : List Mo} {k : Nat} {x y p q s : Int} (h : mssB ms = true) (hk : ms[k]? = some ⟨x, y, p, q, s⟩) : moB x y p q s = true :=
  List.all_eq_true.1 h _ (List.mem_of_getElem? hk)
/-- the code of motions and contacts -/
def gCode (ms : List Mo) (cs : List (Int × Int)) : Int := if mssB ms && ctsB cs then (if ms.length ≤ 6 ∧ cs.length ≤ 6 then 0 else 3) else 1
end Go.Proofs.YthbljfanoaibkaaGreatDoor
