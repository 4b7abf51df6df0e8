/- Slices of contacts and motions in the laws: sized, copied, compared. -/
import Derived.Test.YthbljfanoaibkaaGreatDoorSSMem
import Derived.Test.YthbljfanoaibkaaGreatDoorMKit
import Derived.Test.YthbljfanoaibkaaGreatDoorTrA
import Derived.Deep.RegionHeld3
namespace Go.Proofs.YthbljfanoaibkaaGreatDoor
open Go.RowKit Go.ChangeShapes Go.WideShapes Go.ChangeAt
set_option linter.unusedVariables false
set_option linter.unusedSimpArgs false
def ctl (c : Int × Int) : List Int := [c.1, c.2]
def ctm (l : List Int) : Int × Int := (l.getD 0 0, l.getD 1 0)
theorem ctl_len (c : Int × Int) : (ctl c).length = 2 := rfl
theorem ctm_inv (l : List Int) (h : l.length = 2) : ctl (ctm l) = l := by
  match l, h with
  | [a, b], _ => rfl
/-- a slice of contacts -/
def C64 (w : World) (B : Nat) (A : Option Addr) (cs : List (Int × Int)) : Prop := S64 ctl w B A cs
section
variable {w w' : World} {B B' : Nat} {A : Option Addr} {cs : List (Int × Int)}
theorem C64.below (h : C64 w B A cs) (hb : Below B w w') : C64 w' B A cs := S64.below h hb
theorem C64.more (h : C64 w B A cs) (hB : B ≤ B') : C64 w B' A cs := S64.more h hB
theorem C64.up (h : C64 w w.heap.size A cs) (hb : Below w.heap.size w w') : C64 w' w'.heap.size A cs := S64.up h hb
theorem C64.nil : C64 w B A [] := S64.nil
theorem C64.at_ {i : Nat} {x y : Int} (h : C64 w B A cs) (hx : cs[i]? = some (x, y)) : ∃ b o, A = some ⟨b, o, none⟩ ∧ b < B ∧ w.cell? ⟨b, o + i * 2, none⟩ = some (.int .i64 x) ∧ w.cell? ⟨b, o + i * 2 + 1, none⟩ = some (.int .i64 y) := by
  obtain ⟨b, o, h1, h2, h3⟩ := S64.at_ ctl_len (by omega) h hx
  exact ⟨b, o, h1, h2, h3 0 x rfl, h3 1 y rfl⟩
end
end Go.Proofs.YthbljfanoaibkaaGreatDoor
