/- A block of values as one fact. No function of the program. -/
import Derived.Test.YtgokiedhdihamaaDoorLawKit
import Derived.Test.YtgokiedhdihamaaDoorBox
import Derived.Deep.DrawnRows
namespace Go.Proofs.YtgokiedhdihamaaDoor
open Go.RowKit Go.ChangeShapes Go.WideShapes Go.ChangeAt
set_option linter.unusedVariables false
set_option linter.unusedSimpArgs false
/-- a block whose cells are known -/
def VBox (w : World) (T : TypeId) (X : Nat) (l : List Value) : Prop := w.heap[X]? = some (.cells l.toArray T (0, 0))
section
variable {w w' : World} {T : TypeId} {X : Nat} {l : List Value}
theorem VBox.new (hX : X = w.heap.size) : VBox (w.alloc (.cells l.toArray T)) T X l := by subst hX; exact heap_alloc_new w _
theorem VBox.lt (h : VBox w T X l) : X < w.heap.size := (Array.getElem?_eq_some_iff.1 h).1
theorem VBox.below {B : Nat} (h : VBox w T X l) (hb : Below B w w') (hX : X < B) : VBox w' T X l := (hb.block X hX).trans h
theorem VBox.next (h : VBox w T X l) (hb : Below w.heap.size w w') : VBox w' T X l := h.below hb h.lt
theorem VBox.alloc (h : VBox w T X l) (o : Obj) : VBox (w.alloc o) T X l := h.next (Below.new (Below.refl _ _) o)
theorem VBox.grown {row : Option Nat} (h : VBox w T X l) (hg : w.grownBy w' row) (hne : some X ≠ row) : VBox w' T X l := (hg.block X h.lt hne).trans h
theorem VBox.src {g : Nat} (h : VBox w T X l) (hg : w.grownBy w' (some g)) (hX : g < X) : VBox w' T X l := h.grown hg (by simp; omega)
theorem VBox.far {Y o : Nat} {u : Value} (h : VBox w T X l) (hne : Y ≠ X) : VBox (w.setCell ⟨Y, o, none⟩ u) T X l := (Below.heap_setCell w ⟨Y, o, none⟩ u X (fun e => hne e.symm)).trans h
theorem VBox.drew (h : VBox w T X l) : VBox w.drew T X l := h
theorem VBox.cell (h : VBox w T X l) {j : Nat} {z : Value} (hz : l[j]? = some z) : w.cell? ⟨X, j, none⟩ = some z := by
  have h' : w.heap[X]? = some (.cells l.toArray T (0, 0)) := h
  simp [World.cell?, h', hz]
theorem VBox.fz (h : VBox w T X l) : ∀ o, w.frozen? ⟨X, o, none⟩ = false := fun o => by
  have h' : w.heap[X]? = some (.cells l.toArray T (0, 0)) := h
  simp [World.frozen?, h']
theorem VBox.set (h : VBox w T X l) (j : Nat) (z : Value) : VBox (w.setCell ⟨X, j, none⟩ z) T X (l.set j z) := by
  have h' : w.heap[X]? = some (.cells l.toArray T (0, 0)) := h
  show (w.setCell ⟨X, j, none⟩ z).heap[X]? = _
  simp [World.setCell, Array.getElem?_modify, h']
end
end Go.Proofs.YtgokiedhdihamaaDoor
