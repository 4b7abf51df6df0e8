/- The draws of motions, contacts and lists of contacts: contracts. Printed by gen_drm.py. -/
import Derived.Test.YtdedmiennpbfcaaDraw
import Derived.Test.YtdedmiennpbfcaaSSLaw
import Derived.Test.YtdedmiennpbfcaaRegKit
import Derived.Test.YtdedmiennpbfcaaOwnS
namespace Go.Proofs.Ytdedmiennpbfcaa
open Go.RowKit Go.ChangeShapes Go.WideShapes Go.ChangeAt
set_option linter.unusedVariables false
set_option linter.unusedSimpArgs false
/-- a block of int64 cells -/
def IBox (w : World) (T : TypeId) (X : Nat) (l : List Int) : Prop := w.heap[X]? = some (.cells (l.map (Value.int .i64)).toArray T (0, 0))
section
variable {w w' : World} {T : TypeId} {X : Nat} {l : List Int}
theorem IBox.new (hX : X = w.heap.size) : IBox (w.alloc (.cells (l.map (Value.int .i64)).toArray T)) T X l := by subst hX; exact heap_alloc_new w _
theorem IBox.lt (h : IBox w T X l) : X < w.heap.size := (Array.getElem?_eq_some_iff.1 h).1
theorem IBox.below {B : Nat} (h : IBox w T X l) (hb : Below B w w') (hX : X < B) : IBox w' T X l := (hb.block X hX).trans h
theorem IBox.next (h : IBox w T X l) (hb : Below w.heap.size w w') : IBox w' T X l := h.below hb h.lt
theorem IBox.alloc (h : IBox w T X l) (o : Obj) : IBox (w.alloc o) T X l := h.next (Below.new (Below.refl _ _) o)
theorem IBox.grown {row : Option Nat} (h : IBox w T X l) (hg : w.grownBy w' row) (hne : some X ≠ row) : IBox w' T X l := (hg.block X h.lt hne).trans h
theorem IBox.src {g : Nat} (h : IBox w T X l) (hg : w.grownBy w' (some g)) (hX : g < X) : IBox w' T X l := h.grown hg (by simp; omega)
theorem IBox.far {Y o : Nat} {u : Value} (h : IBox w T X l) (hne : Y ≠ X) : IBox (w.setCell ⟨Y, o, none⟩ u) T X l := (Below.heap_setCell w ⟨Y, o, none⟩ u X (fun e => hne e.symm)).trans h
theorem IBox.drew (h : IBox w T X l) : IBox w.drew T X l := h
theorem IBox.drewN (h : IBox w T X l) (n : Nat) : IBox (w.drewN n) T X l := h
theorem IBox.cell (h : IBox w T X l) {j : Nat} {z : Int} (hz : l[j]? = some z) : w.cell? ⟨X, j, none⟩ = some (.int .i64 z) := by
  have h' : w.heap[X]? = some (.cells (l.map (Value.int .i64)).toArray T (0, 0)) := h
  simp [World.cell?, h', hz]
theorem IBox.fz (h : IBox w T X l) : ∀ o, w.frozen? ⟨X, o, none⟩ = false := fun o => by
  have h' : w.heap[X]? = some (.cells (l.map (Value.int .i64)).toArray T (0, 0)) := h
  simp [World.frozen?, h']
theorem IBox.set (h : IBox w T X l) (j : Nat) (z : Int) : IBox (w.setCell ⟨X, j, none⟩ (.int .i64 z)) T X (l.set j z) := by
  have h' : w.heap[X]? = some (.cells (l.map (Value.int .i64)).toArray T (0, 0)) := h
  show (w.setCell ⟨X, j, none⟩ (.int .i64 z)).heap[X]? = _
  simp [World.setCell, Array.getElem?_modify, h', List.map_set]
end
theorem calls_gen {P : Program} {n : Nat} {args : Array Value} {w : World} {Q : Ending → World → Prop} (h : ∀ W, W = w → Calls P n args W Q) : Calls P n args w Q := h w rfl
theorem grownBy_drew {a w : World} {row : Option Nat} (h : a.grownBy w row) : a.grownBy w.drew row := ⟨h.os, h.tape, h.output, h.size, h.block⟩
theorem Src.drewS {w : World} {B g : Nat} (h : Src w B g) : Src w.drew B g := h
theorem Src.setX {w : World} {B g X o : Nat} {v : Value} (h : Src w B g) (hX : g < X) : Src (w.setCell ⟨X, o, none⟩ v) B g :=
  h.other (row := some X) ⟨rfl, rfl, rfl, by simp [World.setCell], fun i hi hne => Below.heap_setCell w ⟨X, o, none⟩ v i (fun e => hne (by rw [e]))⟩ (fun k hk => by simp at hk; omega)
theorem grownBy_setX {a w : World} {row : Option Nat} {X o : Nat} {v : Value} (h : a.grownBy w row) (hX : a.heap.size ≤ X) : a.grownBy (w.setCell ⟨X, o, none⟩ v) row :=
  ⟨h.os, h.tape, h.output, by simpa [World.setCell] using h.size, fun i hi hne => (Below.heap_setCell w ⟨X, o, none⟩ v i (fun e => by have e : i = X := e; omega)).trans (h.block i hi hne)⟩
theorem grownBy_below {a w w' : World} {row : Option Nat} {lo : Nat} (h : a.grownBy w row) (hb : Below lo w w') (hl : a.heap.size ≤ lo) : a.grownBy w' row := ⟨hb.os.trans h.os, hb.tape.trans h.tape, hb.output.trans h.output, Nat.le_trans h.size hb.size, fun i hi hn => (hb.block i (by omega)).trans (h.block i hi hn)⟩
theorem grownBy_src {a w w' : World} {row : Option Nat} (h : a.grownBy w row) (hg : w.grownBy w' row) : a.grownBy w' row := grownBy_trans h hg
end Go.Proofs.Ytdedmiennpbfcaa
