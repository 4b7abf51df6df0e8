/- Cells and marks of local blocks behind calls, allocations and stores. -/
import Derived.Test.YtgokiedhdihamaaDoorBase
namespace Go.Proofs.YtgokiedhdihamaaDoor
open Go.RowKit
theorem bx_keep {W w' : World} (hb : Below W.heap.size W w') {X o : Nat} {v : Value} (h : W.cell? ⟨X, o, none⟩ = some v) : w'.cell? ⟨X, o, none⟩ = some v :=
  (hb.cell (p := ⟨X, o, none⟩) (World.block_lt_of_cell? W ⟨X, o, none⟩ h)).trans h
theorem bx_alloc {W : World} {ob : Obj} {X o : Nat} {v : Value} (h : W.cell? ⟨X, o, none⟩ = some v) : (W.alloc ob).cell? ⟨X, o, none⟩ = some v :=
  (World.cell?_alloc_lt W ob ⟨X, o, none⟩ (World.block_lt_of_cell? W ⟨X, o, none⟩ h)).trans h
theorem bx_new {W : World} {cs : Array Value} {t : TypeId} {X o : Nat} {v : Value} (hX : X = W.heap.size) (h : cs[o]? = some v) : (W.alloc (.cells cs t)).cell? ⟨X, o, none⟩ = some v := by
  subst hX; rw [World.cell?_alloc_new]; exact h
theorem bm_keep {W w' : World} (hb : Below W.heap.size W w') {X : Nat} (hx : X < W.heap.size) (h : ∀ o, W.frozen? ⟨X, o, none⟩ = false) : ∀ o, w'.frozen? ⟨X, o, none⟩ = false := fun o => (hb.frozen (p := ⟨X, o, none⟩) hx).trans (h o)
theorem bm_new {W : World} {cs : Array Value} {t : TypeId} {X : Nat} (hX : X = W.heap.size) : ∀ o, (W.alloc (.cells cs t)).frozen? ⟨X, o, none⟩ = false := fun o => World.frozen?_alloc_at cs t X o hX
theorem bm_old {W : World} {ob : Obj} {X : Nat} (hX : X < W.heap.size) (h : ∀ o, W.frozen? ⟨X, o, none⟩ = false) : ∀ o, (W.alloc ob).frozen? ⟨X, o, none⟩ = false := fun o => (World.frozen?_alloc_past ob X o hX).trans (h o)
theorem bm_set {W : World} {X : Nat} {b : Addr} {v : Value} (h : ∀ o, W.frozen? ⟨X, o, none⟩ = false) : ∀ o, (W.setCell b v).frozen? ⟨X, o, none⟩ = false := fun o => by rw [World.frozen?_setCell]; exact h o
theorem bm_drew {W : World} {n X : Nat} (h : ∀ o, W.frozen? ⟨X, o, none⟩ = false) : ∀ o, (W.drewN n).frozen? ⟨X, o, none⟩ = false := h
theorem bm_drew1 {W : World} {X : Nat} (h : ∀ o, W.frozen? ⟨X, o, none⟩ = false) : ∀ o, W.drew.frozen? ⟨X, o, none⟩ = false := h
theorem bx_same {W : World} {X o : Nat} {u v : Value} (h : W.cell? ⟨X, o, none⟩ = some u) : (W.setCell ⟨X, o, none⟩ v).cell? ⟨X, o, none⟩ = some v := World.cell?_setCell_same W _ v h
theorem bx_other {W : World} {X Y o p : Nat} {u v : Value} (hne : ¬ (Y = X ∧ p = o)) (h : W.cell? ⟨X, o, none⟩ = some u) : (W.setCell ⟨Y, p, none⟩ v).cell? ⟨X, o, none⟩ = some u :=
  (World.cell?_setCell_other W (a := ⟨Y, p, none⟩) (b := ⟨X, o, none⟩) v (fun e => hne (by simp only [Addr.mk.injEq] at e; exact ⟨e.1, e.2.1⟩))).trans h
theorem bx_drew {W : World} {n : Nat} {X o : Nat} {v : Value} (h : W.cell? ⟨X, o, none⟩ = some v) : (W.drewN n).cell? ⟨X, o, none⟩ = some v := h
theorem bx_drew1 {W : World} {X o : Nat} {v : Value} (h : W.cell? ⟨X, o, none⟩ = some v) : W.drew.cell? ⟨X, o, none⟩ = some v := h
theorem bx_id {w : World} {X o : Nat} {v : Value} (h : w.cell? ⟨X, o, none⟩ = some v) : w.cell? ⟨X, o, none⟩ = some v := h
theorem wp_gen {P : Program} {c : Code} {Q : Exit → Act → World → Prop} {a : Act} {W : World} (h : ∀ W', W' = W → Code.wp P c Q a W') : Code.wp P c Q a W := h W rfl
theorem q_gen {Q : Exit → Act → World → Prop} {e : Exit} {a : Act} {W : World} (h : ∀ W', W' = W → Q e a W') : Q e a W := h W rfl
/-- a cell's fact, by the words above -/
theorem bxc {p : Prop} (h : p := by repeat' (first | (with_reducible assumption) | ((with_reducible apply bx_new) <;> first | (simp only [World.size_alloc, World.size_setCell]; done) | rfl) | (with_reducible apply bx_alloc) | (with_reducible apply bx_other; (first | (simp only [World.size_alloc, World.size_setCell]; omega) | omega)) | (with_reducible apply bx_same) | (with_reducible apply bx_drew) | (with_reducible apply bx_drew1) | (with_reducible apply bx_keep; with_reducible assumption) | fail)) : p := h
/-- a mark's fact -/
theorem bxm {p : Prop} (h : p := by repeat' (first | (with_reducible assumption) | (with_reducible apply bm_set) | ((with_reducible apply bm_new) <;> (simp only [World.size_alloc, World.size_setCell, World.size_drew]; done)) | (with_reducible apply bm_old; (first | omega | (simp only [World.size_alloc, World.size_setCell, World.size_drew]; omega))) | (with_reducible apply bm_drew) | (with_reducible apply bm_drew1) | (with_reducible apply bm_keep; (with_reducible assumption); (first | omega | (simp only [World.size_alloc, World.size_setCell, World.size_drew]; omega))) | fail)) : p := h
end Go.Proofs.YtgokiedhdihamaaDoor
