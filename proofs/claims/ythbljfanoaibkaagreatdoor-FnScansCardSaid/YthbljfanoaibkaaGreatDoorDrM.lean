/- The draws of motions, contacts and lists of contacts: contracts. Printed by gen_drm.py. -/
import Derived.Test.YthbljfanoaibkaaGreatDoorDraw
import Derived.Test.YthbljfanoaibkaaGreatDoorSSLaw
import Derived.Test.YthbljfanoaibkaaGreatDoorMKit
import Derived.Test.YthbljfanoaibkaaGreatDoorOwnS
namespace Go.Proofs.YthbljfanoaibkaaGreatDoor
open Go.RowKit Go.ChangeShapes Go.WideShapes Go.ChangeAt
set_option linter.unusedVariables false
set_option linter.unusedSimpArgs false
/-- a block of int64 cells -/
def IBox (w : World) (T : TypeId) (X : Nat) (l : List Int) : Prop := w.heap[X]? = some (.cells (l.map (Value.int .i64)).toArray T (0, 0))
section
variable {w w' : World} {T : TypeId} {X : Nat} {l : List Int}
theorem IBox.new (hX : X = w.heap.size) : IBox (w.alloc (.cells (l.map (Value.int .i64)).toArray T)) T X l := by subst hX; exact heap_alloc_new w _
theorem IBox.lt (h : IBox w T X l) : X < w.heap.size := (Array.getElem?_eq_some_iff.1 h).1
theorem IBox.below {B : Nat} (h : IBox w T X l) (hb : Below B w w') (hX : X < B) : IBox w' T X l := (hb.block X hX).trans h
theorem IBox.next (h : IBox w T X l) (hb : Below w.heap.size w w') : IBox w' T X l := h.below hb h.lt
theorem IBox.alloc (h : IBox w T X l) (o : Obj) : IBox (w.alloc o) T X l := h.next (Below.new (Below.refl _ _) o)
theorem IBox.grown {row : Option Nat} (h : IBox w T X l) (hg : w.grownBy w' row) (hne : some X ≠ row) : IBox w' T X l := (hg.block X h.lt hne).trans h
theorem IBox.src {g : Nat} (h : IBox w T X l) (hg : w.grownBy w' (some g)) (hX : g < X) : IBox w' T X l := h.grown hg (by simp; omega)
theorem IBox.far {Y o : Nat} {u : Value} (h : IBox w T X l) (hne : Y ≠ X) : IBox (w.setCell ⟨Y, o, none⟩ u) T X l := (Below.heap_setCell w ⟨Y, o, none⟩ u X (fun e => hne e.symm)).trans h
theorem IBox.drew (h : IBox w T X l) : IBox w.drew T X l := h
theorem IBox.drewN (h : IBox w T X l) (n : Nat) : IBox (w.drewN n) T X l := h
theorem IBox.cell (h : IBox w T X l) {j : Nat} {z : Int} (hz : l[j]? = some z) : w.cell? ⟨X, j, none⟩ = some (.int .i64 z) := by
  have h' : w.heap[X]? = some (.cells (l.map (Value.int .i64)).toArray T (0, 0)) := h
  simp [World.cell?, h', hz]
theorem IBox.fz (h : IBox w T X l) : ∀ o, w.frozen? ⟨X, o, none⟩ = false := fun o => by
  have h' : w.heap[X]? = some (.cells (l.map (Value.int .i64)).toArray T (0, 0)) := h
  simp [World.frozen?, h']
theorem IBox.set (h : IBox w T X l) (j : Nat) (z : Int) : IBox (w.setCell ⟨X, j, none⟩ (.int .i64 z)) T X (l.set j z) := by
  have h' : w.heap[X]? = some (.cells (l.map (Value.int .i64)).toArray T (0, 0)) := h
  show (w.setCell ⟨X, j, none⟩ (.int .i64 z)).heap[X]? = _
  simp [World.setCell, Array.getElem?_modify, h', List.map_set]
end
theorem calls_gen {P : Program} {n : Nat} {args : Array Value} {w : World} {Q : Ending → World → Prop} (h : ∀ W, W = w → Calls P n args W Q) : Calls P n args w Q := h w rfl
theorem grownBy_drew {a w : World} {row : Option Nat} (h : a.grownBy w row) : a.grownBy w.drew row := ⟨h.os, h.tape, h.output, h.size, h.block⟩
theorem Src.drewS {w : World} {B g : Nat} (h : Src w B g) : Src w.drew B g := h
theorem Src.setX {w : World} {B g X o : Nat} {v : Value} (h : Src w B g) (hX : g < X) : Src (w.setCell ⟨X, o, none⟩ v) B g :=
  h.other (row := some X) ⟨rfl, rfl, rfl, by simp [World.setCell], fun i hi hne => Below.heap_setCell w ⟨X, o, none⟩ v i (fun e => hne (by rw [e]))⟩ (fun k hk => by simp at hk; omega)
theorem grownBy_setX {a w : World} {row : Option Nat} {X o : Nat} {v : Value} (h : a.grownBy w row) (hX : a.heap.size ≤ X) : a.grownBy (w.setCell ⟨X, o, none⟩ v) row :=
  ⟨h.os, h.tape, h.output, by simpa [World.setCell] using h.size, fun i hi hne => (Below.heap_setCell w ⟨X, o, none⟩ v i (fun e => by have e : i = X := e; omega)).trans (h.block i hi hne)⟩
theorem grownBy_below {a w w' : World} {row : Option Nat} {lo : Nat} (h : a.grownBy w row) (hb : Below lo w w') (hl : a.heap.size ≤ lo) : a.grownBy w' row := ⟨hb.os.trans h.os, hb.tape.trans h.tape, hb.output.trans h.output, Nat.le_trans h.size hb.size, fun i hi hn => (hb.block i (by omega)).trans (h.block i hi hn)⟩
theorem grownBy_src {a w w' : World} {row : Option Nat} (h : a.grownBy w row) (hg : w.grownBy w' row) : a.grownBy w' row := grownBy_trans h hg
set_option maxRecDepth 100000 in
set_option maxHeartbeats 3200000 in
theorem spec_l14DrawMotion (B g : Nat) (w : World) (hs : Src w B g) :
    Calls Tryz.prog 60 #[.pointer (some ⟨g, 0, none⟩)] w fun e w' => ∃ x y p q s, e = .returned (.agg #[.int .i64 x, .int .i64 y, .int .i64 p, .int .i64 q, .int .i64 s]) ∧ Src w' B g ∧ w.grownBy w' (some g) := by
  have hlt := hs.lt
  go_enter Tryz.func60, Tryz.ntmps60
  go_wp2_with fail
  refine calls_gen (fun W0 hW0 => ?_)
  have rb : IBox W0 38 w.heap.size [0, 0, 0, 0, 0] := by rw [hW0]; exact IBox.new (w := w) (T := 38) (l := [0, 0, 0, 0, 0]) rfl
  have hs0 : Src W0 B g := by rw [hW0]; exact hs.alloc _
  have G : w.grownBy W0 (some g) := by rw [hW0]; exact grownBy_alloc' (World.grownBy.refl _ _) _
  have z0 := rb.lt
  clear hW0 hs
  refine (spec_l01Next _ _ _ _ hs0 (by omega)).mono ?_
  rintro e w1 ⟨r1, rfl, ⟨hr1, ht1⟩, hs1, hg1⟩
  have rb := rb.src hg1 (by omega)
  have G := grownBy_src G hg1
  have z1 := rb.lt
  clear hg1 hs0
  go_wp2_with fail
  refine (spec_l01Next _ _ _ _ hs1 (by omega)).mono ?_
  rintro e w2 ⟨r2, rfl, ⟨hr2, ht2⟩, hs2, hg2⟩
  have rb := rb.src hg2 (by omega)
  have G := grownBy_src G hg2
  have z2 := rb.lt
  clear hg2 hs1
  go_wp2_with fail
  refine (spec_l01Next _ _ _ _ hs2 (by omega)).mono ?_
  rintro e w3 ⟨r3, rfl, ⟨hr3, ht3⟩, hs3, hg3⟩
  have rb := rb.src hg3 (by omega)
  have G := grownBy_src G hg3
  have z3 := rb.lt
  clear hg3 hs2
  go_wp2_with fail
  refine (spec_l01Next _ _ _ _ hs3 (by omega)).mono ?_
  rintro e w4 ⟨r4, rfl, ⟨hr4, ht4⟩, hs4, hg4⟩
  have rb := rb.src hg4 (by omega)
  have G := grownBy_src G hg4
  have z4 := rb.lt
  clear hg4 hs3
  go_wp2_with fail
  refine (pick5 _ _ _ _ _ _ _ _ _ (hs4.alloc _) (by exact heap_alloc_new _ _) (by omega)).mono ?_
  rintro e w5 ⟨r5, rfl, hr5, hs5, hg5⟩
  have rb := (rb.alloc _).src hg5 (by omega)
  have G := grownBy_src (grownBy_alloc' G _) hg5
  have z5 := rb.lt
  clear hg5 hs4 hr5
  go_wp2_with fail
  refine calls_gen (fun W6 hW6 => ?_)
  have mb : ∃ x y p q s, IBox W6 38 w5.heap.size [x, y, p, q, s] := ⟨r1 * 10 - 100, r2 * 10 - 100, r3 - 10, r4 - 10, r5, by rw [hW6]; exact IBox.new (w := w5) (T := 38) (l := [r1 * 10 - 100, r2 * 10 - 100, r3 - 10, r4 - 10, r5]) rfl⟩
  obtain ⟨x, y, p, q, s, mb⟩ := mb
  have rb : IBox W6 38 w.heap.size [0, 0, 0, 0, 0] := by rw [hW6]; exact rb.alloc _
  have hs6 : Src W6 B g := by rw [hW6]; exact (by repeat' (first | (with_reducible assumption) | (with_reducible refine Src.setX ?_ (by omega)) | (with_reducible refine Src.alloc ?_ _) | (with_reducible refine Src.drewS ?_)))
  have G : w.grownBy W6 (some g) := by rw [hW6]; exact (by repeat' (first | (with_reducible assumption) | (with_reducible refine grownBy_setX ?_ (by omega)) | (with_reducible refine grownBy_alloc' ?_ _) | (with_reducible refine grownBy_drew ?_)))
  clear hW6 hs5 hr1 hr2 hr3 hr4 ht1 ht2 ht3 ht4
  refine (spec_l01Next _ _ _ _ hs6 (by omega)).mono ?_
  rintro e w7 ⟨r7, rfl, ⟨hr7, ht7⟩, hs7, hg7⟩
  have rb := rb.src hg7 (by omega)
  have mb := mb.src hg7 (by omega)
  have G := grownBy_src G hg7
  have z7 := mb.lt
  clear hg7 hs6
  have fin : ∀ (W : World) (x y p q s : Int), IBox W 38 w5.heap.size [x, y, p, q, s] → True := fun _ _ _ _ _ _ _ => trivial
  by_cases q0 : r7 = 0
  · subst q0
    go_wp2_with ((first | (go_at_call 59; (first | (with_reducible refine (pick2 _ _ _ _ _ _ (by exact Src.alloc (by assumption) _) (by exact heap_alloc_new _ _) (by have := Src.lt (by assumption); omega)).mono ?_) | (with_reducible refine (pick3 _ _ _ _ _ _ _ (by exact Src.alloc (by assumption) _) (by exact heap_alloc_new _ _) (by have := Src.lt (by assumption); omega)).mono ?_) | (with_reducible refine (pick4 _ _ _ _ _ _ _ _ (by exact Src.alloc (by assumption) _) (by exact heap_alloc_new _ _) (by have := Src.lt (by assumption); omega)).mono ?_) | (with_reducible refine (pick5 _ _ _ _ _ _ _ _ _ (by exact Src.alloc (by assumption) _) (by exact heap_alloc_new _ _) (by have := Src.lt (by assumption); omega)).mono ?_) | (with_reducible refine (pick6 _ _ _ _ _ _ _ _ _ _ (by exact Src.alloc (by assumption) _) (by exact heap_alloc_new _ _) (by have := Src.lt (by assumption); omega)).mono ?_) | (with_reducible refine (pick7 _ _ _ _ _ _ _ _ _ _ _ (by exact Src.alloc (by assumption) _) (by exact heap_alloc_new _ _) (by have := Src.lt (by assumption); omega)).mono ?_)); rintro e w1 ⟨r1, rfl, hm1, hs1, hg1⟩)); (have mb := (mb.alloc _).src hg1 (by omega)); (have rb := (rb.alloc _).src hg1 (by omega)); (have G := grownBy_src (grownBy_alloc' G _) hg1); (have m0 := mb.cell (j := 0) rfl); (have m1 := mb.cell (j := 1) rfl); (have m2 := mb.cell (j := 2) rfl); (have m3 := mb.cell (j := 3) rfl); (have m4 := mb.cell (j := 4) rfl); (have mf := mb.fz); (have b0 := rb.cell (j := 0) rfl); (have b1 := rb.cell (j := 1) rfl); (have b2 := rb.cell (j := 2) rfl); (have b3 := rb.cell (j := 3) rfl); (have b4 := rb.cell (j := 4) rfl); (have bf := rb.fz))
    all_goals ((try simp only [Exit.inBlock, Exit.then]); refine bodyPost_ret (by simp [results, Tryz.results60, go_sem, *]; try rfl) rfl ?_)
    all_goals exact ⟨_, _, _, _, _, rfl, (by repeat' (first | (with_reducible assumption) | (with_reducible refine Src.setX ?_ (by omega)) | (with_reducible refine Src.alloc ?_ _) | (with_reducible refine Src.drewS ?_))), (by repeat' (first | (with_reducible assumption) | (with_reducible refine grownBy_setX ?_ (by omega)) | (with_reducible refine grownBy_alloc' ?_ _) | (with_reducible refine grownBy_drew ?_)))⟩
  have e0 : (r7 == 0) = false := by simpa using q0
  by_cases q1 : r7 = 1
  · subst q1
    go_wp2_with ((first | (go_at_call 59; (first | (with_reducible refine (pick2 _ _ _ _ _ _ (by exact Src.alloc (by assumption) _) (by exact heap_alloc_new _ _) (by have := Src.lt (by assumption); omega)).mono ?_) | (with_reducible refine (pick3 _ _ _ _ _ _ _ (by exact Src.alloc (by assumption) _) (by exact heap_alloc_new _ _) (by have := Src.lt (by assumption); omega)).mono ?_) | (with_reducible refine (pick4 _ _ _ _ _ _ _ _ (by exact Src.alloc (by assumption) _) (by exact heap_alloc_new _ _) (by have := Src.lt (by assumption); omega)).mono ?_) | (with_reducible refine (pick5 _ _ _ _ _ _ _ _ _ (by exact Src.alloc (by assumption) _) (by exact heap_alloc_new _ _) (by have := Src.lt (by assumption); omega)).mono ?_) | (with_reducible refine (pick6 _ _ _ _ _ _ _ _ _ _ (by exact Src.alloc (by assumption) _) (by exact heap_alloc_new _ _) (by have := Src.lt (by assumption); omega)).mono ?_) | (with_reducible refine (pick7 _ _ _ _ _ _ _ _ _ _ _ (by exact Src.alloc (by assumption) _) (by exact heap_alloc_new _ _) (by have := Src.lt (by assumption); omega)).mono ?_)); rintro e w1 ⟨r1, rfl, hm1, hs1, hg1⟩)); (have mb := (mb.alloc _).src hg1 (by omega)); (have rb := (rb.alloc _).src hg1 (by omega)); (have G := grownBy_src (grownBy_alloc' G _) hg1); (have m0 := mb.cell (j := 0) rfl); (have m1 := mb.cell (j := 1) rfl); (have m2 := mb.cell (j := 2) rfl); (have m3 := mb.cell (j := 3) rfl); (have m4 := mb.cell (j := 4) rfl); (have mf := mb.fz); (have b0 := rb.cell (j := 0) rfl); (have b1 := rb.cell (j := 1) rfl); (have b2 := rb.cell (j := 2) rfl); (have b3 := rb.cell (j := 3) rfl); (have b4 := rb.cell (j := 4) rfl); (have bf := rb.fz))
    all_goals ((try simp only [Exit.inBlock, Exit.then]); refine bodyPost_ret (by simp [results, Tryz.results60, go_sem, *]; try rfl) rfl ?_)
    all_goals exact ⟨_, _, _, _, _, rfl, (by repeat' (first | (with_reducible assumption) | (with_reducible refine Src.setX ?_ (by omega)) | (with_reducible refine Src.alloc ?_ _) | (with_reducible refine Src.drewS ?_))), (by repeat' (first | (with_reducible assumption) | (with_reducible refine grownBy_setX ?_ (by omega)) | (with_reducible refine grownBy_alloc' ?_ _) | (with_reducible refine grownBy_drew ?_)))⟩
  have e1 : (r7 == 1) = false := by simpa using q1
  by_cases q2 : r7 = 2
  · subst q2
    go_wp2_with ((first | (go_at_call 59; (first | (with_reducible refine (pick2 _ _ _ _ _ _ (by exact Src.alloc (by assumption) _) (by exact heap_alloc_new _ _) (by have := Src.lt (by assumption); omega)).mono ?_) | (with_reducible refine (pick3 _ _ _ _ _ _ _ (by exact Src.alloc (by assumption) _) (by exact heap_alloc_new _ _) (by have := Src.lt (by assumption); omega)).mono ?_) | (with_reducible refine (pick4 _ _ _ _ _ _ _ _ (by exact Src.alloc (by assumption) _) (by exact heap_alloc_new _ _) (by have := Src.lt (by assumption); omega)).mono ?_) | (with_reducible refine (pick5 _ _ _ _ _ _ _ _ _ (by exact Src.alloc (by assumption) _) (by exact heap_alloc_new _ _) (by have := Src.lt (by assumption); omega)).mono ?_) | (with_reducible refine (pick6 _ _ _ _ _ _ _ _ _ _ (by exact Src.alloc (by assumption) _) (by exact heap_alloc_new _ _) (by have := Src.lt (by assumption); omega)).mono ?_) | (with_reducible refine (pick7 _ _ _ _ _ _ _ _ _ _ _ (by exact Src.alloc (by assumption) _) (by exact heap_alloc_new _ _) (by have := Src.lt (by assumption); omega)).mono ?_)); rintro e w1 ⟨r1, rfl, hm1, hs1, hg1⟩)); (have mb := (mb.alloc _).src hg1 (by omega)); (have rb := (rb.alloc _).src hg1 (by omega)); (have G := grownBy_src (grownBy_alloc' G _) hg1); (have m0 := mb.cell (j := 0) rfl); (have m1 := mb.cell (j := 1) rfl); (have m2 := mb.cell (j := 2) rfl); (have m3 := mb.cell (j := 3) rfl); (have m4 := mb.cell (j := 4) rfl); (have mf := mb.fz); (have b0 := rb.cell (j := 0) rfl); (have b1 := rb.cell (j := 1) rfl); (have b2 := rb.cell (j := 2) rfl); (have b3 := rb.cell (j := 3) rfl); (have b4 := rb.cell (j := 4) rfl); (have bf := rb.fz))
    all_goals ((try simp only [Exit.inBlock, Exit.then]); refine bodyPost_ret (by simp [results, Tryz.results60, go_sem, *]; try rfl) rfl ?_)
    all_goals exact ⟨_, _, _, _, _, rfl, (by repeat' (first | (with_reducible assumption) | (with_reducible refine Src.setX ?_ (by omega)) | (with_reducible refine Src.alloc ?_ _) | (with_reducible refine Src.drewS ?_))), (by repeat' (first | (with_reducible assumption) | (with_reducible refine grownBy_setX ?_ (by omega)) | (with_reducible refine grownBy_alloc' ?_ _) | (with_reducible refine grownBy_drew ?_)))⟩
  have e2 : (r7 == 2) = false := by simpa using q2
  by_cases q3 : r7 = 3
  · subst q3
    go_wp2_with (go_at_call 20; refine (spec_l01Next _ _ _ _ hs7 (by omega)).mono ?_; rintro e w1 ⟨r1, rfl, ⟨hr1, ht1⟩, hs1, hg1⟩; (have mb := mb.src hg1 (by omega)); (have rb := rb.src hg1 (by omega)); (have G := grownBy_src G hg1); (have m0 := mb.cell (j := 0) rfl); (have m1 := mb.cell (j := 1) rfl); (have m2 := mb.cell (j := 2) rfl); (have m3 := mb.cell (j := 3) rfl); (have m4 := mb.cell (j := 4) rfl); (have mf := mb.fz); (have b0 := rb.cell (j := 0) rfl); (have b1 := rb.cell (j := 1) rfl); (have b2 := rb.cell (j := 2) rfl); (have b3 := rb.cell (j := 3) rfl); (have b4 := rb.cell (j := 4) rfl); (have bf := rb.fz))
    all_goals ((try simp only [Exit.inBlock, Exit.then]); refine bodyPost_ret (by simp [results, Tryz.results60, go_sem, *]; try rfl) rfl ?_)
    all_goals exact ⟨_, _, _, _, _, rfl, (by repeat' (first | (with_reducible assumption) | (with_reducible refine Src.setX ?_ (by omega)) | (with_reducible refine Src.alloc ?_ _) | (with_reducible refine Src.drewS ?_))), (by repeat' (first | (with_reducible assumption) | (with_reducible refine grownBy_setX ?_ (by omega)) | (with_reducible refine grownBy_alloc' ?_ _) | (with_reducible refine grownBy_drew ?_)))⟩
  have e3 : (r7 == 3) = false := by simpa using q3
  have m0 := mb.cell (j := 0) rfl
  have m1 := mb.cell (j := 1) rfl
  have m2 := mb.cell (j := 2) rfl
  have m3 := mb.cell (j := 3) rfl
  have m4 := mb.cell (j := 4) rfl
  have mf := mb.fz
  have b0 := rb.cell (j := 0) rfl
  have b1 := rb.cell (j := 1) rfl
  have b2 := rb.cell (j := 2) rfl
  have b3 := rb.cell (j := 3) rfl
  have b4 := rb.cell (j := 4) rfl
  have bf := rb.fz
  go_wp2_with fail
  all_goals ((try simp only [Exit.inBlock, Exit.then]); refine bodyPost_ret (by simp [results, Tryz.results60, go_sem, *]; try rfl) rfl ?_)
  all_goals exact ⟨_, _, _, _, _, rfl, (by repeat' (first | (with_reducible assumption) | (with_reducible refine Src.setX ?_ (by omega)) | (with_reducible refine Src.alloc ?_ _) | (with_reducible refine Src.drewS ?_))), (by repeat' (first | (with_reducible assumption) | (with_reducible refine grownBy_setX ?_ (by omega)) | (with_reducible refine grownBy_alloc' ?_ _) | (with_reducible refine grownBy_drew ?_)))⟩
set_option maxRecDepth 100000 in
set_option maxHeartbeats 3200000 in
theorem spec_l14DrawContact (B g : Nat) (x y p q s : Int) (w : World) (hs : Src w B g) :
    Calls Tryz.prog 41 #[.pointer (some ⟨g, 0, none⟩), .agg #[.int .i64 x, .int .i64 y, .int .i64 p, .int .i64 q, .int .i64 s]] w fun e w' => ∃ a b, e = .returned (.agg #[.int .i64 a, .int .i64 b]) ∧ Src w' B g ∧ w.grownBy w' (some g) := by
  have hlt := hs.lt
  go_enter Tryz.func41, Tryz.ntmps41
  go_wp2_with fail
  refine calls_gen (fun W0 hW0 => ?_)
  have mb : IBox W0 38 w.heap.size [x, y, p, q, s] := by rw [hW0]; exact IBox.alloc (IBox.new (w := w) (T := 38) (l := [x, y, p, q, s]) rfl) _
  have rb : IBox W0 68 (w.heap.size + 1) [0, 0] := by rw [hW0]; exact IBox.new (w := w.alloc _) (T := 68) (l := [0, 0]) (by rw [World.size_alloc])
  have hs0 : Src W0 B g := by rw [hW0]; exact (hs.alloc _).alloc _
  have G : w.grownBy W0 (some g) := by rw [hW0]; exact grownBy_alloc' (grownBy_alloc' (World.grownBy.refl _ _) _) _
  clear hW0 hs
  refine (spec_l01Next _ _ _ _ hs0 (by omega)).mono ?_
  rintro e w7 ⟨r7, rfl, ⟨hr7, ht7⟩, hs7, hg7⟩
  have rb := rb.src hg7 (by omega)
  have mb := mb.src hg7 (by omega)
  have G := grownBy_src G hg7
  have z7 := rb.lt
  clear hg7 hs0
  have m0 := mb.cell (j := 0) rfl
  have m1 := mb.cell (j := 1) rfl
  have m2 := mb.cell (j := 2) rfl
  have m3 := mb.cell (j := 3) rfl
  have m4 := mb.cell (j := 4) rfl
  have mf := mb.fz
  have b0 := rb.cell (j := 0) rfl
  have b1 := rb.cell (j := 1) rfl
  have bf := rb.fz
  by_cases q0 : r7 = 0
  · subst q0
    go_wp2_with fail
    all_goals ((try simp only [Exit.inBlock, Exit.then]); refine bodyPost_ret (by simp [results, Tryz.results41, go_sem, *]; try rfl) rfl ?_)
    all_goals exact ⟨_, _, rfl, (by repeat' (first | (with_reducible assumption) | (with_reducible refine Src.setX ?_ (by omega)) | (with_reducible refine Src.alloc ?_ _) | (with_reducible refine Src.drewS ?_))), (by repeat' (first | (with_reducible assumption) | (with_reducible refine grownBy_setX ?_ (by omega)) | (with_reducible refine grownBy_alloc' ?_ _) | (with_reducible refine grownBy_drew ?_)))⟩
  have e0 : (r7 == 0) = false := by simpa using q0
  by_cases q1 : r7 = 1
  · subst q1
    go_wp2_with fail
    all_goals ((try simp only [Exit.inBlock, Exit.then]); refine bodyPost_ret (by simp [results, Tryz.results41, go_sem, *]; try rfl) rfl ?_)
    all_goals exact ⟨_, _, rfl, (by repeat' (first | (with_reducible assumption) | (with_reducible refine Src.setX ?_ (by omega)) | (with_reducible refine Src.alloc ?_ _) | (with_reducible refine Src.drewS ?_))), (by repeat' (first | (with_reducible assumption) | (with_reducible refine grownBy_setX ?_ (by omega)) | (with_reducible refine grownBy_alloc' ?_ _) | (with_reducible refine grownBy_drew ?_)))⟩
  have e1 : (r7 == 1) = false := by simpa using q1
  by_cases q2 : r7 = 2
  · subst q2
    go_wp2_with fail
    all_goals ((try simp only [Exit.inBlock, Exit.then]); refine bodyPost_ret (by simp [results, Tryz.results41, go_sem, *]; try rfl) rfl ?_)
    all_goals exact ⟨_, _, rfl, (by repeat' (first | (with_reducible assumption) | (with_reducible refine Src.setX ?_ (by omega)) | (with_reducible refine Src.alloc ?_ _) | (with_reducible refine Src.drewS ?_))), (by repeat' (first | (with_reducible assumption) | (with_reducible refine grownBy_setX ?_ (by omega)) | (with_reducible refine grownBy_alloc' ?_ _) | (with_reducible refine grownBy_drew ?_)))⟩
  have e2 : (r7 == 2) = false := by simpa using q2
  by_cases q3 : r7 = 3
  · subst q3
    go_wp2_with ((first | (go_at_call 59; (first | (with_reducible refine (pick2 _ _ _ _ _ _ (by exact Src.alloc (by assumption) _) (by exact heap_alloc_new _ _) (by have := Src.lt (by assumption); omega)).mono ?_) | (with_reducible refine (pick3 _ _ _ _ _ _ _ (by exact Src.alloc (by assumption) _) (by exact heap_alloc_new _ _) (by have := Src.lt (by assumption); omega)).mono ?_) | (with_reducible refine (pick4 _ _ _ _ _ _ _ _ (by exact Src.alloc (by assumption) _) (by exact heap_alloc_new _ _) (by have := Src.lt (by assumption); omega)).mono ?_) | (with_reducible refine (pick5 _ _ _ _ _ _ _ _ _ (by exact Src.alloc (by assumption) _) (by exact heap_alloc_new _ _) (by have := Src.lt (by assumption); omega)).mono ?_) | (with_reducible refine (pick6 _ _ _ _ _ _ _ _ _ _ (by exact Src.alloc (by assumption) _) (by exact heap_alloc_new _ _) (by have := Src.lt (by assumption); omega)).mono ?_) | (with_reducible refine (pick7 _ _ _ _ _ _ _ _ _ _ _ (by exact Src.alloc (by assumption) _) (by exact heap_alloc_new _ _) (by have := Src.lt (by assumption); omega)).mono ?_)); rintro e w1 ⟨r1, rfl, hm1, hs1, hg1⟩)); (have rb := (rb.alloc _).src hg1 (by omega)); (have G := grownBy_src (grownBy_alloc' G _) hg1); (have z7 := rb.lt); (have b0 := rb.cell (j := 0) rfl); (have b1 := rb.cell (j := 1) rfl); (have bf := rb.fz))
    all_goals ((try simp only [Exit.inBlock, Exit.then]); refine bodyPost_ret (by simp [results, Tryz.results41, go_sem, *]; try rfl) rfl ?_)
    all_goals exact ⟨_, _, rfl, (by repeat' (first | (with_reducible assumption) | (with_reducible refine Src.setX ?_ (by omega)) | (with_reducible refine Src.alloc ?_ _) | (with_reducible refine Src.drewS ?_))), (by repeat' (first | (with_reducible assumption) | (with_reducible refine grownBy_setX ?_ (by omega)) | (with_reducible refine grownBy_alloc' ?_ _) | (with_reducible refine grownBy_drew ?_)))⟩
  have e3 : (r7 == 3) = false := by simpa using q3
  go_wp2_with fail
  (refine wp_region_noPanic ?_; refine wp_region_held_drew (S := (fun w' => w'.cell? ⟨w.heap.size, 0, none⟩ = some (.int .i64 x) ∧ w'.cell? ⟨w.heap.size, 1, none⟩ = some (.int .i64 y))) (by kernel_rfl) ?_ (fun hHeld => ?_); (focus ((try dsimp only); (refine ⟨?_, ?_⟩ <;> exact bxc))); (refine takeT (i := 0) (d := 54) rfl rfl (by kernel_rfl) (by kernel_rfl) (by kernel_rfl) (by rfl) (by assumption) (v := ?_) ?_ ?_; rotate_left; (focus (intro wq hSw; (try dsimp only at hSw); go_simp; (try (with_reducible rfl)); done)); (try simp only [Act.put, List.setIfInBounds_toArray, List.set_cons_zero, List.set_cons_succ])); (refine takeT (i := 1) (d := 55) rfl rfl (by kernel_rfl) (by kernel_rfl) (by kernel_rfl) (by rfl) (by assumption) (v := ?_) ?_ ?_; rotate_left; (focus (intro wq hSw; (try dsimp only at hSw); go_simp; (try (with_reducible rfl)); done)); (try simp only [Act.put, List.setIfInBounds_toArray, List.set_cons_zero, List.set_cons_succ])); (refine takeT (i := 2) (d := 56) rfl rfl (by kernel_rfl) (by kernel_rfl) (by kernel_rfl) (by rfl) (by assumption) (v := ?_) ?_ ?_; rotate_left; (focus (intro wq hSw; (try dsimp only at hSw); go_simp; (try (with_reducible rfl)); done)); (try simp only [Act.put, List.setIfInBounds_toArray, List.set_cons_zero, List.set_cons_succ])); (refine takeT (i := 6) (d := 60) rfl rfl (by kernel_rfl) (by kernel_rfl) (by kernel_rfl) (by rfl) (by assumption) (v := ?_) ?_ ?_; rotate_left; (focus (intro wq hSw; (try dsimp only at hSw); go_simp; (try (with_reducible rfl)); done)); (try simp only [Act.put, List.setIfInBounds_toArray, List.set_cons_zero, List.set_cons_succ])); (refine takeT (i := 7) (d := 61) rfl rfl (by kernel_rfl) (by kernel_rfl) (by kernel_rfl) (by rfl) (by assumption) (v := ?_) ?_ ?_; rotate_left; (focus (intro wq hSw; (try dsimp only at hSw); go_simp; (try (with_reducible rfl)); done)); (try simp only [Act.put, List.setIfInBounds_toArray, List.set_cons_zero, List.set_cons_succ])); (refine takeT (i := 8) (d := 62) rfl rfl (by kernel_rfl) (by kernel_rfl) (by kernel_rfl) (by rfl) (by assumption) (v := ?_) ?_ ?_; rotate_left; (focus (intro wq hSw; (try dsimp only at hSw); go_simp; (try (with_reducible rfl)); done)); (try simp only [Act.put, List.setIfInBounds_toArray, List.set_cons_zero, List.set_cons_succ])); (refine wpAnyH_ready (rs := [3]) (by kernel_rfl) (by simp) ?_; refine AllReadyH.cons rfl (fun K hK => ?_) AllReadyH.nil; go_simp; (first | (go_at_call 20; first | (refine (spec_l01Next _ _ _ _ (Src.drewS hs7) (by omega)).mono ?_; rintro e w8 ⟨r8, rfl, ⟨hr8, ht8⟩, hs8, hg8⟩; have mb8 := IBox.src (w := w7.drew) mb hg8 (by omega); have rb8 := IBox.src (w := w7.drew) rb hg8 (by omega); have G8 := grownBy_src (grownBy_drew G) hg8; have k0 := mb8.cell (j := 0) rfl; have k1 := mb8.cell (j := 1) rfl) | (refine (spec_l01Next _ _ _ _ hs8 (by omega)).mono ?_; rintro e w9 ⟨r9, rfl, ⟨hr9, ht9⟩, hs9, hg9⟩; have mb9 := mb8.src hg9 (by omega); have rb9 := rb8.src hg9 (by omega); have G9 := grownBy_src G8 hg9; have k0 := mb9.cell (j := 0) rfl; have k1 := mb9.cell (j := 1) rfl; have j0 := rb9.cell (j := 0) rfl; have j1 := rb9.cell (j := 1) rfl; have jf := rb9.fz)) | skip); (try go_wp2_with fail); refine hK.out _ _ ?_ (fun hHeld => ?_); (focus ((try dsimp only); (refine ⟨?_, ?_⟩ <;> exact bxc))); clear hK K; (try simp only [Act.put, List.setIfInBounds_toArray, List.set_cons_zero, List.set_cons_succ])); (refine takeT (i := 4) (d := 58) rfl rfl (by kernel_rfl) (by kernel_rfl) (by kernel_rfl) (by rfl) (by assumption) (v := ?_) ?_ ?_; rotate_left; (focus (intro wq hSw; (try dsimp only at hSw); go_simp; (try (with_reducible rfl)); done)); (try simp only [Act.put, List.setIfInBounds_toArray, List.set_cons_zero, List.set_cons_succ])); (refine takeT (i := 5) (d := 59) rfl rfl (by kernel_rfl) (by kernel_rfl) (by kernel_rfl) (by rfl) (by assumption) (v := ?_) ?_ ?_; rotate_left; (focus (intro wq hSw; (try dsimp only at hSw); go_simp; (try (with_reducible rfl)); done)); (try simp only [Act.put, List.setIfInBounds_toArray, List.set_cons_zero, List.set_cons_succ])); (refine wpAnyH_ready (rs := [9]) (by kernel_rfl) (by simp) ?_; refine AllReadyH.cons rfl (fun K hK => ?_) AllReadyH.nil; go_simp; (first | (go_at_call 20; first | (refine (spec_l01Next _ _ _ _ (Src.drewS hs7) (by omega)).mono ?_; rintro e w8 ⟨r8, rfl, ⟨hr8, ht8⟩, hs8, hg8⟩; have mb8 := IBox.src (w := w7.drew) mb hg8 (by omega); have rb8 := IBox.src (w := w7.drew) rb hg8 (by omega); have G8 := grownBy_src (grownBy_drew G) hg8; have k0 := mb8.cell (j := 0) rfl; have k1 := mb8.cell (j := 1) rfl) | (refine (spec_l01Next _ _ _ _ hs8 (by omega)).mono ?_; rintro e w9 ⟨r9, rfl, ⟨hr9, ht9⟩, hs9, hg9⟩; have mb9 := mb8.src hg9 (by omega); have rb9 := rb8.src hg9 (by omega); have G9 := grownBy_src G8 hg9; have k0 := mb9.cell (j := 0) rfl; have k1 := mb9.cell (j := 1) rfl; have j0 := rb9.cell (j := 0) rfl; have j1 := rb9.cell (j := 1) rfl; have jf := rb9.fz)) | skip); (try go_wp2_with fail); refine hK.out _ _ ?_ (fun hHeld => ?_); (focus ((try dsimp only); (refine ⟨?_, ?_⟩ <;> exact bxc))); clear hK K; (try simp only [Act.put, List.setIfInBounds_toArray, List.set_cons_zero, List.set_cons_succ])); (refine takeT (i := 10) (d := 64) rfl rfl (by kernel_rfl) (by kernel_rfl) (by kernel_rfl) (by rfl) (by assumption) (v := ?_) ?_ ?_; rotate_left; (focus (intro wq hSw; (try dsimp only at hSw); go_simp; (try (with_reducible rfl)); done)); (try simp only [Act.put, List.setIfInBounds_toArray, List.set_cons_zero, List.set_cons_succ])); (refine takeT (i := 11) (d := 65) rfl rfl (by kernel_rfl) (by kernel_rfl) (by kernel_rfl) (by rfl) (by assumption) (v := ?_) ?_ ?_; rotate_left; (focus (intro wq hSw; (try dsimp only at hSw); go_simp; (try (with_reducible rfl)); done)); (try simp only [Act.put, List.setIfInBounds_toArray, List.set_cons_zero, List.set_cons_succ])); (refine takeT (i := 12) (d := 66) rfl rfl (by kernel_rfl) (by kernel_rfl) (by kernel_rfl) (by rfl) (by assumption) (v := ?_) ?_ ?_; rotate_left; (focus (intro wq hSw; (try dsimp only at hSw); go_simp; (try (with_reducible rfl)); done)); (try simp only [Act.put, List.setIfInBounds_toArray, List.set_cons_zero, List.set_cons_succ])); (refine wpAnyH_ready (rs := [13]) (by kernel_rfl) (by simp) ?_; refine AllReadyH.cons rfl (fun K hK => ?_) AllReadyH.nil; go_simp; (first | (go_at_call 20; first | (refine (spec_l01Next _ _ _ _ (Src.drewS hs7) (by omega)).mono ?_; rintro e w8 ⟨r8, rfl, ⟨hr8, ht8⟩, hs8, hg8⟩; have mb8 := IBox.src (w := w7.drew) mb hg8 (by omega); have rb8 := IBox.src (w := w7.drew) rb hg8 (by omega); have G8 := grownBy_src (grownBy_drew G) hg8; have k0 := mb8.cell (j := 0) rfl; have k1 := mb8.cell (j := 1) rfl) | (refine (spec_l01Next _ _ _ _ hs8 (by omega)).mono ?_; rintro e w9 ⟨r9, rfl, ⟨hr9, ht9⟩, hs9, hg9⟩; have mb9 := mb8.src hg9 (by omega); have rb9 := rb8.src hg9 (by omega); have G9 := grownBy_src G8 hg9; have k0 := mb9.cell (j := 0) rfl; have k1 := mb9.cell (j := 1) rfl; have j0 := rb9.cell (j := 0) rfl; have j1 := rb9.cell (j := 1) rfl; have jf := rb9.fz)) | skip); (try go_wp2_with fail); refine hK.out _ _ ?_ (fun hHeld => ?_); (focus ((try dsimp only); (refine ⟨?_, ?_⟩ <;> exact bxc))); clear hK K; (try simp only [Act.put, List.setIfInBounds_toArray, List.set_cons_zero, List.set_cons_succ])); refine wpAnyH_done (by kernel_rfl) ?_ _; refine NoPanic.normal ?_)
  repeat' (first | fail | go_values | go_skip | go_guarded | go_step | go_upon | (simp only []; go_step) | (go_ite <;> go_prune <;> (try go_simp)))
  all_goals ((try simp only [Exit.inBlock, Exit.then]); refine bodyPost_ret (by simp [results, Tryz.results41, go_sem, *]; try rfl) rfl ?_)
  all_goals exact ⟨_, _, rfl, (by repeat' (first | (with_reducible assumption) | (with_reducible refine Src.setX ?_ (by omega)) | (with_reducible refine Src.alloc ?_ _) | (with_reducible refine Src.drewS ?_))), (by repeat' (first | (with_reducible assumption) | (with_reducible refine grownBy_setX ?_ (by omega)) | (with_reducible refine grownBy_alloc' ?_ _) | (with_reducible refine grownBy_drew ?_)))⟩
end Go.Proofs.YthbljfanoaibkaaGreatDoor
