/- Pictures in the laws: sized, copied, compared, marked, held; opened. -/
import Derived.Test.YthbljfanoaibkaaDoorPicS
import Derived.Test.YthbljfanoaibkaaDoorOpenTwo
namespace Go.Proofs.YthbljfanoaibkaaDoor
open Go.RowKit Go.ChangeShapes Go.WideShapes Go.ChangeAt
set_option linter.unusedVariables false
set_option linter.unusedSimpArgs false
/-- only the blocks lo .. hi - 1 have been stored into -/
def Offb (lo hi : Nat) (w w' : World) : Prop := Within lo hi w w'
theorem Offb.refl (lo hi : Nat) (w : World) : Offb lo hi w w := Within.refl _ _ _
theorem Offb.set {lo hi : Nat} {a b : World} (h : Offb lo hi a b) {X o : Nat} {v : Value} (hX : lo ≤ X ∧ X < hi) : Offb lo hi a (b.setCell ⟨X, o, none⟩ v) :=
  ⟨h.os, h.tape, h.output, by simpa [World.setCell] using h.size, fun i hi' hn => (Below.heap_setCell b ⟨X, o, none⟩ v i (fun e => by have e : i = X := e; omega)).trans (h.block i hi' hn)⟩
theorem OwnS.offB {α : Type} {cl : α → List Int} {T : TypeId} {k : Nat} {w w' : World} {B lo hi : Nat} {v : Value} {xs : List α} (hw : Offb B lo w w') (h : OwnS cl T k w lo hi v xs) : OwnS cl T k w' lo hi v xs := h.apart hw (.inr (Nat.le_refl _))
theorem OwnS.off1 {α : Type} {cl : α → List Int} {T : TypeId} {k : Nat} {w : World} {lo hi : Nat} {v : Value} {xs : List α} (h : OwnS cl T k w lo hi v xs) {X o : Nat} {u : Value} (hX : X < lo) : OwnS cl T k (w.setCell ⟨X, o, none⟩ u) lo hi v xs :=
  h.apart (Offb.set (Offb.refl X lo w) ⟨Nat.le_refl _, hX⟩) (.inr (Nat.le_refl _))
section
variable {H : Type} {enc : TypeId × Value → H} {P : Program} {w : World} {sp : Nat → Bool}
/-- a struct of a slice of flat structs and two int64 -/
theorem open_pic {α : Type} {cl : α → List Int} {mk : List Int → α} {r : Reach} {b0 kk : Nat} {t e : TypeId} {f0 f1 f2 : Field} {v : Value} {d : DataW H} {ps : List MemPlace} (hmk : ∀ l, l.length = kk → cl (mk l) = l) (ht : P.underlying t = some (.struct #[f0, f1, f2]))
    (h0 : P.underlying f0.type = some (.slice e)) (hF : FlatI enc P w 0 sp true e kk) (hc : P.cellsOf e = kk) (hk : 0 < kk) (ha : P.underlying f1.type = some (.int .i64)) (hb : P.underlying f2.type = some (.int .i64))
    (o0 : f0.offset = 0) (oa : f1.offset = 1) (ob : f2.offset = 2) (n0 : P.cellsOf f0.type = 1) (na : P.cellsOf f1.type = 1) (nb : P.cellsOf f2.type = 1) (nt : P.cellsOf t = 3)
    (hval : Value.okWide P w r b0 t v) (hd : DataW.Trod enc P w 0 sp true t v d ps) :
    ∃ A c, ∃ xs : List α, ∃ p q : Int, v = .agg #[.slice A xs.length c, .int .i64 p, .int .i64 q] ∧ S64 cl w w.heap.size A xs ∧ xs.length ≤ maxLen ∧
      (-9223372036854775808 ≤ p ∧ p ≤ 9223372036854775807) ∧ (-9223372036854775808 ≤ q ∧ q ≤ 9223372036854775807) := by
  obtain ⟨cs, rfl, _⟩ := okWide_struct ht hval
  obtain ⟨fuel, hf⟩ := hd
  obtain ⟨zs, n, _, _, hl, hzs, hg⟩ := DataW.trod_struct ht hf
  have g : ∀ (j : Nat) (f : Field), #[f0, f1, f2][j]? = some f → ∃ y, DataW.trod enc P w 0 sp true n f.type (((Value.agg cs).cells.toList.drop f.offset).take (P.cellsOf f.type)) = some y := fun j f hj => by
    have h5 := hg j f hj
    have hj2 : j < zs.length := by
      rw [hzs]; exact (Array.getElem?_eq_some_iff.1 hj).1
    rw [List.getElem?_eq_getElem hj2] at h5
    exact ⟨_, h5⟩
  obtain ⟨_, g0⟩ := g 0 f0 rfl
  obtain ⟨_, ga⟩ := g 1 f1 rfl
  obtain ⟨_, gb⟩ := g 2 f2 rfl
  obtain ⟨l⟩ := cs
  simp only [Value.cells, o0, oa, ob, n0, na, nb, nt] at hl ga gb g0
  match l, hl with
  | [a, b, c], _ =>
    simp at ga gb g0
    obtain ⟨p, ea, _, wa⟩ := DataW.trod_int ha ga
    obtain ⟨q, eb, _, wb⟩ := DataW.trod_int hb gb
    obtain ⟨A, c, xs, e1, hx, lx⟩ := open_cell_S64 hmk h0 hF hc hk g0
    simp at ea eb e1
    exact ⟨A, c, xs, p, q, by rw [ea, eb, e1], hx, lx, by simpa [Lit.wf, IntKind.min, IntKind.max, IntKind.signed, IntKind.bits] using wa, by simpa [Lit.wf, IntKind.min, IntKind.max, IntKind.signed, IntKind.bits] using wb⟩
end
section
variable {H : Type} {enc : TypeId × Value → H} {w : World} {sp : Nat → Bool} {r : Reach} {b0 : Nat} {v : Value} {d : DataW H} {ps : List MemPlace}
set_option maxRecDepth 100000 in
theorem open_picture (hval : Value.okWide Tryd.prog w r b0 35 v) (hd : DataW.Trod enc Tryd.prog w 0 sp true 35 v d ps) :
    ∃ A c, ∃ ts : List Tr, ∃ p q : Int, v = .agg #[.slice A ts.length c, .int .i64 p, .int .i64 q] ∧ T64 w w.heap.size A ts ∧ ts.length ≤ maxLen ∧
      (-9223372036854775808 ≤ p ∧ p ≤ 9223372036854775807) ∧ (-9223372036854775808 ≤ q ∧ q ≤ 9223372036854775807) :=
  open_pic (mk := trm) trm_inv Tryd.underlying35 Tryd.underlying33 flatTrail (by kernel_rfl) (by omega) Tryd.underlying2 Tryd.underlying2 rfl rfl rfl (by kernel_rfl) (by kernel_rfl) (by kernel_rfl) (by kernel_rfl) hval hd
end
theorem laws_szPicture (A : Option Addr) (n c : Nat) (s d left : Int) (w : World) (h0 : -1 ≤ left) (h1 : left ≤ 1048576) (hn : n ≤ maxLen) :
    Calls Tryd.prog 8 #[.agg #[.slice A n c, .int .i64 s, .int .i64 d], .int .i64 left] w fun e w' => e = .returned (.int .i64 (fsz left n)) ∧ Below w.heap.size w w' := by
  have hg := fsz_ge (left := left) (n := n)
  by_cases hf : fsz left n < 0
  · have e : fsz left n = -1 := by omega
    go_enter Tryd.func8, Tryd.ntmps8
    repeat' (first | fail | go_values | go_skip | go_guarded | go_step | go_upon | (simp only []; go_step) | (go_ite <;> go_prune <;> (try go_simp)))
    refine (laws_szTrailS _ _ _ _ _ (by omega) (by omega) hn).mono ?_
    rintro e w' ⟨rfl, rfl⟩
    repeat' (first | fail | go_values | go_skip | go_guarded | go_step | go_upon | (simp only []; go_step) | (go_ite <;> go_prune <;> (try go_simp)))
    all_goals go_returns
    all_goals exact ⟨ret_int (by omega), by exact bgr⟩
  · go_enter Tryd.func8, Tryd.ntmps8
    repeat' (first | fail | go_values | go_skip | go_guarded | go_step | go_upon | (simp only []; go_step) | (go_ite <;> go_prune <;> (try go_simp)))
    refine (laws_szTrailS _ _ _ _ _ (by omega) (by omega) hn).mono ?_
    rintro e w' ⟨rfl, rfl⟩
    repeat' (first | fail | go_values | go_skip | go_guarded | go_step | go_upon | (simp only []; go_step) | (go_ite <;> go_prune <;> (try go_simp)))
    all_goals go_returns
    all_goals exact ⟨ret_int (by omega), by exact bgr⟩
set_option maxHeartbeats 1600000 in
theorem laws_toPicture (A : Option Addr) (c : Nat) (ts : List Tr) (s d : Int) (w : World) (hr : T64 w w.heap.size A ts) (hl : ts.length ≤ 1048576) :
    Calls Tryd.prog 10 #[.agg #[.slice A ts.length c, .int .i64 s, .int .i64 d]] w fun e w' => ∃ g, e = .returned (.agg #[.slice (some ⟨g, 0, none⟩) ts.length ts.length, .int .i64 s, .int .i64 d]) ∧ OwnT w' w.heap.size w'.heap.size (.slice (some ⟨g, 0, none⟩) ts.length ts.length) ts ∧ Below w.heap.size w w' := by
  go_enter Tryd.func10, Tryd.ntmps10
  repeat' (first | fail | go_values | go_skip | go_guarded | go_step | go_upon | (simp only []; go_step) | (go_ite <;> go_prune <;> (try go_simp)))
  refine (laws_toTrailS _ _ _ _ (hr.up (by exact bgr)) hl).mono ?_; rintro e w1 ⟨g, rfl, o1, hbw1⟩; have hzw1 := hbw1.size; (try simp only [World.size_alloc, World.size_setCell, World.size_drew] at hzw1); have hs1 : w.heap.size < w1.heap.size := (by omega); have q1 := bx_id (w := w1) (X := w.heap.size) (o := 0) (by exact bxc); (try simp only [List.getElem_toArray, List.getElem_cons_succ, List.getElem_cons_zero] at q1); have q1 := bx_id (w := w1) (X := w.heap.size) (o := 1) (by exact bxc); (try simp only [List.getElem_toArray, List.getElem_cons_succ, List.getElem_cons_zero] at q1); have q1 := bx_id (w := w1) (X := w.heap.size) (o := 2) (by exact bxc); (try simp only [List.getElem_toArray, List.getElem_cons_succ, List.getElem_cons_zero] at q1); have z1 : ∀ o, w1.frozen? ⟨w.heap.size, o, none⟩ = false := (by exact bxm); have hs1 : w.heap.size + 1 < w1.heap.size := (by omega); have q1 := bx_id (w := w1) (X := w.heap.size + 1) (o := 0) (by exact bxc); (try simp only [List.getElem_toArray, List.getElem_cons_succ, List.getElem_cons_zero] at q1); have q1 := bx_id (w := w1) (X := w.heap.size + 1) (o := 1) (by exact bxc); (try simp only [List.getElem_toArray, List.getElem_cons_succ, List.getElem_cons_zero] at q1); have q1 := bx_id (w := w1) (X := w.heap.size + 1) (o := 2) (by exact bxc); (try simp only [List.getElem_toArray, List.getElem_cons_succ, List.getElem_cons_zero] at q1); have z1 : ∀ o, w1.frozen? ⟨w.heap.size + 1, o, none⟩ = false := (by exact bxm); have hs1 : w.heap.size + 1 + 1 < w1.heap.size := (by omega); have q1 := bx_id (w := w1) (X := w.heap.size + 1 + 1) (o := 0) (by exact bxc); (try simp only [List.getElem_toArray, List.getElem_cons_succ, List.getElem_cons_zero] at q1); have q1 := bx_id (w := w1) (X := w.heap.size + 1 + 1) (o := 1) (by exact bxc); (try simp only [List.getElem_toArray, List.getElem_cons_succ, List.getElem_cons_zero] at q1); have q1 := bx_id (w := w1) (X := w.heap.size + 1 + 1) (o := 2) (by exact bxc); (try simp only [List.getElem_toArray, List.getElem_cons_succ, List.getElem_cons_zero] at q1); have z1 : ∀ o, w1.frozen? ⟨w.heap.size + 1 + 1, o, none⟩ = false := (by exact bxm)
  have o1 := o1.mono (lo' := w.heap.size + 3) (hi' := w1.heap.size) (by simp only [World.size_alloc]; omega) (Nat.le_refl _)
  repeat' (first | fail | go_values | go_skip | go_guarded | go_step | go_upon | (simp only []; go_step) | (go_ite <;> go_prune <;> (try go_simp)))
  ((try simp only [Exit.inBlock, Exit.then]); refine bodyPost_ret (by simp [results, Tryd.results10, go_sem, *]; try rfl) rfl ?_)
  refine ⟨_, rfl, ?_, by exact bgr⟩
  refine OwnS.top (hi := w1.heap.size) ?_
  refine OwnS.mono (lo := w.heap.size + 3) (hi := w1.heap.size) ?_ (by omega) (Nat.le_refl _)
  repeat' (first | (with_reducible assumption) | (with_reducible refine OwnS.off1 ?_ (by omega)))
set_option maxHeartbeats 800000 in
theorem laws_eqPicture (A B : Option Addr) (c k : Nat) (ts : List Tr) (s d : Int) (w : World) (hr : T64 w w.heap.size A ts) (hs : T64 w w.heap.size B ts) (hl : ts.length ≤ 1099511627776) :
    Calls Tryd.prog 12 #[.agg #[.slice A ts.length c, .int .i64 s, .int .i64 d], .agg #[.slice B ts.length k, .int .i64 s, .int .i64 d]] w fun e w' => e = .returned (.bool true) ∧ Below w.heap.size w w' := by
  have n1 : (s != s) = false := by simp
  have n2 : (d != d) = false := by simp
  go_enter Tryd.func12, Tryd.ntmps12
  repeat' (first | fail | go_values | go_skip | go_guarded | go_step | go_upon | (simp only []; go_step) | (go_ite <;> go_prune <;> (try go_simp)))
  refine (laws_eqTrailS _ _ _ _ _ _ (hr.up (by exact bgr)) (hs.up (by exact bgr)) hl).mono ?_; rintro e w1 ⟨rfl, hbw1⟩; have hzw1 := hbw1.size; (try simp only [World.size_alloc, World.size_setCell, World.size_drew] at hzw1); have hs1 : w.heap.size < w1.heap.size := (by omega); have q1 := bx_id (w := w1) (X := w.heap.size) (o := 0) (by exact bxc); (try simp only [List.getElem_toArray, List.getElem_cons_succ, List.getElem_cons_zero] at q1); have q1 := bx_id (w := w1) (X := w.heap.size) (o := 1) (by exact bxc); (try simp only [List.getElem_toArray, List.getElem_cons_succ, List.getElem_cons_zero] at q1); have q1 := bx_id (w := w1) (X := w.heap.size) (o := 2) (by exact bxc); (try simp only [List.getElem_toArray, List.getElem_cons_succ, List.getElem_cons_zero] at q1); have z1 : ∀ o, w1.frozen? ⟨w.heap.size, o, none⟩ = false := (by exact bxm); have hs1 : w.heap.size + 1 < w1.heap.size := (by omega); have q1 := bx_id (w := w1) (X := w.heap.size + 1) (o := 0) (by exact bxc); (try simp only [List.getElem_toArray, List.getElem_cons_succ, List.getElem_cons_zero] at q1); have q1 := bx_id (w := w1) (X := w.heap.size + 1) (o := 1) (by exact bxc); (try simp only [List.getElem_toArray, List.getElem_cons_succ, List.getElem_cons_zero] at q1); have q1 := bx_id (w := w1) (X := w.heap.size + 1) (o := 2) (by exact bxc); (try simp only [List.getElem_toArray, List.getElem_cons_succ, List.getElem_cons_zero] at q1); have z1 : ∀ o, w1.frozen? ⟨w.heap.size + 1, o, none⟩ = false := (by exact bxm)
  repeat' (first | fail | go_values | go_skip | go_guarded | go_step | go_upon | (simp only []; go_step) | (go_ite <;> go_prune <;> (try go_simp)))
  all_goals go_returns
  all_goals exact ⟨rfl, by exact bgr⟩
end Go.Proofs.YthbljfanoaibkaaDoor
