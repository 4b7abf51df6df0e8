/- The draws of the assignment chapter: contracts. -/
import Derived.Test.YtdomghjdnnnifaaDraw
import Derived.Test.YtdomghjdnnnifaaAllC
namespace Go.Proofs.Ytdomghjdnnnifaa
open Go.RowKit Go.ChangeShapes Go.WideShapes Go.ChangeAt
set_option linter.unusedVariables false
set_option linter.unusedSimpArgs false
theorem Within.of_mid {a b : World} {mid : Nat} (h : Below mid a b) : Within mid a.heap.size a b := ⟨h.os, h.tape, h.output, h.size, fun k hk hn => h.block k (by omega)⟩
theorem Within.of_src {a b : World} {g : Nat} (h : a.grownBy b (some g)) : Within g (g + 1) a b := ⟨h.os, h.tape, h.output, h.size, fun k hk hn => h.block k hk (by simp; omega)⟩
theorem OwnLL.past {w w' : World} {lo mid : Nat} {v : Value} {xss : List (List Int)} (h : OwnLL w lo mid v xss) (hb : Below mid w w') : OwnLL w' lo mid v xss := h.apart (Within.of_mid hb) (.inl (Nat.le_refl _))
theorem OwnLL.far {w w' : World} {lo hi g : Nat} {v : Value} {xss : List (List Int)} (h : OwnLL w lo hi v xss) (hg : w.grownBy w' (some g)) (hlt : g < lo) : OwnLL w' lo hi v xss := h.apart (Within.of_src hg) (.inr (by omega))
theorem OwnLL.alloc {w : World} {lo hi : Nat} {v : Value} {xss : List (List Int)} (h : OwnLL w lo hi v xss) (o : Obj) : OwnLL (w.alloc o) lo hi v xss := h.next (Below.new (Below.refl _ _) o)
theorem OwnLL.top {w : World} {lo hi : Nat} {v : Value} {xss : List (List Int)} (h : OwnLL w lo hi v xss) (hh : hi ≤ w.heap.size) : OwnLL w lo w.heap.size v xss := h.mono (Nat.le_refl _) hh
theorem OwnLL.lt {w : World} {lo hi : Nat} {v : Value} {xss : List (List Int)} (h : OwnLL w lo hi v xss) : ∀ k, v.ownBlock = some k → lo ≤ k := by
  obtain ⟨A, c, zs, rfl, h2, h3, hk, h4, h5⟩ := h
  exact fun k hk => (h3.lt k hk).1
theorem OwnLL.take {w : World} {lo hi n c : Nat} {A : Option Addr} {xss : List (List Int)} {k : Nat} (h : OwnLL w lo hi (.slice A n c) xss) (hk : k ≤ xss.length) (hc : k ≤ c) : OwnLL w lo hi (.slice A k c) (xss.take k) := by
  obtain ⟨A', c', zs, h1, h2, ⟨h31, h32⟩, hb, h4, h5⟩ := h
  injection h1 with h1 hn hc'
  subst h1 hn hc'
  have hl : (xss.take k).length = k := by rw [List.length_take]; omega
  refine ⟨A, c, zs.take k, by rw [hl], by rw [List.length_take, hl]; omega, ?_, fun q hq => hb q (by cases A <;> simp [Value.ownBlock] at hq ⊢ <;> exact hq), fun j z xs hz hx => ?_, fun i j zi zj hij hi hj => ?_⟩
  · rw [hl]
    refine ⟨by rw [List.length_take]; omega, ?_⟩
    rcases h32 with ⟨e1, e2⟩ | ⟨g, cap, cur, q1, q2, q3, q4, q5, q6, q7⟩
    · injection e1 with e1 e3 e4
      subst e1 e4
      have : k = 0 := by omega
      subst this
      exact .inl ⟨rfl, rfl⟩
    · injection q1 with q1 q8 q9
      subst q1 q9
      exact .inr ⟨g, c, cur, rfl, q2, q3, hc, q5, q6, by rw [Nat.mul_one] at q7 ⊢; rw [← q7, List.take_take, Nat.min_eq_left hk]⟩
  · rw [List.getElem?_take] at hz hx
    split at hz
    · rename_i hj
      rw [if_pos hj] at hx
      exact h4 j z xs hz hx
    · cases hz
  · rw [List.getElem?_take] at hi hj
    split at hj
    · rename_i hj'
      rw [if_pos (by omega)] at hi
      exact h5 i j zi zj hij hi hj
    · cases hj
theorem ownsRow_next {w w' : World} {base n k : Nat} {T : TypeId} {v : Value} {xs : List Value} (h : w.ownsRow base T k v n xs) (hb : Below w.heap.size w w') : w'.ownsRow base T k v n xs := h.kept (grownBy_of_below hb none) (by cases v.ownBlock <;> simp)
theorem OwnLL.cap {w : World} {lo hi n c : Nat} {A : Option Addr} {xss : List (List Int)} (h : OwnLL w lo hi (.slice A n c) xss) : xss.length ≤ c := by
  obtain ⟨A', c', zs, h1, h2, ⟨h31, h32⟩, _⟩ := h
  injection h1 with h1 hn hc
  subst h1 hn hc
  rcases h32 with ⟨e1, e2⟩ | ⟨g, cap, cur, q1, q2, q3, q4, _⟩
  · injection e1 with a b d; omega
  · injection q1 with a b d; omega
/-- a number of a row, stored into -/
theorem OwnLL.store {w : World} {lo hi n c j k : Nat} {A : Option Addr} {xss : List (List Int)} {xs : List Int} {x : Int} (h : OwnLL w lo hi (.slice A n c) xss) (hx : xss[j]? = some xs) (hy : xs[k]? = some x) :
    ∃ g A' c' g2, A = some ⟨g, 0, none⟩ ∧ lo ≤ g ∧ w.cell? ⟨g, j, none⟩ = some (.slice A' xs.length c') ∧ A' = some ⟨g2, 0, none⟩ ∧ lo ≤ g2 ∧ w.cell? ⟨g2, k, none⟩ = some (.int .i64 x) ∧ (∀ o, w.frozen? ⟨g2, o, none⟩ = false) ∧ ¬ g2 = g ∧
      ∀ (w' : World) (y : Int), Below w.heap.size w w' → OwnLL (w'.setCell ⟨g2, k, none⟩ (.int .i64 y)) lo hi (.slice A n c) (xss.set j (xs.set k y)) := by
  obtain ⟨A', c', zs, h1, h2, h3, hk, h4, h5⟩ := h
  injection h1 with h1 hn hc
  subst h1 hn hc
  have hj := lt_of_get hx
  obtain ⟨g, cap, hv, hb, hlt⟩ := h3.form (by omega)
  injection hv with e1 e2 e3
  subst e1 e3
  obtain ⟨z, hz⟩ := get_of_lt (xs := zs) (k := j) (by omega)
  have ho := (h4 j z xs hz hx).1
  obtain ⟨A', c', rfl, _⟩ := id ho
  obtain ⟨g2, rfl, hg2, hc2, hf2, hst⟩ := ho.cell hy
  refine ⟨g, _, c', g2, rfl, hb, by rw [h3.cellAt j (by omega), hz], rfl, hg2, hc2, fun o => ?_, ?_, fun w' y hw => ?_⟩
  · obtain ⟨B', d', he, hoo⟩ := id ho
    injection he with he1 he2 he3
    subst he1 he3
    exact hoo.frozenAt o
  · have hkd := own_kinds ho h3
    rcases hkd with h | h
    · simp [Value.ownBlock] at h
    · exact fun e => h (by simp [Value.ownBlock, e])
  · obtain ⟨g2', eg, _, _, _, hst2⟩ := (ho.below hw).cell hy
    simp only [Option.some.injEq, Addr.mk.injEq, and_true] at eg
    subst eg
    have hs := hst2 y
    have hkd := own_kinds (ho.below hw) (ownsRow_next h3 hw)
    refine ⟨some ⟨g, 0, none⟩, c, zs, by rw [List.length_set], by rw [List.length_set]; exact h2, ?_, hk, fun i z' ys hz' hy' => ?_, h5⟩
    · have h6 := (ownsRow_next h3 hw).kept hs.2 (by
        rcases hkd with h | h
        · simp [Value.ownBlock] at h
        · right; exact fun e => h e.symm)
      rw [List.length_set]; exact h6
    · have hbk := (h4 i z' (xss.getD i []) hz' (by
        obtain ⟨y0, hy0⟩ := get_of_lt (xs := xss) (k := i) (by have := lt_of_get hz'; omega)
        simp [List.getD, hy0])).2
      rcases Nat.lt_trichotomy i j with h | h | h
      · rw [List.getElem?_set_ne (by omega)] at hy'
        refine ⟨((h4 i z' ys hz' hy').1.below hw).kept hs.2 ?_, hbk⟩
        rcases h5 i j z' _ h hz' hz with q | q
        · exact .inl q
        · exact .inr q
      · subst h
        rw [List.getElem?_set_self hj] at hy'
        injection hy' with hy'
        rw [hz] at hz'
        injection hz' with hz'
        subst hz' hy'
        exact ⟨hs.1, hbk⟩
      · rw [List.getElem?_set_ne (by omega)] at hy'
        refine ⟨((h4 i z' ys hz' hy').1.below hw).kept hs.2 ?_, hbk⟩
        rcases h5 j i _ z' h hz hz' with q | q
        · simp [Value.ownBlock] at q
        · exact .inr (fun e => q e.symm)
theorem OwnLL.stored {w : World} {lo hi gq g2 n c c2 : Nat} {xss : List (List Int)} {xs : List Int} {x : Int} (h : OwnLL w lo hi (.slice (some ⟨gq, 0, none⟩) n c) xss) (hx : xss[0]? = some xs) (hy : xs[0]? = some x) (hc : w.cell? ⟨gq, 0, none⟩ = some (.slice (some ⟨g2, 0, none⟩) xs.length c2)) (y : Int) :
    OwnLL (w.setCell ⟨g2, 0, none⟩ (.int .i64 y)) lo hi (.slice (some ⟨gq, 0, none⟩) n c) (xss.set 0 (xs.set 0 y)) := by
  obtain ⟨gq', A', c', g2', e1, _, hc', e2, _, _, _, _, hst⟩ := h.store hx hy
  simp only [Option.some.injEq, Addr.mk.injEq, and_true] at e1
  subst e1 e2
  rw [hc] at hc'
  simp only [Option.some.injEq, Value.slice.injEq, Addr.mk.injEq, and_true, true_and] at hc'
  obtain ⟨h1, _⟩ := hc'
  subst h1
  exact hst w y (Below.refl _ _)
theorem grown_cell {a b : World} {g X o : Nat} {v : Value} (h : a.grownBy b (some g)) (hX : g < X) (hc : a.cell? ⟨X, o, none⟩ = some v) : b.cell? ⟨X, o, none⟩ = some v :=
  (World.cell?_of_block (a := ⟨X, o, none⟩) (h.block X (World.block_lt_of_cell? a ⟨X, o, none⟩ hc) (by simp; omega))).trans hc
theorem grown_frozen {a b : World} {g X : Nat} (h : a.grownBy b (some g)) (hX : g < X) (hl : X < a.heap.size) (hf : ∀ o, a.frozen? ⟨X, o, none⟩ = false) : ∀ o, b.frozen? ⟨X, o, none⟩ = false := fun o =>
  (World.frozen?_of_block (a := ⟨X, o, none⟩) (h.block X hl (by simp; omega))).trans (hf o)
theorem push_rowH {ops : Array Oper} {rest : List Oper} {o : Oper} {a : Act} {Q : Exit → Act → World → Prop} {W : World} {y : Value} {ys : List Int} {xss : List (List Int)} {v : Value} {lo mid : Nat} (H : Nat) (hH : W.heap.size = H) (hown : OwnLL W lo mid v xss) (hy : OwnI W mid y ys) (hgd : o.guard = none) (s x : Operand)
    (ho : o.op = .call { callee := .builtin .append, args := #[s, x], argTypes := #[22, 22] }) (hs : a.eval s = v) (hx : a.eval x = .slice (some ⟨H, 0, none⟩) 1 1) (hlm : lo ≤ mid) (hbase : mid ≤ W.heap.size) (hb : xss.length ≤ 1048576)
    (h : ∀ v' w', OwnLL w' lo w'.heap.size v' (xss ++ [ys]) → W.grownBy w' v.ownBlock → Below lo W w' → wpList Try.prog ops Q rest (a.put o.dst v') w') : wpList Try.prog ops Q (o :: rest) a (W.alloc (.cells #[y] 27)) := by
  subst hH; exact push_row hown hy hgd s x ho hs hx hlm hbase hb h
theorem Src.drew1 {w : World} {B g : Nat} (h : Src w B g) : Src w.drew B g := h
theorem OwnLL.drew1 {w : World} {lo hi : Nat} {v : Value} {xss : List (List Int)} (h : OwnLL w lo hi v xss) : OwnLL w.drew lo hi v xss := h
theorem grown_drew1 {a w : World} {row : Option Nat} (h : a.grownBy w row) : a.grownBy w.drew row := ⟨h.os, h.tape, h.output, h.size, h.block⟩
theorem heap_new_drew (w : World) (o : Obj) : (w.alloc o).drew.heap[w.heap.size]? = some o := heap_alloc_new w o
theorem Src.below_set {w w0 : World} {B g X o : Nat} {v : Value} (h : Src w B g) (hg : B ≤ g ∧ g < w0.heap.size) (hX : w0.heap.size ≤ X) : Src (w.setCell ⟨X, o, none⟩ v) B g :=
  h.other (row := some X) ⟨rfl, rfl, rfl, by simp [World.setCell], fun i hi hne => Below.heap_setCell w ⟨X, o, none⟩ v i (fun e => hne (by rw [e]))⟩ (fun k hk => by simp at hk; omega)
theorem grown_set2 {a w : World} {g X o : Nat} {v : Value} (h : a.grownBy w (some g)) (hg : g < a.heap.size) (hX : a.heap.size ≤ X) : a.grownBy (w.setCell ⟨X, o, none⟩ v) (some g) :=
  ⟨h.os, h.tape, h.output, by simpa [World.setCell] using h.size, fun i hi hne => (Below.heap_setCell w ⟨X, o, none⟩ v i (fun e => by have e : i = X := e; omega)).trans (h.block i hi hne)⟩
/-- rows of equal length -/
def colsP (css : List (List Int)) (q : Int) : Prop := ∀ (j : Nat) (xs : List Int), css[j]? = some xs → (xs.length : Int) = q
theorem colsP_snoc {css : List (List Int)} {q : Int} {xs : List Int} (h : colsP css q) (hx : (xs.length : Int) = q) : colsP (css ++ [xs]) q := fun j ys hj => by
  rcases Nat.lt_or_ge j css.length with h1 | h1
  · rw [List.getElem?_append_left h1] at hj
    exact h j ys hj
  · rw [List.getElem?_append_right h1] at hj
    have : j - css.length = 0 := by have := lt_of_get hj; simp at this; omega
    rw [this] at hj
    simp at hj
    subst hj; exact hx
/-- costs as they are drawn -/
def drnP (css : List (List Int)) : Prop := css.length ≤ 7 ∧ ∀ (j : Nat) (xs : List Int), css[j]? = some xs → xs.length ≤ 7
theorem drnP_snoc {css : List (List Int)} {xs : List Int} (h : drnP css) (hl : css.length ≤ 6) (hx : xs.length ≤ 7) : drnP (css ++ [xs]) := ⟨by simp; omega, fun j ys hj => by
  rcases Nat.lt_or_ge j css.length with h1 | h1
  · rw [List.getElem?_append_left h1] at hj
    exact h.2 j ys hj
  · rw [List.getElem?_append_right h1] at hj
    have : j - css.length = 0 := by have := lt_of_get hj; simp at this; omega
    rw [this] at hj
    simp at hj
    subst hj; exact hx⟩
theorem drnP_of {css : List (List Int)} {q : Int} (h : colsP css q) (hq : q ≤ 7) (hl : css.length ≤ 7) : drnP css := ⟨hl, fun j xs hj => by have := h j xs hj; omega⟩
def lenV (v : Value) : Nat := match v with | .slice _ n _ => n | _ => 0
theorem grown_past {a w w' : World} {row : Option Nat} (h : a.grownBy w row) (hb : Below a.heap.size w w') : a.grownBy w' row := ⟨hb.os.trans h.os, hb.tape.trans h.tape, hb.output.trans h.output, Nat.le_trans h.size hb.size, fun i hi hn => (hb.block i hi).trans (h.block i hi hn)⟩
set_option maxRecDepth 100000 in
set_option maxHeartbeats 3200000 in
theorem spec_l15Draw (B g : Nat) (w : World) (hs : Src w B g) :
    Calls Try.prog 59 #[.pointer (some ⟨g, 0, none⟩)] w fun e w' => ∃ v css, e = .returned v ∧ OwnLL w' w.heap.size w'.heap.size v css ∧ drnP css ∧ Src w' B g ∧ w.grownBy w' (some g) := by
  have hgl := hs.lt
  obtain ⟨i0, hi, hz0, hz1, hz2⟩ := info_parts int_info
  go_enter Try.func59, Try.ntmps59
  go_wp2_with fail
  refine (spec_l01Next _ _ _ _ hs (by omega)).mono ?_
  rintro e w1 ⟨r1, rfl, ⟨hr1, ht1⟩, hs1, hg1⟩
  go_wp2_with fail
  refine (spec_l01Next _ _ _ _ hs1 (by omega)).mono ?_
  rintro e w2 ⟨r2, rfl, ⟨hr2, ht2⟩, hs2, hg2⟩
  go_wp2_with fail
  refine (spec_l01Next _ _ _ _ hs2 (by omega)).mono ?_
  rintro e w3 ⟨r3, rfl, ⟨hr3, ht3⟩, hs3, hg3⟩
  have G3 : w.grownBy w3 (some g) := (by repeat' (first | (with_reducible exact World.grownBy.refl _ _) | (with_reducible assumption) | (with_reducible refine grownBy_drewN ?_ _) | (with_reducible refine grownBy_set ?_ _ _) | (with_reducible refine grownBy_alloc' ?_ _) | (refine grownBy_trans ?_ (by with_reducible assumption)) | (refine grownBy_next ?_ (by with_reducible assumption))))
  have hz3 := G3.size
  clear hg1 hg2 hg3 hs hs1 hs2
  by_cases q3 : r3 = 0
  · subst q3
    go_wp2_with fail
    go_loopw [5, 6] (fun x iv wr => ∃ (v : Value) (i : Nat) (css : List (List Int)), v = x ∧ (i : Int) ≤ (6 : Int) ∧ iv = .int .i64 i ∧ Hid (css.length = i) ∧ Hid (colsP css ((4 : Int))) ∧ OwnLL wr w.heap.size wr.heap.size v css ∧ Src wr B g ∧ w.grownBy wr (some g)) (fun _ iv _ => ((6 : Int) - intOf iv).toNat)
    case atStart => exact ⟨_, 0, [], rfl, by omega, rfl, rfl, fun j xs h => by simp at h, (OwnLL.lit0 hz3).mono (Nat.le_refl _) (by simp), hs3.alloc _, (by repeat' (first | (with_reducible exact World.grownBy.refl _ _) | (with_reducible assumption) | (with_reducible refine grownBy_drewN ?_ _) | (with_reducible refine grownBy_set ?_ _ _) | (with_reducible refine grownBy_alloc' ?_ _) | (refine grownBy_trans ?_ (by with_reducible assumption)) | (refine grownBy_next ?_ (by with_reducible assumption))))⟩
    case round =>
      rename World => W0
      obtain ⟨v, i, css, rfl, hi1, rfl, hlc, hco, oL, hsr, hgr⟩ := hrel
      have hszW := hgr.size
      by_cases hlt : (i : Int) < (6 : Int)
      · go_wp2_with fail
        go_loopw [7, 8] (fun u kv wi => ∃ (k : Nat) (row : List Int), (k : Int) ≤ (4 : Int) ∧ kv = .int .i64 k ∧ Hid (row.length = k) ∧ OwnI wi W0.heap.size u row ∧ OwnLL wi w.heap.size W0.heap.size v css ∧ Src wi B g ∧ w.grownBy wi (some g) ∧ W0.heap.size ≤ wi.heap.size) (fun _ kv _ => ((4 : Int) - intOf kv).toNat)
        case atStart => exact ⟨0, [], by omega, rfl, rfl, OwnI.lit0 (Nat.le_refl _), oL.alloc _, hsr.alloc _, (by repeat' (first | (with_reducible exact World.grownBy.refl _ _) | (with_reducible assumption) | (with_reducible refine grownBy_drewN ?_ _) | (with_reducible refine grownBy_set ?_ _ _) | (with_reducible refine grownBy_alloc' ?_ _) | (refine grownBy_trans ?_ (by with_reducible assumption)) | (refine grownBy_next ?_ (by with_reducible assumption)))), by simp⟩
        case round =>
          obtain ⟨k, row, hk1, rfl, hrl, oR, oLi, hsi, hgi, hszi⟩ := hrel
          have gz : g < W0.heap.size := by omega
          clear oL hsr hgr
          by_cases hlk : (k : Int) < (4 : Int)
          · go_wp2_with fail
            refine (spec_l01Next _ _ _ _ hsi (by omega)).mono ?_
            rintro e w5 ⟨r5, rfl, ⟨hr5, ht5⟩, hs5, hg5⟩
            go_wp2_with fail
            refine (spec_l01Next _ _ _ _ hs5 (by omega)).mono ?_
            rintro e w6 ⟨r6, rfl, ⟨hr6, ht6⟩, hs6, hg6⟩
            go_wp2_with fail
            refine (pick6 _ _ _ _ _ _ _ _ _ _ (hs6.alloc _) (by exact heap_alloc_new _ _) (by have := hs6.lt; omega)).mono ?_
            rintro e w7 ⟨r7, rfl, hm7, hs7, hg7⟩
            have o7 := (((oR.far hg5 gz).far hg6 gz).alloc _).far hg7 gz
            have oL7 := (((oLi.far hg5 hgl.2).far hg6 hgl.2).alloc _).far hg7 hgl.2
            have G7 : w.grownBy w7 (some g) := (by repeat' (first | (with_reducible exact World.grownBy.refl _ _) | (with_reducible assumption) | (with_reducible refine grownBy_drewN ?_ _) | (with_reducible refine grownBy_set ?_ _ _) | (with_reducible refine grownBy_alloc' ?_ _) | (refine grownBy_trans ?_ (by with_reducible assumption)) | (refine grownBy_next ?_ (by with_reducible assumption))))
            have hz7 : W0.heap.size ≤ w7.heap.size := by have := hg5.size; have := hg6.size; have := hg7.size; simp only [World.size_alloc] at this; omega
            have hrl7 : row.length ≤ 100 := by have := hrl.out; omega
            clear hg5 hg6 hg7 hm7 oR oLi hsi hgi hs5 hs6
            go_wp2_with (at_builtin; refine push_int o7 rfl _ _ rfl rfl rfl hz7 (by omega) ?_; intro v2 w8 o8 hg8 hb8)
            have hs8 : Src w8 B g := hs7.other hg8 (fun k hk => by have := o7.lt k hk; omega)
            go_roundw
            case rel => exact ⟨k + 1, _, by omega, by go_num, by have := hrl.out; simp [Hid, this], o8, oL7.past hb8, hs8, grown_past G7 (hb8.mono hszW), Nat.le_trans hz7 hg8.size⟩
            case measure => simp [intOf]; omega
          · obtain ⟨Ar, cr, rfl, _⟩ := id oR
            go_wp2_with (at_builtin; refine push_row (lo := w.heap.size) (mid := W0.heap.size) (by exact oLi) (by exact oR) rfl _ _ rfl rfl rfl hszW hszi (by have := hlc.out; omega) ?_; intro v4 w9 o9 hg9 hb9)
            have hs9 : Src w9 B g := hsi.other hg9 (fun k hk => by have := oLi.lt k hk; omega)
            have hrk : (row.length : Int) = (4 : Int) := by have := hrl.out; omega
            have hco2 := Lib.hid (colsP_snoc hco.out hrk)
            clear hrk
            go_roundw
            case rel => exact ⟨_, i + 1, css ++ [row], rfl, by omega, by go_num, by have := hlc.out; simp [Hid, this], hco2.out, o9, hs9, grown_past hgi hb9⟩
            case measure => simp [intOf]; omega
      · go_wp2_with fail
        refine (spec_l01Next _ _ _ _ hsr (by omega)).mono ?_
        rintro e w10 ⟨r10, rfl, ⟨hr10, ht10⟩, hs10, hg10⟩
        have o10 := oL.far hg10 hgl.2
        have G10 : w.grownBy w10 (some g) := (by repeat' (first | (with_reducible exact World.grownBy.refl _ _) | (with_reducible assumption) | (with_reducible refine grownBy_drewN ?_ _) | (with_reducible refine grownBy_set ?_ _ _) | (with_reducible refine grownBy_alloc' ?_ _) | (refine grownBy_trans ?_ (by with_reducible assumption)) | (refine grownBy_next ?_ (by with_reducible assumption))))
        have hz10 : W0.heap.size ≤ w10.heap.size := hg10.size
        have hcl : css.length ≤ 6 := by have := hlc.out; omega
        have hdr := Lib.hid (drnP_of hco.out (by omega) (by omega))
        clear hg10 oL hsr hgr
        by_cases q0 : r10 = 0
        · subst q0
          clear ht10 hr10
          have oR : OwnI (w10.alloc (.cells #[.int .i64 1, .int .i64 2, .int .i64 3, .int .i64 4, .int .i64 5, .int .i64 6, .int .i64 7] 2)) w10.heap.size (.slice (some ⟨w10.heap.size, 0, none⟩) 7 7) [1, 2, 3, 4, 5, 6, 7] := ⟨_, 7, rfl, World.ownsRow_lit w10 #[.int .i64 1, .int .i64 2, .int .i64 3, .int .i64 4, .int .i64 5, .int .i64 6, .int .i64 7] 7 (Nat.le_refl _) (by simp only [maxLen]; omega) rfl⟩
          have hbs : w10.heap.size ≤ (w10.alloc (.cells #[.int .i64 1, .int .i64 2, .int .i64 3, .int .i64 4, .int .i64 5, .int .i64 6, .int .i64 7] 2)).heap.size := by simp
          go_wp2_with (at_builtin; refine push_rowH (lo := w.heap.size) (mid := w10.heap.size) (w10.heap.size + 1) (by simp) (by exact (o10.mono (Nat.le_refl _) hz10).alloc _) (by exact oR) rfl _ _ rfl rfl rfl (by omega) hbs (by omega) ?_; intro v4 w9 o9 hg9 hb9)
          have hs9 : Src w9 B g := (hs10.alloc _).other hg9 (fun k hk => by have := o10.lt k hk; omega)
          have G9 : w.grownBy w9 (some g) := grown_past (grownBy_alloc' G10 _) hb9
          all_goals go_returns
          all_goals exact ⟨_, _, rfl, o9, drnP_snoc hdr.out hcl (by simp), hs9, G9⟩
        have e0 : (r10 == 0) = false := by simpa using q0
        by_cases q1 : r10 = 1
        · subst q1
          clear ht10 hr10 q0
          obtain ⟨xs, hx⟩ := get_of_lt (xs := css) (k := 0) (by have := hlc.out; omega)
          obtain ⟨x, hy⟩ := get_of_lt (xs := xs) (k := 0) (by have := hco.out 0 xs hx; omega)
          obtain ⟨A, c, rfl⟩ := o10.form
          obtain ⟨gq, A2, c2, g2, rfl, hgq, hc0, rfl, hg2, hc1, hf1, hng, hst⟩ := o10.store hx hy
          have xl : (0 : Int) < (xs.length : Int) := by have := lt_of_get hy; omega
          have cl : (0 : Int) < (css.length : Int) := by have := lt_of_get hx; omega
          have xn : 0 < xs.length := by omega
          have cn : 0 < css.length := by omega
          have stH := Lib.hid hst
          have hdr2 : Hid (∀ y, drnP (css.set 0 (xs.set 0 y))) := fun y => ⟨by rw [List.length_set]; exact hdr.out.1, fun j ys hj => by
              rcases Nat.eq_zero_or_pos j with h | h
              · subst h; rw [List.getElem?_set_self (lt_of_get hx)] at hj; injection hj with hj; rw [← hj, List.length_set]; exact hdr.out.2 0 xs hx
              · rw [List.getElem?_set_ne (by omega)] at hj; exact hdr.out.2 j ys hj⟩
          have hxH := Lib.hid hx
          have hyH := Lib.hid hy
          have lq : g2 < w10.heap.size := World.block_lt_of_cell? w10 ⟨g2, 0, none⟩ hc1
          clear hst hx hy
          have G10H := Lib.hid G10
          have o10H := Lib.hid o10
          clear G10 o10
          go_wp2_with fail
          (refine wp_region_noPanic ?_; refine wp_region_held_drew (S := (fun w' => w'.cell? ⟨gq, 0, none⟩ = some (.slice (some ⟨g2, 0, none⟩) xs.length c2))) (by kernel_rfl) ?_ (fun hHeld => ?_); (focus ((try dsimp only); (repeat' (first | (with_reducible assumption) | ((with_reducible apply bx_new) <;> first | (simp only [World.size_alloc, World.size_setCell]; done) | rfl) | (with_reducible apply bx_alloc) | (with_reducible apply bx_other; (first | (simp only [World.size_alloc, World.size_setCell]; omega) | omega)) | (with_reducible apply bx_same) | (with_reducible apply bx_drew) | (with_reducible apply bx_drew1) | (with_reducible apply bx_keep; with_reducible assumption) | fail)))); (refine takeT (i := 0) (d := 58) rfl rfl (by kernel_rfl) (by kernel_rfl) (by kernel_rfl) (by rfl) (by assumption) (v := ?_) ?_ ?_; rotate_left; (focus (intro wq hSw; (try dsimp only at hSw); go_simp; (try (with_reducible rfl)); done)); (try simp only [Act.put, List.setIfInBounds_toArray, List.set_cons_zero, List.set_cons_succ])); (refine takeT (i := 1) (d := 59) rfl rfl (by kernel_rfl) (by kernel_rfl) (by kernel_rfl) (by rfl) (by assumption) (v := ?_) ?_ ?_; rotate_left; (focus (intro wq hSw; (try dsimp only at hSw); go_simp; (try (with_reducible rfl)); done)); (try simp only [Act.put, List.setIfInBounds_toArray, List.set_cons_zero, List.set_cons_succ])); (refine takeT (i := 2) (d := 60) rfl rfl (by kernel_rfl) (by kernel_rfl) (by kernel_rfl) (by rfl) (by assumption) (v := ?_) ?_ ?_; rotate_left; (focus (intro wq hSw; (try dsimp only at hSw); go_simp; (try (with_reducible rfl)); done)); (try simp only [Act.put, List.setIfInBounds_toArray, List.set_cons_zero, List.set_cons_succ])); (refine takeT (i := 3) (d := 61) rfl rfl (by kernel_rfl) (by kernel_rfl) (by kernel_rfl) (by rfl) (by assumption) (v := ?_) ?_ ?_; rotate_left; (focus (intro wq hSw; (try dsimp only at hSw); go_simp; (try (with_reducible rfl)); done)); (try simp only [Act.put, List.setIfInBounds_toArray, List.set_cons_zero, List.set_cons_succ])); (refine wpAnyH_ready (rs := [4]) (by kernel_rfl) (by simp) ?_; refine AllReadyH.cons rfl (fun K hK => ?_) AllReadyH.nil; go_simp; (first | (go_at_call 81; refine (pick3 B g _ _ _ _ _ (by exact Src.drew1 (Src.alloc hs10 _)) (by exact heap_new_drew _ _) (by have := hs10.lt; omega)).mono ?_; rintro e w5 ⟨r5, rfl, hm5, hs5, hg5⟩; have d0 : w5.cell? ⟨gq, 0, none⟩ = some (.slice (some ⟨g2, 0, none⟩) xs.length c2) := grown_cell hg5 (by omega) (by repeat' (first | (with_reducible assumption) | ((with_reducible apply bx_new) <;> first | (simp only [World.size_alloc, World.size_setCell]; done) | rfl) | (with_reducible apply bx_alloc) | (with_reducible apply bx_other; (first | (simp only [World.size_alloc, World.size_setCell]; omega) | omega)) | (with_reducible apply bx_same) | (with_reducible apply bx_drew) | (with_reducible apply bx_drew1) | (with_reducible apply bx_keep; with_reducible assumption) | fail)); have d1 : w5.cell? ⟨g2, 0, none⟩ = some (.int .i64 x) := grown_cell hg5 (by omega) (by repeat' (first | (with_reducible assumption) | ((with_reducible apply bx_new) <;> first | (simp only [World.size_alloc, World.size_setCell]; done) | rfl) | (with_reducible apply bx_alloc) | (with_reducible apply bx_other; (first | (simp only [World.size_alloc, World.size_setCell]; omega) | omega)) | (with_reducible apply bx_same) | (with_reducible apply bx_drew) | (with_reducible apply bx_drew1) | (with_reducible apply bx_keep; with_reducible assumption) | fail)); have f1 : ∀ o, w5.frozen? ⟨g2, o, none⟩ = false := grown_frozen hg5 (by omega) (by simp; omega) (by repeat' (first | (with_reducible assumption) | (with_reducible apply bm_set) | ((with_reducible apply bm_new) <;> (simp only [World.size_alloc, World.size_setCell, World.size_drew]; done)) | (with_reducible apply bm_old; (first | omega | (simp only [World.size_alloc, World.size_setCell, World.size_drew]; omega))) | (with_reducible apply bm_drew) | (with_reducible apply bm_drew1) | (with_reducible apply bm_keep; (with_reducible assumption); (first | omega | (simp only [World.size_alloc, World.size_setCell, World.size_drew]; omega))) | fail)); have fin5 := Lib.hid (fun y => OwnLL.stored (OwnLL.far (OwnLL.drew1 (OwnLL.alloc o10H.out _)) hg5 hgl.2) hxH.out hyH.out d0 y); have G5 : Hid (w.grownBy w5 (some g)) := grownBy_trans (grown_drew1 (grownBy_alloc' G10H.out _)) hg5; have z5 := hg5.size; clear hg5 hm5) | skip); (try go_wp2_with fail); refine hK.out _ _ ?_ (fun hHeld => ?_); (focus ((try dsimp only); (repeat' (first | (with_reducible assumption) | ((with_reducible apply bx_new) <;> first | (simp only [World.size_alloc, World.size_setCell]; done) | rfl) | (with_reducible apply bx_alloc) | (with_reducible apply bx_other; (first | (simp only [World.size_alloc, World.size_setCell]; omega) | omega)) | (with_reducible apply bx_same) | (with_reducible apply bx_drew) | (with_reducible apply bx_drew1) | (with_reducible apply bx_keep; with_reducible assumption) | fail)))); clear hK K; (try simp only [Act.put, List.setIfInBounds_toArray, List.set_cons_zero, List.set_cons_succ])); (refine wpAnyH_ready (rs := [5]) (by kernel_rfl) (by simp) ?_; refine AllReadyH.cons rfl (fun K hK => ?_) AllReadyH.nil; go_simp; (first | (go_at_call 81; refine (pick3 B g _ _ _ _ _ (by exact Src.drew1 (Src.alloc hs10 _)) (by exact heap_new_drew _ _) (by have := hs10.lt; omega)).mono ?_; rintro e w5 ⟨r5, rfl, hm5, hs5, hg5⟩; have d0 : w5.cell? ⟨gq, 0, none⟩ = some (.slice (some ⟨g2, 0, none⟩) xs.length c2) := grown_cell hg5 (by omega) (by repeat' (first | (with_reducible assumption) | ((with_reducible apply bx_new) <;> first | (simp only [World.size_alloc, World.size_setCell]; done) | rfl) | (with_reducible apply bx_alloc) | (with_reducible apply bx_other; (first | (simp only [World.size_alloc, World.size_setCell]; omega) | omega)) | (with_reducible apply bx_same) | (with_reducible apply bx_drew) | (with_reducible apply bx_drew1) | (with_reducible apply bx_keep; with_reducible assumption) | fail)); have d1 : w5.cell? ⟨g2, 0, none⟩ = some (.int .i64 x) := grown_cell hg5 (by omega) (by repeat' (first | (with_reducible assumption) | ((with_reducible apply bx_new) <;> first | (simp only [World.size_alloc, World.size_setCell]; done) | rfl) | (with_reducible apply bx_alloc) | (with_reducible apply bx_other; (first | (simp only [World.size_alloc, World.size_setCell]; omega) | omega)) | (with_reducible apply bx_same) | (with_reducible apply bx_drew) | (with_reducible apply bx_drew1) | (with_reducible apply bx_keep; with_reducible assumption) | fail)); have f1 : ∀ o, w5.frozen? ⟨g2, o, none⟩ = false := grown_frozen hg5 (by omega) (by simp; omega) (by repeat' (first | (with_reducible assumption) | (with_reducible apply bm_set) | ((with_reducible apply bm_new) <;> (simp only [World.size_alloc, World.size_setCell, World.size_drew]; done)) | (with_reducible apply bm_old; (first | omega | (simp only [World.size_alloc, World.size_setCell, World.size_drew]; omega))) | (with_reducible apply bm_drew) | (with_reducible apply bm_drew1) | (with_reducible apply bm_keep; (with_reducible assumption); (first | omega | (simp only [World.size_alloc, World.size_setCell, World.size_drew]; omega))) | fail)); have fin5 := Lib.hid (fun y => OwnLL.stored (OwnLL.far (OwnLL.drew1 (OwnLL.alloc o10H.out _)) hg5 hgl.2) hxH.out hyH.out d0 y); have G5 : Hid (w.grownBy w5 (some g)) := grownBy_trans (grown_drew1 (grownBy_alloc' G10H.out _)) hg5; have z5 := hg5.size; clear hg5 hm5) | skip); (try go_wp2_with fail); refine hK.out _ _ ?_ (fun hHeld => ?_); (focus ((try dsimp only); (repeat' (first | (with_reducible assumption) | ((with_reducible apply bx_new) <;> first | (simp only [World.size_alloc, World.size_setCell]; done) | rfl) | (with_reducible apply bx_alloc) | (with_reducible apply bx_other; (first | (simp only [World.size_alloc, World.size_setCell]; omega) | omega)) | (with_reducible apply bx_same) | (with_reducible apply bx_drew) | (with_reducible apply bx_drew1) | (with_reducible apply bx_keep; with_reducible assumption) | fail)))); clear hK K; (try simp only [Act.put, List.setIfInBounds_toArray, List.set_cons_zero, List.set_cons_succ])); (refine takeT (i := 6) (d := 64) rfl rfl (by kernel_rfl) (by kernel_rfl) (by kernel_rfl) (by rfl) (by assumption) (v := ?_) ?_ ?_; rotate_left; (focus (intro wq hSw; (try dsimp only at hSw); go_simp; (try (with_reducible rfl)); done)); (try simp only [Act.put, List.setIfInBounds_toArray, List.set_cons_zero, List.set_cons_succ])); (refine wpAnyH_ready (rs := [7]) (by kernel_rfl) (by simp) ?_; refine AllReadyH.cons rfl (fun K hK => ?_) AllReadyH.nil; go_simp; (first | (go_at_call 81; refine (pick3 B g _ _ _ _ _ (by exact Src.drew1 (Src.alloc hs10 _)) (by exact heap_new_drew _ _) (by have := hs10.lt; omega)).mono ?_; rintro e w5 ⟨r5, rfl, hm5, hs5, hg5⟩; have d0 : w5.cell? ⟨gq, 0, none⟩ = some (.slice (some ⟨g2, 0, none⟩) xs.length c2) := grown_cell hg5 (by omega) (by repeat' (first | (with_reducible assumption) | ((with_reducible apply bx_new) <;> first | (simp only [World.size_alloc, World.size_setCell]; done) | rfl) | (with_reducible apply bx_alloc) | (with_reducible apply bx_other; (first | (simp only [World.size_alloc, World.size_setCell]; omega) | omega)) | (with_reducible apply bx_same) | (with_reducible apply bx_drew) | (with_reducible apply bx_drew1) | (with_reducible apply bx_keep; with_reducible assumption) | fail)); have d1 : w5.cell? ⟨g2, 0, none⟩ = some (.int .i64 x) := grown_cell hg5 (by omega) (by repeat' (first | (with_reducible assumption) | ((with_reducible apply bx_new) <;> first | (simp only [World.size_alloc, World.size_setCell]; done) | rfl) | (with_reducible apply bx_alloc) | (with_reducible apply bx_other; (first | (simp only [World.size_alloc, World.size_setCell]; omega) | omega)) | (with_reducible apply bx_same) | (with_reducible apply bx_drew) | (with_reducible apply bx_drew1) | (with_reducible apply bx_keep; with_reducible assumption) | fail)); have f1 : ∀ o, w5.frozen? ⟨g2, o, none⟩ = false := grown_frozen hg5 (by omega) (by simp; omega) (by repeat' (first | (with_reducible assumption) | (with_reducible apply bm_set) | ((with_reducible apply bm_new) <;> (simp only [World.size_alloc, World.size_setCell, World.size_drew]; done)) | (with_reducible apply bm_old; (first | omega | (simp only [World.size_alloc, World.size_setCell, World.size_drew]; omega))) | (with_reducible apply bm_drew) | (with_reducible apply bm_drew1) | (with_reducible apply bm_keep; (with_reducible assumption); (first | omega | (simp only [World.size_alloc, World.size_setCell, World.size_drew]; omega))) | fail)); have fin5 := Lib.hid (fun y => OwnLL.stored (OwnLL.far (OwnLL.drew1 (OwnLL.alloc o10H.out _)) hg5 hgl.2) hxH.out hyH.out d0 y); have G5 : Hid (w.grownBy w5 (some g)) := grownBy_trans (grown_drew1 (grownBy_alloc' G10H.out _)) hg5; have z5 := hg5.size; clear hg5 hm5) | skip); (try go_wp2_with fail); refine hK.out _ _ ?_ (fun hHeld => ?_); (focus ((try dsimp only); (repeat' (first | (with_reducible assumption) | ((with_reducible apply bx_new) <;> first | (simp only [World.size_alloc, World.size_setCell]; done) | rfl) | (with_reducible apply bx_alloc) | (with_reducible apply bx_other; (first | (simp only [World.size_alloc, World.size_setCell]; omega) | omega)) | (with_reducible apply bx_same) | (with_reducible apply bx_drew) | (with_reducible apply bx_drew1) | (with_reducible apply bx_keep; with_reducible assumption) | fail)))); clear hK K; (try simp only [Act.put, List.setIfInBounds_toArray, List.set_cons_zero, List.set_cons_succ])); refine wpAnyH_done (by kernel_rfl) ?_ _; refine NoPanic.normal ?_)
          go_wp2_with fail
          all_goals go_returns
          all_goals exact ⟨_, _, rfl, (fin5.out r5).mono (Nat.le_refl _) (by simp only [World.size_setCell, World.size_drew, World.size_alloc] at z5 ⊢; omega), hdr2.out r5, hs5.below_set hgl (by omega), grown_set2 G5.out hgl.2 (by omega)⟩
        have e1 : (r10 == 1) = false := by simpa using q1
        by_cases q2 : r10 = 2
        · subst q2
          clear ht10 hr10 q0 q1
          have hcast : (4 : Int) = ((4 : Nat) : Int) := by omega
          have hcast' := Lib.hid hcast
          have hcb : 4 ≤ 4 := by omega
          clear hcast
          go_wp2_with fail
          go_loopw [5] (fun v wr => ∃ css : List (List Int), Hid (drnP css) ∧ OwnLL wr w.heap.size wr.heap.size v css ∧ Src wr B g ∧ w.grownBy wr (some g)) (fun v _ => 8 - lenV v)
          case atStart => exact ⟨css, hdr, o10.top hz10, hs10, G10⟩
          case round =>
            rename World => W1
            obtain ⟨css2, hd2, o2, hsr, hgr⟩ := hrel
            have hszW1 := hgr.size
            obtain ⟨A, c, rfl⟩ := o2.form
            have hl7 := hd2.out.1
            go_wp2_with fail
            refine (spec_l01Next _ _ _ _ hsr (by omega)).mono ?_
            rintro e w11 ⟨r11, rfl, ⟨hr11, ht11⟩, hs11, hg11⟩
            have o11 := o2.far hg11 hgl.2
            have G11 : w.grownBy w11 (some g) := (by repeat' (first | (with_reducible exact World.grownBy.refl _ _) | (with_reducible assumption) | (with_reducible refine grownBy_drewN ?_ _) | (with_reducible refine grownBy_set ?_ _ _) | (with_reducible refine grownBy_alloc' ?_ _) | (refine grownBy_trans ?_ (by with_reducible assumption)) | (refine grownBy_next ?_ (by with_reducible assumption))))
            have hz11 : W1.heap.size ≤ w11.heap.size := hg11.size
            clear hg11 hsr hgr o2 hs10 o10 G10
            by_cases hlt2 : (css2.length : Int) < 6 + r11
            · have hmr : ∀ w12 : World, w12.ownsRow w11.heap.size 2 1 (.slice (some ⟨w11.heap.size, 0, none⟩) 4 4) 4 (madeCells (Value.int .i64 0).cells (4 * 1)).toList → w11.grownBy w12 none → Below w11.heap.size w11 w12 ∧ OwnI w12 w11.heap.size (.slice (some ⟨w11.heap.size, 0, none⟩) 4 4) (List.replicate 4 0) ∧ OwnLL w12 w.heap.size w11.heap.size (.slice A css2.length c) css2 ∧ Src w12 B g ∧ w.grownBy w12 (some g) := fun w12 hown12 hg12 => by
                have B12 : Below w11.heap.size w11 w12 := ⟨hg12.os, hg12.tape, hg12.output, hg12.size, fun k hk => hg12.block k hk (by simp)⟩
                exact ⟨B12, ⟨some ⟨w11.heap.size, 0, none⟩, 4, by rw [List.length_replicate], by simpa [toList_madeCells_one, Value.cells] using hown12⟩, (o11.mono (Nat.le_refl _) hz11).next B12, hs11.below B12, (by repeat' (first | (with_reducible exact World.grownBy.refl _ _) | (with_reducible assumption) | (with_reducible refine grownBy_drewN ?_ _) | (with_reducible refine grownBy_set ?_ _ _) | (with_reducible refine grownBy_alloc' ?_ _) | (refine grownBy_trans ?_ (by with_reducible assumption)) | (refine grownBy_next ?_ (by with_reducible assumption))))⟩
              have hmrH := Lib.hid hmr
              clear hmr
              go_wp2_with (first | (at_make; refine wpList_make_full _ rfl _ _ 27 rfl w11.heap.size 2 i0 _ 1 Try.underlying27 hi hz0 hz1 .i64 .i64 _ _ 4 rfl rfl hcast'.out hcast'.out (by rw [hz2] <;> omega) (by simp only [maxLen]; omega) (Nat.le_refl _) ?_; intro w12 hown12 hg12; have hm12 := hmrH.out w12 hown12 hg12; clear hown12 hg12; have B12 := hm12.1; have oR := hm12.2.1; have o12 := hm12.2.2.1; have hs12 := hm12.2.2.2.1; have G12 := hm12.2.2.2.2; have hz12 := B12.size; clear hm12) | (at_builtin; refine push_row (lo := w.heap.size) (mid := w11.heap.size) (by exact o12) (by exact oR) rfl _ _ rfl rfl rfl (by omega) hz12 (by omega) ?_; intro v4 w9 o9 hg9 hb9))
              have hs9 : Src w9 B g := hs12.other hg9 (fun k hk => by have := o12.lt k hk; omega)
              obtain ⟨A9, c9, rfl⟩ := o9.form
              go_roundw
              case rel => exact ⟨_, drnP_snoc hd2.out (by omega) (by rw [List.length_replicate]; omega), o9, hs9, grown_past G12 hb9⟩
              case measure => simp [lenV]; omega
            · have hc3 : (3 : Int) ≤ (css2.length : Int) := by omega
              have hcap := o11.cap
              have hc3 : (3 : Int) ≤ (css2.length : Int) := by omega
              have hc4 : (3 : Int) ≤ (c : Int) := by omega
              have ot := o11.take (k := 3) (by omega) (by omega)
              go_wp2_with fail
              all_goals go_returns
              all_goals exact ⟨_, css2.take 3, rfl, ot.top hz11, ⟨by rw [List.length_take]; omega, fun j xs hj => by rw [List.getElem?_take] at hj; split at hj; (exact hd2.out.2 j xs hj); cases hj⟩, hs11, G11⟩
        · have e2 : (r10 == 2) = false := by simpa using q2
          go_wp2_with fail
          all_goals go_returns
          all_goals first | exact ⟨_, _, rfl, o10.top hz10, hdr.out, hs10, G10⟩ | exact ⟨_, o10.top hz10, hdr.out, hs10, G10⟩
  · have e3 : (r3 == 0) = false := by simpa using q3
    go_wp2_with fail
    go_loopw [5, 6] (fun x iv wr => ∃ (v : Value) (i : Nat) (css : List (List Int)), v = x ∧ (i : Int) ≤ r1 ∧ iv = .int .i64 i ∧ Hid (css.length = i) ∧ Hid (colsP css (r2)) ∧ OwnLL wr w.heap.size wr.heap.size v css ∧ Src wr B g ∧ w.grownBy wr (some g)) (fun _ iv _ => (r1 - intOf iv).toNat)
    case atStart => exact ⟨_, 0, [], rfl, by omega, rfl, rfl, fun j xs h => by simp at h, (OwnLL.lit0 hz3).mono (Nat.le_refl _) (by simp), hs3.alloc _, (by repeat' (first | (with_reducible exact World.grownBy.refl _ _) | (with_reducible assumption) | (with_reducible refine grownBy_drewN ?_ _) | (with_reducible refine grownBy_set ?_ _ _) | (with_reducible refine grownBy_alloc' ?_ _) | (refine grownBy_trans ?_ (by with_reducible assumption)) | (refine grownBy_next ?_ (by with_reducible assumption))))⟩
    case round =>
      rename World => W0
      obtain ⟨v, i, css, rfl, hi1, rfl, hlc, hco, oL, hsr, hgr⟩ := hrel
      have hszW := hgr.size
      by_cases hlt : (i : Int) < r1
      · go_wp2_with fail
        go_loopw [7, 8] (fun u kv wi => ∃ (k : Nat) (row : List Int), (k : Int) ≤ r2 ∧ kv = .int .i64 k ∧ Hid (row.length = k) ∧ OwnI wi W0.heap.size u row ∧ OwnLL wi w.heap.size W0.heap.size v css ∧ Src wi B g ∧ w.grownBy wi (some g) ∧ W0.heap.size ≤ wi.heap.size) (fun _ kv _ => (r2 - intOf kv).toNat)
        case atStart => exact ⟨0, [], by omega, rfl, rfl, OwnI.lit0 (Nat.le_refl _), oL.alloc _, hsr.alloc _, (by repeat' (first | (with_reducible exact World.grownBy.refl _ _) | (with_reducible assumption) | (with_reducible refine grownBy_drewN ?_ _) | (with_reducible refine grownBy_set ?_ _ _) | (with_reducible refine grownBy_alloc' ?_ _) | (refine grownBy_trans ?_ (by with_reducible assumption)) | (refine grownBy_next ?_ (by with_reducible assumption)))), by simp⟩
        case round =>
          obtain ⟨k, row, hk1, rfl, hrl, oR, oLi, hsi, hgi, hszi⟩ := hrel
          have gz : g < W0.heap.size := by omega
          clear oL hsr hgr
          by_cases hlk : (k : Int) < r2
          · go_wp2_with fail
            refine (spec_l01Next _ _ _ _ hsi (by omega)).mono ?_
            rintro e w5 ⟨r5, rfl, ⟨hr5, ht5⟩, hs5, hg5⟩
            go_wp2_with fail
            refine (spec_l01Next _ _ _ _ hs5 (by omega)).mono ?_
            rintro e w6 ⟨r6, rfl, ⟨hr6, ht6⟩, hs6, hg6⟩
            go_wp2_with fail
            refine (pick6 _ _ _ _ _ _ _ _ _ _ (hs6.alloc _) (by exact heap_alloc_new _ _) (by have := hs6.lt; omega)).mono ?_
            rintro e w7 ⟨r7, rfl, hm7, hs7, hg7⟩
            have o7 := (((oR.far hg5 gz).far hg6 gz).alloc _).far hg7 gz
            have oL7 := (((oLi.far hg5 hgl.2).far hg6 hgl.2).alloc _).far hg7 hgl.2
            have G7 : w.grownBy w7 (some g) := (by repeat' (first | (with_reducible exact World.grownBy.refl _ _) | (with_reducible assumption) | (with_reducible refine grownBy_drewN ?_ _) | (with_reducible refine grownBy_set ?_ _ _) | (with_reducible refine grownBy_alloc' ?_ _) | (refine grownBy_trans ?_ (by with_reducible assumption)) | (refine grownBy_next ?_ (by with_reducible assumption))))
            have hz7 : W0.heap.size ≤ w7.heap.size := by have := hg5.size; have := hg6.size; have := hg7.size; simp only [World.size_alloc] at this; omega
            have hrl7 : row.length ≤ 100 := by have := hrl.out; omega
            clear hg5 hg6 hg7 hm7 oR oLi hsi hgi hs5 hs6
            go_wp2_with (at_builtin; refine push_int o7 rfl _ _ rfl rfl rfl hz7 (by omega) ?_; intro v2 w8 o8 hg8 hb8)
            have hs8 : Src w8 B g := hs7.other hg8 (fun k hk => by have := o7.lt k hk; omega)
            go_roundw
            case rel => exact ⟨k + 1, _, by omega, by go_num, by have := hrl.out; simp [Hid, this], o8, oL7.past hb8, hs8, grown_past G7 (hb8.mono hszW), Nat.le_trans hz7 hg8.size⟩
            case measure => simp [intOf]; omega
          · obtain ⟨Ar, cr, rfl, _⟩ := id oR
            go_wp2_with (at_builtin; refine push_row (lo := w.heap.size) (mid := W0.heap.size) (by exact oLi) (by exact oR) rfl _ _ rfl rfl rfl hszW hszi (by have := hlc.out; omega) ?_; intro v4 w9 o9 hg9 hb9)
            have hs9 : Src w9 B g := hsi.other hg9 (fun k hk => by have := oLi.lt k hk; omega)
            have hrk : (row.length : Int) = r2 := by have := hrl.out; omega
            have hco2 := Lib.hid (colsP_snoc hco.out hrk)
            clear hrk
            go_roundw
            case rel => exact ⟨_, i + 1, css ++ [row], rfl, by omega, by go_num, by have := hlc.out; simp [Hid, this], hco2.out, o9, hs9, grown_past hgi hb9⟩
            case measure => simp [intOf]; omega
      · go_wp2_with fail
        refine (spec_l01Next _ _ _ _ hsr (by omega)).mono ?_
        rintro e w10 ⟨r10, rfl, ⟨hr10, ht10⟩, hs10, hg10⟩
        have o10 := oL.far hg10 hgl.2
        have G10 : w.grownBy w10 (some g) := (by repeat' (first | (with_reducible exact World.grownBy.refl _ _) | (with_reducible assumption) | (with_reducible refine grownBy_drewN ?_ _) | (with_reducible refine grownBy_set ?_ _ _) | (with_reducible refine grownBy_alloc' ?_ _) | (refine grownBy_trans ?_ (by with_reducible assumption)) | (refine grownBy_next ?_ (by with_reducible assumption))))
        have hz10 : W0.heap.size ≤ w10.heap.size := hg10.size
        have hcl : css.length ≤ 6 := by have := hlc.out; omega
        have hdr := Lib.hid (drnP_of hco.out (by omega) (by omega))
        clear hg10 oL hsr hgr
        by_cases q0 : r10 = 0
        · subst q0
          clear ht10 hr10
          have oR : OwnI (w10.alloc (.cells #[.int .i64 1, .int .i64 2, .int .i64 3, .int .i64 4, .int .i64 5, .int .i64 6, .int .i64 7] 2)) w10.heap.size (.slice (some ⟨w10.heap.size, 0, none⟩) 7 7) [1, 2, 3, 4, 5, 6, 7] := ⟨_, 7, rfl, World.ownsRow_lit w10 #[.int .i64 1, .int .i64 2, .int .i64 3, .int .i64 4, .int .i64 5, .int .i64 6, .int .i64 7] 7 (Nat.le_refl _) (by simp only [maxLen]; omega) rfl⟩
          have hbs : w10.heap.size ≤ (w10.alloc (.cells #[.int .i64 1, .int .i64 2, .int .i64 3, .int .i64 4, .int .i64 5, .int .i64 6, .int .i64 7] 2)).heap.size := by simp
          go_wp2_with (at_builtin; refine push_rowH (lo := w.heap.size) (mid := w10.heap.size) (w10.heap.size + 1) (by simp) (by exact (o10.mono (Nat.le_refl _) hz10).alloc _) (by exact oR) rfl _ _ rfl rfl rfl (by omega) hbs (by omega) ?_; intro v4 w9 o9 hg9 hb9)
          have hs9 : Src w9 B g := (hs10.alloc _).other hg9 (fun k hk => by have := o10.lt k hk; omega)
          have G9 : w.grownBy w9 (some g) := grown_past (grownBy_alloc' G10 _) hb9
          all_goals go_returns
          all_goals exact ⟨_, _, rfl, o9, drnP_snoc hdr.out hcl (by simp), hs9, G9⟩
        have e0 : (r10 == 0) = false := by simpa using q0
        by_cases q1 : r10 = 1
        · subst q1
          clear ht10 hr10 q0
          by_cases p1 : (0 : Int) < r1
          · by_cases p2 : (0 : Int) < r2
            · skip
              obtain ⟨xs, hx⟩ := get_of_lt (xs := css) (k := 0) (by have := hlc.out; omega)
              obtain ⟨x, hy⟩ := get_of_lt (xs := xs) (k := 0) (by have := hco.out 0 xs hx; omega)
              obtain ⟨A, c, rfl⟩ := o10.form
              obtain ⟨gq, A2, c2, g2, rfl, hgq, hc0, rfl, hg2, hc1, hf1, hng, hst⟩ := o10.store hx hy
              have xl : (0 : Int) < (xs.length : Int) := by have := lt_of_get hy; omega
              have cl : (0 : Int) < (css.length : Int) := by have := lt_of_get hx; omega
              have xn : 0 < xs.length := by omega
              have cn : 0 < css.length := by omega
              have stH := Lib.hid hst
              have hdr2 : Hid (∀ y, drnP (css.set 0 (xs.set 0 y))) := fun y => ⟨by rw [List.length_set]; exact hdr.out.1, fun j ys hj => by
                  rcases Nat.eq_zero_or_pos j with h | h
                  · subst h; rw [List.getElem?_set_self (lt_of_get hx)] at hj; injection hj with hj; rw [← hj, List.length_set]; exact hdr.out.2 0 xs hx
                  · rw [List.getElem?_set_ne (by omega)] at hj; exact hdr.out.2 j ys hj⟩
              have hxH := Lib.hid hx
              have hyH := Lib.hid hy
              have lq : g2 < w10.heap.size := World.block_lt_of_cell? w10 ⟨g2, 0, none⟩ hc1
              clear hst hx hy
              have G10H := Lib.hid G10
              have o10H := Lib.hid o10
              clear G10 o10
              go_wp2_with fail
              (refine wp_region_noPanic ?_; refine wp_region_held_drew (S := (fun w' => w'.cell? ⟨gq, 0, none⟩ = some (.slice (some ⟨g2, 0, none⟩) xs.length c2))) (by kernel_rfl) ?_ (fun hHeld => ?_); (focus ((try dsimp only); (repeat' (first | (with_reducible assumption) | ((with_reducible apply bx_new) <;> first | (simp only [World.size_alloc, World.size_setCell]; done) | rfl) | (with_reducible apply bx_alloc) | (with_reducible apply bx_other; (first | (simp only [World.size_alloc, World.size_setCell]; omega) | omega)) | (with_reducible apply bx_same) | (with_reducible apply bx_drew) | (with_reducible apply bx_drew1) | (with_reducible apply bx_keep; with_reducible assumption) | fail)))); (refine takeT (i := 0) (d := 58) rfl rfl (by kernel_rfl) (by kernel_rfl) (by kernel_rfl) (by rfl) (by assumption) (v := ?_) ?_ ?_; rotate_left; (focus (intro wq hSw; (try dsimp only at hSw); go_simp; (try (with_reducible rfl)); done)); (try simp only [Act.put, List.setIfInBounds_toArray, List.set_cons_zero, List.set_cons_succ])); (refine takeT (i := 1) (d := 59) rfl rfl (by kernel_rfl) (by kernel_rfl) (by kernel_rfl) (by rfl) (by assumption) (v := ?_) ?_ ?_; rotate_left; (focus (intro wq hSw; (try dsimp only at hSw); go_simp; (try (with_reducible rfl)); done)); (try simp only [Act.put, List.setIfInBounds_toArray, List.set_cons_zero, List.set_cons_succ])); (refine takeT (i := 2) (d := 60) rfl rfl (by kernel_rfl) (by kernel_rfl) (by kernel_rfl) (by rfl) (by assumption) (v := ?_) ?_ ?_; rotate_left; (focus (intro wq hSw; (try dsimp only at hSw); go_simp; (try (with_reducible rfl)); done)); (try simp only [Act.put, List.setIfInBounds_toArray, List.set_cons_zero, List.set_cons_succ])); (refine takeT (i := 3) (d := 61) rfl rfl (by kernel_rfl) (by kernel_rfl) (by kernel_rfl) (by rfl) (by assumption) (v := ?_) ?_ ?_; rotate_left; (focus (intro wq hSw; (try dsimp only at hSw); go_simp; (try (with_reducible rfl)); done)); (try simp only [Act.put, List.setIfInBounds_toArray, List.set_cons_zero, List.set_cons_succ])); (refine wpAnyH_ready (rs := [4]) (by kernel_rfl) (by simp) ?_; refine AllReadyH.cons rfl (fun K hK => ?_) AllReadyH.nil; go_simp; (first | (go_at_call 81; refine (pick3 B g _ _ _ _ _ (by exact Src.drew1 (Src.alloc hs10 _)) (by exact heap_new_drew _ _) (by have := hs10.lt; omega)).mono ?_; rintro e w5 ⟨r5, rfl, hm5, hs5, hg5⟩; have d0 : w5.cell? ⟨gq, 0, none⟩ = some (.slice (some ⟨g2, 0, none⟩) xs.length c2) := grown_cell hg5 (by omega) (by repeat' (first | (with_reducible assumption) | ((with_reducible apply bx_new) <;> first | (simp only [World.size_alloc, World.size_setCell]; done) | rfl) | (with_reducible apply bx_alloc) | (with_reducible apply bx_other; (first | (simp only [World.size_alloc, World.size_setCell]; omega) | omega)) | (with_reducible apply bx_same) | (with_reducible apply bx_drew) | (with_reducible apply bx_drew1) | (with_reducible apply bx_keep; with_reducible assumption) | fail)); have d1 : w5.cell? ⟨g2, 0, none⟩ = some (.int .i64 x) := grown_cell hg5 (by omega) (by repeat' (first | (with_reducible assumption) | ((with_reducible apply bx_new) <;> first | (simp only [World.size_alloc, World.size_setCell]; done) | rfl) | (with_reducible apply bx_alloc) | (with_reducible apply bx_other; (first | (simp only [World.size_alloc, World.size_setCell]; omega) | omega)) | (with_reducible apply bx_same) | (with_reducible apply bx_drew) | (with_reducible apply bx_drew1) | (with_reducible apply bx_keep; with_reducible assumption) | fail)); have f1 : ∀ o, w5.frozen? ⟨g2, o, none⟩ = false := grown_frozen hg5 (by omega) (by simp; omega) (by repeat' (first | (with_reducible assumption) | (with_reducible apply bm_set) | ((with_reducible apply bm_new) <;> (simp only [World.size_alloc, World.size_setCell, World.size_drew]; done)) | (with_reducible apply bm_old; (first | omega | (simp only [World.size_alloc, World.size_setCell, World.size_drew]; omega))) | (with_reducible apply bm_drew) | (with_reducible apply bm_drew1) | (with_reducible apply bm_keep; (with_reducible assumption); (first | omega | (simp only [World.size_alloc, World.size_setCell, World.size_drew]; omega))) | fail)); have fin5 := Lib.hid (fun y => OwnLL.stored (OwnLL.far (OwnLL.drew1 (OwnLL.alloc o10H.out _)) hg5 hgl.2) hxH.out hyH.out d0 y); have G5 : Hid (w.grownBy w5 (some g)) := grownBy_trans (grown_drew1 (grownBy_alloc' G10H.out _)) hg5; have z5 := hg5.size; clear hg5 hm5) | skip); (try go_wp2_with fail); refine hK.out _ _ ?_ (fun hHeld => ?_); (focus ((try dsimp only); (repeat' (first | (with_reducible assumption) | ((with_reducible apply bx_new) <;> first | (simp only [World.size_alloc, World.size_setCell]; done) | rfl) | (with_reducible apply bx_alloc) | (with_reducible apply bx_other; (first | (simp only [World.size_alloc, World.size_setCell]; omega) | omega)) | (with_reducible apply bx_same) | (with_reducible apply bx_drew) | (with_reducible apply bx_drew1) | (with_reducible apply bx_keep; with_reducible assumption) | fail)))); clear hK K; (try simp only [Act.put, List.setIfInBounds_toArray, List.set_cons_zero, List.set_cons_succ])); (refine wpAnyH_ready (rs := [5]) (by kernel_rfl) (by simp) ?_; refine AllReadyH.cons rfl (fun K hK => ?_) AllReadyH.nil; go_simp; (first | (go_at_call 81; refine (pick3 B g _ _ _ _ _ (by exact Src.drew1 (Src.alloc hs10 _)) (by exact heap_new_drew _ _) (by have := hs10.lt; omega)).mono ?_; rintro e w5 ⟨r5, rfl, hm5, hs5, hg5⟩; have d0 : w5.cell? ⟨gq, 0, none⟩ = some (.slice (some ⟨g2, 0, none⟩) xs.length c2) := grown_cell hg5 (by omega) (by repeat' (first | (with_reducible assumption) | ((with_reducible apply bx_new) <;> first | (simp only [World.size_alloc, World.size_setCell]; done) | rfl) | (with_reducible apply bx_alloc) | (with_reducible apply bx_other; (first | (simp only [World.size_alloc, World.size_setCell]; omega) | omega)) | (with_reducible apply bx_same) | (with_reducible apply bx_drew) | (with_reducible apply bx_drew1) | (with_reducible apply bx_keep; with_reducible assumption) | fail)); have d1 : w5.cell? ⟨g2, 0, none⟩ = some (.int .i64 x) := grown_cell hg5 (by omega) (by repeat' (first | (with_reducible assumption) | ((with_reducible apply bx_new) <;> first | (simp only [World.size_alloc, World.size_setCell]; done) | rfl) | (with_reducible apply bx_alloc) | (with_reducible apply bx_other; (first | (simp only [World.size_alloc, World.size_setCell]; omega) | omega)) | (with_reducible apply bx_same) | (with_reducible apply bx_drew) | (with_reducible apply bx_drew1) | (with_reducible apply bx_keep; with_reducible assumption) | fail)); have f1 : ∀ o, w5.frozen? ⟨g2, o, none⟩ = false := grown_frozen hg5 (by omega) (by simp; omega) (by repeat' (first | (with_reducible assumption) | (with_reducible apply bm_set) | ((with_reducible apply bm_new) <;> (simp only [World.size_alloc, World.size_setCell, World.size_drew]; done)) | (with_reducible apply bm_old; (first | omega | (simp only [World.size_alloc, World.size_setCell, World.size_drew]; omega))) | (with_reducible apply bm_drew) | (with_reducible apply bm_drew1) | (with_reducible apply bm_keep; (with_reducible assumption); (first | omega | (simp only [World.size_alloc, World.size_setCell, World.size_drew]; omega))) | fail)); have fin5 := Lib.hid (fun y => OwnLL.stored (OwnLL.far (OwnLL.drew1 (OwnLL.alloc o10H.out _)) hg5 hgl.2) hxH.out hyH.out d0 y); have G5 : Hid (w.grownBy w5 (some g)) := grownBy_trans (grown_drew1 (grownBy_alloc' G10H.out _)) hg5; have z5 := hg5.size; clear hg5 hm5) | skip); (try go_wp2_with fail); refine hK.out _ _ ?_ (fun hHeld => ?_); (focus ((try dsimp only); (repeat' (first | (with_reducible assumption) | ((with_reducible apply bx_new) <;> first | (simp only [World.size_alloc, World.size_setCell]; done) | rfl) | (with_reducible apply bx_alloc) | (with_reducible apply bx_other; (first | (simp only [World.size_alloc, World.size_setCell]; omega) | omega)) | (with_reducible apply bx_same) | (with_reducible apply bx_drew) | (with_reducible apply bx_drew1) | (with_reducible apply bx_keep; with_reducible assumption) | fail)))); clear hK K; (try simp only [Act.put, List.setIfInBounds_toArray, List.set_cons_zero, List.set_cons_succ])); (refine takeT (i := 6) (d := 64) rfl rfl (by kernel_rfl) (by kernel_rfl) (by kernel_rfl) (by rfl) (by assumption) (v := ?_) ?_ ?_; rotate_left; (focus (intro wq hSw; (try dsimp only at hSw); go_simp; (try (with_reducible rfl)); done)); (try simp only [Act.put, List.setIfInBounds_toArray, List.set_cons_zero, List.set_cons_succ])); (refine wpAnyH_ready (rs := [7]) (by kernel_rfl) (by simp) ?_; refine AllReadyH.cons rfl (fun K hK => ?_) AllReadyH.nil; go_simp; (first | (go_at_call 81; refine (pick3 B g _ _ _ _ _ (by exact Src.drew1 (Src.alloc hs10 _)) (by exact heap_new_drew _ _) (by have := hs10.lt; omega)).mono ?_; rintro e w5 ⟨r5, rfl, hm5, hs5, hg5⟩; have d0 : w5.cell? ⟨gq, 0, none⟩ = some (.slice (some ⟨g2, 0, none⟩) xs.length c2) := grown_cell hg5 (by omega) (by repeat' (first | (with_reducible assumption) | ((with_reducible apply bx_new) <;> first | (simp only [World.size_alloc, World.size_setCell]; done) | rfl) | (with_reducible apply bx_alloc) | (with_reducible apply bx_other; (first | (simp only [World.size_alloc, World.size_setCell]; omega) | omega)) | (with_reducible apply bx_same) | (with_reducible apply bx_drew) | (with_reducible apply bx_drew1) | (with_reducible apply bx_keep; with_reducible assumption) | fail)); have d1 : w5.cell? ⟨g2, 0, none⟩ = some (.int .i64 x) := grown_cell hg5 (by omega) (by repeat' (first | (with_reducible assumption) | ((with_reducible apply bx_new) <;> first | (simp only [World.size_alloc, World.size_setCell]; done) | rfl) | (with_reducible apply bx_alloc) | (with_reducible apply bx_other; (first | (simp only [World.size_alloc, World.size_setCell]; omega) | omega)) | (with_reducible apply bx_same) | (with_reducible apply bx_drew) | (with_reducible apply bx_drew1) | (with_reducible apply bx_keep; with_reducible assumption) | fail)); have f1 : ∀ o, w5.frozen? ⟨g2, o, none⟩ = false := grown_frozen hg5 (by omega) (by simp; omega) (by repeat' (first | (with_reducible assumption) | (with_reducible apply bm_set) | ((with_reducible apply bm_new) <;> (simp only [World.size_alloc, World.size_setCell, World.size_drew]; done)) | (with_reducible apply bm_old; (first | omega | (simp only [World.size_alloc, World.size_setCell, World.size_drew]; omega))) | (with_reducible apply bm_drew) | (with_reducible apply bm_drew1) | (with_reducible apply bm_keep; (with_reducible assumption); (first | omega | (simp only [World.size_alloc, World.size_setCell, World.size_drew]; omega))) | fail)); have fin5 := Lib.hid (fun y => OwnLL.stored (OwnLL.far (OwnLL.drew1 (OwnLL.alloc o10H.out _)) hg5 hgl.2) hxH.out hyH.out d0 y); have G5 : Hid (w.grownBy w5 (some g)) := grownBy_trans (grown_drew1 (grownBy_alloc' G10H.out _)) hg5; have z5 := hg5.size; clear hg5 hm5) | skip); (try go_wp2_with fail); refine hK.out _ _ ?_ (fun hHeld => ?_); (focus ((try dsimp only); (repeat' (first | (with_reducible assumption) | ((with_reducible apply bx_new) <;> first | (simp only [World.size_alloc, World.size_setCell]; done) | rfl) | (with_reducible apply bx_alloc) | (with_reducible apply bx_other; (first | (simp only [World.size_alloc, World.size_setCell]; omega) | omega)) | (with_reducible apply bx_same) | (with_reducible apply bx_drew) | (with_reducible apply bx_drew1) | (with_reducible apply bx_keep; with_reducible assumption) | fail)))); clear hK K; (try simp only [Act.put, List.setIfInBounds_toArray, List.set_cons_zero, List.set_cons_succ])); refine wpAnyH_done (by kernel_rfl) ?_ _; refine NoPanic.normal ?_)
              go_wp2_with fail
              all_goals go_returns
              all_goals exact ⟨_, _, rfl, (fin5.out r5).mono (Nat.le_refl _) (by simp only [World.size_setCell, World.size_drew, World.size_alloc] at z5 ⊢; omega), hdr2.out r5, hs5.below_set hgl (by omega), grown_set2 G5.out hgl.2 (by omega)⟩
            · go_wp2_with fail
              all_goals go_returns
              (first | refine ⟨_, css, rfl, ?_, hdr.out, ?_, ?_⟩ | refine ⟨_, rfl, css, ?_, hdr.out, ?_, ?_⟩)
              · exact o10.top hz10
              · exact hs10
              · exact G10
          · go_wp2_with fail
            all_goals go_returns
            (first | refine ⟨_, css, rfl, ?_, hdr.out, ?_, ?_⟩ | refine ⟨_, rfl, css, ?_, hdr.out, ?_, ?_⟩)
            · exact o10.top hz10
            · exact hs10
            · exact G10
        have e1 : (r10 == 1) = false := by simpa using q1
        by_cases q2 : r10 = 2
        · subst q2
          clear ht10 hr10 q0 q1
          have hcast : r2 = ((r2.toNat : Nat) : Int) := by omega
          have hcast' := Lib.hid hcast
          have hcb : r2.toNat ≤ 4 := by omega
          clear hcast
          go_wp2_with fail
          go_loopw [5] (fun v wr => ∃ css : List (List Int), Hid (drnP css) ∧ OwnLL wr w.heap.size wr.heap.size v css ∧ Src wr B g ∧ w.grownBy wr (some g)) (fun v _ => 8 - lenV v)
          case atStart => exact ⟨css, hdr, o10.top hz10, hs10, G10⟩
          case round =>
            rename World => W1
            obtain ⟨css2, hd2, o2, hsr, hgr⟩ := hrel
            have hszW1 := hgr.size
            obtain ⟨A, c, rfl⟩ := o2.form
            have hl7 := hd2.out.1
            go_wp2_with fail
            refine (spec_l01Next _ _ _ _ hsr (by omega)).mono ?_
            rintro e w11 ⟨r11, rfl, ⟨hr11, ht11⟩, hs11, hg11⟩
            have o11 := o2.far hg11 hgl.2
            have G11 : w.grownBy w11 (some g) := (by repeat' (first | (with_reducible exact World.grownBy.refl _ _) | (with_reducible assumption) | (with_reducible refine grownBy_drewN ?_ _) | (with_reducible refine grownBy_set ?_ _ _) | (with_reducible refine grownBy_alloc' ?_ _) | (refine grownBy_trans ?_ (by with_reducible assumption)) | (refine grownBy_next ?_ (by with_reducible assumption))))
            have hz11 : W1.heap.size ≤ w11.heap.size := hg11.size
            clear hg11 hsr hgr o2 hs10 o10 G10
            by_cases hlt2 : (css2.length : Int) < 6 + r11
            · have hmr : ∀ w12 : World, w12.ownsRow w11.heap.size 2 1 (.slice (some ⟨w11.heap.size, 0, none⟩) r2.toNat r2.toNat) r2.toNat (madeCells (Value.int .i64 0).cells (r2.toNat * 1)).toList → w11.grownBy w12 none → Below w11.heap.size w11 w12 ∧ OwnI w12 w11.heap.size (.slice (some ⟨w11.heap.size, 0, none⟩) r2.toNat r2.toNat) (List.replicate r2.toNat 0) ∧ OwnLL w12 w.heap.size w11.heap.size (.slice A css2.length c) css2 ∧ Src w12 B g ∧ w.grownBy w12 (some g) := fun w12 hown12 hg12 => by
                have B12 : Below w11.heap.size w11 w12 := ⟨hg12.os, hg12.tape, hg12.output, hg12.size, fun k hk => hg12.block k hk (by simp)⟩
                exact ⟨B12, ⟨some ⟨w11.heap.size, 0, none⟩, r2.toNat, by rw [List.length_replicate], by simpa [toList_madeCells_one, Value.cells] using hown12⟩, (o11.mono (Nat.le_refl _) hz11).next B12, hs11.below B12, (by repeat' (first | (with_reducible exact World.grownBy.refl _ _) | (with_reducible assumption) | (with_reducible refine grownBy_drewN ?_ _) | (with_reducible refine grownBy_set ?_ _ _) | (with_reducible refine grownBy_alloc' ?_ _) | (refine grownBy_trans ?_ (by with_reducible assumption)) | (refine grownBy_next ?_ (by with_reducible assumption))))⟩
              have hmrH := Lib.hid hmr
              clear hmr
              go_wp2_with (first | (at_make; refine wpList_make_full _ rfl _ _ 27 rfl w11.heap.size 2 i0 _ 1 Try.underlying27 hi hz0 hz1 .i64 .i64 _ _ r2.toNat rfl rfl hcast'.out hcast'.out (by rw [hz2] <;> omega) (by simp only [maxLen]; omega) (Nat.le_refl _) ?_; intro w12 hown12 hg12; have hm12 := hmrH.out w12 hown12 hg12; clear hown12 hg12; have B12 := hm12.1; have oR := hm12.2.1; have o12 := hm12.2.2.1; have hs12 := hm12.2.2.2.1; have G12 := hm12.2.2.2.2; have hz12 := B12.size; clear hm12) | (at_builtin; refine push_row (lo := w.heap.size) (mid := w11.heap.size) (by exact o12) (by exact oR) rfl _ _ rfl rfl rfl (by omega) hz12 (by omega) ?_; intro v4 w9 o9 hg9 hb9))
              have hs9 : Src w9 B g := hs12.other hg9 (fun k hk => by have := o12.lt k hk; omega)
              obtain ⟨A9, c9, rfl⟩ := o9.form
              go_roundw
              case rel => exact ⟨_, drnP_snoc hd2.out (by omega) (by rw [List.length_replicate]; omega), o9, hs9, grown_past G12 hb9⟩
              case measure => simp [lenV]; omega
            · by_cases hc2 : (2 : Int) < r2
              · skip
                have hcap := o11.cap
                have hc3 : (3 : Int) ≤ (css2.length : Int) := by omega
                have hc4 : (3 : Int) ≤ (c : Int) := by omega
                have ot := o11.take (k := 3) (by omega) (by omega)
                go_wp2_with fail
                all_goals go_returns
                all_goals exact ⟨_, css2.take 3, rfl, ot.top hz11, ⟨by rw [List.length_take]; omega, fun j xs hj => by rw [List.getElem?_take] at hj; split at hj; (exact hd2.out.2 j xs hj); cases hj⟩, hs11, G11⟩
              · go_wp2_with fail
                all_goals go_returns
                all_goals first | exact ⟨_, _, rfl, o11.top hz11, hd2.out, hs11, G11⟩ | exact ⟨_, o11.top hz11, hd2.out, hs11, G11⟩
        · have e2 : (r10 == 2) = false := by simpa using q2
          go_wp2_with fail
          all_goals go_returns
          all_goals first | exact ⟨_, _, rfl, o10.top hz10, hdr.out, hs10, G10⟩ | exact ⟨_, o10.top hz10, hdr.out, hs10, G10⟩
end Go.Proofs.Ytdomghjdnnnifaa
