/- Slices of slices of contacts that the call itself grew by append: words; the reference's move at whatever motion. -/
import Derived.Test.YthbljfanoaibkaaGreatDoorDrN
import Derived.Test.YthbljfanoaibkaaGreatDoorCcS
import Derived.Lib.OwnKind
namespace Go.Proofs.YthbljfanoaibkaaGreatDoor
open Go.RowKit Go.ChangeShapes Go.WideShapes Go.ChangeAt
set_option linter.unusedVariables false
set_option linter.unusedSimpArgs false
theorem cts_info : (Tryz.prog.info? 46).map (fun i => (i.zero, i.size, i.bytes)) = some (some (.slice none 0 0), 1, 24) := by kernel_rfl
/-- a slice of slices of contacts of the call's own, in the blocks lo .. hi - 1 -/
def OwnRw (w : World) (lo hi : Nat) (v : Value) (css : List Cts) : Prop :=
  ∃ (A : Option Addr) (c : Nat) (zs : List Value), v = .slice A css.length c ∧ zs.length = css.length ∧ w.ownsRow lo 46 1 (.slice A css.length c) css.length zs ∧ (∀ k, v.ownBlock = some k → k < hi) ∧
    (∀ (j : Nat) (z : Value) (cs : Cts), zs[j]? = some z → css[j]? = some cs → OwnCt w lo hi z cs)
section
variable {w w' : World} {lo lo' hi hi' : Nat} {v : Value} {A : Option Addr} {n c : Nat} {css : List Cts}
theorem OwnRw.lit0 {W : World} (h : lo ≤ W.heap.size) : OwnRw (W.alloc (.cells #[] 46)) lo (W.heap.size + 1) (.slice (some ⟨W.heap.size, 0, none⟩) 0 0) [] :=
  ⟨_, 0, [], rfl, rfl, World.ownsRow_lit W #[] 0 h (by simp) rfl, fun k h => by simp [Value.ownBlock] at h; omega, fun j z xs h => by simp at h⟩
theorem OwnRw.kept {row : Option Nat} (h : OwnRw w lo hi v css) (hg : w.grownBy w' row) (hne : ∀ k, lo ≤ k → some k ≠ row) : OwnRw w' lo hi v css := by
  obtain ⟨A, c, zs, rfl, h2, h3, hk, h4⟩ := h
  refine ⟨A, c, zs, rfl, h2, h3.kept hg ?_, hk, fun j z xs hz hx => (h4 j z xs hz hx).kept hg ?_⟩
  · cases hq : (Value.slice A css.length c).ownBlock with
    | none => exact .inl rfl
    | some q => exact .inr (hne q (h3.lt q hq).1)
  · cases hq : z.ownBlock with
    | none => exact .inl rfl
    | some q => exact .inr (hne q ((h4 j z xs hz hx).lt q hq).1)
theorem OwnRw.next (h : OwnRw w lo hi v css) (hb : Below w.heap.size w w') : OwnRw w' lo hi v css := h.kept (grownBy_of_below hb none) (by simp)
theorem OwnRw.src {g : Nat} (h : OwnRw w lo hi v css) (hg : w.grownBy w' (some g)) (hlt : g < lo) : OwnRw w' lo hi v css := h.kept hg (fun k hk => by simp; omega)
theorem OwnRw.alloc (h : OwnRw w lo hi v css) (o : Obj) : OwnRw (w.alloc o) lo hi v css := h.next (Below.new (Below.refl _ _) o)
theorem OwnRw.mono (h : OwnRw w lo hi v css) (hb : lo' ≤ lo) (hc : hi ≤ hi') : OwnRw w lo' hi' v css := by
  obtain ⟨A, c, zs, rfl, h2, h3, hk, h4⟩ := h
  exact ⟨A, c, zs, rfl, h2, Joins.ownsRow_le h3 hb, fun k h => Nat.lt_of_lt_of_le (hk k h) hc, fun j z xs hz hx => OwnS.mono (h4 j z xs hz hx) hb hc⟩
theorem OwnRw.top (h : OwnRw w lo hi v css) : OwnRw w lo w.heap.size v css := by
  obtain ⟨A, c, zs, rfl, h2, h3, hk, h4⟩ := h
  exact ⟨A, c, zs, rfl, h2, h3, fun k hk => (h3.lt k hk).2, fun j z xs hz hx => OwnS.top (h4 j z xs hz hx)⟩
theorem OwnRw.form (h : OwnRw w lo hi v css) : ∃ A c, v = .slice A css.length c := by
  obtain ⟨A, c, _, rfl, _⟩ := h
  exact ⟨A, c, rfl⟩
theorem OwnRw.lt (h : OwnRw w lo hi v css) : ∀ k, v.ownBlock = some k → lo ≤ k ∧ k < w.heap.size := by
  obtain ⟨A, c, zs, rfl, h2, h3, hk, h4⟩ := h
  exact h3.lt
/-- a row of it: the cell that holds it, the row's own words -/
theorem OwnRw.at_ {j : Nat} {cs : Cts} (h : OwnRw w lo hi (.slice A n c) css) (hx : css[j]? = some cs) : ∃ g A' c', A = some ⟨g, 0, none⟩ ∧ lo ≤ g ∧ g < w.heap.size ∧ w.cell? ⟨g, j, none⟩ = some (.slice A' cs.length c') ∧ OwnCt w lo hi (.slice A' cs.length c') cs := by
  obtain ⟨A', c', zs, h1, h2, h3, hk, h4⟩ := h
  injection h1 with h1 hn hc
  subst h1 hn hc
  have hi := lt_of_get hx
  obtain ⟨g, cap, hv, hb, hlt⟩ := h3.form (by omega)
  injection hv with e1 e2 e3
  subst e1 e3
  obtain ⟨z, hz⟩ := get_of_lt (xs := zs) (k := j) (by omega)
  have ho := h4 j z cs hz hx
  obtain ⟨A', c', rfl⟩ := OwnS.form ho
  exact ⟨g, A', c', rfl, hb, hlt, by rw [h3.cellAt j (by omega), hz], ho⟩
theorem OwnRw.rd (h : OwnRw w lo hi (.slice A n c) css) : n = css.length ∧ CC64 w w.heap.size A css := by
  obtain ⟨A', c', zs, h1, h2, h3, hk, h4⟩ := id h
  injection h1 with h1 hn hc
  subst h1 hn hc
  refine ⟨rfl, ?_⟩
  rcases Nat.eq_zero_or_pos css.length with h0 | h0
  · exact .inl (List.eq_nil_of_length_eq_zero h0)
  · obtain ⟨cs0, hx0⟩ := get_of_lt (xs := css) (k := 0) h0
    obtain ⟨g, _, _, e, hb, hlt, _, _⟩ := h.at_ hx0
    refine .inr ⟨g, 0, e, hlt, fun i cs hx => ?_⟩
    obtain ⟨g', A', c', e', _, _, hcl, ho⟩ := h.at_ hx
    have : g' = g := by rw [e'] at e; simpa using e
    subst this
    exact ⟨A', c', by rw [Nat.zero_add]; exact hcl, OwnS.rd ho⟩
/-- the slice that 'make' makes: no contacts in any row -/
theorem OwnRw.made {g n : Nat} (h : w.ownsRow lo 46 1 (.slice (some ⟨g, 0, none⟩) n n) n (List.replicate n (.slice none 0 0))) : OwnRw w lo w.heap.size (.slice (some ⟨g, 0, none⟩) n n) (List.replicate n []) := by
  refine ⟨some ⟨g, 0, none⟩, n, List.replicate n (.slice none 0 0), by simp, by simp, by simpa using h, fun k hk => (h.lt k hk).2, fun j z cs hz hx => ?_⟩
  rw [List.getElem?_replicate] at hz hx
  split at hz
  · rename_i hj
    rw [if_pos hj] at hx
    injection hz with hz
    injection hx with hx
    subst hz hx
    exact OwnS.nil _ _ _
  · cases hz
theorem OwnRw.take {k : Nat} (h : OwnRw w lo hi (.slice A n c) css) (hk : k ≤ css.length) : OwnRw w lo hi (.slice A k c) (css.take k) := by
  obtain ⟨A', c', zs, h1, h2, ⟨h31, h32⟩, hb, h4⟩ := h
  injection h1 with h1 hn hc'
  subst h1 hn hc'
  have hl : (css.take k).length = k := by rw [List.length_take]; omega
  refine ⟨A, c, zs.take k, by rw [hl], by rw [List.length_take, hl]; omega, ?_, fun q hq => hb q (by cases A <;> simp [Value.ownBlock] at hq ⊢ <;> exact hq), fun j z xs hz hx => ?_⟩
  · rw [hl]
    refine ⟨by rw [List.length_take]; omega, ?_⟩
    rcases h32 with ⟨e1, e2⟩ | ⟨g, cap, cur, q1, q2, q3, q4, q5, q6, q7⟩
    · injection e1 with e1 e3 e4
      subst e1 e4
      have : k = 0 := by omega
      subst this
      exact .inl ⟨rfl, rfl⟩
    · injection q1 with q1 q8 q9
      subst q1 q9
      exact .inr ⟨g, c, cur, rfl, q2, q3, by omega, q5, q6, by rw [Nat.mul_one] at q7 ⊢; rw [← q7, List.take_take, Nat.min_eq_left hk]⟩
  · rw [List.getElem?_take] at hz hx
    split at hz
    · rename_i hj
      rw [if_pos hj] at hx
      exact h4 j z xs hz hx
    · cases hz
theorem OwnRw.cap (h : OwnRw w lo hi (.slice A n c) css) : css.length ≤ c := by
  obtain ⟨A', c', zs, h1, h2, ⟨h31, h32⟩, _⟩ := h
  injection h1 with h1 hn hc
  subst h1 hn hc
  rcases h32 with ⟨e1, e2⟩ | ⟨g, cap, cur, q1, q2, q3, q4, _⟩
  · injection e1 with a b d; omega
  · injection q1 with a b d; omega
theorem rw_kinds {z : Value} {cs : Cts} {zs : List Value} {m : Nat} (h : OwnCt w lo hi z cs) (h' : w.ownsRow lo' 46 1 v m zs) : z.ownBlock = none ∨ z.ownBlock ≠ v.ownBlock := by
  obtain ⟨⟨A, c, rfl, ho⟩, _⟩ := h
  cases hz : (Value.slice A cs.length c).ownBlock with
  | none => exact .inl rfl
  | some g =>
    refine .inr fun e => ?_
    obtain ⟨c1, f1, e1⟩ := Lib.ownsRow_kind ho g hz
    obtain ⟨c2, f2, e2⟩ := Lib.ownsRow_kind h' g e.symm
    rw [e1] at e2
    simp at e2
/-- a write into a block of another kind -/
theorem OwnRw.boxed {X : Nat} {l : List Int} {T : TypeId} (h : OwnRw w lo hi v css) (hb : IBox w T X l) (h1 : T ≠ 46) (h2 : T ≠ 68) (hg : w.grownBy w' (some X)) : OwnRw w' lo hi v css := by
  obtain ⟨A, c, zs, rfl, hz, h3, hk, h4⟩ := h
  have hbx : w.heap[X]? = some (.cells (l.map (Value.int .i64)).toArray T (0, 0)) := hb
  refine ⟨A, c, zs, rfl, hz, h3.kept hg ?_, hk, fun j z xs hz hx => (h4 j z xs hz hx).kept hg ?_⟩
  · cases hq : (Value.slice A css.length c).ownBlock with
    | none => exact .inl rfl
    | some q =>
      refine .inr fun e => ?_
      obtain ⟨c1, f1, e1⟩ := Lib.ownsRow_kind h3 q hq
      injection e with e
      rw [e, hbx] at e1
      simp at e1
      exact h1 e1.2.1
  · cases hq : z.ownBlock with
    | none => exact .inl rfl
    | some q =>
      refine .inr fun e => ?_
      obtain ⟨⟨A2, c2, rfl, ho⟩, _⟩ := h4 j z xs hz hx
      obtain ⟨c1, f1, e1⟩ := Lib.ownsRow_kind ho q hq
      injection e with e
      rw [e, hbx] at e1
      simp at e1
      exact h2 e1.2.1
theorem OwnRw.ne {X : Nat} {l : List Int} {T : TypeId} (h : OwnRw w lo hi v css) (hb : IBox w T X l) (h1 : T ≠ 46) : some X ≠ v.ownBlock := by
  obtain ⟨A, c, zs, rfl, hz, h3, hk, h4⟩ := h
  have hbx : w.heap[X]? = some (.cells (l.map (Value.int .i64)).toArray T (0, 0)) := hb
  intro e
  obtain ⟨c1, f1, e1⟩ := Lib.ownsRow_kind h3 X e.symm
  rw [hbx] at e1
  simp at e1
  exact h1 e1.2.1
theorem OwnRw.pushed {W W1 : World} {y : Value} {ys : Cts} {zs : List Value} {g cap hi' : Nat} (hz : zs.length = css.length) (hr : W.ownsRow lo 46 1 (.slice A css.length c) css.length zs)
    (h4 : ∀ (j : Nat) (z : Value) (cs : Cts), zs[j]? = some z → css[j]? = some cs → OwnCt W lo hi z cs) (hy : OwnCt W lo hi' y ys) (hg : W.grownBy W1 (Value.slice A css.length c).ownBlock) (h1 : W1.ownsRow lo 46 1 (.slice (some ⟨g, 0, none⟩) (css.length + 1) cap) (css.length + 1) (zs ++ [y])) :
    OwnRw W1 lo W1.heap.size (.slice (some ⟨g, 0, none⟩) (css.length + 1) cap) (css ++ [ys]) := by
  refine ⟨some ⟨g, 0, none⟩, cap, zs ++ [y], by simp, by simp [hz], by simpa using h1, fun k hk => (h1.lt k hk).2, fun j z xs hj hx => ?_⟩
  rcases Nat.lt_or_ge j css.length with h | h
  · rw [List.getElem?_append_left (by omega)] at hj
    rw [List.getElem?_append_left h] at hx
    exact OwnS.top ((h4 j z xs hj hx).kept hg (rw_kinds (h4 j z xs hj hx) hr))
  · rw [List.getElem?_append_right (by omega)] at hj
    rw [List.getElem?_append_right h] at hx
    have e : j - css.length = 0 := by have := lt_of_get hx; simp at this; omega
    rw [e] at hx
    rw [hz, e] at hj
    simp at hj hx
    subst hj hx
    exact OwnS.top (hy.kept hg (rw_kinds hy hr))
end
/-- 'append(out, row)', row a slice of the call's own -/
theorem push_rw {ops : Array Oper} {rest : List Oper} {o : Oper} {a : Act} {Q : Exit → Act → World → Prop} {W : World} {y : Value} {ys : Cts} {css : List Cts} {v : Value} {lo hi hi' : Nat} (H : Nat) (hH : W.heap.size = H) (hown : OwnRw W lo hi v css) (hy : OwnCt W lo hi' y ys) (hgd : o.guard = none) (s x : Operand)
    (ho : o.op = .call { callee := .builtin .append, args := #[s, x], argTypes := #[24, 24] }) (hs : a.eval s = v) (hx : a.eval x = .slice (some ⟨H, 0, none⟩) 1 1) (hbase : lo ≤ W.heap.size) (hb : css.length ≤ 1000000)
    (h : ∀ v' w', OwnRw w' lo w'.heap.size v' (css ++ [ys]) → Below lo W w' → W.grownBy w' v.ownBlock → wpList Tryz.prog ops Q rest (a.put o.dst v') w') : wpList Tryz.prog ops Q (o :: rest) a (W.alloc (.cells #[y] 46)) := by
  subst hH
  obtain ⟨i0, hi, hz0, hz1, hz2⟩ := info_parts cts_info
  obtain ⟨A, c, zs, hv, hz, hr, hk, h4⟩ := hown
  subst hv
  obtain ⟨Ay, cy, rfl⟩ := OwnS.form hy
  refine wpList_append_lies _ hgd s x 24 ho lo 46 i0 _ 1 24 Tryz.underlying24 hi hz0 hz1 hz2 rfl (by omega) _ css.length zs hs (hr.alloc _) ⟨W.heap.size, 0, none⟩ 1 1 [.slice Ay ys.length cy] hx rfl (World.news_of_block (heap_alloc_new W _)) (by simp [Value.oneCell']) (by omega) (by simp only [maxLen]; omega) (by omega) (by simp; omega) _ rfl ?_
  intro g cap w1 h1 h2 h3 h6
  have hg : W.grownBy w1 (Value.slice A css.length c).ownBlock := ⟨h2.os, h2.tape, h2.output, Nat.le_trans (by simp) h2.size, fun k hk hne => (h2.block k (by simp; omega) hne).trans (Below.heap_alloc W _ k hk)⟩
  exact h _ _ (OwnRw.pushed hz hr h4 hy hg h1) ⟨hg.os, hg.tape, hg.output, hg.size, fun k hk => hg.block k (by omega) (fun e => by have := (hr.lt k e.symm).1; omega)⟩ hg
def AnyMo (w : World) (e : Ending) (w' : World) : Prop := ∃ a b c d f : Int, e = .returned (.agg #[.int .i64 a, .int .i64 b, .int .i64 c, .int .i64 d, .int .i64 f]) ∧ Below w.heap.size w w'
set_option maxHeartbeats 6400000 in
set_option maxRecDepth 8000 in
/-- the reference's move, whatever the motion -/
theorem spec_l14MoveAny (x y p q s n : Int) (w : World) :
    Calls Tryz.prog 39 #[.agg #[.int .i64 x, .int .i64 y, .int .i64 p, .int .i64 q, .int .i64 s], .int .i64 n] w (AnyMo w) := by
  go_enter Tryz.func39, Tryz.ntmps39
  repeat' (first | fail | go_values | go_skip | go_guarded | go_step | go_upon | (simp only []; go_step) | (go_ite <;> go_prune <;> (try go_simp)))
  all_goals ((try simp only [Exit.inBlock, Exit.then]); refine bodyPost_ret (by simp [results, Tryz.results39, go_sem, *]; try rfl) rfl ?_)
  all_goals exact ⟨_, _, _, _, _, rfl, by exact bgr⟩
end Go.Proofs.YthbljfanoaibkaaGreatDoor
