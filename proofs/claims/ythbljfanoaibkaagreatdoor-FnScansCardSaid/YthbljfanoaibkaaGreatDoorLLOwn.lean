/- Slices of slices that the call itself grew by append: words; marked, held. -/
import Derived.Test.YthbljfanoaibkaaGreatDoorIIMem
import Derived.Test.YthbljfanoaibkaaGreatDoorMKit
import Derived.Lib.OwnKind
namespace Go.Proofs.YthbljfanoaibkaaGreatDoor
open Go.RowKit Go.ChangeShapes Go.WideShapes Go.ChangeAt
set_option linter.unusedVariables false
set_option linter.unusedSimpArgs false
theorem ints_info' : (Tryz.prog.info? 34).map (fun i => (i.zero, i.size, i.bytes)) = some (some (.slice none 0 0), 1, 24) := by kernel_rfl
/-- a slice of slices of int64 of the call's own, in the blocks lo .. hi - 1: each row in a block of its own -/
def OwnLL (w : World) (lo hi : Nat) (v : Value) (xss : List (List Int)) : Prop :=
  ∃ (A : Option Addr) (c : Nat) (zs : List Value), v = .slice A xss.length c ∧ zs.length = xss.length ∧ w.ownsRow lo 34 1 (.slice A xss.length c) xss.length zs ∧ (∀ k, v.ownBlock = some k → k < hi) ∧
    (∀ (j : Nat) (z : Value) (xs : List Int), zs[j]? = some z → xss[j]? = some xs → OwnI w lo z xs ∧ ∀ k, z.ownBlock = some k → k < hi) ∧
    (∀ (i j : Nat) (zi zj : Value), i < j → zs[i]? = some zi → zs[j]? = some zj → zi.ownBlock = none ∨ zi.ownBlock ≠ zj.ownBlock)
section
variable {w w' : World} {lo lo' hi hi' : Nat} {v : Value} {A : Option Addr} {n c : Nat} {xss : List (List Int)}
theorem OwnLL.nil (w : World) (lo hi : Nat) : OwnLL w lo hi (.slice none 0 0) [] := ⟨none, 0, [], rfl, rfl, World.ownsRow_nil _ _ _ _, fun k h => by simp [Value.ownBlock] at h, fun j z xs h => by simp at h, fun i j zi zj _ h => by simp at h⟩
theorem OwnLL.lit0 {W : World} (h : lo ≤ W.heap.size) : OwnLL (W.alloc (.cells #[] 34)) lo (W.heap.size + 1) (.slice (some ⟨W.heap.size, 0, none⟩) 0 0) [] :=
  ⟨_, 0, [], rfl, rfl, World.ownsRow_lit W #[] 0 h (by simp) rfl, fun k h => by simp [Value.ownBlock] at h; omega, fun j z xs h => by simp at h, fun i j zi zj _ h => by simp at h⟩
theorem OwnLL.next (h : OwnLL w lo hi v xss) (hb : Below w.heap.size w w') : OwnLL w' lo hi v xss := by
  obtain ⟨A, c, zs, rfl, h2, h3, hk, h4, h5⟩ := h
  exact ⟨A, c, zs, rfl, h2, h3.kept (grownBy_of_below hb none) (by cases (Value.slice A xss.length c).ownBlock <;> simp), hk, fun j z xs hz hx => ⟨(h4 j z xs hz hx).1.below hb, (h4 j z xs hz hx).2⟩, h5⟩
theorem OwnLL.mono (h : OwnLL w lo hi v xss) (hb : lo' ≤ lo) (hc : hi ≤ hi') : OwnLL w lo' hi' v xss := by
  obtain ⟨A, c, zs, rfl, h2, ⟨h31, h32⟩, hk, h4, h5⟩ := h
  refine ⟨A, c, zs, rfl, h2, ⟨h31, ?_⟩, fun k h => Nat.lt_of_lt_of_le (hk k h) hc, fun j z xs hz hx => ⟨(h4 j z xs hz hx).1.mono hb, fun k h => Nat.lt_of_lt_of_le ((h4 j z xs hz hx).2 k h) hc⟩, h5⟩
  rcases h32 with h32 | ⟨g, cap, cur, q1, q2, q3⟩
  · exact .inl h32
  · exact .inr ⟨g, cap, cur, q1, by omega, q3⟩
theorem OwnLL.form (h : OwnLL w lo hi v xss) : ∃ A c, v = .slice A xss.length c := by
  obtain ⟨A, c, _, rfl, _⟩ := h
  exact ⟨A, c, rfl⟩
theorem OwnLL.rd (h : OwnLL w lo hi (.slice A n c) xss) : n = xss.length ∧ II64 w w.heap.size A xss := by
  obtain ⟨A', c', zs, h1, h2, h3, hk, h4, h5⟩ := h
  injection h1 with h1 hn hc
  subst h1 hn hc
  refine ⟨rfl, ?_⟩
  rcases Nat.eq_zero_or_pos xss.length with h0 | h0
  · exact .inl (List.eq_nil_of_length_eq_zero h0)
  · obtain ⟨g, cap, hv, hb, hlt⟩ := h3.form h0
    injection hv with e1 e2 e3
    subst e1 e3
    refine .inr ⟨g, 0, rfl, hlt, fun i xs hx => ?_⟩
    have hi := lt_of_get hx
    obtain ⟨z, hz⟩ := get_of_lt (xs := zs) (k := i) (by omega)
    have ho := (h4 i z xs hz hx).1
    obtain ⟨A', c', rfl⟩ := (OwnI.inR ho).form
    exact ⟨A', c', by rw [Nat.zero_add, h3.cellAt i (by omega), hz], ho.reads.2⟩
/-- rows of int64 lie in blocks of another kind than the slice of slices -/
theorem own_kinds {z : Value} {xs : List Int} {zs : List Value} {m : Nat} (h : OwnI w lo z xs) (h' : w.ownsRow lo' 34 1 v m zs) : z.ownBlock = none ∨ z.ownBlock ≠ v.ownBlock := by
  obtain ⟨A, c, rfl, ho⟩ := h
  cases hz : (Value.slice A xs.length c).ownBlock with
  | none => exact .inl rfl
  | some g =>
    refine .inr fun e => ?_
    obtain ⟨c1, f1, e1⟩ := Lib.ownsRow_kind ho g hz
    obtain ⟨c2, f2, e2⟩ := Lib.ownsRow_kind h' g e.symm
    rw [e1] at e2
    simp at e2
/-- what 'append(out, row)' makes, told from its law -/
theorem OwnLL.pushed {W W1 : World} {y : Value} {ys : List Int} {zs : List Value} {mid g cap : Nat} (hz : zs.length = xss.length) (hr : W.ownsRow lo 34 1 (.slice A xss.length c) xss.length zs)
    (h4 : ∀ (j : Nat) (z : Value) (xs : List Int), zs[j]? = some z → xss[j]? = some xs → OwnI W lo z xs ∧ ∀ k, z.ownBlock = some k → k < mid) (h5 : ∀ (i j : Nat) (zi zj : Value), i < j → zs[i]? = some zi → zs[j]? = some zj → zi.ownBlock = none ∨ zi.ownBlock ≠ zj.ownBlock)
    (hy : OwnI W mid y ys) (hlm : lo ≤ mid) (hg : W.grownBy W1 (Value.slice A xss.length c).ownBlock) (h1 : W1.ownsRow lo 34 1 (.slice (some ⟨g, 0, none⟩) (xss.length + 1) cap) (xss.length + 1) (zs ++ [y])) :
    OwnLL W1 lo W1.heap.size (.slice (some ⟨g, 0, none⟩) (xss.length + 1) cap) (xss ++ [ys]) := by
  refine ⟨some ⟨g, 0, none⟩, cap, zs ++ [y], by simp, by simp [hz], by simpa using h1, fun k hk => (h1.lt k hk).2, fun j z xs hj hx => ?_, fun i j zi zj hij hi hj => ?_⟩
  · rcases Nat.lt_or_ge j xss.length with h | h
    · rw [List.getElem?_append_left (by omega)] at hj
      rw [List.getElem?_append_left h] at hx
      have q := (h4 j z xs hj hx).1.kept hg (own_kinds (h4 j z xs hj hx).1 hr)
      exact ⟨q, fun k hk => (q.lt k hk).2⟩
    · rw [List.getElem?_append_right (by omega)] at hj
      rw [List.getElem?_append_right h] at hx
      have e : j - xss.length = 0 := by have := lt_of_get hx; simp at this; omega
      rw [e] at hx
      rw [hz, e] at hj
      simp at hj hx
      subst hj hx
      have q := (hy.mono hlm).kept hg (own_kinds (hy.mono hlm) hr)
      exact ⟨q, fun k hk => (q.lt k hk).2⟩
  · rcases Nat.lt_or_ge j zs.length with h | h
    · rw [List.getElem?_append_left (by omega)] at hi
      rw [List.getElem?_append_left h] at hj
      exact h5 i j zi zj hij hi hj
    · rw [List.getElem?_append_right h] at hj
      have e : j - zs.length = 0 := by have := lt_of_get hj; simp at this; omega
      rw [e] at hj
      simp at hj
      subst hj
      have hi2 : i < zs.length := by omega
      rw [List.getElem?_append_left hi2] at hi
      obtain ⟨xs, hx⟩ := get_of_lt (xs := xss) (k := i) (by omega)
      cases hzi : zi.ownBlock with
      | none => exact .inl rfl
      | some q =>
        refine .inr fun e => ?_
        have := (h4 i zi xs hi hx).2 q hzi
        have := (hy.lt q e.symm).1
        omega
end
/-- 'append(out, row)', row a slice that the call made behind out's blocks -/
theorem push_row {ops : Array Oper} {rest : List Oper} {o : Oper} {a : Act} {Q : Exit → Act → World → Prop} {W : World} {y : Value} {ys : List Int} {xss : List (List Int)} {v : Value} {lo mid : Nat} (hown : OwnLL W lo mid v xss) (hy : OwnI W mid y ys) (hgd : o.guard = none) (s x : Operand)
    (ho : o.op = .call { callee := .builtin .append, args := #[s, x], argTypes := #[100, 100] }) (hs : a.eval s = v) (hx : a.eval x = .slice (some ⟨W.heap.size, 0, none⟩) 1 1) (hlm : lo ≤ mid) (hbase : mid ≤ W.heap.size) (hb : xss.length ≤ 1048576)
    (h : ∀ v' w', OwnLL w' lo w'.heap.size v' (xss ++ [ys]) → W.grownBy w' v.ownBlock → Below lo W w' → wpList Tryz.prog ops Q rest (a.put o.dst v') w') : wpList Tryz.prog ops Q (o :: rest) a (W.alloc (.cells #[y] 34)) := by
  obtain ⟨i0, hi, hz0, hz1, hz2⟩ := info_parts ints_info'
  obtain ⟨A, c, zs, hv, hz, hr, hk, h4, h5⟩ := hown
  subst hv
  obtain ⟨Ay, cy, rfl, _⟩ := id hy
  refine wpList_append_lies _ hgd s x 100 ho lo 34 i0 _ 1 24 Tryz.underlying100 hi hz0 hz1 hz2 rfl (by omega) _ xss.length zs hs (hr.alloc _) ⟨W.heap.size, 0, none⟩ 1 1 [.slice Ay ys.length cy] hx rfl (World.news_of_block (heap_alloc_new W _)) (by simp [Value.oneCell']) (by omega) (by simp only [maxLen]; omega) (by omega) (by simp; omega) _ rfl ?_
  intro g cap w1 h1 h2 h3 h6
  have hg : W.grownBy w1 (Value.slice A xss.length c).ownBlock := ⟨h2.os, h2.tape, h2.output, Nat.le_trans (by simp) h2.size, fun k hk hne => (h2.block k (by simp; omega) hne).trans (Below.heap_alloc W _ k hk)⟩
  exact h _ _ (OwnLL.pushed hz hr h4 h5 hy hlm hg h1) hg ⟨hg.os, hg.tape, hg.output, hg.size, fun k hk => hg.block k (by omega) (fun e => by have := (hr.lt k e.symm).1; omega)⟩
/-- the same at a step of a region that draws its order -/
theorem step_row {ops : Array Oper} {o : Oper} {a : Act} {K : Act → World → Prop} {Q : Exit → Act → World → Prop} {E : Prop} {w1 : World} {t : Nat} {y : Value} {ys : List Int} {xss : List (List Int)} {v : Value} {lo mid : Nat} (hown : OwnLL w1 lo mid v xss) (hy : OwnI w1 mid y ys) (ht : w1.heap[t]? = some (.cells #[y] 34 (0, 0)))
    (hgd : o.guard = none) (s x : Operand) (ho : o.op = .call { callee := .builtin .append, args := #[s, x], argTypes := #[100, 100] }) (hs : a.eval s = v) (hx : a.eval x = .slice (some ⟨t, 0, none⟩) 1 1) (hlm : lo ≤ mid) (hbase : mid ≤ w1.heap.size) (hb : xss.length ≤ 1048576)
    (h : ∀ v' w', OwnLL w' lo w'.heap.size v' (xss ++ [ys]) → w1.grownBy w' v.ownBlock → Below lo w1 w' → K (a.put o.dst v') w') : if Region.wanted o (yielded ops a.tmps) = true then Oper.wp Tryz.prog o a w1 K Q else E := by
  obtain ⟨i0, hi, hz0, hz1, hz2⟩ := info_parts ints_info'
  obtain ⟨A, c, zs, hv, hz, hr, hk, h4, h5⟩ := hown
  subst hv
  obtain ⟨Ay, cy, rfl, _⟩ := id hy
  refine step_append_lies _ hgd s x 100 ho lo 34 i0 _ 1 24 Tryz.underlying100 hi hz0 hz1 hz2 rfl (by omega) _ xss.length zs hs hr ⟨t, 0, none⟩ 1 1 [.slice Ay ys.length cy] hx rfl (World.news_of_block ht) (by simp [Value.oneCell']) (by omega) (by simp only [maxLen]; omega) (by omega) (by omega) _ rfl ?_
  intro g cap w2 h1 h2 h3 h6
  exact h _ _ (OwnLL.pushed hz hr h4 h5 hy hlm h2 h1) h2 ⟨h2.os, h2.tape, h2.output, h2.size, fun k hk => h2.block k (by omega) (fun e => by have := (hr.lt k e.symm).1; omega)⟩
/-- how many numbers the first k rows hold -/
def sumQ (xss : List (List Int)) : Nat → Nat
  | 0 => 0
  | k + 1 => sumQ xss k + (xss.getD k []).length
/-- the rows behind markInt64SS -/
def mrk (k : Int) (xss : List (List Int)) : List (List Int) := (List.range xss.length).map fun (i : Nat) => marks (k + (sumQ xss i : Int)) (xss.getD i []).length
theorem mrk_len {k : Int} {xss : List (List Int)} : (mrk k xss).length = xss.length := by simp [mrk]
theorem mrk_get {k : Int} {xss : List (List Int)} {i : Nat} (h : i < xss.length) : (mrk k xss)[i]? = some (marks (k + (sumQ xss i : Int)) (xss.getD i []).length) := by simp [mrk, h]
theorem sumQ_succ {xss : List (List Int)} {i : Nat} {xs : List Int} (h : xss[i]? = some xs) : sumQ xss (i + 1) = sumQ xss i + xs.length := by rw [sumQ]; simp [List.getD, h]
theorem sumQ_le {xss : List (List Int)} {n : Nat} (h : ∀ (i : Nat) (xs : List Int), xss[i]? = some xs → xs.length ≤ n) : ∀ k, sumQ xss k ≤ k * n
  | 0 => by simp [sumQ]
  | k + 1 => by
    have ih := sumQ_le h k
    rw [sumQ, Nat.add_mul, Nat.one_mul]
    rcases Nat.lt_or_ge k xss.length with h1 | h1
    · obtain ⟨xs, hx⟩ := get_of_lt h1
      have := h k xs hx
      rw [show xss.getD k [] = xs by simp [List.getD, hx]]; omega
    · rw [show xss.getD k [] = [] by simp [List.getD, List.getElem?_eq_none h1]]; simp; omega
theorem OwnLL.apart {w w' : World} {lo hi lo' hi' : Nat} {v : Value} {xss : List (List Int)} (h : OwnLL w lo hi v xss) (hw : Within lo' hi' w w') (hd : hi ≤ lo' ∨ hi' ≤ lo) : OwnLL w' lo hi v xss := by
  obtain ⟨A, c, zs, rfl, h2, ⟨h31, h32⟩, hk, h4, h5⟩ := h
  refine ⟨A, c, zs, rfl, h2, ⟨h31, ?_⟩, hk, fun j z xs hz hx => ?_, h5⟩
  · rcases h32 with h32 | ⟨g, cap, cur, q1, q2, q3, q4⟩
    · exact .inl h32
    · have hg : g < hi := hk g (by rw [q1]; rfl)
      exact .inr ⟨g, cap, cur, q1, q2, by rw [hw.block g (Array.getElem?_eq_some_iff.1 q3).1 (by omega)]; exact q3, q4⟩
  · have := OwnR.apart ⟨(h4 j z xs hz hx).1, (h4 j z xs hz hx).2⟩ hw hd
    exact ⟨this.1, this.2⟩
end Go.Proofs.YthbljfanoaibkaaGreatDoor
