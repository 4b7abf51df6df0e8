/- Contracts of the laws' own functions on slices of numbers. -/
import Derived.Test.YthbljfanoaibkaaDoorListA
import Derived.StillTailTactics
import Derived.BigQuiet
import Derived.RegionTactic
import Derived.Deep.RegionHeld3
import Derived.Deep.RegionLaw
namespace Go.Proofs.YthbljfanoaibkaaDoor
open Go.RowKit
set_option linter.unusedVariables false
set_option linter.unusedSimpArgs false

theorem int_info : (Tryd.prog.info? 2).map (fun i => (i.zero, i.size, i.bytes)) = some (some (.int .i64 0), 1, 8) := by kernel_rfl

/-- the value v is a slice of int64 that the call itself made, from block base on; it reads as xs -/
def OwnI (w : World) (base : Nat) (v : Value) (xs : List Int) : Prop := ∃ A c, v = .slice A xs.length c ∧ w.ownsRow base 2 1 (.slice A xs.length c) xs.length (xs.map (Value.int .i64))

section
variable {w w' : World} {base base' : Nat} {v u : Value} {xs ys : List Int} {A : Option Addr} {n c : Nat}
theorem OwnI.nil (w : World) (base : Nat) : OwnI w base (.slice none 0 0) [] := ⟨none, 0, rfl, World.ownsRow_nil _ _ _ _⟩
theorem OwnI.lit0 {W : World} {base : Nat} (h : base ≤ W.heap.size) : OwnI (W.alloc (.cells #[] 2)) base (.slice (some ⟨W.heap.size, 0, none⟩) 0 0) [] :=
  ⟨_, 0, rfl, World.ownsRow_lit W #[] 0 h (by simp) rfl⟩
theorem OwnI.reads (h : OwnI w base (.slice A n c) xs) : n = xs.length ∧ I64 w w.heap.size A xs := by
  obtain ⟨A', c', he, ho⟩ := h
  injection he with h1 h2 h3
  subst h1 h2 h3
  exact ⟨rfl, I64.of_own ho⟩
theorem OwnI.lt (h : OwnI w base v xs) : ∀ k, v.ownBlock = some k → base ≤ k ∧ k < w.heap.size := by
  obtain ⟨A', c', rfl, ho⟩ := h
  exact ho.lt
theorem OwnI.kept (h : OwnI w base v xs) {row : Option Nat} (hg : w.grownBy w' row) (hne : v.ownBlock = none ∨ v.ownBlock ≠ row) : OwnI w' base v xs := by
  obtain ⟨A', c', rfl, ho⟩ := h
  exact ⟨A', c', rfl, ho.kept hg hne⟩
theorem grownBy_of_below (h : Below w.heap.size w w') (row : Option Nat) : w.grownBy w' row := ⟨h.os, h.tape, h.output, h.size, fun k hk _ => h.block k hk⟩
theorem OwnI.below (h : OwnI w base v xs) (hb : Below w.heap.size w w') : OwnI w' base v xs := h.kept (grownBy_of_below hb none) (by cases v.ownBlock <;> simp)
theorem OwnI.alloc (h : OwnI w base v xs) (o : Obj) : OwnI (w.alloc o) base v xs := h.below (Below.new (Below.refl _ _) o)
theorem OwnI.drewN (h : OwnI w base v xs) (n : Nat) : OwnI (w.drewN n) base v xs := h
theorem OwnI.mono (h : OwnI w base v xs) (hb : base' ≤ base) : OwnI w base' v xs := by
  obtain ⟨A', c', rfl, h1, h2⟩ := h
  refine ⟨A', c', rfl, h1, ?_⟩
  rcases h2 with h2 | ⟨g, cap, cur, q1, q2, q3⟩
  · exact .inl h2
  · exact .inr ⟨g, cap, cur, q1, by omega, q3⟩
theorem OwnI.apart {W W' : World} (h : OwnI W base v xs) (h' : OwnI W' base' u ys) (hle : W.heap.size ≤ base') : (v.ownBlock = none ∨ v.ownBlock ≠ u.ownBlock) ∧ (u.ownBlock = none ∨ u.ownBlock ≠ v.ownBlock) := by
  have h1 := h.lt
  have h2 := h'.lt
  cases hv : v.ownBlock with
  | none => cases hu : u.ownBlock <;> simp
  | some k =>
    have h3 := h1 k hv
    cases hu : u.ownBlock with
    | none => simp
    | some j =>
      have h4 := h2 j hu
      have : k ≠ j := by omega
      simp [this]; omega
theorem OwnI.cell {k : Nat} {x : Int} (h : OwnI w base (.slice A n c) xs) (hx : xs[k]? = some x) : ∃ g, A = some ⟨g, 0, none⟩ ∧ base ≤ g ∧ w.cell? ⟨g, k, none⟩ = some (.int .i64 x) ∧ w.frozen? ⟨g, k, none⟩ = false ∧
    ∀ y, OwnI (w.setCell ⟨g, k, none⟩ (.int .i64 y)) base (.slice (some ⟨g, 0, none⟩) n c) (xs.set k y) ∧ w.grownBy (w.setCell ⟨g, k, none⟩ (.int .i64 y)) (some g) := by
  obtain ⟨A', c', he, ho⟩ := h
  injection he with h1 h2 h3
  subst h1 h2 h3
  have hk : k < xs.length := (List.getElem?_eq_some_iff.1 hx).1
  obtain ⟨g, cap, hv, hb, hlt⟩ := ho.form (by omega)
  injection hv with h1 h2 h3
  subst h1 h3
  refine ⟨g, rfl, hb, by rw [ho.cellAt k (by omega), List.getElem?_map, hx]; rfl, ho.frozenAt k, fun y => ?_⟩
  have hs := ho.stored k (.int .i64 y)
  rw [← List.map_set] at hs
  exact ⟨⟨some ⟨g, 0, none⟩, c, by simp, by simpa using hs.1⟩, hs.2⟩
theorem below_of_grownBy (h : w.grownBy w' v.ownBlock) (ho : OwnI w base v xs) (hb : base ≤ w.heap.size) : Below base w w' :=
  ⟨h.os, h.tape, h.output, h.size, fun k hk => h.block k (by omega) (fun e => by have := ho.lt k e.symm; omega)⟩
end

theorem grownBy_trans {a b d : World} {row : Option Nat} (h : a.grownBy b row) (k : b.grownBy d row) : a.grownBy d row :=
  ⟨k.os.trans h.os, k.tape.trans h.tape, k.output.trans h.output, Nat.le_trans h.size k.size, fun i hi hn => (k.block i (Nat.lt_of_lt_of_le hi h.size) hn).trans (h.block i hi hn)⟩
/-- 'append(out, y)' -/
theorem push_int {ops : Array Oper} {rest : List Oper} {o : Oper} {a : Act} {Q : Exit → Act → World → Prop} {W : World} {y : Int} {xs : List Int} {v : Value} {base : Nat} (hown : OwnI W base v xs) (hgd : o.guard = none) (s x : Operand)
    (ho : o.op = .call { callee := .builtin .append, args := #[s, x], argTypes := #[47, 47] }) (hs : a.eval s = v) (hx : a.eval x = .slice (some ⟨W.heap.size, 0, none⟩) 1 1) (hbase : base ≤ W.heap.size) (hb : xs.length ≤ 1099511627776)
    (h : ∀ v' w', OwnI w' base v' (xs ++ [y]) → W.grownBy w' v.ownBlock → Below base W w' → wpList Tryd.prog ops Q rest (a.put o.dst v') w') : wpList Tryd.prog ops Q (o :: rest) a (W.alloc (.cells #[.int .i64 y] 2)) := by
  obtain ⟨i0, hi, hz0, hz1, hz2⟩ := info_parts int_info
  obtain ⟨A, c, hv, hr⟩ := hown
  subst hv
  refine wpList_append_lies _ hgd s x 47 ho base 2 i0 _ 1 8 Tryd.underlying47 hi hz0 hz1 hz2 rfl (by omega) _ xs.length (xs.map (Value.int .i64)) hs (hr.alloc _) ⟨W.heap.size, 0, none⟩ 1 1 [.int .i64 y] hx rfl (World.news_of_block (heap_alloc_new W _)) (by simp [Value.oneCell']) (by omega) (by simp only [maxLen]; omega) (by omega) (by simp; omega) _ rfl ?_
  intro g cap w1 h1 h2 h3 h4
  have hg : W.grownBy w1 (Value.slice A xs.length c).ownBlock := ⟨h2.os, h2.tape, h2.output, Nat.le_trans (by simp) h2.size, fun k hk hne => (h2.block k (by simp; omega) hne).trans (Below.heap_alloc W _ k hk)⟩
  have ho' : OwnI w1 base (.slice (some ⟨g, 0, none⟩) (xs.length + 1) cap) (xs ++ [y]) := ⟨some ⟨g, 0, none⟩, cap, by simp, by simpa using h1⟩
  exact h _ _ ho' hg (below_of_grownBy hg ⟨A, c, rfl, hr⟩ hbase)

/-- the same at a step of a region that draws its order -/
theorem step_push {ops : Array Oper} {o : Oper} {a : Act} {K : Act → World → Prop} {Q : Exit → Act → World → Prop} {E : Prop} {w1 : World} {t : Nat} {y : Int} {xs : List Int} {v : Value} {base : Nat} (hown : OwnI w1 base v xs) (ht : w1.heap[t]? = some (.cells #[.int .i64 y] 2 (0, 0)))
    (hgd : o.guard = none) (s x : Operand) (ho : o.op = .call { callee := .builtin .append, args := #[s, x], argTypes := #[47, 47] }) (hs : a.eval s = v) (hx : a.eval x = .slice (some ⟨t, 0, none⟩) 1 1) (hbase : base ≤ w1.heap.size) (hb : xs.length ≤ 1099511627776)
    (h : ∀ v' w', OwnI w' base v' (xs ++ [y]) → w1.grownBy w' v.ownBlock → Below base w1 w' → K (a.put o.dst v') w') : if Region.wanted o (yielded ops a.tmps) = true then Oper.wp Tryd.prog o a w1 K Q else E := by
  obtain ⟨i0, hi, hz0, hz1, hz2⟩ := info_parts int_info
  have hown' := hown
  obtain ⟨A, c, hv, hr⟩ := hown
  subst hv
  refine step_append_lies _ hgd s x 47 ho base 2 i0 _ 1 8 Tryd.underlying47 hi hz0 hz1 hz2 rfl (by omega) _ xs.length (xs.map (Value.int .i64)) hs hr ⟨t, 0, none⟩ 1 1 [.int .i64 y] hx rfl (World.news_of_block ht) (by simp [Value.oneCell']) (by omega) (by simp only [maxLen]; omega) (by omega) hbase _ rfl ?_
  intro g cap w2 h1 h2 h3 h4
  exact h _ _ ⟨some ⟨g, 0, none⟩, cap, by simp, by simpa using h1⟩ h2 (below_of_grownBy h2 hown' hbase)

theorem take_set_snoc {α : Type} {zs : List α} {k : Nat} {x : α} (h : k < zs.length) : (zs.set k x).take (k + 1) = zs.take k ++ [x] := by
  rw [List.take_add_one, List.getElem?_set_self h, List.take_set_of_le (Nat.le_refl k)]; rfl

/-- what a row holds behind markInt64S -/
def marks (k : Int) (n : Nat) : List Int := (List.range n).map fun (i : Nat) => k + (i : Int)
theorem marks_len (k : Int) (n : Nat) : (marks k n).length = n := by simp [marks]
theorem marks_get {k : Int} {n i : Nat} (h : i < n) : (marks k n)[i]? = some (k + (i : Int)) := by simp [marks, h]
end Go.Proofs.YthbljfanoaibkaaDoor
