/- Slices of texts that the call itself made: words, append. -/
import Derived.Test.YtgokiedhdihamaaDoorStrA
namespace Go.Proofs.YtgokiedhdihamaaDoor
open Go.RowKit Go.ChangeShapes Go.WideShapes Go.ChangeAt
set_option linter.unusedVariables false
set_option linter.unusedSimpArgs false
/-- a text as a value -/
def tv (l : List UInt8) : Value := .string (mkT l)
theorem tv_cells (l : List UInt8) : (tv l).cells = #[tv l] := rfl
theorem str_info : (Tryd.prog.info? 9).map (fun i => (i.zero, i.size, i.bytes)) = some (some (.string ⟨#[]⟩), 1, 16) := by kernel_rfl
/-- the value v is a slice of texts that the call itself made, from block base on; it reads as ls -/
def OwnX (w : World) (base : Nat) (v : Value) (ls : List (List UInt8)) : Prop := ∃ A c, v = .slice A ls.length c ∧ w.ownsRow base 9 1 (.slice A ls.length c) ls.length (ls.map tv)
section
variable {w w' : World} {base base' : Nat} {v u : Value} {ls ms : List (List UInt8)} {A : Option Addr} {n c : Nat}
theorem OwnX.nil (w : World) (base : Nat) : OwnX w base (.slice none 0 0) [] := ⟨none, 0, rfl, World.ownsRow_nil _ _ _ _⟩
theorem OwnX.lit0 {W : World} {base : Nat} (h : base ≤ W.heap.size) : OwnX (W.alloc (.cells #[] 9)) base (.slice (some ⟨W.heap.size, 0, none⟩) 0 0) [] :=
  ⟨_, 0, rfl, World.ownsRow_lit W #[] 0 h (by simp) rfl⟩
theorem OwnX.form (h : OwnX w base v ls) : ∃ A c, v = .slice A ls.length c := by
  obtain ⟨A, c, rfl, _⟩ := h
  exact ⟨A, c, rfl⟩
theorem OwnX.lt (h : OwnX w base v ls) : ∀ k, v.ownBlock = some k → base ≤ k ∧ k < w.heap.size := by
  obtain ⟨A', c', rfl, ho⟩ := h
  exact ho.lt
theorem OwnX.kept (h : OwnX w base v ls) {row : Option Nat} (hg : w.grownBy w' row) (hne : v.ownBlock = none ∨ v.ownBlock ≠ row) : OwnX w' base v ls := by
  obtain ⟨A', c', rfl, ho⟩ := h
  exact ⟨A', c', rfl, ho.kept hg hne⟩
theorem OwnX.below (h : OwnX w base v ls) (hb : Below w.heap.size w w') : OwnX w' base v ls := h.kept (grownBy_of_below hb none) (by cases v.ownBlock <;> simp)
theorem OwnX.alloc (h : OwnX w base v ls) (o : Obj) : OwnX (w.alloc o) base v ls := h.below (Below.new (Below.refl _ _) o)
theorem OwnX.mono (h : OwnX w base v ls) (hb : base' ≤ base) : OwnX w base' v ls := by
  obtain ⟨A', c', rfl, h1, h2⟩ := h
  refine ⟨A', c', rfl, h1, ?_⟩
  rcases h2 with h2 | ⟨g, cap, cur, q1, q2, q3⟩
  · exact .inl h2
  · exact .inr ⟨g, cap, cur, q1, by omega, q3⟩
theorem OwnX.cap (h : OwnX w base (.slice A n c) ls) : ls.length ≤ c := by
  obtain ⟨A', c', h1, h2, h3⟩ := h
  injection h1 with h1 hn hc
  subst h1 hn hc
  rcases h3 with ⟨e1, e2⟩ | ⟨g, cap, cur, q1, q2, q3, q4, _⟩
  · injection e1 with a b d; omega
  · injection q1 with a b d; omega
theorem OwnX.cell {k : Nat} {x : List UInt8} (h : OwnX w base (.slice A n c) ls) (hx : ls[k]? = some x) : ∃ g, A = some ⟨g, 0, none⟩ ∧ base ≤ g ∧ g < w.heap.size ∧ w.cell? ⟨g, k, none⟩ = some (tv x) ∧ w.frozen? ⟨g, k, none⟩ = false ∧
    ∀ y, OwnX (w.setCell ⟨g, k, none⟩ (tv y)) base (.slice (some ⟨g, 0, none⟩) n c) (ls.set k y) ∧ w.grownBy (w.setCell ⟨g, k, none⟩ (tv y)) (some g) := by
  obtain ⟨A', c', he, ho⟩ := h
  injection he with h1 h2 h3
  subst h1 h2 h3
  have hk : k < ls.length := (List.getElem?_eq_some_iff.1 hx).1
  obtain ⟨g, cap, hv, hb, hlt⟩ := ho.form (by omega)
  injection hv with h1 h2 h3
  subst h1 h3
  refine ⟨g, rfl, hb, hlt, by rw [ho.cellAt k (by omega), List.getElem?_map, hx]; rfl, ho.frozenAt k, fun y => ?_⟩
  have hs := ho.stored k (tv y)
  rw [← List.map_set] at hs
  exact ⟨⟨some ⟨g, 0, none⟩, c, by simp, by simpa using hs.1⟩, hs.2⟩
theorem belowX_of_grownBy (h : w.grownBy w' v.ownBlock) (ho : OwnX w base v ls) (hb : base ≤ w.heap.size) : Below base w w' :=
  ⟨h.os, h.tape, h.output, h.size, fun k hk => h.block k (by omega) (fun e => by have := ho.lt k e.symm; omega)⟩
end
/-- 'append(out, y)' -/
theorem push_X {ops : Array Oper} {rest : List Oper} {o : Oper} {a : Act} {Q : Exit → Act → World → Prop} {W : World} {y : ByteArray} {z : List UInt8} {ls : List (List UInt8)} {v : Value} {base : Nat} (H : Nat) (hH : W.heap.size = H) (hown : OwnX W base v ls) (hyz : y = mkT z) (hgd : o.guard = none) (s x : Operand)
    (ho : o.op = .call { callee := .builtin .append, args := #[s, x], argTypes := #[35, 35] }) (hs : a.eval s = v) (hx : a.eval x = .slice (some ⟨H, 0, none⟩) 1 1) (hbase : base ≤ H) (hb : ls.length ≤ 1099511627776)
    (h : ∀ v' w', OwnX w' base v' (ls ++ [z]) → W.grownBy w' v.ownBlock → Below base W w' → wpList Tryd.prog ops Q rest (a.put o.dst v') w') : wpList Tryd.prog ops Q (o :: rest) a (W.alloc (.cells #[.string y] 9)) := by
  subst hH hyz
  obtain ⟨i0, hi, hz0, hz1, hz2⟩ := info_parts str_info
  obtain ⟨A, c, hv, hr⟩ := hown
  subst hv
  refine wpList_append_lies _ hgd s x 35 ho base 9 i0 _ 1 16 Tryd.underlying35 hi hz0 hz1 hz2 rfl (by omega) _ ls.length (ls.map tv) hs (hr.alloc _) ⟨W.heap.size, 0, none⟩ 1 1 [tv z] hx rfl (World.news_of_block (heap_alloc_new W _)) (by simp [tv, Value.oneCell']) (by omega) (by simp only [maxLen]; omega) (by omega) (by simp; omega) _ rfl ?_
  intro g cap w1 h1 h2 h3 h4
  have hg : W.grownBy w1 (Value.slice A ls.length c).ownBlock := ⟨h2.os, h2.tape, h2.output, Nat.le_trans (by simp) h2.size, fun k hk hne => (h2.block k (by simp; omega) hne).trans (Below.heap_alloc W _ k hk)⟩
  have ho' : OwnX w1 base (.slice (some ⟨g, 0, none⟩) (ls.length + 1) cap) (ls ++ [z]) := ⟨some ⟨g, 0, none⟩, cap, by simp, by simpa using h1⟩
  exact h _ _ ho' hg (belowX_of_grownBy hg ⟨A, c, rfl, hr⟩ hbase)
/-- the same at a step of a region that draws its order -/
theorem step_X {ops : Array Oper} {o : Oper} {a : Act} {K : Act → World → Prop} {Q : Exit → Act → World → Prop} {E : Prop} {w1 : World} {t : Nat} {y : ByteArray} {z : List UInt8} {ls : List (List UInt8)} {v : Value} {base : Nat} (hown : OwnX w1 base v ls) (ht : w1.heap[t]? = some (.cells #[.string y] 9 (0, 0))) (hyz : y = mkT z)
    (hgd : o.guard = none) (s x : Operand) (ho : o.op = .call { callee := .builtin .append, args := #[s, x], argTypes := #[35, 35] }) (hs : a.eval s = v) (hx : a.eval x = .slice (some ⟨t, 0, none⟩) 1 1) (hbase : base ≤ w1.heap.size) (hb : ls.length ≤ 1099511627776)
    (h : ∀ v' w', OwnX w' base v' (ls ++ [z]) → w1.grownBy w' v.ownBlock → Below base w1 w' → K (a.put o.dst v') w') : if Region.wanted o (yielded ops a.tmps) = true then Oper.wp Tryd.prog o a w1 K Q else E := by
  subst hyz
  obtain ⟨i0, hi, hz0, hz1, hz2⟩ := info_parts str_info
  have hown' := hown
  obtain ⟨A, c, hv, hr⟩ := hown
  subst hv
  refine step_append_lies _ hgd s x 35 ho base 9 i0 _ 1 16 Tryd.underlying35 hi hz0 hz1 hz2 rfl (by omega) _ ls.length (ls.map tv) hs hr ⟨t, 0, none⟩ 1 1 [tv z] hx rfl (World.news_of_block ht) (by simp [tv, Value.oneCell']) (by omega) (by simp only [maxLen]; omega) (by omega) hbase _ rfl ?_
  intro g cap w2 h1 h2 h3 h4
  exact h _ _ ⟨some ⟨g, 0, none⟩, cap, by simp, by simpa using h1⟩ h2 (belowX_of_grownBy h2 hown' hbase)
/-- 'make([]string, n)' as an equation -/
theorem make_str_run (w1 : World) (n : Nat) (hn : n ≤ 1048576) : ∃ w', (Instr.makeSlice 35 (.int .i64 (n : Int)) (.int .i64 (n : Int))).run Tryd.prog w1 = .ok (.slice (some ⟨w1.heap.size, 0, none⟩) n n) w' ∧
    OwnX w' w1.heap.size (.slice (some ⟨w1.heap.size, 0, none⟩) n n) (List.replicate n []) ∧ Below w1.heap.size w1 w' ∧ w1.heap.size < w'.heap.size := by
  obtain ⟨i0, hi, hz0, hz1, hz2⟩ := info_parts str_info
  obtain ⟨w', hrun, r1, r2⟩ := run_make_full (P := Tryd.prog) w1 w1.heap.size 35 9 i0 _ 1 Tryd.underlying35 hi hz0 hz1 .i64 .i64 n (by rw [hz2]; omega) (by simp only [maxLen]; omega) (Nat.le_refl _)
  refine ⟨w', hrun, ⟨some ⟨w1.heap.size, 0, none⟩, n, by simp, ?_⟩, ⟨r2.os, r2.tape, r2.output, r2.size, fun k hk => r2.block k hk (by simp)⟩, by have := r1.lt w1.heap.size rfl; omega⟩
  simp only [show (Value.string ⟨#[]⟩).cells = #[Value.string ⟨#[]⟩] from rfl, Nat.mul_one, toList_madeCells_one] at r1
  simpa [tv, mkT] using r1
end Go.Proofs.YtgokiedhdihamaaDoor
