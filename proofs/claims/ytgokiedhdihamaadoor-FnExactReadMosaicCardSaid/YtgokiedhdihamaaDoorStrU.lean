/- Rows of bytes that the call itself made: words, append of a byte, append of a text, the text of a row. -/
import Derived.Test.YtgokiedhdihamaaDoorStrO
import Derived.Lib.AppendStr
import Derived.Lib.UnsafeStr
namespace Go.Proofs.YtgokiedhdihamaaDoor
open Go.RowKit Go.ChangeShapes Go.WideShapes Go.ChangeAt
set_option linter.unusedVariables false
set_option linter.unusedSimpArgs false
/-- a byte as a value -/
def bv (b : UInt8) : Value := .int .u8 (b.toNat : Int)
theorem byte_info : (Tryd.prog.info? 5).map (fun i => (i.zero, i.size, i.bytes)) = some (some (.int .u8 0), 1, 1) := by kernel_rfl
/-- the value v is a slice of bytes that the call itself made, from block base on; it reads as l -/
def OwnU (w : World) (base : Nat) (v : Value) (l : List UInt8) : Prop := ∃ A c, v = .slice A l.length c ∧ w.ownsRow base 5 1 (.slice A l.length c) l.length (l.map bv)
section
variable {w w' : World} {base base' : Nat} {v u : Value} {l ms : List UInt8} {A : Option Addr} {n c : Nat}
theorem OwnU.nil (w : World) (base : Nat) : OwnU w base (.slice none 0 0) [] := ⟨none, 0, rfl, World.ownsRow_nil _ _ _ _⟩
theorem OwnU.lit0 {W : World} {base : Nat} (h : base ≤ W.heap.size) : OwnU (W.alloc (.cells #[] 5)) base (.slice (some ⟨W.heap.size, 0, none⟩) 0 0) [] :=
  ⟨_, 0, rfl, World.ownsRow_lit W #[] 0 h (by simp) rfl⟩
theorem OwnU.form (h : OwnU w base v l) : ∃ A c, v = .slice A l.length c := by
  obtain ⟨A, c, rfl, _⟩ := h
  exact ⟨A, c, rfl⟩
theorem OwnU.lt (h : OwnU w base v l) : ∀ k, v.ownBlock = some k → base ≤ k ∧ k < w.heap.size := by
  obtain ⟨A', c', rfl, ho⟩ := h
  exact ho.lt
theorem OwnU.kept (h : OwnU w base v l) {row : Option Nat} (hg : w.grownBy w' row) (hne : v.ownBlock = none ∨ v.ownBlock ≠ row) : OwnU w' base v l := by
  obtain ⟨A', c', rfl, ho⟩ := h
  exact ⟨A', c', rfl, ho.kept hg hne⟩
theorem OwnU.below (h : OwnU w base v l) (hb : Below w.heap.size w w') : OwnU w' base v l := h.kept (grownBy_of_below hb none) (by cases v.ownBlock <;> simp)
theorem OwnU.alloc (h : OwnU w base v l) (o : Obj) : OwnU (w.alloc o) base v l := h.below (Below.new (Below.refl _ _) o)
theorem OwnU.drew (h : OwnU w base v l) : OwnU w.drew base v l := h
theorem belowU_of_grownBy (h : w.grownBy w' v.ownBlock) (ho : OwnU w base v l) (hb : base ≤ w.heap.size) : Below base w w' :=
  ⟨h.os, h.tape, h.output, h.size, fun k hk => h.block k (by omega) (fun e => by have := ho.lt k e.symm; omega)⟩
theorem OwnU.row (h : OwnU w base (.slice A n c) l) : n = l.length ∧ w.ownsRow base 5 1 (.slice A l.length c) l.length (l.map bv) := by
  obtain ⟨A', c', he, ho⟩ := h
  injection he with h1 h2 h3
  subst h1 h2 h3
  exact ⟨rfl, ho⟩
theorem OwnU.at0 (h : OwnU w base (.slice A n c) l) (hl : 0 < l.length) : ∃ g, A = some ⟨g, 0, none⟩ ∧ ∀ j (hj : j < l.length), w.cell? ⟨g, j, none⟩ = some (.int .u8 (l[j].toNat : Int)) := by
  obtain ⟨rfl, ho⟩ := h.row
  obtain ⟨g, cap, hv, hb, hlt⟩ := ho.form hl
  injection hv with h1 h2 h3
  subst h1 h3
  exact ⟨g, rfl, fun j hj => by rw [ho.cellAt j (by omega), List.getElem?_map, List.getElem?_eq_getElem hj]; rfl⟩
/-- 'string(b)' -/
theorem OwnU.conv (h : OwnU w base (.slice A l.length c) l) (hl : 0 < l.length) : (convert 46 9 (.slice A l.length c)).run Tryd.prog w = .ok (.string (mkT l)) w := by
  obtain ⟨g, rfl, hc⟩ := h.at0 hl
  have := run_convert_bytes_back (P := Tryd.prog) w 46 9 5 ⟨g, 0, none⟩ c l Tryd.underlying46 Tryd.underlying5 Tryd.underlying9 (fun j hj => by
    have e : ((⟨g, 0, none⟩ : Addr).add j) = ⟨g, j, none⟩ := by unfold Addr.add; split <;> simp_all
    rw [e]
    exact hc j hj)
  exact this
end
/-- 'append(out, y)' -/
theorem push_U {ops : Array Oper} {rest : List Oper} {o : Oper} {a : Act} {Q : Exit → Act → World → Prop} {W : World} {y : Int} {z : UInt8} {l : List UInt8} {v : Value} {base : Nat} (H : Nat) (hH : W.heap.size = H) (hown : OwnU W base v l) (hyz : (z.toNat : Int) = y) (hgd : o.guard = none) (s x : Operand)
    (ho : o.op = .call { callee := .builtin .append, args := #[s, x], argTypes := #[46, 46] }) (hs : a.eval s = v) (hx : a.eval x = .slice (some ⟨H, 0, none⟩) 1 1) (hbase : base ≤ H) (hb : l.length ≤ 1099511627776)
    (h : ∀ v' w', OwnU w' base v' (l ++ [z]) → W.grownBy w' v.ownBlock → Below base W w' → wpList Tryd.prog ops Q rest (a.put o.dst v') w') : wpList Tryd.prog ops Q (o :: rest) a (W.alloc (.cells #[.int .u8 y] 5)) := by
  subst hH hyz
  obtain ⟨i0, hi, hz0, hz1, hz2⟩ := info_parts byte_info
  obtain ⟨A, c, hv, hr⟩ := hown
  subst hv
  refine wpList_append_lies _ hgd s x 46 ho base 5 i0 _ 1 1 Tryd.underlying46 hi hz0 hz1 hz2 rfl (by omega) _ l.length (l.map bv) hs (hr.alloc _) ⟨W.heap.size, 0, none⟩ 1 1 [bv z] hx rfl (World.news_of_block (heap_alloc_new W _)) (by simp [bv, Value.oneCell']) (by omega) (by simp only [maxLen]; omega) (by omega) (by simp; omega) _ rfl ?_
  intro g cap w1 h1 h2 h3 h4
  have hg : W.grownBy w1 (Value.slice A l.length c).ownBlock := ⟨h2.os, h2.tape, h2.output, Nat.le_trans (by simp) h2.size, fun k hk hne => (h2.block k (by simp; omega) hne).trans (Below.heap_alloc W _ k hk)⟩
  have ho' : OwnU w1 base (.slice (some ⟨g, 0, none⟩) (l.length + 1) cap) (l ++ [z]) := ⟨some ⟨g, 0, none⟩, cap, by simp, by simpa using h1⟩
  exact h _ _ ho' hg (belowU_of_grownBy hg ⟨A, c, rfl, hr⟩ hbase)
/-- 'append(out, t...)' at a step of a region that draws its order -/
theorem step_US {ops : Array Oper} {o : Oper} {a : Act} {K : Act → World → Prop} {Q : Exit → Act → World → Prop} {E : Prop} {w1 : World} {y l : List UInt8} {v : Value} {base : Nat} (hown : OwnU w1 base v l)
    (hgd : o.guard = none) (s x : Operand) (ho : o.op = .call { callee := .builtin .append, args := #[s, x], argTypes := #[46, 9] }) (hs : a.eval s = v) (hx : a.eval x = .string (mkT y)) (hbase : base ≤ w1.heap.size) (hb : l.length ≤ 1099511627776) (hy : y.length ≤ 1099511627776)
    (h : ∀ v' w', OwnU w' base v' (l ++ y) → w1.grownBy w' v.ownBlock → Below base w1 w' → K (a.put o.dst v') w') : if Region.wanted o (yielded ops a.tmps) = true then Oper.wp Tryd.prog o a w1 K Q else E := by
  have hw : Region.wanted o (yielded ops a.tmps) = true := by simp [Region.wanted, hgd]
  rw [if_pos hw]
  obtain ⟨i0, hi, hz0, hz1, hz2⟩ := info_parts byte_info
  have hown' := hown
  obtain ⟨A, c, hv, hr⟩ := hown
  subst hv
  obtain ⟨v', w', hrun, h2, h3, h4⟩ := Lib.run_append_own_string (P := Tryd.prog) w1 base 46 9 o.type 5 i0 Tryd.underlying46 Tryd.underlying9 hi hz0 hz1 hz2 _ l.length (l.map bv) hr (mkT y) (by rw [mkT_size]; simp only [maxLen]; omega) (by rw [mkT_size]; omega) hbase
  have he : Lib.strCells (mkT y) = y.map bv := rfl
  rw [he, ← List.map_append, mkT_size] at h2
  have ho' : OwnU w' base v' (l ++ y) := by
    rcases h2.2 with ⟨e1, e2⟩ | ⟨g, cap, cur, e1, _⟩
    · subst e1
      have : l ++ y = [] := List.eq_nil_of_length_eq_zero (by rw [List.length_append]; exact e2)
      rw [this]; exact OwnU.nil _ _
    · subst e1
      exact ⟨some ⟨g, 0, none⟩, cap, by rw [List.length_append], by rw [List.length_append]; exact h2⟩
  unfold Oper.wp execOp
  simp only [ho, resolve, invoke, builtin, Sem.run_bind, Sem.run_pure, Result.andThen_ok, List.map_toArray, List.map_cons, List.map_nil, hs, hx, hrun]
  exact h _ _ ho' h3 (belowU_of_grownBy h3 hown' hbase)
end Go.Proofs.YtgokiedhdihamaaDoor
