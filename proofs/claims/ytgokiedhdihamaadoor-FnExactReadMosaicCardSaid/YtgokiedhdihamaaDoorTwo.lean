/- Structs of two or more slices of numbers: opened, copied, compared. -/
import Derived.Test.YtgokiedhdihamaaDoorListB
import Derived.Test.YtgokiedhdihamaaDoorBox
import Derived.ChangeSame
namespace Go.Proofs.YtgokiedhdihamaaDoor
open Go.RowKit Go.ChangeShapes Go.WideShapes Go.ChangeAt
set_option linter.unusedVariables false
set_option linter.unusedSimpArgs false

section
variable {H : Type} {enc : TypeId × Value → H} {P : Program} {w : World} {sp : Nat → Bool}
/-- the cell of a slice of int64, opened -/
theorem open_cell_I64 {t e : TypeId} {cs : List Value} {fuel : Nat} {x : DataW H × List MemPlace} (ht : P.underlying t = some (.slice e)) (he : P.underlying e = some (.int .i64)) (hc : P.cellsOf e = 1)
    (hf : DataW.trod enc P w 0 sp true fuel t cs = some x) :
    ∃ A c, ∃ xs : List Int, cs = [.slice A xs.length c] ∧ I64 w w.heap.size A xs ∧ (∀ x ∈ xs, -9223372036854775808 ≤ x ∧ x ≤ 9223372036854775807) ∧ xs.length ≤ maxLen := by
  rcases open_ints ht he hc hf with ⟨hcs, hx⟩ | ⟨a', len', cap', zs, hcs, _, hl, hm, hz, hx, hcell, hwz⟩
  · exact ⟨none, 0, [], hcs, .inl rfl, by simp, by simp⟩
  · have hlen : len' ≤ zs.length := by rw [hz]; split <;> omega
    have hl' : (zs.take len').length = len' := by simp; omega
    refine ⟨some a', cap', zs.take len', by rw [hl', hcs], ?_, fun x hx => by have := hwz x (List.mem_of_mem_take hx); simpa [Lit.wf, IntKind.min, IntKind.max, IntKind.signed, IntKind.bits] using this, by omega⟩
    rcases Nat.eq_zero_or_pos len' with h0 | h0
    · left; subst h0; simp
    · right
      have h1 := hcell 0 (by omega)
      have hs : a'.spot = none := by
        unfold World.cell? Addr.add at h1
        simp at h1
        split at h1
        · split at h1
          · cases h1
          · rename_i hq; simpa using hq
        · cases h1
      refine ⟨a'.block, a'.off, by cases a'; simp_all, ?_, fun j u hu => ?_⟩
      · have := World.block_lt_of_cell? w _ h1
        rw [add_get _ hs] at this
        exact this
      · have hj : j < len' := by
          have := (List.getElem?_eq_some_iff.1 hu).1
          simp at this
          omega
        have h2 := hcell j (by omega)
        rw [add_get _ hs] at h2
        rw [h2]
        rw [List.getElem?_map, List.getElem?_take_of_lt hj] at hu
        simp [List.getD]
        cases hq : zs[j]? with
        | none => rw [hq] at hu; cases hu
        | some y => rw [hq] at hu; simp at hu; simp [hu]
/-- a struct of two slices of int64 -/
theorem open_two {r : Reach} {b0 : Nat} {t e : TypeId} {f0 f1 : Field} {v : Value} {d : DataW H} {ps : List MemPlace} (ht : P.underlying t = some (.struct #[f0, f1]))
    (h0 : P.underlying f0.type = some (.slice e)) (h1 : P.underlying f1.type = some (.slice e)) (he : P.underlying e = some (.int .i64)) (hc : P.cellsOf e = 1)
    (o0 : f0.offset = 0) (o1 : f1.offset = 1) (n0 : P.cellsOf f0.type = 1) (n1 : P.cellsOf f1.type = 1) (nt : P.cellsOf t = 2)
    (hval : Value.okWide P w r b0 t v) (hd : DataW.Trod enc P w 0 sp true t v d ps) :
    ∃ A c, ∃ xs : List Int, ∃ B k, ∃ ys : List Int, v = .agg #[.slice A xs.length c, .slice B ys.length k] ∧ I64 w w.heap.size A xs ∧ I64 w w.heap.size B ys ∧ xs.length ≤ maxLen ∧ ys.length ≤ maxLen := by
  obtain ⟨cs, rfl, _⟩ := okWide_struct ht hval
  obtain ⟨fuel, hf⟩ := hd
  obtain ⟨y0, y1, n, _, hl, g0, g1⟩ := trod_struct2 ht hf
  obtain ⟨l⟩ := cs
  simp only [Value.cells, o0, o1, n0, n1, nt] at hl g0 g1
  match l, hl with
  | [a, b], _ =>
    simp at g0 g1
    obtain ⟨A, c, xs, e1, hx, _, lx⟩ := open_cell_I64 h0 he hc g0
    obtain ⟨B, k, ys, e2, hy, _, ly⟩ := open_cell_I64 h1 he hc g1
    simp at e1 e2
    exact ⟨A, c, xs, B, k, ys, by rw [e1, e2], hx, hy, lx, ly⟩
/-- a struct of two int64 and two slices of int64 -/
theorem open_four {r : Reach} {b0 : Nat} {t e : TypeId} {f0 f1 f2 f3 : Field} {v : Value} {d : DataW H} {ps : List MemPlace} (ht : P.underlying t = some (.struct #[f0, f1, f2, f3]))
    (ha : P.underlying f0.type = some (.int .i64)) (hb : P.underlying f1.type = some (.int .i64)) (h0 : P.underlying f2.type = some (.slice e)) (h1 : P.underlying f3.type = some (.slice e)) (he : P.underlying e = some (.int .i64)) (hc : P.cellsOf e = 1)
    (oa : f0.offset = 0) (ob : f1.offset = 1) (o0 : f2.offset = 2) (o1 : f3.offset = 3) (na : P.cellsOf f0.type = 1) (nb : P.cellsOf f1.type = 1) (n0 : P.cellsOf f2.type = 1) (n1 : P.cellsOf f3.type = 1) (nt : P.cellsOf t = 4)
    (hval : Value.okWide P w r b0 t v) (hd : DataW.Trod enc P w 0 sp true t v d ps) :
    ∃ p q : Int, ∃ A c, ∃ xs : List Int, ∃ B k, ∃ ys : List Int, v = .agg #[.int .i64 p, .int .i64 q, .slice A xs.length c, .slice B ys.length k] ∧ I64 w w.heap.size A xs ∧ I64 w w.heap.size B ys ∧ xs.length ≤ maxLen ∧ ys.length ≤ maxLen ∧
      (-9223372036854775808 ≤ p ∧ p ≤ 9223372036854775807) ∧ (-9223372036854775808 ≤ q ∧ q ≤ 9223372036854775807) := by
  obtain ⟨cs, rfl, _⟩ := okWide_struct ht hval
  obtain ⟨fuel, hf⟩ := hd
  obtain ⟨zs, n, _, _, hl, hzs, hg⟩ := DataW.trod_struct ht hf
  have g : ∀ (j : Nat) (f : Field), #[f0, f1, f2, f3][j]? = some f → ∃ y, DataW.trod enc P w 0 sp true n f.type (((Value.agg cs).cells.toList.drop f.offset).take (P.cellsOf f.type)) = some y := fun j f hj => by
    have h5 := hg j f hj
    have hj2 : j < zs.length := by
      rw [hzs]; exact (Array.getElem?_eq_some_iff.1 hj).1
    rw [List.getElem?_eq_getElem hj2] at h5
    exact ⟨_, h5⟩
  obtain ⟨_, ga⟩ := g 0 f0 rfl
  obtain ⟨_, gb⟩ := g 1 f1 rfl
  obtain ⟨_, g0⟩ := g 2 f2 rfl
  obtain ⟨_, g1⟩ := g 3 f3 rfl
  obtain ⟨l⟩ := cs
  simp only [Value.cells, oa, ob, o0, o1, na, nb, n0, n1, nt] at hl ga gb g0 g1
  match l, hl with
  | [a, b, c, d], _ =>
    simp at ga gb g0 g1
    obtain ⟨p, ea, _, wa⟩ := DataW.trod_int ha ga
    obtain ⟨q, eb, _, wb⟩ := DataW.trod_int hb gb
    obtain ⟨A, c, xs, e1, hx, _, lx⟩ := open_cell_I64 h0 he hc g0
    obtain ⟨B, k, ys, e2, hy, _, ly⟩ := open_cell_I64 h1 he hc g1
    simp at ea eb e1 e2
    exact ⟨p, q, A, c, xs, B, k, ys, by rw [ea, eb, e1, e2], hx, hy, lx, ly, by simpa [Lit.wf, IntKind.min, IntKind.max, IntKind.signed, IntKind.bits] using wa, by simpa [Lit.wf, IntKind.min, IntKind.max, IntKind.signed, IntKind.bits] using wb⟩
end

section
variable {w w' : World} {base : Nat} {v : Value} {xs : List Int}
theorem OwnI.off (h : OwnI w base v xs) {X o : Nat} (hX : X < base) (u : Value) : OwnI (w.setCell ⟨X, o, none⟩ u) base v xs :=
  h.kept (row := some X) ⟨rfl, rfl, rfl, by simp [World.setCell], fun i hi hne => Below.heap_setCell w ⟨X, o, none⟩ u i (fun e => hne (by rw [e]))⟩
    (by cases hv : v.ownBlock with
        | none => simp
        | some k => have := h.lt k hv; right; simp; omega)
end
/-- what is left of a size -/
def fsz (left : Int) (n : Nat) : Int := if left - n < 0 then -1 else left - n
theorem fsz_ge {left : Int} {n : Nat} : -1 ≤ fsz left n := by unfold fsz; split <;> omega
theorem fsz_le {left : Int} {n : Nat} (h : -1 ≤ left) : fsz left n ≤ left := by unfold fsz; split <;> omega
theorem fsz_n {left : Int} {n : Nat} (h : ¬ fsz left n < 0) : (n : Int) ≤ left ∧ fsz left n = left - n := by unfold fsz at *; split at h <;> rename_i h' <;> simp [h'] <;> omega
theorem fsz_two {left : Int} {n m : Nat} (h : ¬ fsz (fsz left n) m < 0) (h0 : 0 ≤ left) : (n : Int) ≤ left ∧ (m : Int) ≤ left := by
  unfold fsz at h
  by_cases h1 : left - n < 0
  · rw [if_pos h1] at h
    split at h <;> omega
  · rw [if_neg h1] at h
    split at h <;> omega
theorem impl_length64 (A : Option Addr) (n c : Nat) (w : World) : Calls Tryd.prog 35 #[.slice A n c] w fun e w' => e = .returned (.int .i64 n) ∧ w = w' := by
  go_enter Tryd.func35, Tryd.ntmps35
  go_wp2
  go_ret
  exact ⟨rfl, rfl⟩
theorem laws_szInt64S (A : Option Addr) (n c : Nat) (left : Int) (w : World) (h0 : -1 ≤ left) (h1 : left ≤ 1048576) (hn : n ≤ maxLen) :
    Calls Tryd.prog 23 #[.slice A n c, .int .i64 left] w fun e w' => e = .returned (.int .i64 (fsz left n)) ∧ w = w' := by
  unfold maxLen at hn
  by_cases h : left - n < 0
  · go_enter Tryd.func23, Tryd.ntmps23
    go_wp2
    go_ret
    exact ⟨ret_int (by rw [fsz, if_pos h]), rfl⟩
  · go_enter Tryd.func23, Tryd.ntmps23
    go_wp2
    go_ret
    exact ⟨ret_int (by rw [fsz, if_neg (by omega)]), rfl⟩
end Go.Proofs.YtgokiedhdihamaaDoor
