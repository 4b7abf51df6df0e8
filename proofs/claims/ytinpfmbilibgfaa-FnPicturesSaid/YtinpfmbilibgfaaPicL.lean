/- Pictures in the laws: sized, copied, compared, marked, held; opened. -/
import Derived.Test.YtinpfmbilibgfaaPicS
import Derived.Test.YtinpfmbilibgfaaOpenTwo
namespace Go.Proofs.Ytinpfmbilibgfaa
open Go.RowKit Go.ChangeShapes Go.WideShapes Go.ChangeAt
set_option linter.unusedVariables false
set_option linter.unusedSimpArgs false
/-- only the blocks lo .. hi - 1 have been stored into -/
def Offb (lo hi : Nat) (w w' : World) : Prop := Within lo hi w w'
theorem Offb.refl (lo hi : Nat) (w : World) : Offb lo hi w w := Within.refl _ _ _
theorem Offb.set {lo hi : Nat} {a b : World} (h : Offb lo hi a b) {X o : Nat} {v : Value} (hX : lo ≤ X ∧ X < hi) : Offb lo hi a (b.setCell ⟨X, o, none⟩ v) :=
  ⟨h.os, h.tape, h.output, by simpa [World.setCell] using h.size, fun i hi' hn => (Below.heap_setCell b ⟨X, o, none⟩ v i (fun e => by have e : i = X := e; omega)).trans (h.block i hi' hn)⟩
theorem OwnS.offB {α : Type} {cl : α → List Int} {T : TypeId} {k : Nat} {w w' : World} {B lo hi : Nat} {v : Value} {xs : List α} (hw : Offb B lo w w') (h : OwnS cl T k w lo hi v xs) : OwnS cl T k w' lo hi v xs := h.apart hw (.inr (Nat.le_refl _))
theorem OwnS.off1 {α : Type} {cl : α → List Int} {T : TypeId} {k : Nat} {w : World} {lo hi : Nat} {v : Value} {xs : List α} (h : OwnS cl T k w lo hi v xs) {X o : Nat} {u : Value} (hX : X < lo) : OwnS cl T k (w.setCell ⟨X, o, none⟩ u) lo hi v xs :=
  h.apart (Offb.set (Offb.refl X lo w) ⟨Nat.le_refl _, hX⟩) (.inr (Nat.le_refl _))
section
variable {H : Type} {enc : TypeId × Value → H} {P : Program} {w : World} {sp : Nat → Bool}
/-- a struct of a slice of flat structs and two int64 -/
theorem open_pic {α : Type} {cl : α → List Int} {mk : List Int → α} {r : Reach} {b0 kk : Nat} {t e : TypeId} {f0 f1 f2 : Field} {v : Value} {d : DataW H} {ps : List MemPlace} (hmk : ∀ l, l.length = kk → cl (mk l) = l) (ht : P.underlying t = some (.struct #[f0, f1, f2]))
    (h0 : P.underlying f0.type = some (.slice e)) (hF : FlatI enc P w 0 sp true e kk) (hc : P.cellsOf e = kk) (hk : 0 < kk) (ha : P.underlying f1.type = some (.int .i64)) (hb : P.underlying f2.type = some (.int .i64))
    (o0 : f0.offset = 0) (oa : f1.offset = 1) (ob : f2.offset = 2) (n0 : P.cellsOf f0.type = 1) (na : P.cellsOf f1.type = 1) (nb : P.cellsOf f2.type = 1) (nt : P.cellsOf t = 3)
    (hval : Value.okWide P w r b0 t v) (hd : DataW.Trod enc P w 0 sp true t v d ps) :
    ∃ A c, ∃ xs : List α, ∃ p q : Int, v = .agg #[.slice A xs.length c, .int .i64 p, .int .i64 q] ∧ S64 cl w w.heap.size A xs ∧ xs.length ≤ maxLen ∧
      (-9223372036854775808 ≤ p ∧ p ≤ 9223372036854775807) ∧ (-9223372036854775808 ≤ q ∧ q ≤ 9223372036854775807) := by
  obtain ⟨cs, rfl, _⟩ := okWide_struct ht hval
  obtain ⟨fuel, hf⟩ := hd
  obtain ⟨zs, n, _, _, hl, hzs, hg⟩ := DataW.trod_struct ht hf
  have g : ∀ (j : Nat) (f : Field), #[f0, f1, f2][j]? = some f → ∃ y, DataW.trod enc P w 0 sp true n f.type (((Value.agg cs).cells.toList.drop f.offset).take (P.cellsOf f.type)) = some y := fun j f hj => by
    have h5 := hg j f hj
    have hj2 : j < zs.length := by
      rw [hzs]; exact (Array.getElem?_eq_some_iff.1 hj).1
    rw [List.getElem?_eq_getElem hj2] at h5
    exact ⟨_, h5⟩
  obtain ⟨_, g0⟩ := g 0 f0 rfl
  obtain ⟨_, ga⟩ := g 1 f1 rfl
  obtain ⟨_, gb⟩ := g 2 f2 rfl
  obtain ⟨l⟩ := cs
  simp only [Value.cells, o0, oa, ob, n0, na, nb, nt] at hl ga gb g0
  match l, hl with
  | [a, b, c], _ =>
    simp at ga gb g0
    obtain ⟨p, ea, _, wa⟩ := DataW.trod_int ha ga
    obtain ⟨q, eb, _, wb⟩ := DataW.trod_int hb gb
    obtain ⟨A, c, xs, e1, hx, lx⟩ := open_cell_S64 hmk h0 hF hc hk g0
    simp at ea eb e1
    exact ⟨A, c, xs, p, q, by rw [ea, eb, e1], hx, lx, by simpa [Lit.wf, IntKind.min, IntKind.max, IntKind.signed, IntKind.bits] using wa, by simpa [Lit.wf, IntKind.min, IntKind.max, IntKind.signed, IntKind.bits] using wb⟩
end
section
variable {H : Type} {enc : TypeId × Value → H} {w : World} {sp : Nat → Bool} {r : Reach} {b0 : Nat} {v : Value} {d : DataW H} {ps : List MemPlace}
end
end Go.Proofs.Ytinpfmbilibgfaa
