/- Struct arguments whose cells are all int64: opened. -/
import Derived.Test.YthbljfanoaibkaaDoorBase
namespace Go.Proofs.YthbljfanoaibkaaDoor
open Go.RowKit Go.WideShapes
set_option linter.unusedVariables false
section
variable {H : Type} {enc : TypeId × Value → H} {P : Program} {w : World} {base : Nat} {spare : Nat → Bool} {held : Bool}
/-- a value of this type is n cells, each an int64 -/
def FlatI (enc : TypeId × Value → H) (P : Program) (w : World) (base : Nat) (spare : Nat → Bool) (held : Bool) (t : TypeId) (n : Nat) : Prop :=
  ∀ fuel cs x, DataW.trod enc P w base spare held fuel t cs = some x → cs.length = n ∧ ∀ i, i < n → ∃ a, cs[i]? = some (.int .i64 a)
theorem flat_int {t : TypeId} (ht : P.underlying t = some (.int .i64)) : FlatI enc P w base spare held t 1 := fun fuel cs x h => by
  obtain ⟨a, rfl, _⟩ := DataW.trod_int ht h
  exact ⟨rfl, fun i hi => ⟨a, by obtain rfl : i = 0 := by omega
                                 rfl⟩⟩
theorem flat_struct {t : TypeId} {fs : Array Field} {n : Nat} (ht : P.underlying t = some (.struct fs)) (hn : P.cellsOf t = n)
    (hf : ∀ i, i < n → ∃ (j : Nat) (f : Field) (m : Nat), fs[j]? = some f ∧ f.offset ≤ i ∧ i < f.offset + m ∧ P.cellsOf f.type = m ∧ FlatI enc P w base spare held f.type m) : FlatI enc P w base spare held t n := fun fuel cs x h => by
  obtain ⟨xs, k, _, _, hl, hxs, hg⟩ := DataW.trod_struct ht h
  refine ⟨hl.trans hn, fun i hi => ?_⟩
  obtain ⟨j, f, m, hj, h1, h2, h3, h4⟩ := hf i hi
  have h5 := hg j f hj
  have hj2 : j < xs.length := by
    rw [hxs]; exact (Array.getElem?_eq_some_iff.1 hj).1
  rw [List.getElem?_eq_getElem hj2, h3] at h5
  obtain ⟨_, h7⟩ := h4 _ _ _ h5
  obtain ⟨a, ha⟩ := h7 (i - f.offset) (by omega)
  refine ⟨a, ?_⟩
  rw [List.getElem?_take_of_lt (by omega), List.getElem?_drop] at ha
  rw [← ha]
  congr 1
  omega
theorem open_flat {r : Reach} {b0 : Nat} {t : TypeId} {n : Nat} {fs : Array Field} {v : Value} {d : DataW H} {ps : List MemPlace} (ht : P.underlying t = some (.struct fs)) (hF : FlatI enc P w base spare held t n) (hval : Value.okWide P w r b0 t v) (hd : DataW.Trod enc P w base spare held t v d ps) :
    ∃ cs : List Value, v = .agg cs.toArray ∧ cs.length = n ∧ ∀ i, i < n → ∃ a, cs[i]? = some (.int .i64 a) := by
  obtain ⟨cs, rfl, _⟩ := okWide_struct ht hval
  obtain ⟨fuel, hf⟩ := hd
  obtain ⟨h1, h2⟩ := hF _ _ _ hf
  exact ⟨cs.toList, by simp, by simpa [Value.cells] using h1, fun i hi => by simpa [Value.cells] using h2 i hi⟩
theorem flat2 {cs : List Value} (hl : cs.length = 2) (h : ∀ i, i < 2 → ∃ a, cs[i]? = some (.int .i64 a)) : ∃ a b, cs = [.int .i64 a, .int .i64 b] := by
  match cs, hl with
  | [c0, c1], _ =>
    obtain ⟨a, ha⟩ := h 0 (by omega)
    obtain ⟨b, hb⟩ := h 1 (by omega)
    simp at ha hb
    exact ⟨a, b, by rw [ha, hb]⟩
theorem flat5 {cs : List Value} (hl : cs.length = 5) (h : ∀ i, i < 5 → ∃ a, cs[i]? = some (.int .i64 a)) : ∃ a b c d e, cs = [.int .i64 a, .int .i64 b, .int .i64 c, .int .i64 d, .int .i64 e] := by
  match cs, hl with
  | [c0, c1, c2, c3, c4], _ =>
    obtain ⟨a, ha⟩ := h 0 (by omega)
    obtain ⟨b, hb⟩ := h 1 (by omega)
    obtain ⟨c, hc⟩ := h 2 (by omega)
    obtain ⟨d, hd⟩ := h 3 (by omega)
    obtain ⟨e, he⟩ := h 4 (by omega)
    simp at ha hb hc hd he
    exact ⟨a, b, c, d, e, by rw [ha, hb, hc, hd, he]⟩
theorem flat8 {cs : List Value} (hl : cs.length = 8) (h : ∀ i, i < 8 → ∃ a, cs[i]? = some (.int .i64 a)) : ∃ a b c d e f g k, cs = [.int .i64 a, .int .i64 b, .int .i64 c, .int .i64 d, .int .i64 e, .int .i64 f, .int .i64 g, .int .i64 k] := by
  match cs, hl with
  | [c0, c1, c2, c3, c4, c5, c6, c7], _ =>
    obtain ⟨a, ha⟩ := h 0 (by omega)
    obtain ⟨b, hb⟩ := h 1 (by omega)
    obtain ⟨c, hc⟩ := h 2 (by omega)
    obtain ⟨d, hd⟩ := h 3 (by omega)
    obtain ⟨e, he⟩ := h 4 (by omega)
    obtain ⟨f, hf⟩ := h 5 (by omega)
    obtain ⟨g, hg⟩ := h 6 (by omega)
    obtain ⟨k, hk⟩ := h 7 (by omega)
    simp at ha hb hc hd he hf hg hk
    exact ⟨a, b, c, d, e, f, g, k, by rw [ha, hb, hc, hd, he, hf, hg, hk]⟩
end
section
variable {H : Type} {enc : TypeId × Value → H} {w : World} {base : Nat} {spare : Nat → Bool} {held : Bool} {r : Reach} {b0 : Nat} {v : Value} {d : DataW H} {ps : List MemPlace}
set_option maxRecDepth 100000 in
theorem flatMotion : FlatI enc Tryd.prog w base spare held 23 5 := by
  refine flat_struct Tryd.underlying23 (by kernel_rfl) fun i hi => ?_
  have hc : i = 0 ∨ i = 1 ∨ i = 2 ∨ i = 3 ∨ i = 4 := by omega
  rcases hc with rfl | rfl | rfl | rfl | rfl
  · exact ⟨0, _, 1, rfl, by decide, by decide, by kernel_rfl, flat_int Tryd.underlying2⟩
  · exact ⟨1, _, 1, rfl, by decide, by decide, by kernel_rfl, flat_int Tryd.underlying2⟩
  · exact ⟨2, _, 1, rfl, by decide, by decide, by kernel_rfl, flat_int Tryd.underlying2⟩
  · exact ⟨3, _, 1, rfl, by decide, by decide, by kernel_rfl, flat_int Tryd.underlying2⟩
  · exact ⟨4, _, 1, rfl, by decide, by decide, by kernel_rfl, flat_int Tryd.underlying2⟩
set_option maxRecDepth 100000 in
theorem open_motion (hval : Value.okWide Tryd.prog w r b0 23 v) (hd : DataW.Trod enc Tryd.prog w base spare held 23 v d ps) : ∃ x y p q s, v = .agg #[.int .i64 x, .int .i64 y, .int .i64 p, .int .i64 q, .int .i64 s] := by
  obtain ⟨cs, rfl, hl, h⟩ := open_flat Tryd.underlying23 flatMotion hval hd
  obtain ⟨a, b, c, d, e, rfl⟩ := flat5 hl h
  exact ⟨a, b, c, d, e, rfl⟩
set_option maxRecDepth 100000 in
theorem flatTrail : FlatI enc Tryd.prog w base spare held 25 8 := by
  refine flat_struct Tryd.underlying25 (by kernel_rfl) fun i hi => ?_
  have hc : i = 0 ∨ i = 1 ∨ i = 2 ∨ i = 3 ∨ i = 4 ∨ i = 5 ∨ i = 6 ∨ i = 7 := by omega
  rcases hc with rfl | rfl | rfl | rfl | rfl | rfl | rfl | rfl
  · exact ⟨0, _, 5, rfl, by decide, by decide, by kernel_rfl, flatMotion⟩
  · exact ⟨0, _, 5, rfl, by decide, by decide, by kernel_rfl, flatMotion⟩
  · exact ⟨0, _, 5, rfl, by decide, by decide, by kernel_rfl, flatMotion⟩
  · exact ⟨0, _, 5, rfl, by decide, by decide, by kernel_rfl, flatMotion⟩
  · exact ⟨0, _, 5, rfl, by decide, by decide, by kernel_rfl, flatMotion⟩
  · exact ⟨1, _, 1, rfl, by decide, by decide, by kernel_rfl, flat_int Tryd.underlying2⟩
  · exact ⟨2, _, 1, rfl, by decide, by decide, by kernel_rfl, flat_int Tryd.underlying2⟩
  · exact ⟨3, _, 1, rfl, by decide, by decide, by kernel_rfl, flat_int Tryd.underlying2⟩
set_option maxRecDepth 100000 in
theorem open_trail (hval : Value.okWide Tryd.prog w r b0 25 v) (hd : DataW.Trod enc Tryd.prog w base spare held 25 v d ps) : ∃ x y p q s t h m, v = .agg #[.int .i64 x, .int .i64 y, .int .i64 p, .int .i64 q, .int .i64 s, .int .i64 t, .int .i64 h, .int .i64 m] := by
  obtain ⟨cs, rfl, hl, h⟩ := open_flat Tryd.underlying25 flatTrail hval hd
  obtain ⟨a, b, c, d, e, f, g, k, rfl⟩ := flat8 hl h
  exact ⟨a, b, c, d, e, f, g, k, rfl⟩
end
end Go.Proofs.YthbljfanoaibkaaDoor
