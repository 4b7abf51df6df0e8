/- Slices of slices of contacts: words, opened, sized, copied, compared, marked. -/
import Derived.Test.YthbljfanoaibkaaGreatDoorSSLaw
import Derived.Test.YthbljfanoaibkaaGreatDoorIITo
namespace Go.Proofs.YthbljfanoaibkaaGreatDoor
open Go.RowKit Go.ChangeShapes Go.WideShapes Go.ChangeAt
set_option linter.unusedVariables false
set_option linter.unusedSimpArgs false
abbrev Cts := List (Int × Int)
/-- a slice of slices of contacts -/
def CC64 (w : World) (B : Nat) (A : Option Addr) (css : List Cts) : Prop :=
  css = [] ∨ ∃ b o, A = some ⟨b, o, none⟩ ∧ b < B ∧ ∀ (i : Nat) (cs : Cts), css[i]? = some cs → ∃ A' c', w.cell? ⟨b, o + i, none⟩ = some (.slice A' cs.length c') ∧ C64 w B A' cs
section
variable {w w' : World} {B B' : Nat} {A : Option Addr} {css : List Cts}
theorem CC64.below (h : CC64 w B A css) (hb : Below B w w') : CC64 w' B A css := by
  rcases h with h | ⟨b, o, h1, h2, h3⟩
  · exact .inl h
  · refine .inr ⟨b, o, h1, h2, fun i cs hx => ?_⟩
    obtain ⟨A', c', h4, h5⟩ := h3 i cs hx
    exact ⟨A', c', (hb.cell (p := ⟨b, o + i, none⟩) h2).trans h4, h5.below hb⟩
theorem CC64.more (h : CC64 w B A css) (hB : B ≤ B') : CC64 w B' A css := by
  rcases h with h | ⟨b, o, h1, h2, h3⟩
  · exact .inl h
  · refine .inr ⟨b, o, h1, by omega, fun i cs hx => ?_⟩
    obtain ⟨A', c', h4, h5⟩ := h3 i cs hx
    exact ⟨A', c', h4, h5.more hB⟩
theorem CC64.up (h : CC64 w w.heap.size A css) (hb : Below w.heap.size w w') : CC64 w' w'.heap.size A css := (h.below hb).more hb.size
theorem CC64.at_ {i : Nat} {cs : Cts} (h : CC64 w B A css) (hx : css[i]? = some cs) : ∃ b o A' c', A = some ⟨b, o, none⟩ ∧ b < B ∧ w.cell? ⟨b, o + i, none⟩ = some (.slice A' cs.length c') ∧ C64 w B A' cs := by
  rcases h with h | ⟨b, o, h1, h2, h3⟩
  · rw [h] at hx; simp at hx
  · obtain ⟨A', c', h4, h5⟩ := h3 i cs hx
    exact ⟨b, o, A', c', h1, h2, h4, h5⟩
end
section
variable {H : Type} {enc : TypeId × Value → H} {P : Program} {w : World} {sp : Nat → Bool}
theorem open_cell_CC64 {t e f : TypeId} {cs : List Value} {fuel : Nat} {x : DataW H × List MemPlace} (ht : P.underlying t = some (.slice e)) (he : P.underlying e = some (.slice f)) (hF : FlatI enc P w 0 sp true f 2) (hc : P.cellsOf e = 1) (hd : P.cellsOf f = 2)
    (h : DataW.trod enc P w 0 sp true fuel t cs = some x) :
    ∃ A c, ∃ css : List Cts, cs = [.slice A css.length c] ∧ CC64 w w.heap.size A css ∧ css.length ≤ maxLen ∧ ∀ (i : Nat) (cs : Cts), css[i]? = some cs → cs.length ≤ maxLen := by
  rcases DataW.trod_slice ht h with ⟨h0, _⟩ | ⟨a, len, cap, elems, rest, n, _, rfl, _, _, hl, hm, hlen, hel, _, _⟩
  · exact ⟨none, 0, [], h0, .inl rfl, by simp, fun i xs h => by simp at h⟩
  · have each : ∀ i, i < len → ∃ xs : Cts, (∃ A' c', w.cell? (a.add i) = some (.slice A' xs.length c') ∧ C64 w w.heap.size A' xs) ∧ xs.length ≤ maxLen := fun i hi => by
      have h1 := hel i hi
      rw [hc, Nat.mul_one, List.getElem?_eq_getElem (by omega), Option.bind_eq_some_iff] at h1
      obtain ⟨cs', hcs, hy⟩ := h1
      obtain ⟨A', c', xs, rfl, h2, h3⟩ := open_cell_S64 (mk := ctm) ctm_inv he hF hd (by omega) hy
      exact ⟨xs, ⟨A', c', cell_of_cells?_one hcs, h2⟩, h3⟩
    obtain ⟨xss, hx1, hx2⟩ := list_choose len each
    refine ⟨some a, cap, xss, by rw [hx1], ?_, by omega, fun i xs h => (hx2 i xs h).2⟩
    rcases Nat.eq_zero_or_pos len with h0 | h0
    · left; exact List.eq_nil_of_length_eq_zero (by omega)
    · right
      obtain ⟨xs0, hx0⟩ : ∃ y, xss[0]? = some y := ⟨_, List.getElem?_eq_getElem (by omega)⟩
      obtain ⟨⟨A', c', h1, _⟩, _⟩ := hx2 0 xs0 hx0
      have hs : a.spot = none := by
        unfold World.cell? Addr.add at h1
        simp at h1
        split at h1
        · split at h1
          · cases h1
          · rename_i hq; simpa using hq
        · cases h1
      refine ⟨a.block, a.off, by cases a; simp_all, ?_, fun i xs h => ?_⟩
      · have := World.block_lt_of_cell? w _ h1
        rw [add_get _ hs] at this
        exact this
      · obtain ⟨⟨A2, c2, h2, h3⟩, _⟩ := hx2 i xs h
        rw [add_get _ hs] at h2
        exact ⟨A2, c2, h2, h3⟩
theorem open_CC64 {t e f : TypeId} {v : Value} {d : DataW H} {p : List MemPlace} (ht : P.underlying t = some (.slice e)) (he : P.underlying e = some (.slice f)) (hF : FlatI enc P w 0 sp true f 2) (hc : P.cellsOf e = 1) (hd : P.cellsOf f = 2)
    {base : Nat} {r : Reach} (hv : Value.okWide P w r base t v) (h : DataW.Trod enc P w 0 sp true t v d p) :
    ∃ A c, ∃ css : List Cts, v = .slice A css.length c ∧ CC64 w w.heap.size A css ∧ css.length ≤ maxLen ∧ ∀ (i : Nat) (cs : Cts), css[i]? = some cs → cs.length ≤ maxLen := by
  obtain ⟨a, len, cap, rfl⟩ := okWide_slice ht hv
  obtain ⟨fuel, hq⟩ := h
  obtain ⟨A, c, xss, h1, h2, h3, h4⟩ := open_cell_CC64 ht he hF hc hd hq
  simp [Value.cells] at h1
  obtain ⟨rfl, rfl, rfl⟩ := h1
  exact ⟨_, _, xss, rfl, h2, h3, h4⟩
end
/-- the rows' lengths, as rows of numbers -/
def lz (css : List Cts) : List (List Int) := css.map fun cs => cs.map Prod.fst
theorem lz_len {css : List Cts} : (lz css).length = css.length := by simp [lz]
theorem lz_get {css : List Cts} {i : Nat} {cs : Cts} (h : css[i]? = some cs) : (lz css)[i]? = some (cs.map Prod.fst) := by simp [lz, h]
theorem lz_facts {left : Int} {css : List Cts} (h0 : 0 ≤ left) (h : ¬ fszz left (lz css) < 0) : (css.length : Int) ≤ left ∧ ∀ (i : Nat) (cs : Cts), css[i]? = some cs → (cs.length : Int) ≤ left := by
  have h1 := fszz_facts h0 h
  rw [lz_len] at h1
  exact ⟨h1.1, fun i cs hc => by have := h1.2 i _ (lz_get hc); simpa using this⟩
end Go.Proofs.YthbljfanoaibkaaGreatDoor
