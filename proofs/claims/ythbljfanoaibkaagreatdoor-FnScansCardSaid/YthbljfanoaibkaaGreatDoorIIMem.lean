/- Slices of slices of numbers: words, opened, sized. -/
import Derived.Test.YthbljfanoaibkaaGreatDoorMKit
namespace Go.Proofs.YthbljfanoaibkaaGreatDoor
open Go.RowKit Go.ChangeShapes Go.WideShapes Go.ChangeAt
set_option linter.unusedVariables false
set_option linter.unusedSimpArgs false

/-- a slice of slices of int64: it reads as xss -/
def II64 (w : World) (B : Nat) (A : Option Addr) (xss : List (List Int)) : Prop :=
  xss = [] ∨ ∃ b o, A = some ⟨b, o, none⟩ ∧ b < B ∧ ∀ (i : Nat) (xs : List Int), xss[i]? = some xs → ∃ A' c', w.cell? ⟨b, o + i, none⟩ = some (.slice A' xs.length c') ∧ I64 w B A' xs
section
variable {w w' : World} {B B' : Nat} {A : Option Addr} {xss : List (List Int)}
theorem II64.below (h : II64 w B A xss) (hb : Below B w w') : II64 w' B A xss := by
  rcases h with h | ⟨b, o, h1, h2, h3⟩
  · exact .inl h
  · refine .inr ⟨b, o, h1, h2, fun i xs hx => ?_⟩
    obtain ⟨A', c', h4, h5⟩ := h3 i xs hx
    exact ⟨A', c', (hb.cell (p := ⟨b, o + i, none⟩) h2).trans h4, h5.below hb⟩
theorem II64.more (h : II64 w B A xss) (hB : B ≤ B') : II64 w B' A xss := by
  rcases h with h | ⟨b, o, h1, h2, h3⟩
  · exact .inl h
  · refine .inr ⟨b, o, h1, by omega, fun i xs hx => ?_⟩
    obtain ⟨A', c', h4, h5⟩ := h3 i xs hx
    exact ⟨A', c', h4, h5.more hB⟩
theorem II64.up (h : II64 w w.heap.size A xss) (hb : Below w.heap.size w w') : II64 w' w'.heap.size A xss := (h.below hb).more hb.size
theorem II64.at_ {i : Nat} {xs : List Int} (h : II64 w B A xss) (hx : xss[i]? = some xs) : ∃ b o A' c', A = some ⟨b, o, none⟩ ∧ b < B ∧ w.cell? ⟨b, o + i, none⟩ = some (.slice A' xs.length c') ∧ I64 w B A' xs := by
  rcases h with h | ⟨b, o, h1, h2, h3⟩
  · rw [h] at hx; simp at hx
  · obtain ⟨A', c', h4, h5⟩ := h3 i xs hx
    exact ⟨b, o, A', c', h1, h2, h4, h5⟩
end
theorem list_choose {α : Type} {Q : Nat → α → Prop} : ∀ n, (∀ i, i < n → ∃ x, Q i x) → ∃ l : List α, l.length = n ∧ ∀ i x, l[i]? = some x → Q i x
  | 0, _ => ⟨[], rfl, fun i x h => by simp at h⟩
  | n + 1, h => by
    obtain ⟨l, h1, h2⟩ := list_choose n (fun i hi => h i (by omega))
    obtain ⟨x, hx⟩ := h n (by omega)
    refine ⟨l ++ [x], by simp [h1], fun i y hy => ?_⟩
    rcases Nat.lt_or_ge i n with h3 | h3
    · rw [List.getElem?_append_left (by omega)] at hy
      exact h2 i y hy
    · rw [List.getElem?_append_right (by omega), h1] at hy
      have : i - n = 0 := by
        have := (List.getElem?_eq_some_iff.1 hy).1
        simp at this; omega
      rw [this] at hy
      simp at hy
      subst hy
      rw [show i = n by omega]; exact hx
section
variable {H : Type} {enc : TypeId × Value → H} {P : Program} {w : World} {sp : Nat → Bool}
theorem open_cell_II64 {t e f : TypeId} {cs : List Value} {fuel : Nat} {x : DataW H × List MemPlace} (ht : P.underlying t = some (.slice e)) (he : P.underlying e = some (.slice f)) (hf : P.underlying f = some (.int .i64)) (hc : P.cellsOf e = 1) (hd : P.cellsOf f = 1)
    (h : DataW.trod enc P w 0 sp true fuel t cs = some x) :
    ∃ A c, ∃ xss : List (List Int), cs = [.slice A xss.length c] ∧ II64 w w.heap.size A xss ∧ xss.length ≤ maxLen ∧ ∀ (i : Nat) (xs : List Int), xss[i]? = some xs → xs.length ≤ maxLen := by
  rcases DataW.trod_slice ht h with ⟨h0, _⟩ | ⟨a, len, cap, elems, rest, n, _, rfl, _, _, hl, hm, hlen, hel, _, _⟩
  · exact ⟨none, 0, [], h0, .inl rfl, by simp, fun i xs h => by simp at h⟩
  · have each : ∀ i, i < len → ∃ xs : List Int, (∃ A' c', w.cell? (a.add i) = some (.slice A' xs.length c') ∧ I64 w w.heap.size A' xs) ∧ xs.length ≤ maxLen := fun i hi => by
      have h1 := hel i hi
      rw [hc, Nat.mul_one, List.getElem?_eq_getElem (by omega), Option.bind_eq_some_iff] at h1
      obtain ⟨cs', hcs, hy⟩ := h1
      obtain ⟨A', c', xs, rfl, h2, _, h3⟩ := open_cell_I64 he hf hd hy
      exact ⟨xs, ⟨A', c', cell_of_cells?_one hcs, h2⟩, h3⟩
    obtain ⟨xss, hx1, hx2⟩ := list_choose len each
    refine ⟨some a, cap, xss, by rw [hx1], ?_, by omega, fun i xs h => (hx2 i xs h).2⟩
    rcases Nat.eq_zero_or_pos len with h0 | h0
    · left; exact List.eq_nil_of_length_eq_zero (by omega)
    · right
      obtain ⟨xs0, hx0⟩ : ∃ y, xss[0]? = some y := ⟨_, List.getElem?_eq_getElem (by omega)⟩
      obtain ⟨⟨A', c', h1, _⟩, _⟩ := hx2 0 xs0 hx0
      have hs : a.spot = none := by
        unfold World.cell? Addr.add at h1
        simp at h1
        split at h1
        · split at h1
          · cases h1
          · rename_i hq; simpa using hq
        · cases h1
      refine ⟨a.block, a.off, by cases a; simp_all, ?_, fun i xs h => ?_⟩
      · have := World.block_lt_of_cell? w _ h1
        rw [add_get _ hs] at this
        exact this
      · obtain ⟨⟨A2, c2, h2, h3⟩, _⟩ := hx2 i xs h
        rw [add_get _ hs] at h2
        exact ⟨A2, c2, h2, h3⟩
theorem open_II64 {t e f : TypeId} {v : Value} {d : DataW H} {p : List MemPlace} (ht : P.underlying t = some (.slice e)) (he : P.underlying e = some (.slice f)) (hf : P.underlying f = some (.int .i64)) (hc : P.cellsOf e = 1) (hd : P.cellsOf f = 1)
    {base : Nat} {r : Reach} (hv : Value.okWide P w r base t v) (h : DataW.Trod enc P w 0 sp true t v d p) :
    ∃ A c, ∃ xss : List (List Int), v = .slice A xss.length c ∧ II64 w w.heap.size A xss ∧ xss.length ≤ maxLen ∧ ∀ (i : Nat) (xs : List Int), xss[i]? = some xs → xs.length ≤ maxLen := by
  obtain ⟨a, len, cap, rfl⟩ := okWide_slice ht hv
  obtain ⟨fuel, hq⟩ := h
  obtain ⟨A, c, xss, h1, h2, h3, h4⟩ := open_cell_II64 ht he hf hc hd hq
  simp [Value.cells] at h1
  obtain ⟨rfl, rfl, rfl⟩ := h1
  exact ⟨_, _, xss, rfl, h2, h3, h4⟩
end
/-- what is left of a size behind rows of rows -/
def fszk (left : Int) (xss : List (List Int)) (k : Nat) : Int := (xss.take k).foldl (fun l xs => fsz l xs.length) (fsz left xss.length)
def fszz (left : Int) (xss : List (List Int)) : Int := fszk left xss xss.length
theorem fszk_succ {left : Int} {xss : List (List Int)} {k : Nat} {xs : List Int} (h : xss[k]? = some xs) : fszk left xss (k + 1) = fsz (fszk left xss k) xs.length := by
  rw [fszk, take_snoc h, List.foldl_append]; rfl
theorem fsz_neg {n : Nat} : fsz (-1) n = -1 := by unfold fsz; rw [if_pos (by omega)]
theorem fszk_neg {left : Int} {xss : List (List Int)} {k : Nat} (h : fszk left xss k = -1) : ∀ j, fszk left xss (k + j) = -1
  | 0 => h
  | j + 1 => by
    have ih := fszk_neg h j
    by_cases hl : k + j < xss.length
    · rw [← Nat.add_assoc, fszk_succ (List.getElem?_eq_getElem hl), ih, fsz_neg]
    · rw [fszk, List.take_of_length_le (by omega)]
      rw [fszk, List.take_of_length_le (by omega)] at ih
      exact ih
theorem fszk_ge {left : Int} {xss : List (List Int)} {k : Nat} : -1 ≤ fszk left xss k := by
  induction k with
  | zero => simp [fszk]; exact fsz_ge
  | succ k ih =>
    by_cases hl : k < xss.length
    · rw [fszk_succ (List.getElem?_eq_getElem hl)]; exact fsz_ge
    · rw [fszk, List.take_of_length_le (by omega)]
      rw [fszk, List.take_of_length_le (by omega)] at ih
      exact ih
theorem fszk_le {left : Int} {xss : List (List Int)} (h0 : 0 ≤ left) {k : Nat} : fszk left xss k ≤ left := by
  induction k with
  | zero => simp [fszk]; exact fsz_le (by omega)
  | succ k ih =>
    by_cases hl : k < xss.length
    · rw [fszk_succ (List.getElem?_eq_getElem hl)]
      exact Int.le_trans (fsz_le fszk_ge) ih
    · rw [fszk, List.take_of_length_le (by omega)]
      rw [fszk, List.take_of_length_le (by omega)] at ih
      exact ih
theorem fszz_facts {left : Int} {xss : List (List Int)} (h0 : 0 ≤ left) (h : ¬ fszz left xss < 0) : (xss.length : Int) ≤ left ∧ ∀ (i : Nat) (xs : List Int), xss[i]? = some xs → (xs.length : Int) ≤ left := by
  have hk : ∀ k, k ≤ xss.length → ¬ fszk left xss k < 0 := fun k hk hn => by
    have e : fszk left xss k = -1 := by have := fszk_ge (left := left) (xss := xss) (k := k); omega
    have := fszk_neg e (xss.length - k)
    rw [show k + (xss.length - k) = xss.length by omega] at this
    unfold fszz at h
    omega
  refine ⟨?_, fun i xs hx => ?_⟩
  · have := hk 0 (by omega)
    simp [fszk] at this
    exact (fsz_n (by omega)).1
  · have h1 := hk (i + 1) (lt_of_get hx)
    rw [fszk_succ hx] at h1
    have h2 := (fsz_n h1).1
    have h3 := fszk_le (xss := xss) h0 (k := i)
    omega
end Go.Proofs.YthbljfanoaibkaaGreatDoor
