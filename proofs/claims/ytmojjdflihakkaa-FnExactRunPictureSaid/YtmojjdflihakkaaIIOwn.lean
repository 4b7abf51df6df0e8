/- Slices of slices that the call itself made: copied, marked. -/
import Derived.Test.YtmojjdflihakkaaIITo
namespace Go.Proofs.Ytmojjdflihakkaa
open Go.RowKit Go.ChangeShapes Go.WideShapes Go.ChangeAt
set_option linter.unusedVariables false
set_option linter.unusedSimpArgs false
/-- a slice of slices of int64 that the call made in the blocks lo .. hi - 1, its rows apart -/
def OwnII (w : World) (lo hi : Nat) (v : Value) (xss : List (List Int)) : Prop :=
  ∃ (g : Nat) (zs : List Value), v = .slice (some ⟨g, 0, none⟩) xss.length xss.length ∧ lo ≤ g ∧ g < hi ∧ g < w.heap.size ∧ zs.length = xss.length ∧ (∀ (j : Nat) (z : Value), zs[j]? = some z → w.cell? ⟨g, j, none⟩ = some z) ∧
    (∀ (j : Nat) (z : Value) (xs : List Int), zs[j]? = some z → xss[j]? = some xs → OwnI w (g + 1) z xs ∧ ∀ k, z.ownBlock = some k → k < hi) ∧
    (∀ (i j : Nat) (zi zj : Value), i < j → zs[i]? = some zi → zs[j]? = some zj → zi.ownBlock ≠ zj.ownBlock)
section
variable {w w' : World} {lo hi : Nat} {v : Value} {A : Option Addr} {n c : Nat} {xss : List (List Int)}
theorem OwnII.next (h : OwnII w lo hi v xss) (hb : Below w.heap.size w w') : OwnII w' lo hi v xss := by
  obtain ⟨g, zs, h1, h2, h3, h4, h5, h6, h7, h8⟩ := h
  exact ⟨g, zs, h1, h2, h3, Nat.lt_of_lt_of_le h4 hb.size, h5, fun j z hz => (hb.cell (p := ⟨g, j, none⟩) h4).trans (h6 j z hz), fun j z xs hz hx => ⟨(h7 j z xs hz hx).1.below hb, (h7 j z xs hz hx).2⟩, h8⟩
theorem OwnII.rd (h : OwnII w lo hi (.slice A n c) xss) : II64 w w.heap.size A xss := by
  obtain ⟨g, zs, h1, h2, h3, h4, h5, h6, h7, h8⟩ := h
  injection h1 with h1 _ _
  subst h1
  refine .inr ⟨g, 0, rfl, h4, fun i xs hx => ?_⟩
  obtain ⟨z, hz⟩ := get_of_lt (xs := zs) (k := i) (by have := lt_of_get hx; omega)
  have ho := (h7 i z xs hz hx).1
  obtain ⟨A', c', rfl⟩ := (OwnI.inR ho).form
  exact ⟨A', c', by rw [Nat.zero_add]; exact h6 i _ hz, ho.reads.2⟩
end
/-- how many numbers the first k rows hold -/
def sumL (xss : List (List Int)) : Nat → Nat
  | 0 => 0
  | k + 1 => sumL xss k + (xss.getD k []).length
theorem sumL_of {left : Int} {xss : List (List Int)} : ∀ k, k ≤ xss.length → (∀ j, j ≤ k → ¬ fszk left xss j < 0) → fszk left xss k = left - xss.length - sumL xss k
  | 0, _, h => by
    have h0 := h 0 (Nat.le_refl _)
    simp only [fszk, List.take_zero, List.foldl_nil] at h0 ⊢
    have := (fsz_n h0).2
    simp only [sumL]; omega
  | k + 1, hk, h => by
    have ih := sumL_of (left := left) (xss := xss) k (by omega) (fun j hj => h j (by omega))
    obtain ⟨xs, hx⟩ := get_of_lt (xs := xss) (k := k) (by omega)
    have h1 := h (k + 1) (Nat.le_refl _)
    rw [fszk_succ hx] at h1 ⊢
    have h2 := (fsz_n h1).2
    have e : xss.getD k [] = xs := by simp [List.getD, hx]
    rw [h2, ih, sumL, e]; omega
theorem sumL_le {left : Int} {xss : List (List Int)} (h : ¬ fszz left xss < 0) {k : Nat} (hk : k ≤ xss.length) : (sumL xss k : Int) ≤ left := by
  have hh : ∀ j, j ≤ xss.length → ¬ fszk left xss j < 0 := fun j hj hn => by
    have e : fszk left xss j = -1 := by have := fszk_ge (left := left) (xss := xss) (k := j); omega
    have := fszk_neg e (xss.length - j)
    rw [show j + (xss.length - j) = xss.length by omega] at this
    unfold fszz at h
    omega
  have h1 := sumL_of (left := left) (xss := xss) k hk (fun j hj => hh j (by omega))
  have h2 := hh k hk
  omega
end Go.Proofs.Ytmojjdflihakkaa
