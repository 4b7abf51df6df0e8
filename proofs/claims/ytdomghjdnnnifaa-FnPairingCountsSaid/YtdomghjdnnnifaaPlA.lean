/- Best pairings: the plain law. No function of the program. -/
import Derived.Test.YtdomghjdnnnifaaAllD
namespace Go.Proofs.Ytdomghjdnnnifaa
set_option linter.unusedVariables false
set_option linter.unusedSimpArgs false
theorem optU_in {row ps : List Int} {j : Nat} (h0 : 0 ≤ row.getD j 0) (h1 : ¬ (j : Int) ∈ ps) : ∀ {m : Nat}, j + 1 < m → (j : Int) ∈ optU row ps m
  | 0, h => by omega
  | 1, h => by omega
  | m + 2, h => by
    rw [optU, List.mem_append]
    by_cases e : j = m
    · subst e
      right
      rw [if_pos (by simp only [Bool.and_eq_true, decide_eq_true_eq, Bool.not_eq_true', decide_eq_false_iff_not]; exact ⟨h0, h1⟩)]
      simp
    · left; exact optU_in h0 h1 (by omega)
theorem optU_m1 {row ps : List Int} : ∀ m, (-1 : Int) ∈ optU row ps (m + 1)
  | 0 => by simp [optU]
  | m + 1 => by rw [optU, List.mem_append]; exact .inl (optU_m1 m)
theorem allR_all : ∀ {rest pre : List (List Int)} {ps qs : List Int}, ps.length = pre.length → qs.length = pre.length + rest.length → qs.take ps.length = ps → prk (pre ++ rest) qs qs.length = true → qs ∈ allR rest ps
  | [], pre, ps, qs, hl, hq, ht, hp => by
    simp at hq
    rw [allR, List.mem_singleton, ← ht, List.take_of_length_le (by omega)]
  | row :: rest, pre, ps, qs, hl, hq, ht, hp => by
    have hq' : qs.length = pre.length + (rest.length + 1) := by simpa using hq
    obtain ⟨k, hk⟩ := get_of_lt (xs := qs) (k := ps.length) (by omega)
    have hrow : (pre ++ row :: rest)[ps.length]? = some row := by rw [hl, List.getElem?_append_right (Nat.le_refl _), Nat.sub_self]; rfl
    rw [allR, List.mem_flatMap]
    refine ⟨k, ?_, allR_all (pre := pre ++ [row]) (by simp [hl]) (by simp; omega) ?_ (by simpa using hp)⟩
    · have hok := prk_of hp (k := ps.length) (by omega)
      rcases pok_facts hok hk hrow with rfl | ⟨m, y, rfl, hy, h0⟩
      · exact optU_m1 _
      · rw [pok_in hk hrow hy, ht] at hok
        simp only [Bool.and_eq_true, decide_eq_true_eq, Bool.not_eq_true', decide_eq_false_iff_not] at hok
        exact optU_in (by rw [iget_of hy]; exact h0) hok.2 (by have := lt_of_get hy; omega)
    · rw [List.length_append, show [k].length = 1 from rfl, take_snoc hk, ht]
theorem allP_all {css : List (List Int)} {ps : List Int} (h : pairB css ps = true) : ps ∈ allP css := by
  obtain ⟨h1, h2⟩ := pair_facts h
  exact allR_all (pre := []) (ps := []) rfl (by simpa using h1) (by simp) (by simpa using h2)
/-- no pairing has a smaller sum than the best one -/
theorem lst_min {css : List (List Int)} {miss : Int} {ps : List Int} (h : pairB css ps = true) : lstP css miss ≤ psk miss css ps ps.length := by
  obtain ⟨i, hi⟩ := List.getElem?_of_mem (allP_all h)
  have h1 := mI_min (f := sumA miss css (allP css)) (n := (allP css).length - 1) (i := i) (by have := lt_of_get hi; omega)
  have h2 : sumA miss css (allP css) i = psk miss css ps ps.length := by rw [sumA]; simp [List.getD, hi]
  rw [h2] at h1
  exact h1
theorem minR_le {miss : Int} {xs : List Int} {m : Nat} {y : Int} (hy : xs[m]? = some y) (h0 : 0 ≤ y) : ∀ {k : Nat}, m < k → k ≤ xs.length → minR miss xs k ≤ y
  | 0, h, _ => by omega
  | k + 1, h, hk => by
    obtain ⟨c, hc⟩ := get_of_lt (xs := xs) (k := k) (by omega)
    rw [minR_succ hc]
    by_cases e : m = k
    · subst e
      rw [hy] at hc
      injection hc with hc
      subst hc
      rw [if_pos h0]; omega
    · have := minR_le (miss := miss) hy h0 (k := k) (by omega) (by omega)
      split <;> omega
/-- the bound is one -/
theorem bound_le {css : List (List Int)} {miss : Int} {ps : List Int} (h0 : 0 ≤ miss) (h : pairB css ps = true) : ∀ k, k ≤ ps.length → sumR miss css k ≤ psk miss css ps k
  | 0, _ => by simp [sumR, psk]
  | k + 1, hk => by
    have ih := bound_le h0 h k (by omega)
    obtain ⟨h1, h2⟩ := pair_facts h
    obtain ⟨xs, hx⟩ := get_of_lt (xs := css) (k := k) (by omega)
    obtain ⟨p, hp⟩ := get_of_lt (xs := ps) (k := k) (by omega)
    rw [sumR_succ hx, psk, pst, iget_of hp]
    rcases pok_facts (prk_of h2 (by omega)) hp hx with rfl | ⟨m, y, rfl, hy, hy0⟩
    · have := (minR_bd h0 (xs := xs) (k := xs.length)).2
      rw [if_pos (by omega)]; omega
    · rw [if_neg (by omega), lget_of hx, Int.toNat_natCast, iget_of hy]
      have := minR_le (miss := miss) hy hy0 (k := xs.length) (lt_of_get hy) (Nat.le_refl _)
      omega
theorem bound_lst {css : List (List Int)} {miss : Int} (h0 : 0 ≤ miss) : sumR miss css css.length ≤ lstP css miss := by
  have h := bound_le h0 (bst_pair (css := css) (miss := miss)) _ (Nat.le_refl _)
  rw [bstP_len] at h
  rw [lstP, bstP_len]; exact h
end Go.Proofs.Ytdomghjdnnnifaa
