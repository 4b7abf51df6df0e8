/- How many pairings there are: the plain law. No function of the program. -/
import Derived.Test.YtdomghjdnnnifaaPlA
namespace Go.Proofs.Ytdomghjdnnnifaa
set_option linter.unusedVariables false
set_option linter.unusedSimpArgs false
theorem flatMap_sub {α β : Type} {f g : α → List β} (h : ∀ a, (f a).length ≤ (g a).length) {l m : List α} (hs : l.Sublist m) : (l.flatMap f).length ≤ (m.flatMap g).length := by
  induction hs with
  | slnil => simp
  | cons a hs ih => rw [List.flatMap_cons, List.length_append]; omega
  | cons_cons a hs ih =>
    rw [List.flatMap_cons, List.flatMap_cons, List.length_append, List.length_append]
    have := h a
    omega
theorem flatMap_eq {α β : Type} {f g : α → List β} (h : ∀ a, (f a).length = (g a).length) : ∀ (l : List α), (l.flatMap f).length = (l.flatMap g).length
  | [] => rfl
  | a :: l => by rw [List.flatMap_cons, List.flatMap_cons, List.length_append, List.length_append, h a, flatMap_eq h l]
/-- two prefixes that take the same columns -/
def sameC (ps qs : List Int) : Prop := ∀ m : Nat, (m : Int) ∈ ps ↔ (m : Int) ∈ qs
theorem sameC.snoc {ps qs : List Int} (h : sameC ps qs) (k : Int) : sameC (ps ++ [k]) (qs ++ [k]) := fun m => by
  rw [List.mem_append, List.mem_append, h m]
theorem optU_same {row ps qs : List Int} (h : sameC ps qs) : ∀ m, optU row ps m = optU row qs m
  | 0 => rfl
  | 1 => rfl
  | m + 2 => by
    rw [optU, optU, optU_same h (m + 1)]
    congr 1
    rw [show decide ((m : Int) ∈ ps) = decide ((m : Int) ∈ qs) from decide_eq_decide.2 (h m)]
theorem allR_same : ∀ {rest : List (List Int)} {ps qs : List Int}, sameC ps qs → (allR rest ps).length = (allR rest qs).length
  | [], ps, qs, h => rfl
  | row :: rest, ps, qs, h => by
    rw [allR, allR, optA, optA, optU_same h]
    exact flatMap_eq (fun k => allR_same (h.snoc k)) _
theorem cnt_less {row : List Int} {rest : List (List Int)} : (allP rest).length ≤ (allP (row :: rest)).length := by
  have h1 : (allR rest []).length = (allR rest ([] ++ [-1])).length := allR_same (fun m => by simp)
  rw [allP, allP, h1]
  have h2 : accU row rest [] 1 = allR rest ([] ++ [-1]) := accU_one
  rw [← h2, accU, allR]
  refine flatMap_sub (fun a => Nat.le_refl _) ?_
  have : ∀ m, (optU row [] 1).Sublist (optU row [] (m + 1)) := fun m => by
    induction m with
    | zero => exact List.Sublist.refl _
    | succ m ih => rw [optU]; exact ih.trans (List.sublist_append_left _ _)
  exact this row.length
/-- all costs 0 -/
def zer (css : List (List Int)) : List (List Int) := css.map fun xs => List.replicate xs.length 0
theorem zer_len {css : List (List Int)} : (zer css).length = css.length := by simp [zer]
theorem zer_snoc {css : List (List Int)} {k : Nat} {xs : List Int} (h : css[k]? = some xs) : zer (css.take (k + 1)) = zer (css.take k) ++ [List.replicate xs.length 0] := by
  rw [take_snoc h, zer, List.map_append]; rfl
theorem optU_sub {row ps : List Int} {n : Nat} : ∀ m, (optU row ps m).Sublist (optU (List.replicate n 0) ps m)
  | 0 => List.Sublist.refl _
  | 1 => List.Sublist.refl _
  | m + 2 => by
    rw [optU, optU]
    refine List.Sublist.append (optU_sub (m + 1)) ?_
    have e : (List.replicate n (0 : Int)).getD m 0 = 0 := by
      rcases Nat.lt_or_ge m n with h | h <;> simp [List.getD, List.getElem?_replicate, h]
    rw [e]
    by_cases h : (decide (0 ≤ row.getD m 0) && !(decide ((m : Int) ∈ ps))) = true
    · rw [if_pos h]
      simp only [Bool.and_eq_true] at h
      rw [if_pos (by simp only [Bool.and_eq_true]; exact ⟨by simp, h.2⟩)]
      exact List.Sublist.refl _
    · rw [if_neg h]; exact List.nil_sublist _
theorem allR_zer : ∀ {rest : List (List Int)} {ps : List Int}, (allR rest ps).length ≤ (allR (zer rest) ps).length
  | [], ps => Nat.le_refl _
  | row :: rest, ps => by
    rw [show zer (row :: rest) = List.replicate row.length 0 :: zer rest from rfl, allR, allR, optA, optA, List.length_replicate]
    exact flatMap_sub (fun k => allR_zer) (optU_sub _)
/-- how many pairings r rows have with f free columns -/
def cntP : Nat → Nat → Nat
  | 0, _ => 1
  | r + 1, f => cntP r f + f * cntP r (f - 1)
theorem optA_zer {c : Nat} {ps : List Int} : optA (List.replicate c 0) ps = -1 :: frk ps c := by
  have : ∀ m, m ≤ c → optU (List.replicate c 0) ps (m + 1) = -1 :: frk ps m := fun m => by
    induction m with
    | zero => intro _; simp [optU, frk_zero]
    | succ m ih =>
      intro hm
      rw [optU, ih (by omega), frk_succ]
      have e : (List.replicate c (0 : Int)).getD m 0 = 0 := by simp [List.getD, List.getElem?_replicate, show m < c by omega]
      rw [e]
      by_cases h : (m : Int) ∈ ps <;> simp [h]
  rw [optA, List.length_replicate]
  exact this c (Nat.le_refl _)
theorem frk_less {ps : List Int} {j : Nat} (hj : ¬ (j : Int) ∈ ps) : ∀ c, (c ≤ j → (frk (ps ++ [(j : Int)]) c).length = (frk ps c).length) ∧ (j < c → (frk (ps ++ [(j : Int)]) c).length + 1 = (frk ps c).length)
  | 0 => ⟨fun _ => by simp [frk_zero], fun h => by omega⟩
  | c + 1 => by
    have ih := frk_less hj c
    rw [frk_succ, frk_succ, List.length_append, List.length_append]
    by_cases e : c = j
    · subst e
      have h1 := ih.1 (Nat.le_refl _)
      rw [decide_eq_true (show (c : Int) ∈ ps ++ [(c : Int)] by simp), decide_eq_false hj]
      exact ⟨fun h => by omega, fun _ => by simp; omega⟩
    · have hm : decide ((c : Int) ∈ ps ++ [(j : Int)]) = decide ((c : Int) ∈ ps) := decide_eq_decide.2 (by simp; omega)
      rw [hm]
      exact ⟨fun h => by have := ih.1 (by omega); omega, fun h => by have := ih.2 (by omega); omega⟩
theorem frk_m1 {ps : List Int} : ∀ c, frk (ps ++ [-1]) c = frk ps c
  | 0 => by simp [frk_zero]
  | c + 1 => by
    rw [frk_succ, frk_succ, frk_m1 c]
    congr 1
    rw [show decide ((c : Int) ∈ ps ++ [-1]) = decide ((c : Int) ∈ ps) from decide_eq_decide.2 (by simp)]
theorem flatMap_const {α β : Type} {f : α → List β} {n : Nat} : ∀ (l : List α), (∀ a ∈ l, (f a).length = n) → (l.flatMap f).length = l.length * n
  | [], _ => by simp
  | a :: l, h => by
    rw [List.flatMap_cons, List.length_append, h a (by simp), flatMap_const l (fun b hb => h b (by simp [hb])), List.length_cons, Nat.add_mul]; omega
theorem allR_cnt {c : Nat} : ∀ {r : Nat} {ps : List Int}, (allR (List.replicate r (List.replicate c 0)) ps).length = cntP r (frk ps c).length
  | 0, ps => rfl
  | r + 1, ps => by
    rw [List.replicate_succ, allR, optA_zer, List.flatMap_cons, List.length_append, allR_cnt, frk_m1, cntP]
    rw [flatMap_const (n := cntP r ((frk ps c).length - 1)) (frk ps c) (fun k hk => by
      have hp := hk
      rw [frk, List.mem_map] at hp
      obtain ⟨j, hj, rfl⟩ := hp
      rw [List.mem_filter] at hj
      have h1 := (frk_less (ps := ps) (j := j) (by simpa using hj.2) c).2 (by simpa using hj.1)
      rw [allR_cnt]
      congr 1; omega)]
/-- the law's own way to the number -/
def wayI (r c : Int) : Nat → Int
  | 0 => 1
  | k + 1 => wayI r c k * (r - (k : Int)) * (c - (k : Int)) / ((k : Int) + 1)
def totI (r c : Int) : Nat → Int
  | 0 => 0
  | k + 1 => totI r c k + wayI r c k
theorem way_all : ∀ r, r < 7 → ∀ c, c < 7 → (cntP r c : Int) = totI r c (min r c + 1) ∧ ∀ k, k < 8 → (0 ≤ wayI r c k ∧ wayI r c k ≤ 10000) ∧ (0 ≤ totI r c k ∧ totI r c k ≤ 100000) := by
  decide +kernel
theorem zer_rep {css : List (List Int)} {c : Nat} (h : ∀ (i : Nat) (xs : List Int), css[i]? = some xs → xs.length = c) : zer css = List.replicate css.length (List.replicate c 0) := by
  refine List.ext_getElem? fun i => ?_
  rw [List.getElem?_replicate]
  rcases Nat.lt_or_ge i css.length with hi | hi
  · obtain ⟨xs, hx⟩ := get_of_lt hi
    rw [if_pos hi, zer, List.getElem?_map, hx]
    simp [h i xs hx]
  · rw [if_neg (by omega), zer, List.getElem?_map, List.getElem?_eq_none hi]; rfl
theorem frk_nil {c : Nat} : (frk [] c).length = c := by
  induction c with
  | zero => simp [frk_zero]
  | succ c ih => rw [frk_succ, List.length_append, ih]; simp
theorem are_mk {xss : List (List Int)} (h6 : xss.length ≤ 6) (h : ∀ (i : Nat) (xs : List Int), xss[i]? = some xs → xs.length ≤ 6 ∧ xs.length = (xss.getD 0 []).length ∧ allB xs (-1) 1000000000000 = true) : areB xss = true := by
  rw [areB, decide_eq_true h6, Bool.true_and, arek, List.all_eq_true]
  intro i hi
  obtain ⟨xs, hx⟩ := get_of_lt (xs := xss) (k := i) (by simpa using hi)
  obtain ⟨a, b, c⟩ := h i xs hx
  rw [lget_of hx, rowB, decide_eq_true a, decide_eq_true b, c]; rfl
theorem are_tail {css : List (List Int)} (h : areB css = true) : areB css.tail = true := by
  obtain ⟨h6, hr⟩ := are_facts h
  have hg : ∀ (i : Nat), css.tail[i]? = css[i + 1]? := fun i => by cases css <;> simp
  refine are_mk (by simp; omega) fun i xs hx => ?_
  have hx' := hx
  rw [hg] at hx'
  obtain ⟨a, b, c⟩ := hr _ xs hx'
  obtain ⟨z, hz⟩ := get_of_lt (xs := css.tail) (k := 0) (by have := lt_of_get hx; omega)
  have hz' := hz
  rw [hg] at hz'
  have b2 := (hr _ z hz').2.1
  rw [show css.tail.getD 0 [] = z by simp [List.getD, hz]]
  exact ⟨a, by omega, c⟩
/-- rows of zeros are costs -/
theorem zer_are {css : List (List Int)} (h : areB css = true) : areB (zer css) = true ∧ ((allP (zer css)).length : Int) = totI css.length (css.getD 0 []).length (min css.length (css.getD 0 []).length + 1) := by
  obtain ⟨h6, hr⟩ := are_facts h
  refine ⟨?_, ?_⟩
  · refine are_mk (by rw [zer_len]; exact h6) fun i xs hx => ?_
    rw [zer, List.getElem?_map, Option.map_eq_some_iff] at hx
    obtain ⟨ys, hy, rfl⟩ := hx
    obtain ⟨a1, a2, a3⟩ := hr i ys hy
    have e0 : (zer css).getD 0 [] = List.replicate (css.getD 0 []).length 0 := by
      obtain ⟨z, hz⟩ := get_of_lt (xs := css) (k := 0) (by have := lt_of_get hy; omega)
      simp [zer, List.getD, hz]
    refine ⟨by simpa using a1, by rw [e0]; simpa using a2, ?_⟩
    rw [allB, List.all_eq_true]
    intro x hx
    rw [(List.mem_replicate.1 hx).2]
    exact inB_t (by omega)
  · have hc : (css.getD 0 []).length ≤ 6 := by
      rcases Nat.eq_zero_or_pos css.length with h0 | h0
      · rw [List.eq_nil_of_length_eq_zero h0]; simp
      · obtain ⟨z, hz⟩ := get_of_lt (xs := css) (k := 0) h0
        rw [show css.getD 0 [] = z by simp [List.getD, hz]]
        exact (hr 0 z hz).1
    rw [zer_rep (fun i xs hx => (hr i xs hx).2.1), allP, allR_cnt, frk_nil]
    exact (way_all css.length (by omega) (css.getD 0 []).length (by omega)).1
end Go.Proofs.Ytdomghjdnnnifaa
