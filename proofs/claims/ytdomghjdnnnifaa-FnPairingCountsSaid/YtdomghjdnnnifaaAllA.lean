/- All pairings: the plain law. No function of the program. -/
import Derived.Test.YtdomghjdnnnifaaCoE
namespace Go.Proofs.Ytdomghjdnnnifaa
set_option linter.unusedVariables false
set_option linter.unusedSimpArgs false
/-- the options of a row: -1 and the columns below m - 1 that are allowed and free -/
def optU (row ps : List Int) : Nat → List Int
  | 0 => []
  | 1 => [-1]
  | m + 2 => optU row ps (m + 1) ++ (if decide (0 ≤ row.getD m 0) && !(decide ((m : Int) ∈ ps)) then [(m : Int)] else [])
def optA (row ps : List Int) : List Int := optU row ps (row.length + 1)
/-- all pairings that begin with ps, over the rows that are left -/
def allR : List (List Int) → List Int → List (List Int)
  | [], ps => [ps]
  | row :: rest, ps => (optA row ps).flatMap fun k => allR rest (ps ++ [k])
/-- those of the options below m - 1 -/
def accU (row : List Int) (rest : List (List Int)) (ps : List Int) (m : Nat) : List (List Int) := (optU row ps m).flatMap fun k => allR rest (ps ++ [k])
theorem accU_zero {row : List Int} {rest : List (List Int)} {ps : List Int} : accU row rest ps 0 = [] := rfl
theorem accU_one {row : List Int} {rest : List (List Int)} {ps : List Int} : accU row rest ps 1 = allR rest (ps ++ [-1]) := by simp [accU, optU]
theorem accU_yes {row : List Int} {rest : List (List Int)} {ps : List Int} {m : Nat} {y : Int} (hy : row[m]? = some y) (h0 : 0 ≤ y) (h1 : ¬ (m : Int) ∈ ps) : accU row rest ps (m + 2) = accU row rest ps (m + 1) ++ allR rest (ps ++ [(m : Int)]) := by
  rw [accU, optU, List.flatMap_append]
  simp [accU, List.getD, hy, h0, h1]
theorem accU_no {row : List Int} {rest : List (List Int)} {ps : List Int} {m : Nat} {y : Int} (hy : row[m]? = some y) (h : ¬ 0 ≤ y ∨ (m : Int) ∈ ps) : accU row rest ps (m + 2) = accU row rest ps (m + 1) := by
  rw [accU, optU, List.flatMap_append]
  rcases h with h | h <;> simp [accU, List.getD, hy, h]
theorem allR_cons {row : List Int} {rest : List (List Int)} {ps : List Int} : allR (row :: rest) ps = accU row rest ps (row.length + 1) := rfl
theorem optU_len {row ps : List Int} : ∀ m, (optU row ps m).length ≤ m
  | 0 => by simp [optU]
  | 1 => by simp [optU]
  | m + 2 => by
    have := optU_len (row := row) (ps := ps) (m + 1)
    rw [optU, List.length_append]
    split <;> simp <;> omega
theorem flatMap_len {α β : Type} {f : α → List β} {n : Nat} : ∀ (l : List α), (∀ a, (f a).length ≤ n) → (l.flatMap f).length ≤ l.length * n
  | [], _ => by simp
  | a :: l, h => by
    have h1 := h a
    have h2 := flatMap_len l h
    rw [List.flatMap_cons, List.length_append, List.length_cons, Nat.add_mul]; omega
theorem allR_len : ∀ {rest : List (List Int)} {ps : List Int}, (∀ r ∈ rest, r.length ≤ 6) → (allR rest ps).length ≤ 7 ^ rest.length
  | [], ps, _ => by simp [allR]
  | row :: rest, ps, h => by
    have h1 := h row (by simp)
    have h2 := optU_len (row := row) (ps := ps) (row.length + 1)
    have h3 := flatMap_len (f := fun k => allR rest (ps ++ [k])) (optA row ps) (fun k => allR_len (ps := ps ++ [k]) (fun r hr => h r (by simp [hr])))
    rw [allR, List.length_cons, Nat.pow_succ]
    refine Nat.le_trans h3 ?_
    rw [Nat.mul_comm (7 ^ rest.length) 7]
    exact Nat.mul_le_mul_right _ (by unfold optA; omega)
theorem accU_len {row : List Int} {rest : List (List Int)} {ps : List Int} (h : ∀ r ∈ rest, r.length ≤ 6) {m : Nat} (hm : m ≤ 7) : (accU row rest ps m).length ≤ 7 ^ (rest.length + 1) := by
  have h2 := optU_len (row := row) (ps := ps) m
  have h3 := flatMap_len (f := fun k => allR rest (ps ++ [k])) (optU row ps m) (fun k => allR_len (ps := ps ++ [k]) h)
  rw [accU, Nat.pow_succ, Nat.mul_comm (7 ^ rest.length) 7]
  exact Nat.le_trans h3 (Nat.mul_le_mul_right _ (by omega))
theorem pow7 {n : Nat} (h : n ≤ 6) : 7 ^ n ≤ 117649 := Nat.le_trans (Nat.pow_le_pow_right (by omega) h) (by decide)
theorem optU_mem {row ps : List Int} {x : Int} : ∀ {m : Nat}, x ∈ optU row ps m → x = -1 ∨ ∃ j : Nat, x = j ∧ j + 1 < m ∧ 0 ≤ row.getD j 0 ∧ ¬ (j : Int) ∈ ps
  | 0, h => by simp [optU] at h
  | 1, h => by simp [optU] at h; exact .inl h
  | m + 2, h => by
    rw [optU, List.mem_append] at h
    rcases h with h | h
    · rcases optU_mem h with h | ⟨j, h1, h2, h3, h4⟩
      · exact .inl h
      · exact .inr ⟨j, h1, by omega, h3, h4⟩
    · split at h
      · rename_i hc
        simp only [Bool.and_eq_true, Bool.not_eq_true', decide_eq_true_eq, decide_eq_false_iff_not] at hc
        rw [List.mem_singleton] at h
        exact .inr ⟨m, h, by omega, hc.1, hc.2⟩
      · cases h
/-- the list that is reached is never empty -/
theorem allR_pos : ∀ {rest : List (List Int)} {ps : List Int}, 0 < (allR rest ps).length
  | [], ps => by simp [allR]
  | row :: rest, ps => by
    have h : optA row ps = -1 :: (optA row ps).tail := by
      have : ∀ m, optU row ps (m + 1) = -1 :: (optU row ps (m + 1)).tail := fun m => by
        induction m with
        | zero => rfl
        | succ m ih => rw [optU, ih]; rfl
      exact this row.length
    rw [allR, h, List.flatMap_cons, List.length_append]
    have := allR_pos (rest := rest) (ps := ps ++ [-1])
    omega
/-- every pairing that is reached has the prefix's length and that of the rows -/
theorem allR_mem_len : ∀ {rest : List (List Int)} {ps qs : List Int}, qs ∈ allR rest ps → qs.length = ps.length + rest.length
  | [], ps, qs, h => by
    rw [allR, List.mem_singleton] at h
    subst h; simp
  | row :: rest, ps, qs, h => by
    rw [allR, List.mem_flatMap] at h
    obtain ⟨k, _, h⟩ := h
    have := allR_mem_len h
    simp at this ⊢; omega
theorem optA_bd {row ps : List Int} {x : Int} (h : x ∈ optA row ps) : x = -1 ∨ ∃ (j : Nat) (y : Int), x = j ∧ row[j]? = some y ∧ 0 ≤ y ∧ ¬ (j : Int) ∈ ps := by
  rcases optU_mem h with h | ⟨j, h1, h2, h3, h4⟩
  · exact .inl h
  · obtain ⟨y, hy⟩ := get_of_lt (xs := row) (k := j) (by omega)
    rw [iget_of hy] at h3
    exact .inr ⟨j, y, h1, hy, h3, h4⟩
/-- what is reached is a pairing -/
theorem allR_pok : ∀ {rest pre : List (List Int)} {ps qs : List Int}, ps.length = pre.length → prk (pre ++ rest) ps ps.length = true → qs ∈ allR rest ps → prk (pre ++ rest) qs qs.length = true
  | [], pre, ps, qs, hl, hp, h => by
    rw [allR, List.mem_singleton] at h
    subst h; exact hp
  | row :: rest, pre, ps, qs, hl, hp, h => by
    rw [allR, List.mem_flatMap] at h
    obtain ⟨k, hk, h⟩ := h
    have e : pre ++ row :: rest = (pre ++ [row]) ++ rest := by simp
    rw [e]
    refine allR_pok (by simp [hl]) ?_ h
    rw [← e]
    have hrow : (pre ++ row :: rest)[ps.length]? = some row := by rw [hl, List.getElem?_append_right (Nat.le_refl _), Nat.sub_self]; rfl
    have hkk : (ps ++ [k])[ps.length]? = some k := by rw [List.getElem?_append_right (Nat.le_refl _), Nat.sub_self]; rfl
    rw [List.length_append, show [k].length = 1 from rfl, prk_succ, Bool.and_eq_true]
    refine ⟨?_, ?_⟩
    · rw [prk, List.all_eq_true] at hp ⊢
      intro j hj
      have hj' : j < ps.length := by simpa using hj
      have h1 := hp j hj
      rw [pokB] at h1 ⊢
      rw [show (ps ++ [k]).getD j 0 = ps.getD j 0 by simp [List.getD, List.getElem?_append_left hj'], show (ps ++ [k]).take j = ps.take j by rw [List.take_append_of_le_length (by omega)]]
      exact h1
    · rcases optA_bd hk with rfl | ⟨j, y, rfl, hy, h0, h1⟩
      · exact pok_m1 hkk
      · rw [pok_in hkk hrow hy, List.take_append_of_le_length (Nat.le_refl _), List.take_length]
        simp [h0, h1]
/-- the first index of a least value among 0 .. n -/
def mI (f : Nat → Int) : Nat → Nat
  | 0 => 0
  | n + 1 => if f (n + 1) < f (mI f n) then n + 1 else mI f n
theorem mI_le {f : Nat → Int} : ∀ n, mI f n ≤ n
  | 0 => Nat.le_refl _
  | n + 1 => by have := mI_le (f := f) n; rw [mI]; split <;> omega
theorem mI_min {f : Nat → Int} : ∀ {n i : Nat}, i ≤ n → f (mI f n) ≤ f i
  | 0, i, h => by rw [show i = 0 by omega]; exact Int.le_refl _
  | n + 1, i, h => by
    rw [mI]
    rcases Nat.lt_or_ge i (n + 1) with h1 | h1
    · have := mI_min (f := f) (show i ≤ n by omega)
      split <;> omega
    · rw [show i = n + 1 by omega]
      split <;> omega
/-- the sums of pairings -/
def sumA (miss : Int) (css all : List (List Int)) (i : Nat) : Int := psk miss css (all.getD i []) (all.getD i []).length
def bestA (miss : Int) (css all : List (List Int)) : List Int := all.getD (mI (sumA miss css all) (all.length - 1)) []
def allP (css : List (List Int)) : List (List Int) := allR css []
def bstP (css : List (List Int)) (miss : Int) : List Int := bestA miss css (allP css)
def lstP (css : List (List Int)) (miss : Int) : Int := psk miss css (bstP css miss) (bstP css miss).length
theorem allP_pair {css : List (List Int)} {qs : List Int} (h : qs ∈ allP css) : pairB css qs = true := by
  have h1 := allR_mem_len h
  have h2 := allR_pok (pre := []) (ps := []) rfl (by rfl) h
  simp only [List.length_nil, Nat.zero_add, List.nil_append] at h1 h2
  rw [pairB, decide_eq_true h1, h2]; rfl
theorem bstP_mem {css : List (List Int)} {miss : Int} : bstP css miss ∈ allP css := by
  have h0 : 0 < (allP css).length := allR_pos
  have h1 := mI_le (f := sumA miss css (allP css)) ((allP css).length - 1)
  obtain ⟨x, hx⟩ := get_of_lt (xs := allP css) (k := mI (sumA miss css (allP css)) ((allP css).length - 1)) (by omega)
  rw [bstP, bestA, show (allP css).getD (mI (sumA miss css (allP css)) ((allP css).length - 1)) [] = x by simp [List.getD, hx]]
  exact List.mem_of_getElem? hx
theorem bstP_len {css : List (List Int)} {miss : Int} : (bstP css miss).length = css.length := by
  have := allR_mem_len (bstP_mem (css := css) (miss := miss))
  simpa using this
def fBest (css : List (List Int)) (miss : Int) : List Int := if codeC css miss = 0 then bstP css miss else []
def fLeast (css : List (List Int)) (miss : Int) : Int := if codeC css miss = 0 then lstP css miss else 0
def fCnt (css : List (List Int)) : Int × Int := if areB css then (((allP css).length : Int), 0) else (0, 1)
end Go.Proofs.Ytdomghjdnnnifaa
