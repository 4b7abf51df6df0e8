/- Greedy pairs: the plain law of the choice. No function of the program. -/
import Derived.Test.YtdomghjdnnnifaaCoF
namespace Go.Proofs.Ytdomghjdnnnifaa
set_option linter.unusedVariables false
set_option linter.unusedSimpArgs false
/-- can the pair (i, k), cost y, still be taken? -/
def okP (miss : Int) (ps : List Int) (i k : Nat) (y : Int) : Bool := decide (ps.getD i 0 < 0) && (!(decide ((k : Int) ∈ ps)) && (decide (0 ≤ y) && decide (y < miss)))
/-- the cost of the pair that was found so far -/
def cstP (xss : List (List Int)) (st : Option (Nat × Nat)) (miss : Int) : Int := match st with | none => miss | some (i, k) => (xss.getD i []).getD k 0
def stepP (miss : Int) (xss : List (List Int)) (ps : List Int) (i k : Nat) (st : Option (Nat × Nat)) : Option (Nat × Nat) :=
  if okP miss ps i k ((xss.getD i []).getD k 0) && decide ((xss.getD i []).getD k 0 < cstP xss st miss) then some (i, k) else st
/-- the choice behind the first k cells of row i -/
def rowP (miss : Int) (xss : List (List Int)) (ps : List Int) (i : Nat) (st : Option (Nat × Nat)) : Nat → Option (Nat × Nat)
  | 0 => st
  | k + 1 => stepP miss xss ps i k (rowP miss xss ps i st k)
/-- the choice behind the first i rows -/
def chP (miss : Int) (xss : List (List Int)) (ps : List Int) : Nat → Option (Nat × Nat)
  | 0 => none
  | i + 1 => rowP miss xss ps i (chP miss xss ps i) (xss.getD i []).length
/-- what is known of a choice -/
def goodP (miss : Int) (xss : List (List Int)) (ps : List Int) (st : Option (Nat × Nat)) : Prop := ∀ i k, st = some (i, k) → ∃ (xs : List Int) (y : Int), xss[i]? = some xs ∧ xs[k]? = some y ∧ okP miss ps i k y = true
theorem good_none {miss : Int} {xss : List (List Int)} {ps : List Int} : goodP miss xss ps none := fun i k h => by cases h
theorem good_step {miss : Int} {xss : List (List Int)} {ps : List Int} {i k : Nat} {st : Option (Nat × Nat)} {xs : List Int} {y : Int} (hx : xss[i]? = some xs) (hy : xs[k]? = some y) (h : goodP miss xss ps st) : goodP miss xss ps (stepP miss xss ps i k st) := by
  have e : (xss.getD i []).getD k 0 = y := by rw [lget_of hx, iget_of hy]
  unfold stepP
  rw [e]
  split
  · rename_i hc
    rw [Bool.and_eq_true] at hc
    intro i' k' he
    injection he with he
    injection he with h1 h2
    subst h1 h2
    exact ⟨xs, y, hx, hy, hc.1⟩
  · exact h
theorem good_row {miss : Int} {xss : List (List Int)} {ps : List Int} {i : Nat} {st : Option (Nat × Nat)} {xs : List Int} (hx : xss[i]? = some xs) (h : goodP miss xss ps st) : ∀ k, k ≤ xs.length → goodP miss xss ps (rowP miss xss ps i st k)
  | 0, _ => h
  | k + 1, hk => by
    obtain ⟨y, hy⟩ := get_of_lt (xs := xs) (k := k) (by omega)
    exact good_step hx hy (good_row hx h k (by omega))
theorem good_ch {miss : Int} {xss : List (List Int)} {ps : List Int} : ∀ i, i ≤ xss.length → goodP miss xss ps (chP miss xss ps i)
  | 0, _ => good_none
  | i + 1, hi => by
    obtain ⟨xs, hx⟩ := get_of_lt (xs := xss) (k := i) (by omega)
    rw [chP, lget_of hx]
    exact good_row hx (good_ch i (by omega)) _ (Nat.le_refl _)
/-- a row that is taken changes nothing -/
theorem row_skip {miss : Int} {xss : List (List Int)} {ps : List Int} {i : Nat} {st : Option (Nat × Nat)} (h : ¬ ps.getD i 0 < 0) : ∀ k, rowP miss xss ps i st k = st
  | 0 => rfl
  | k + 1 => by rw [rowP, row_skip h k, stepP, okP, decide_eq_false h, Bool.false_and, Bool.false_and]; rfl
theorem step_no {miss : Int} {xss : List (List Int)} {ps : List Int} {i k : Nat} {st : Option (Nat × Nat)} {xs : List Int} {y : Int} (hx : xss[i]? = some xs) (hy : xs[k]? = some y) (h : okP miss ps i k y = false ∨ ¬ y < cstP xss st miss) : stepP miss xss ps i k st = st := by
  rw [stepP, lget_of hx, iget_of hy]
  rcases h with h | h <;> simp [h]
theorem step_yes {miss : Int} {xss : List (List Int)} {ps : List Int} {i k : Nat} {st : Option (Nat × Nat)} {xs : List Int} {y : Int} (hx : xss[i]? = some xs) (hy : xs[k]? = some y) (h : okP miss ps i k y = true) (h2 : y < cstP xss st miss) : stepP miss xss ps i k st = some (i, k) := by
  rw [stepP, lget_of hx, iget_of hy]; simp [h, h2]
theorem cst_none {miss : Int} {xss : List (List Int)} : cstP xss none miss = miss := rfl
theorem cst_some {miss : Int} {xss : List (List Int)} {i k : Nat} {xs : List Int} {y : Int} (hx : xss[i]? = some xs) (hy : xs[k]? = some y) : cstP xss (some (i, k)) miss = y := by
  show (xss.getD i []).getD k 0 = y
  rw [lget_of hx, iget_of hy]
theorem ok_facts {miss : Int} {ps : List Int} {i k : Nat} {y : Int} (h : okP miss ps i k y = true) : ps.getD i 0 < 0 ∧ ¬ (k : Int) ∈ ps ∧ 0 ≤ y ∧ y < miss := by
  simp only [okP, Bool.and_eq_true, Bool.not_eq_true', decide_eq_true_eq, decide_eq_false_iff_not] at h
  exact h
/-- one pair more -/
def nxP (miss : Int) (xss : List (List Int)) (ps : List Int) : List Int := match chP miss xss ps xss.length with | none => ps | some (i, k) => ps.set i (k : Int)
def itP (miss : Int) (xss : List (List Int)) : Nat → List Int
  | 0 => List.replicate xss.length (-1)
  | n + 1 => nxP miss xss (itP miss xss n)
theorem nx_len {miss : Int} {xss : List (List Int)} {ps : List Int} : (nxP miss xss ps).length = ps.length := by
  unfold nxP; split <;> simp
theorem it_len {miss : Int} {xss : List (List Int)} : ∀ n, (itP miss xss n).length = xss.length
  | 0 => by simp [itP]
  | n + 1 => by rw [itP, nx_len, it_len n]
/-- how many rows are taken -/
def tkn (ps : List Int) : Nat := (ps.filter fun x => decide (0 ≤ x)).length
theorem tkn_le {ps : List Int} : tkn ps ≤ ps.length := List.length_filter_le _ _
theorem tkn_set {ps : List Int} : ∀ {i : Nat} {y x : Int}, ps[i]? = some y → y < 0 → 0 ≤ x → tkn (ps.set i x) = tkn ps + 1 := by
  induction ps with
  | nil => intro i y x h; simp at h
  | cons z zs ih =>
    intro i y x h hy hx
    cases i with
    | zero =>
      simp at h
      subst h
      simp [tkn, hx, show ¬ (0 ≤ z) by omega]
    | succ i =>
      have := ih (i := i) (by simpa using h) hy hx
      simp only [tkn] at this ⊢
      simp only [List.set_cons_succ, List.filter_cons]
      split <;> simp [this]
theorem tkn_zero {n : Nat} : tkn (List.replicate n (-1)) = 0 := by
  simp only [tkn, List.length_eq_zero_iff, List.filter_eq_nil_iff]
  intro a ha
  rw [(List.mem_replicate.1 ha).2]; decide
theorem tkn_it {miss : Int} {xss : List (List Int)} {n : Nat} (h : ∀ m, m < n → (chP miss xss (itP miss xss m) xss.length).isSome = true) : tkn (itP miss xss n) = n := by
  induction n with
  | zero => exact tkn_zero
  | succ n ih =>
    have ih := ih (fun m hm => h m (by omega))
    have h1 := h n (by omega)
    cases hc : chP miss xss (itP miss xss n) xss.length with
    | none => rw [hc] at h1; cases h1
    | some p =>
      obtain ⟨i, k⟩ := p
      obtain ⟨xs, y, hx, hy, hok⟩ := good_ch xss.length (Nat.le_refl _) i k hc
      obtain ⟨z, hz⟩ := get_of_lt (xs := itP miss xss n) (k := i) (by rw [it_len]; exact lt_of_get hx)
      have hneg := (ok_facts hok).1
      rw [iget_of hz] at hneg
      rw [itP, nxP, hc]
      show tkn ((itP miss xss n).set i (k : Int)) = n + 1
      rw [tkn_set hz hneg (by omega), ih]
theorem it_stop {miss : Int} {xss : List (List Int)} {n : Nat} (h : chP miss xss (itP miss xss n) xss.length = none) : ∀ d, itP miss xss (n + d) = itP miss xss n
  | 0 => rfl
  | d + 1 => by
    have ih := it_stop h d
    rw [← Nat.add_assoc, itP, ih, nxP, h]
/-- the greedy pairing -/
def grP (miss : Int) (xss : List (List Int)) : List Int := itP miss xss xss.length
def fGreedy (xss : List (List Int)) (miss : Int) : List Int := if codeC xss miss = 0 then grP miss xss else []
theorem gr_of {miss : Int} {xss : List (List Int)} {n : Nat} (hn : n ≤ xss.length) (h : chP miss xss (itP miss xss n) xss.length = none) : itP miss xss n = grP miss xss := by
  rw [grP, show xss.length = n + (xss.length - n) by omega, it_stop h]
theorem it_more {miss : Int} {xss : List (List Int)} {n : Nat} (h : ∀ m, m < n + 1 → (chP miss xss (itP miss xss m) xss.length).isSome = true) : n + 1 ≤ xss.length := by
  have h1 := tkn_it h
  have h2 := tkn_le (ps := itP miss xss (n + 1))
  rw [it_len] at h2
  omega
theorem it_bd {miss : Int} {xss : List (List Int)} (h6 : ∀ (i : Nat) (xs : List Int), xss[i]? = some xs → xs.length ≤ 6) : ∀ n, ∀ x ∈ itP miss xss n, -1 ≤ x ∧ x ≤ 5
  | 0, x, hx => by rw [itP] at hx; rw [(List.mem_replicate.1 hx).2]; omega
  | n + 1, x, hx => by
    rw [itP, nxP] at hx
    split at hx
    · exact it_bd h6 n x hx
    · rename_i i k hc
      obtain ⟨xs, y, h1, h2, _⟩ := good_ch xss.length (Nat.le_refl _) i k hc
      rcases List.mem_or_eq_of_mem_set hx with h | h
      · exact it_bd h6 n x h
      · have := lt_of_get h2
        have := h6 i xs h1
        omega
theorem gr_len {miss : Int} {xss : List (List Int)} : (grP miss xss).length = xss.length := it_len _
theorem fGreedy_len {miss : Int} {xss : List (List Int)} : (fGreedy xss miss).length ≤ 6 := by
  unfold fGreedy
  split
  · rename_i h
    rw [gr_len]; exact (are_facts (codeC_0 h).1).1
  · simp
end Go.Proofs.Ytdomghjdnnnifaa
