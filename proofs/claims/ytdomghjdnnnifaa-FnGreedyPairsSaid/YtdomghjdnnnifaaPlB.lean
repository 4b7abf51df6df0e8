/- Greedy pairs are pairs, and nothing is left: the plain law. No function of the program. -/
import Derived.Test.YtdomghjdnnnifaaGrA
import Derived.Test.YtdomghjdnnnifaaPlA
namespace Go.Proofs.Ytdomghjdnnnifaa
set_option linter.unusedVariables false
set_option linter.unusedSimpArgs false
/-- a pairing, told without an order -/
structure PkP (css : List (List Int)) (ps : List Int) : Prop where
  len : ps.length = css.length
  ok : ∀ (j : Nat) (p : Int), ps[j]? = some p → p = -1 ∨ ∃ (m : Nat) (xs : List Int) (y : Int), p = m ∧ css[j]? = some xs ∧ xs[m]? = some y ∧ 0 ≤ y
  dist : ∀ (i j : Nat) (p : Int), i < j → ps[i]? = some p → ps[j]? = some p → p = -1
theorem PkP.pair {css : List (List Int)} {ps : List Int} (h : PkP css ps) : pairB css ps = true := by
  rw [pairB, decide_eq_true h.len, Bool.true_and, prk, List.all_eq_true]
  intro j hj
  have hj' : j < ps.length := by simpa using hj
  obtain ⟨p, hp⟩ := get_of_lt hj'
  rcases h.ok j p hp with rfl | ⟨m, xs, y, rfl, hx, hy, h0⟩
  · exact pok_m1 hp
  · rw [pok_in hp hx hy, decide_eq_true h0, Bool.true_and, Bool.not_eq_true', decide_eq_false_iff_not]
    intro hm
    obtain ⟨i, hi⟩ := List.getElem?_of_mem hm
    rw [List.getElem?_take] at hi
    split at hi
    · rename_i hij
      have := h.dist i j _ hij hi hp
      omega
    · cases hi
theorem PkP.rep {css : List (List Int)} : PkP css (List.replicate css.length (-1)) :=
  ⟨by simp, fun j p hp => .inl (by rw [List.getElem?_replicate] at hp; split at hp; (injection hp with hp; exact hp.symm); cases hp), fun i j p hij hi hj => by rw [List.getElem?_replicate] at hi; split at hi; (injection hi with hi; exact hi.symm); cases hi⟩
theorem PkP.nx {miss : Int} {css : List (List Int)} {ps : List Int} (h : PkP css ps) : PkP css (nxP miss css ps) := by
  have hg := good_ch (miss := miss) (xss := css) (ps := ps) css.length (Nat.le_refl _)
  unfold nxP
  cases hc : chP miss css ps css.length with
  | none => exact h
  | some s =>
    obtain ⟨i, k⟩ := s
    obtain ⟨xs, y, hx, hy, hok⟩ := hg i k hc
    obtain ⟨h1, h2, h3, h4⟩ := ok_facts hok
    have hi := lt_of_get hx
    refine ⟨by simp [h.len], fun j p hp => ?_, fun a b p hab ha hb => ?_⟩
    · by_cases e : j = i
      · subst e
        have e2 : (ps.set j (k : Int))[j]? = some (k : Int) := List.getElem?_set_self (by rw [h.len]; exact hi)
        have hp' : (ps.set j (k : Int))[j]? = some p := hp
        rw [e2] at hp'
        injection hp' with hp'
        exact .inr ⟨k, xs, y, hp'.symm, hx, hy, h3⟩
      · have hp' : (ps.set i (k : Int))[j]? = some p := hp
        rw [List.getElem?_set_ne (by omega)] at hp'
        exact h.ok j p hp'
    · have ha' : (ps.set i (k : Int))[a]? = some p := ha
      have hb' : (ps.set i (k : Int))[b]? = some p := hb
      by_cases ea : a = i
      · subst ea
        rw [List.getElem?_set_self (by rw [h.len]; exact hi)] at ha'
        rw [List.getElem?_set_ne (by omega)] at hb'
        injection ha' with ha'
        subst ha'
        exact absurd (List.mem_of_getElem? hb') h2
      · rw [List.getElem?_set_ne (by omega)] at ha'
        by_cases eb : b = i
        · subst eb
          rw [List.getElem?_set_self (by rw [h.len]; exact hi)] at hb'
          injection hb' with hb'
          subst hb'
          exact absurd (List.mem_of_getElem? ha') h2
        · rw [List.getElem?_set_ne (by omega)] at hb'
          exact h.dist a b p hab ha' hb'
theorem PkP.it {miss : Int} {css : List (List Int)} : ∀ n, PkP css (itP miss css n)
  | 0 => PkP.rep
  | n + 1 => (PkP.it n).nx
theorem gr_pair {miss : Int} {css : List (List Int)} : pairB css (grP miss css) = true := (PkP.it css.length).pair
theorem gr_none {miss : Int} {css : List (List Int)} : chP miss css (grP miss css) css.length = none := by
  by_cases h : ∃ m, m ≤ css.length ∧ chP miss css (itP miss css m) css.length = none
  · obtain ⟨m, hm, hn⟩ := h
    rw [← gr_of hm hn]; exact hn
  · exfalso
    have := it_more (miss := miss) (xss := css) (n := css.length) (fun m hm => by
      cases hc : chP miss css (itP miss css m) css.length with
      | none => exact absurd ⟨m, by omega, hc⟩ h
      | some s => rfl)
    omega
theorem row_none {miss : Int} {css : List (List Int)} {ps : List Int} {i : Nat} {st : Option (Nat × Nat)} : ∀ {n : Nat}, rowP miss css ps i st n = none → st = none ∧ ∀ k, k < n → okP miss ps i k ((css.getD i []).getD k 0) = false
  | 0, h => ⟨h, fun k hk => by omega⟩
  | n + 1, h => by
    rw [rowP, stepP] at h
    split at h
    · cases h
    · rename_i hc
      have ih := row_none h
      refine ⟨ih.1, fun k hk => ?_⟩
      rcases Nat.lt_or_ge k n with h1 | h1
      · exact ih.2 k h1
      · obtain rfl : k = n := by omega
        cases ho : okP miss ps i k ((css.getD i []).getD k 0)
        · rfl
        · rw [ho, Bool.true_and, h] at hc
          have := (ok_facts ho).2.2.2
          exact absurd (decide_eq_true this) hc
theorem ch_none {miss : Int} {css : List (List Int)} {ps : List Int} : ∀ {n : Nat}, chP miss css ps n = none → ∀ i, i < n → ∀ k, k < (css.getD i []).length → okP miss ps i k ((css.getD i []).getD k 0) = false
  | 0, _ => fun i hi => by omega
  | n + 1, h => by
    rw [chP] at h
    have hr := row_none h
    intro i hi
    rcases Nat.lt_or_ge i n with h1 | h1
    · exact ch_none hr.1 i h1
    · obtain rfl : i = n := by omega
      exact hr.2
theorem frk_mem {ps : List Int} {n : Nat} {x : Int} (h : x ∈ frk ps n) : ¬ x ∈ ps := by
  rw [frk, List.mem_map] at h
  obtain ⟨j, hj, rfl⟩ := h
  rw [List.mem_filter] at hj
  simpa using hj.2
/-- no pair of a free row and a free column is cheaper than a miss -/
theorem gr_left {miss : Int} {css : List (List Int)} {n i k : Nat} {z y : Int} {xs : List Int} (hz : (grP miss css)[i]? = some z) (hx : css[i]? = some xs) (hy : xs[k]? = some y) (h0 : z < 0) (hk : (k : Int) ∈ frk (grP miss css) n) : ¬ (0 ≤ y ∧ y < miss) := by
  have h := ch_none (gr_none (miss := miss) (css := css)) i (lt_of_get hx) k (by rw [lget_of hx]; exact lt_of_get hy)
  rw [lget_of hx, iget_of hy, okP, iget_of hz, decide_eq_true h0, Bool.true_and, decide_eq_false (frk_mem hk), Bool.not_false, Bool.true_and] at h
  intro ⟨h1, h2⟩
  rw [decide_eq_true h1, decide_eq_true h2] at h
  cases h
theorem free_sub {css : List (List Int)} {ps : List Int} {x : Int} (h : x ∈ fFree css ps) : x ∈ frk ps (n0 css) := by
  unfold fFree at h
  split at h
  · split at h
    · cases h
    · exact h
  · cases h
end Go.Proofs.Ytdomghjdnnnifaa
