/- Plain laws of shrunk mosaics. No function of the program. -/
import Derived.Test.YtdedmiennpbfcaaShrE
namespace Go.Proofs.Ytdedmiennpbfcaa
set_option linter.unusedVariables false
set_option linter.unusedSimpArgs false
theorem nr_lo {a b L : Int} (hb : 0 < b) (h : L * b ≤ a) : L ≤ Pl.nr a b := by
  have : L ≤ a / b := (Int.le_ediv_iff_mul_le hb).2 h
  unfold Pl.nr; split <;> omega
theorem nr_hi {a b H : Int} (hb : 0 < b) (h : a ≤ H * b) : Pl.nr a b ≤ H := by
  have h1 : a / b ≤ H := Int.ediv_le_of_le_mul hb h
  unfold Pl.nr
  split
  · rename_i hc
    rcases Int.lt_or_le (a / b) H with h2 | h2
    · omega
    · have e : a / b = H := by omega
      have e2 := Int.emod_add_mul_ediv a b
      rw [e, Int.mul_comm] at e2
      have h3 := Int.emod_nonneg a (show b ≠ 0 by omega)
      obtain ⟨z, hz⟩ : ∃ z, z = H * b := ⟨_, rfl⟩
      rw [← hz] at e2 h
      omega
  · exact h1
section
variable {P Q K CX CY : Nat} {xs ys : List Int}
theorem shA_lo {L : Int} : ∀ n, (∀ i, i < n → 0 < ys.getD i 0 → L ≤ xs.getD i 0) → L * (shA P K CX CY xs ys n).2.1 ≤ (shA P K CX CY xs ys n).1
  | 0, _ => by simp [shA]
  | n + 1, h => by
    have ih := shA_lo (L := L) n (fun i hi hp => h i (by omega) hp)
    rw [shA]
    split
    · rename_i hs
      have hp : 0 < ys.getD n 0 := by
        simp only [sel, Bool.and_eq_true] at hs
        exact of_decide_eq_true hs.1
      have hx := h n (by omega) hp
      show L * (_ + 1) ≤ _ + _
      rw [Int.mul_add, Int.mul_one]; omega
    · exact ih
theorem shA_hi {H : Int} : ∀ n, (∀ i, i < n → 0 < ys.getD i 0 → xs.getD i 0 ≤ H) → (shA P K CX CY xs ys n).1 ≤ H * (shA P K CX CY xs ys n).2.1
  | 0, _ => by simp [shA]
  | n + 1, h => by
    have ih := shA_hi (H := H) n (fun i hi hp => h i (by omega) hp)
    rw [shA]
    split
    · rename_i hs
      have hp : 0 < ys.getD n 0 := by
        simp only [sel, Bool.and_eq_true] at hs
        exact of_decide_eq_true hs.1
      have hx := h n (by omega) hp
      show _ + _ ≤ H * (_ + 1)
      rw [Int.mul_add, Int.mul_one]; omega
    · exact ih
theorem sel_one {i j : Nat} (hP : 0 < P) (h : j ≠ i) : sel P 1 (i % P) (i / P) ys j = false := by
  cases hs : sel P 1 (i % P) (i / P) ys j
  · rfl
  · simp only [sel, Bool.and_eq_true, Nat.div_one] at hs
    have h1 := of_decide_eq_true hs.2.1
    have h2 := of_decide_eq_true hs.2.2
    have a := (idx_of (P := P) (i := i) hP).1
    have b := (idx_of (P := P) (i := j) hP).1
    rw [h1, h2] at b
    omega
theorem shA_one {i : Nat} (hP : 0 < P) (hi : i < Q * P) : shA P 1 (i % P) (i / P) xs ys (Q * P) = if 0 < ys.getD i 0 then (xs.getD i 0, 1, min 9 (ys.getD i 0)) else (0, 0, 9) := by
  rw [shA_skip (a := i + 1) hi (fun j h1 h2 => sel_one hP (by omega)), shA, shA_skip (a := 0) (Nat.zero_le i) (fun j h1 h2 => sel_one hP (by omega))]
  have e : sel P 1 (i % P) (i / P) ys i = decide (0 < ys.getD i 0) := by simp [sel]
  rw [e]
  by_cases h : 0 < ys.getD i 0
  · simp only [h, decide_true, if_true, shA]; simp
  · simp only [h, decide_false, Bool.false_eq_true, if_false, shA]
end
theorem cdn_one {a : Nat} : cdn a 1 = a := by simp [cdn]
theorem nr_one {a : Int} : Pl.nr a 1 = a := by simp [Pl.nr, Int.emod_one]
/-- the least and the greatest of the known values -/
def loK (xs ys : List Int) : Nat → Int
  | 0 => 1000
  | n + 1 => if 0 < ys.getD n 0 then min (loK xs ys n) (xs.getD n 0) else loK xs ys n
def hiK (xs ys : List Int) : Nat → Int
  | 0 => 0
  | n + 1 => if 0 < ys.getD n 0 then max (hiK xs ys n) (xs.getD n 0) else hiK xs ys n
theorem loK_le {xs ys : List Int} : ∀ n i, i < n → 0 < ys.getD i 0 → loK xs ys n ≤ xs.getD i 0
  | 0, i, h, _ => by omega
  | n + 1, i, h, hp => by
    rw [loK]
    rcases Nat.lt_or_ge i n with h1 | h1
    · have := loK_le (xs := xs) n i h1 hp
      split <;> omega
    · obtain rfl : i = n := by omega
      rw [if_pos hp]; omega
theorem hiK_ge {xs ys : List Int} : ∀ n i, i < n → 0 < ys.getD i 0 → xs.getD i 0 ≤ hiK xs ys n
  | 0, i, h, _ => by omega
  | n + 1, i, h, hp => by
    rw [hiK]
    rcases Nat.lt_or_ge i n with h1 | h1
    · have := hiK_ge (xs := xs) n i h1 hp
      split <;> omega
    · obtain rfl : i = n := by omega
      rw [if_pos hp]; omega
theorem ok_parts {p q k : Int} {xs ys : List Int} (h : okSh p q k xs ys = true) : mosB p q xs ys = true ∧ 1 ≤ k ∧ k ≤ 40 := by
  simp only [okSh, Bool.and_eq_true] at h
  exact ⟨h.1, of_inB h.2⟩
/-- shrinking by 1 changes nothing -/
theorem sh_same {p q : Int} {xs ys : List Int} (hm : mosB p q xs ys = true) : vSh p q 1 xs ys = xs ∧ gSh p q 1 xs ys = ys ∧ aSh p q 1 xs ys p = p ∧ aSh p q 1 xs ys q = q ∧ cSh p q 1 xs ys = 0 := by
  obtain ⟨⟨hp1, hp2⟩, ⟨hq1, hq2⟩, hlx, hly, _⟩ := mos_facts hm
  obtain ⟨P, rfl⟩ := Int.eq_ofNat_of_zero_le (show 0 ≤ p by omega)
  obtain ⟨Q, rfl⟩ := Int.eq_ofNat_of_zero_le (show 0 ≤ q by omega)
  have hk : okSh (P : Int) (Q : Int) 1 xs ys = true := by rw [okSh, hm, inB_t (show (1 : Int) ≤ 1 ∧ (1 : Int) ≤ 40 by omega)]; rfl
  have hl : xs.length = P * Q := by
    have : ((xs.length : Nat) : Int) = ((P * Q : Nat) : Int) := by rw [hlx]; push_cast; rfl
    omega
  have hP : 0 < P := by omega
  rw [vSh, gSh, aSh, aSh, if_pos hk, if_pos hk, if_pos hk, if_pos hk, cSh, hm]
  rw [show ((1 : Int)).toNat = 1 from rfl, Int.toNat_natCast, Int.toNat_natCast, cdn_one, cdn_one]
  have cell : ∀ i, i < P * Q → meanV (shA P 1 (i % P) (i / P) xs ys (Q * P)) = xs.getD i 0 ∧ gq (shA P 1 (i % P) (i / P) xs ys (Q * P)) = ys.getD i 0 := fun i hi => by
    rw [shA_one hP (by rw [Nat.mul_comm]; exact hi)]
    obtain ⟨x, hx⟩ := get_of_lt (xs := xs) (k := i) (by omega)
    obtain ⟨y, hy⟩ := get_of_lt (xs := ys) (k := i) (by omega)
    have hc := mos_cell hm hx hy
    have e1 : xs.getD i 0 = x := by simp [List.getD, hx]
    have e2 : ys.getD i 0 = y := by simp [List.getD, hy]
    rw [e1, e2]
    rcases hc with ⟨h1, h2⟩ | h
    · subst h1 h2; simp [meanV, gq]
    · rw [if_pos (by omega)]
      refine ⟨?_, ?_⟩
      · show (if (1 : Int) = 0 then -1 else Pl.nr x 1) = x
        rw [if_neg (by omega), nr_one]
      · show (if (1 : Int) = 0 then 0 else min 9 y) = y
        rw [if_neg (by omega)]; omega
  refine ⟨?_, ?_, rfl, rfl, by rw [if_pos rfl, inB_t (show (1 : Int) ≤ 1 ∧ (1 : Int) ≤ 40 by omega)]; rfl⟩
  · refine List.ext_getElem (by rw [shV_len, hl]) fun i h1 h2 => ?_
    have hi : i < P * Q := by rw [shV_len] at h1; exact h1
    have := (cell i hi).1
    simp only [shV, List.getElem_map, List.getElem_range, cdn_one]
    rw [this]; simp [List.getD, List.getElem?_eq_getElem h2]
  · refine List.ext_getElem (by rw [shG_len]; omega) fun i h1 h2 => ?_
    have hi : i < P * Q := by rw [shG_len] at h1; exact h1
    have := (cell i hi).2
    simp only [shG, List.getElem_map, List.getElem_range, cdn_one]
    rw [this]; simp [List.getD, List.getElem?_eq_getElem h2]
/-- a cell of a shrunk mosaic: unknown, or between the known values -/
theorem sh_cell {p q : Int} {P Q K CX CY : Nat} {xs ys : List Int} (hm : mosB p q xs ys = true) (hp : p = (P : Int)) (hq : q = (Q : Int)) :
    (shA P K CX CY xs ys (Q * P)).2.1 = 0 ∨ ((loK xs ys xs.length ≤ meanV (shA P K CX CY xs ys (Q * P)) ∧ meanV (shA P K CX CY xs ys (Q * P)) ≤ hiK xs ys xs.length) ∧ (0 ≤ meanV (shA P K CX CY xs ys (Q * P)) ∧ meanV (shA P K CX CY xs ys (Q * P)) ≤ 1000) ∧ 1 ≤ gq (shA P K CX CY xs ys (Q * P)) ∧ gq (shA P K CX CY xs ys (Q * P)) ≤ 9) := by
  subst hp hq
  obtain ⟨_, _, hlx, hly, _⟩ := mos_facts hm
  have hl : xs.length = Q * P := by
    have : ((xs.length : Nat) : Int) = ((Q * P : Nat) : Int) := by rw [hlx]; push_cast; exact Int.mul_comm _ _
    omega
  obtain ⟨b1, b2, b3, b4, b5, b6⟩ := shA_mos (P := P) (K := K) (CX := CX) (CY := CY) hm (Q * P)
  by_cases h0 : (shA P K CX CY xs ys (Q * P)).2.1 = 0
  · exact .inl h0
  · right
    have hc : 0 < (shA P K CX CY xs ys (Q * P)).2.1 := by omega
    have hcell : ∀ i, i < Q * P → 0 < ys.getD i 0 → 0 ≤ xs.getD i 0 ∧ xs.getD i 0 ≤ 1000 := fun i hi hp => by
      obtain ⟨x, hx⟩ := get_of_lt (xs := xs) (k := i) (by omega)
      obtain ⟨y, hy⟩ := get_of_lt (xs := ys) (k := i) (by omega)
      have e1 : xs.getD i 0 = x := by simp [List.getD, hx]
      have e2 : ys.getD i 0 = y := by simp [List.getD, hy]
      rw [e2] at hp
      rw [e1]
      rcases mos_cell hm hx hy with ⟨h1, h2⟩ | h <;> omega
    have l1 := shA_lo (P := P) (K := K) (CX := CX) (CY := CY) (xs := xs) (ys := ys) (L := loK xs ys xs.length) (Q * P) (fun i hi hp => loK_le _ i (by omega) hp)
    have l2 := shA_hi (P := P) (K := K) (CX := CX) (CY := CY) (xs := xs) (ys := ys) (H := hiK xs ys xs.length) (Q * P) (fun i hi hp => hiK_ge _ i (by omega) hp)
    have l3 := shA_lo (P := P) (K := K) (CX := CX) (CY := CY) (xs := xs) (ys := ys) (L := 0) (Q * P) (fun i hi hp => (hcell i hi hp).1)
    have l4 := shA_hi (P := P) (K := K) (CX := CX) (CY := CY) (xs := xs) (ys := ys) (H := 1000) (Q * P) (fun i hi hp => (hcell i hi hp).2)
    have e : meanV (shA P K CX CY xs ys (Q * P)) = Pl.nr (shA P K CX CY xs ys (Q * P)).1 (shA P K CX CY xs ys (Q * P)).2.1 := by rw [meanV, if_neg h0]
    have e2 : gq (shA P K CX CY xs ys (Q * P)) = (shA P K CX CY xs ys (Q * P)).2.2 := by rw [gq, if_neg h0]
    rw [e, e2]
    exact ⟨⟨nr_lo hc l1, nr_hi hc l2⟩, ⟨nr_lo hc l3, nr_hi hc l4⟩, b5, b6⟩
/-- what a cell of a shrunk mosaic holds -/
theorem sh_at {p q k : Int} {xs ys : List Int} (h : okSh p q k xs ys = true) {i : Nat} {v g : Int} (hv : (vSh p q k xs ys)[i]? = some v) (hg : (gSh p q k xs ys)[i]? = some g) :
    v = -1 ∧ g = 0 ∨ (loK xs ys xs.length ≤ v ∧ v ≤ hiK xs ys xs.length) ∧ (0 ≤ v ∧ v ≤ 1000) ∧ 1 ≤ g ∧ g ≤ 9 := by
  obtain ⟨hm, hk1, hk2⟩ := ok_parts h
  obtain ⟨⟨hp1, hp2⟩, ⟨hq1, hq2⟩, _⟩ := mos_facts hm
  obtain ⟨P, rfl⟩ := Int.eq_ofNat_of_zero_le (show 0 ≤ p by omega)
  obtain ⟨Q, rfl⟩ := Int.eq_ofNat_of_zero_le (show 0 ≤ q by omega)
  rw [vSh, if_pos h, Int.toNat_natCast, Int.toNat_natCast] at hv
  rw [gSh, if_pos h, Int.toNat_natCast, Int.toNat_natCast] at hg
  have hi := lt_of_get hv
  rw [shV_len] at hi
  rw [shV, List.getElem?_map, List.getElem?_range hi] at hv
  rw [shG, List.getElem?_map, List.getElem?_range hi] at hg
  simp only [Option.map_some, Option.some.injEq] at hv hg
  rcases sh_cell (K := k.toNat) (CX := i % cdn P k.toNat) (CY := i / cdn P k.toNat) hm rfl rfl with h0 | h1
  · left
    rw [← hv, ← hg, meanV, gq, if_pos h0, if_pos h0]; exact ⟨rfl, rfl⟩
  · right
    rw [hv, hg] at h1; exact h1
/-- a shrunk mosaic is a mosaic -/
theorem sh_mos {p q k : Int} {xs ys : List Int} (h : okSh p q k xs ys = true) : mosB (aSh p q k xs ys p) (aSh p q k xs ys q) (vSh p q k xs ys) (gSh p q k xs ys) = true := by
  obtain ⟨hm, hk1, hk2⟩ := ok_parts h
  obtain ⟨⟨hp1, hp2⟩, ⟨hq1, hq2⟩, _⟩ := mos_facts hm
  have d1 := cdn_bd (a := p.toNat) (b := k.toNat) (by omega) (by omega)
  have d2 := cdn_bd (a := q.toNat) (b := k.toNat) (by omega) (by omega)
  have lv : (vSh p q k xs ys).length = cdn p.toNat k.toNat * cdn q.toNat k.toNat := by rw [vSh, if_pos h, shV_len]
  have lg : (gSh p q k xs ys).length = cdn p.toNat k.toNat * cdn q.toNat k.toNat := by rw [gSh, if_pos h, shG_len]
  rw [mosB, aSh, aSh, if_pos h, if_pos h, inB_t (by omega), inB_t (by omega), decide_eq_true (show ((vSh p q k xs ys).length : Int) = _ by rw [lv]; push_cast; rfl), decide_eq_true (show (gSh p q k xs ys).length = (vSh p q k xs ys).length by rw [lv, lg])]
  simp only [Bool.true_and]
  rw [celk, List.all_eq_true]
  intro i hi
  have hi : i < (vSh p q k xs ys).length := by simpa using hi
  obtain ⟨v, hv⟩ := get_of_lt hi
  obtain ⟨g, hg⟩ := get_of_lt (xs := gSh p q k xs ys) (k := i) (by rw [lg, ← lv]; exact hi)
  have e1 : (vSh p q k xs ys).getD i 0 = v := by simp [List.getD, hv]
  have e2 : (gSh p q k xs ys).getD i 0 = g := by simp [List.getD, hg]
  rw [e1, e2, celB]
  rcases sh_at h hv hg with ⟨h1, h2⟩ | ⟨_, h2, h3⟩
  · subst h1 h2; rfl
  · rw [inB_t h2, inB_t h3]; simp
end Go.Proofs.Ytdedmiennpbfcaa
