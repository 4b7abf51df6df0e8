/- Trails that run: the plain law. No function of the program. -/
import Derived.Test.YthbljfanoaibkaaGreatDoorTrHitA
import Derived.Test.YthbljfanoaibkaaGreatDoorTrCoast
import Derived.Test.YthbljfanoaibkaaGreatDoorMCt
namespace Go.Proofs.YthbljfanoaibkaaGreatDoor
set_option linter.unusedVariables false
set_option linter.unusedSimpArgs false
/-- a trail is valid -/
def trT (T : Tr) : Bool := trB T.x T.y T.p T.q T.s T.t T.h T.m
def trl (T : Tr) : List Int := [T.x, T.y, T.p, T.q, T.s, T.t, T.h, T.m]
def trm (l : List Int) : Tr := ⟨l.getD 0 0, l.getD 1 0, l.getD 2 0, l.getD 3 0, l.getD 4 0, l.getD 5 0, l.getD 6 0, l.getD 7 0⟩
theorem trl_len (T : Tr) : (trl T).length = 8 := rfl
theorem trm_inv (l : List Int) (h : l.length = 8) : trl (trm l) = l := by
  match l, h with
  | [a, b, c, d, e, f, g, k], _ => rfl
theorem movedT {T : Tr} (h : trT T = true) : trT (fMoved T) = true := (moved_ok (xz := (fMoved T).x) (yz := (fMoved T).y) (pz := (fMoved T).p) (qz := (fMoved T).q) (sz := (fMoved T).s) (tz := (fMoved T).t) (hz := (fMoved T).h) (mz := (fMoved T).m) h rfl).1
theorem moved_goes {T : Tr} (h : trT T = true) : (fGoes T = true → ¬ (fMoved T).t = 2) ∧ (fGoes T = false → (fMoved T).t = 2) := (moved_ok (xz := (fMoved T).x) (yz := (fMoved T).y) (pz := (fMoved T).p) (qz := (fMoved T).q) (sz := (fMoved T).s) (tz := (fMoved T).t) (hz := (fMoved T).h) (mz := (fMoved T).m) h rfl).2
theorem missT {T : Tr} (h : trT T = true) : trT (fMiss T) = true := by
  obtain ⟨x, y, p, q, s, t, hh, m⟩ := T
  have hb : trB x y p q s t hh m = true := h
  obtain ⟨h1, h2, h3, h4, h5, h6, h7⟩ := tr_facts hb
  have hmo : moB x y p q s = true := by unfold trB at hb; rw [Bool.and_eq_true] at hb; exact hb.1
  by_cases ht : t = 2
  · have e : fMiss ⟨x, y, p, q, s, t, hh, m⟩ = ⟨x, y, p, q, s, t, hh, m⟩ := by simp [fMiss, ht]
    rw [e]; exact h
  · by_cases hc : t = 0 ∧ m + 1 = 2 ∨ m + 1 = 4
    · have e : fMiss ⟨x, y, p, q, s, t, hh, m⟩ = ⟨x, y, p, q, s, 2, hh, m + 1⟩ := by simp only [fMiss, if_neg ht, if_pos hc]
      rw [e]
      show trB x y p q s 2 hh (m + 1) = true
      exact trB_mkH hmo h6 (by omega)
    · have e : fMiss ⟨x, y, p, q, s, t, hh, m⟩ = ⟨x, y, p, q, s, t, hh, m + 1⟩ := by simp only [fMiss, if_neg ht, if_neg hc]
      rw [e]
      show trB x y p q s t hh (m + 1) = true
      exact trB_mkH hmo h6 (by omega)
theorem half_in {x u : Int} (hx : -100000 ≤ x ∧ x ≤ 100000) (hu : -100000 ≤ u ∧ u ≤ 100000) : -100000 ≤ x + (u - x).tdiv 2 ∧ x + (u - x).tdiv 2 ≤ 100000 := by
  rcases Int.le_total 0 (u - x) with h | h
  · rw [Int.tdiv_eq_ediv_of_nonneg h]; omega
  · have e : (u - x).tdiv 2 = -((x - u) / 2) := by
      have := Int.neg_tdiv (a := x - u) (b := 2)
      rw [Int.neg_sub] at this
      rw [this, Int.tdiv_eq_ediv_of_nonneg (by omega)]
    rw [e]; omega
theorem spd_in {v : Int} : -1000 ≤ spd v ∧ spd v ≤ 1000 := by unfold spd; omega
theorem moB_mk {x y p q s : Int} (hx : -100000 ≤ x ∧ x ≤ 100000) (hy : -100000 ≤ y ∧ y ≤ 100000) (hp : -1000 ≤ p ∧ p ≤ 1000) (hq : -1000 ≤ q ∧ q ≤ 1000) (hs : 0 ≤ s ∧ s ≤ 10000) : moB x y p q s = true := by
  rw [moB, coB, inB_t hx, inB_t hy, inB_t hp, inB_t hq, inB_t hs]; rfl
theorem hitT {T : Tr} {a b : Int} (h : trT T = true) (hc : coB a b = true) : trT (fHit T a b) = true := by
  obtain ⟨x, y, p, q, s, t, hh, m⟩ := T
  have hb : trB x y p q s t hh m = true := h
  obtain ⟨h1, h2, h3, h4, h5, h6, h7⟩ := tr_facts hb
  obtain ⟨ha, hb'⟩ := co_facts hc
  by_cases ht : t = 2
  · have e : fHit ⟨x, y, p, q, s, t, hh, m⟩ a b = ⟨x, y, p, q, s, t, hh, m⟩ := by simp [fHit, ht]
    rw [e]; exact h
  · have e : fHit ⟨x, y, p, q, s, t, hh, m⟩ a b = ⟨x + (a - x).tdiv 2, y + (b - y).tdiv 2, spd (p + (a - x).tdiv 4), spd (q + (b - y).tdiv 4), max (s.tdiv 2) 100, if 3 ≤ min (hh + 1) 1000 then 1 else t, min (hh + 1) 1000, 0⟩ := by simp only [fHit, if_neg ht]
    rw [e]
    show trB (x + (a - x).tdiv 2) (y + (b - y).tdiv 2) (spd (p + (a - x).tdiv 4)) (spd (q + (b - y).tdiv 4)) (max (s.tdiv 2) 100) (if 3 ≤ min (hh + 1) 1000 then 1 else t) (min (hh + 1) 1000) 0 = true
    have d5 := td_bd (b := 2) (by omega) (show -10000 ≤ s ∧ s ≤ 10000 by omega)
    refine trB_mkH (moB_mk (half_in h1 ha) (half_in h2 hb') spd_in spd_in (by omega)) (by omega) ?_
    split <;> omega
/-- a scan: the nearest contact in the gate, or none -/
def fScan (T : Tr) (cs : List (Int × Int)) : Tr :=
  if nrk (fMoved T).x (fMoved T).y (fMoved T).s cs cs.length < 0 then fMiss (fMoved T) else fHit (fMoved T) (cs.getD (nrk (fMoved T).x (fMoved T).y (fMoved T).s cs cs.length).toNat (0, 0)).1 (cs.getD (nrk (fMoved T).x (fMoved T).y (fMoved T).s cs cs.length).toNat (0, 0)).2
theorem scan_lost {T : Tr} {cs : List (Int × Int)} (h : (fMoved T).t = 2) : fScan T cs = fMoved T := by
  unfold fScan
  split
  · simp [fMiss, h]
  · simp [fHit, h]
theorem scanT {T : Tr} {cs : List (Int × Int)} (h : trT T = true) (hc : ctsB cs = true) : trT (fScan T cs) = true := by
  have hm := movedT h
  unfold fScan
  obtain ⟨n, hn⟩ : ∃ n, n = nrk (fMoved T).x (fMoved T).y (fMoved T).s cs cs.length := ⟨_, rfl⟩
  have hb := nrk_bd (x := (fMoved T).x) (y := (fMoved T).y) (s := (fMoved T).s) (cs := cs) cs.length
  rw [← hn] at hb ⊢
  split
  · exact missT hm
  · obtain ⟨⟨a, b⟩, hab⟩ := get_of_lt (xs := cs) (k := n.toNat) (by omega)
    rw [show cs.getD n.toNat (0, 0) = (a, b) by simp [List.getD, hab]]
    exact hitT hm (ctsB_of hc hab)
/-- several scans -/
def fRun (T : Tr) (css : List (List (Int × Int))) (k : Nat) : Tr := (css.take k).foldl fScan T
theorem run_succ {T : Tr} {css : List (List (Int × Int))} {k : Nat} {cs : List (Int × Int)} (h : css[k]? = some cs) : fRun T css (k + 1) = fScan (fRun T css k) cs := by
  rw [fRun, take_snoc h, List.foldl_append]; rfl
def cssB (css : List (List (Int × Int))) : Bool := css.all ctsB
theorem cssB_snoc {css : List (List (Int × Int))} {k : Nat} {cs : List (Int × Int)} (h : css[k]? = some cs) : cssB (css.take (k + 1)) = (cssB (css.take k) && ctsB cs) := by
  rw [take_snoc h, cssB, List.all_append]; simp [cssB]
theorem cssB_no {css : List (List (Int × Int))} {k : Nat} {cs : List (Int × Int)} (h : css[k]? = some cs) (hx : ctsB cs = false) : cssB css = false := by
  rw [cssB, List.all_eq_false]
  exact ⟨cs, List.mem_of_getElem? h, by simp [hx]⟩
theorem cssB_of {css : List (List (Int × Int))} {k : Nat} {cs : List (Int × Int)} (h : cssB css = true) (hk : css[k]? = some cs) : ctsB cs = true := List.all_eq_true.1 h cs (List.mem_of_getElem? hk)
theorem runT {T : Tr} {css : List (List (Int × Int))} (h : trT T = true) (hc : cssB css = true) : ∀ k, k ≤ css.length → trT (fRun T css k) = true
  | 0, _ => by simpa [fRun] using h
  | k + 1, hk => by
    obtain ⟨cs, hx⟩ := get_of_lt (xs := css) (k := k) (by omega)
    rw [run_succ hx]
    exact scanT (runT h hc k (by omega)) (cssB_of hc hx)
/-- are there too many in a scan? -/
def manyB (css : List (List (Int × Int))) : Bool := css.any fun cs => decide (6 < cs.length)
theorem manyB_snoc {css : List (List (Int × Int))} {k : Nat} {cs : List (Int × Int)} (h : css[k]? = some cs) : manyB (css.take (k + 1)) = (manyB (css.take k) || decide (6 < cs.length)) := by
  rw [take_snoc h, manyB, List.any_append]; simp [manyB]
theorem manyB_of {css : List (List (Int × Int))} {k : Nat} {cs : List (Int × Int)} (h : manyB css = false) (hk : css[k]? = some cs) : cs.length ≤ 6 := by
  have := List.any_eq_false.1 h cs (List.mem_of_getElem? hk)
  simp at this; omega
/-- the code of several scans -/
def scCode (most : Int) (css : List (List (Int × Int))) : Int := if cssB css then (if manyB css || decide (most < (css.length : Int)) then 3 else 0) else 1
theorem scCode_ok {most : Int} {css : List (List (Int × Int))} (h : scCode most css = 0) : cssB css = true ∧ manyB css = false ∧ (css.length : Int) ≤ most := by
  unfold scCode at h
  split at h
  · rename_i h1
    split at h
    · omega
    · rename_i h2
      simp only [Bool.or_eq_true, decide_eq_true_eq, not_or, Bool.not_eq_true] at h2
      exact ⟨h1, h2.1, by omega⟩
  · omega
def fRunTrail (T : Tr) (css : List (List (Int × Int))) : Tr × Int := if trT T then (if scCode 200 css = 0 then (fRun T css css.length, 0) else (⟨0, 0, 0, 0, 0, 0, 0, 0⟩, scCode 200 css)) else (⟨0, 0, 0, 0, 0, 0, 0, 0⟩, 1)
end Go.Proofs.YthbljfanoaibkaaGreatDoor
