/- Several texts in one: LkP, PcP. No condition of its own. Printed by mergeclaim.py. -/
import Derived.Test.YtinpfmbilibgfaaPicL
import Derived.Test.YtinpfmbilibgfaaVBox
import Derived.Test.YtinpfmbilibgfaaTrL
import Derived.Test.YtinpfmbilibgfaaLike
import Derived.Laws.StructEq
import Derived.Test.YtinpfmbilibgfaaStM
import Derived.Test.YtinpfmbilibgfaaNiC
namespace Go.Proofs.Ytinpfmbilibgfaa
open Go.RowKit Go.ChangeShapes Go.WideShapes Go.ChangeAt
set_option linter.unusedVariables false
set_option linter.unusedSimpArgs false
set_option maxRecDepth 100000 in
theorem neqT5 (x y p q s t h m : Int) (w : World) : (binOp .neq 54 (.agg #[.int .i64 x, .int .i64 y, .int .i64 p, .int .i64 q, .int .i64 s, .int .i64 t, .int .i64 h, .int .i64 m]) (.agg #[.int .i64 x, .int .i64 y, .int .i64 p, .int .i64 q, .int .i64 s, .int .i64 t, .int .i64 h, .int .i64 m])).run Try.prog w = .ok (.bool false) w := by
  go_simp
set_option maxRecDepth 100000 in
set_option maxHeartbeats 3200000 in
theorem laws_likePic (A B : Option Addr) (c k : Nat) (ts : List Tr) (s d : Int) (w : World) (hr : T64 w w.heap.size A ts) (hs : T64 w w.heap.size B ts) (hl : ts.length ≤ 1099511627776) :
    Calls Try.prog 12 #[.agg #[.slice A ts.length c, .int .i64 s, .int .i64 d], .agg #[.slice B ts.length k, .int .i64 s, .int .i64 d]] w fun e w' => e = .returned (.bool true) ∧ Below w.heap.size w w' := by
  have n1 : (s != s) = false := by simp
  have n2 : (d != d) = false := by simp
  have n3 : (ts.length != ts.length) = false := by simp
  have n4 : ((ts.length : Int) != (ts.length : Int)) = false := by simp
  have hneq : ∀ (x y p q s t h m : Int) (w : World), (binOp .neq 54 (.agg #[.int .i64 x, .int .i64 y, .int .i64 p, .int .i64 q, .int .i64 s, .int .i64 t, .int .i64 h, .int .i64 m]) (.agg #[.int .i64 x, .int .i64 y, .int .i64 p, .int .i64 q, .int .i64 s, .int .i64 t, .int .i64 h, .int .i64 m])).run Try.prog w = .ok (.bool false) w := neqT5
  go_enter Try.func12, Try.ntmps12
  go_wp2_with fail
  go_loopw [5] (fun i wr => ∃ j : Nat, j ≤ ts.length ∧ i = .int .i64 j ∧ VBox wr 26 w.heap.size [.slice A ts.length c, .int .i64 s, .int .i64 d] ∧ VBox wr 26 (w.heap.size + 1) [.slice B ts.length k, .int .i64 s, .int .i64 d] ∧ Below w.heap.size w wr) (fun i _ => ts.length - (intOf i).toNat)
  case atStart => exact ⟨0, Nat.zero_le _, rfl, VBox.alloc (VBox.new (w := w) rfl) _, VBox.new (w := w.alloc _) (by simp), Below.new (Below.new (Below.refl _ _) _) _⟩
  case round =>
    obtain ⟨j, hj, rfl, va, vb, hbr⟩ := hrel
    have a0 := va.cell (j := 0) rfl
    have b0 := vb.cell (j := 0) rfl
    by_cases hlt : j < ts.length
    · obtain ⟨⟨x, y, p, q, s1, t, u, r⟩, hx⟩ := get_of_lt hlt
      obtain ⟨g, o, rfl, hb, hc0, hc1, hc2, hc3, hc4, hc5, hc6, hc7⟩ := T64.at_ (hr.up hbr) hx
      obtain ⟨g2, o2, rfl, hb2, hd0, hd1, hd2, hd3, hd4, hd5, hd6, hd7⟩ := T64.at_ (hs.up hbr) hx
      have p0 : (0 : Int) ≤ (j : Int) := by omega
      have p1 : (j : Int) < (ts.length : Int) := by omega
      clear hx
      go_wp2_with fail
      go_quiet (fail)
      go_wp2_with fail
      go_roundw
      case rel => exact ⟨j + 1, by omega, by go_num, va, vb, by exact bgr⟩
      case measure => simp [intOf]; omega
    · go_wp2_with fail
      all_goals go_ret
      all_goals exact ⟨rfl, hbr⟩
theorem likeT (A B : Option Addr) (c d : Nat) (xs : List Int) (w : World) (hr : I64 w w.heap.size A xs) (hs : I64 w w.heap.size B xs) (hl : xs.length ≤ 1099511627776) :
    Calls Try.prog 13 #[.slice A xs.length c, .slice B xs.length d] w fun e w' => e = .returned (.bool true) ∧ Below w.heap.size w w' := by
  have := laws_likeInts A B c d xs xs w hr hs (by omega) (by omega)
  rw [show decide (xs = xs) = true by simp] at this
  exact this
end Go.Proofs.Ytinpfmbilibgfaa
namespace Go.Proofs.Ytinpfmbilibgfaa
open Go.RowKit Go.ChangeShapes Go.WideShapes Go.ChangeAt
set_option linter.unusedVariables false
set_option linter.unusedSimpArgs false
theorem pok_new {xss : List (List Int)} {ps xs : List Int} {k m : Nat} (h : pokB xss ps k = true) (hp : ps[k]? = some (m : Int)) (hx : xss[k]? = some xs) : ¬ (m : Int) ∈ ps.take k := by
  rcases pok_facts h hp hx with h1 | ⟨m', y, h1, h2, h3⟩
  · omega
  · have : m' = m := by omega
    subst this
    rw [pok_in hp hx h2, Bool.and_eq_true] at h
    simpa using h.2
/-- no contact is given to two trails -/
theorem fPs_inj {ts : List Tr} {cs : List (Int × Int)} {i k : Nat} {z : Int} (hki : k < i) (h1 : (fPs ts cs)[k]? = some z) (h2 : (fPs ts cs)[i]? = some z) : z < 0 := by
  have hi : i < ts.length := by have := lt_of_get h2; rw [fPs_len] at this; exact this
  have hk : k < ts.length := by omega
  obtain ⟨bl, hbl⟩ : ∃ bl, bl = bstP (gcAll (lmo ts) cs) 1000000 := ⟨_, rfl⟩
  have e1 : z = dpk ts bl k := by
    rw [fPs, dps, List.getElem?_map, List.getElem?_range hk, ← hbl] at h1
    simpa using h1.symm
  have e2 : z = dpk ts bl i := by
    rw [fPs, dps, List.getElem?_map, List.getElem?_range hi, ← hbl] at h2
    simpa using h2.symm
  unfold dpk at e1 e2
  cases hl1 : lvb (ts.getD k t00)
  · rw [hl1] at e1
    have : z = -1 := by simpa using e1
    omega
  cases hl2 : lvb (ts.getD i t00)
  · rw [hl2] at e2
    have : z = -1 := by simpa using e2
    omega
  rw [hl1] at e1
  rw [hl2] at e2
  simp only [if_true] at e1 e2
  have c1 := cnl_live hk hl1
  have c2 := cnl_mono (ts := ts) (a := k + 1) (b := i) (by omega)
  have c3 := cnl_live hi hl2
  have c4 := cnl_mono (ts := ts) (a := i + 1) (b := ts.length) (by omega)
  have c5 : bl.length = cnl ts ts.length := by rw [hbl, best_len, gcAll_len, cnl, List.take_length]
  have hp : pairB (gcAll (lmo ts) cs) bl = true := by rw [hbl]; exact bst_pair
  obtain ⟨p, hp1⟩ := get_of_lt (xs := bl) (k := cnl ts i) (by omega)
  obtain ⟨q, hq1⟩ := get_of_lt (xs := bl) (k := cnl ts k) (by omega)
  obtain ⟨xs, hxs⟩ := get_of_lt (xs := gcAll (lmo ts) cs) (k := cnl ts i) (by rw [← (pair_facts hp).1]; omega)
  rw [iget_of hp1] at e2
  rw [iget_of hq1] at e1
  subst e2
  have hpk := prk_of (pair_facts hp).2 (show cnl ts i < bl.length by omega)
  rcases pok_facts hpk hp1 hxs with h4 | ⟨m, y, h4, _⟩
  · omega
  · subst h4
    exact absurd (List.mem_of_getElem? (show (bl.take (cnl ts i))[cnl ts k]? = some (m : Int) by rw [List.getElem?_take_of_lt (by omega), hq1, e1])) (pok_new hpk hp1 hxs)
/-- how many of the numbers are not less than 0 -/
def gvn (ps : List Int) : Nat := (ps.filter fun z => decide (0 ≤ z)).length
def gvu (ps : List Int) (n : Nat) : Nat := (ps.filter fun z => decide (0 ≤ z ∧ z < (n : Int))).length
theorem gvu_step : ∀ {ps : List Int} {n : Nat}, (∀ (i k : Nat) (z : Int), k < i → ps[k]? = some z → ps[i]? = some z → z < 0) → gvu ps (n + 1) = gvu ps n + if decide ((n : Int) ∈ ps) then 1 else 0
  | [], n, _ => by simp [gvu]
  | p :: ps, n, h => by
    have ih := gvu_step (ps := ps) (n := n) (fun i k z hki h1 h2 => h (i + 1) (k + 1) z (by omega) (by simpa using h1) (by simpa using h2))
    unfold gvu at ih ⊢
    rw [List.filter_cons, List.filter_cons]
    by_cases hp : p = (n : Int)
    · subst hp
      have hn : ¬ (n : Int) ∈ ps := fun hm => by
        obtain ⟨j, hj⟩ := List.getElem?_of_mem hm
        have := h (j + 1) 0 n (by omega) (by simp) (by simpa using hj)
        omega
      rw [if_pos (by simp; omega), if_neg (by simp)]
      simp only [hn, decide_false, Bool.false_eq_true, if_false, Nat.add_zero] at ih
      rw [List.length_cons, ih]; simp
    · have e : decide ((n : Int) ∈ p :: ps) = decide ((n : Int) ∈ ps) := by
        by_cases hm : (n : Int) ∈ ps
        · simp [hm]
        · have : ¬ (n : Int) = p := fun e => hp e.symm
          simp [hm, this]
      rw [e]
      by_cases h1 : 0 ≤ p ∧ p < (n : Int)
      · rw [if_pos (by simp; omega), if_pos (by simpa using h1), List.length_cons, List.length_cons, ih]; omega
      · rw [if_neg (by simp; omega), if_neg (by simpa using h1), ih]
/-- the columns are given or free -/
theorem gvu_frk {ps : List Int} (h : ∀ (i k : Nat) (z : Int), k < i → ps[k]? = some z → ps[i]? = some z → z < 0) : ∀ n, gvu ps n + (frk ps n).length = n
  | 0 => by
    have : gvu ps 0 = 0 := by
      unfold gvu
      rw [List.length_eq_zero_iff, List.filter_eq_nil_iff]
      intro z _
      simp <;> omega
    rw [this, frk_zero]; rfl
  | n + 1 => by
    have := gvu_frk h n
    rw [gvu_step h, frk_succ, List.length_append]
    cases decide ((n : Int) ∈ ps) <;> simp <;> omega
theorem gvn_frk {ps : List Int} {n : Nat} (h : ∀ (i k : Nat) (z : Int), k < i → ps[k]? = some z → ps[i]? = some z → z < 0) (hb : ∀ (k : Nat) (z : Int), ps[k]? = some z → z < (n : Int)) : gvn ps + (frk ps n).length = n := by
  have e : gvn ps = gvu ps n := by
    unfold gvn gvu
    refine congrArg List.length (List.filter_congr fun z hz => ?_)
    obtain ⟨k, hk⟩ := List.getElem?_of_mem hz
    have := hb k z hk
    by_cases h0 : 0 ≤ z <;> simp [h0, this]
  rw [e]; exact gvu_frk h n
theorem gvn_yes {ps : List Int} {k : Nat} {z : Int} (hz : ps[k]? = some z) (h : 0 ≤ z) : gvn (ps.take (k + 1)) = gvn (ps.take k) + 1 := by
  rw [gvn, take_snoc hz, List.filter_append]; simp [gvn, h]
theorem gvn_no {ps : List Int} {k : Nat} {z : Int} (hz : ps[k]? = some z) (h : z < 0) : gvn (ps.take (k + 1)) = gvn (ps.take k) := by
  have : ¬ 0 ≤ z := by omega
  rw [gvn, take_snoc hz, List.filter_append]; simp [gvn, this]
theorem gvn_le {ps : List Int} : gvn ps ≤ ps.length := List.length_filter_le _ _
/-- every contact of a scan is given, begins a trail or is dropped -/
theorem scan_sum {ts : List Tr} {s d : Int} {cs : List (Int × Int)} (h : spCode ts s d cs = 0) : fStD ts s d cs = 360 ∨ (gvn (fPn ts s d cs) : Int) + ((fNw ts s d cs).length : Int) + (fStD ts s d cs - d) = (cs.length : Int) := by
  have h1 := (sp_ok h).1
  obtain ⟨hp, hc, h6⟩ := pn_ok h1
  have hk6 : (fKp ts cs).length ≤ 6 := Nat.le_trans fKp_len (pc_facts hp).1
  rw [fStD, if_pos h, fPn, if_pos h1, fNw, if_pos h1]
  have hs := gvn_frk (ps := fPs (mvs ts) cs) (n := cs.length) (fun i k z => fPs_inj) (fun k z hz => by
    rcases fPs_at hz with h | ⟨m, h2, h3, _⟩ <;> omega)
  have e : (kpk (mvs ts) (fPs (mvs ts) cs) cs ts.length) = fKp ts cs := rfl
  rw [e, List.length_take]
  unfold stD drk
  have ef : (fFr ts cs).length = (frk (fPs (mvs ts) cs) cs.length).length := rfl
  rw [ef]
  omega
end Go.Proofs.Ytinpfmbilibgfaa
