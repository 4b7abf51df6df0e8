/- NewIn: contracts. -/
import Derived.Test.YtinpfmbilibgfaaNiB
import Derived.Test.YtinpfmbilibgfaaPaE
namespace Go.Proofs.Ytinpfmbilibgfaa
open Go.RowKit Go.ChangeShapes Go.WideShapes Go.ChangeAt
set_option linter.unusedVariables false
set_option linter.unusedSimpArgs false
theorem OwnI.takeN {w : World} {base n c k : Nat} {A : Option Addr} {xs : List Int} (h : OwnI w base (.slice A n c) xs) (hk : k ≤ n) : OwnI w base (.slice A k c) (xs.take k) := by
  obtain ⟨A', c', hv, h1, h2⟩ := h
  injection hv with e1 e2 e3
  subst e1 e2 e3
  have hl : (xs.take k).length = k := by rw [List.length_take]; omega
  rcases h2 with ⟨e, e0⟩ | ⟨g, cap, cur, e, hb, hg, hc, hm, hz, ht⟩
  · injection e with e1 e2 e3
    subst e1 e3
    have : k = 0 := by omega
    subst this
    exact ⟨none, 0, rfl, World.ownsRow_nil _ _ _ _⟩
  · injection e with e1 e2 e3
    subst e1 e3
    refine ⟨some ⟨g, 0, none⟩, c, by rw [hl], ⟨by simp, .inr ⟨g, c, cur, rfl, hb, hg, by rw [hl]; omega, hm, hz, ?_⟩⟩⟩
    rw [hl, Nat.mul_one, List.map_take, ← ht, Nat.mul_one, List.take_take, Nat.min_eq_left (by omega)]
/-- the contacts that become first trails -/
def fNw (ts : List Tr) (s d : Int) (cs : List (Int × Int)) : List Int := if pnCode ts s d cs = 0 then (frk (fPs (mvs ts) cs) cs.length).take (min (frk (fPs (mvs ts) cs) cs.length).length (6 - (kpk (mvs ts) (fPs (mvs ts) cs) cs ts.length).length)) else []
theorem fNw_len {ts : List Tr} {s d : Int} {cs : List (Int × Int)} : (fNw ts s d cs).length ≤ 6 := by
  unfold fNw
  split
  · rw [List.length_take]; omega
  · simp
set_option maxRecDepth 100000 in
set_option maxHeartbeats 1600000 in
theorem impl_NewIn (A B : Option Addr) (c e : Nat) (ts : List Tr) (s d : Int) (cs : List (Int × Int)) (w : World) (hr : T64 w w.heap.size A ts) (hs : C64 w w.heap.size B cs) (hl : ts.length ≤ 1099511627776) (hm : cs.length ≤ 1099511627776) :
    Calls Try.prog 10 #[.agg #[.slice A ts.length c, .int .i64 s, .int .i64 d], .slice B cs.length e] w fun e w' => ∃ v, e = .returned (.tuple #[v, .int .i64 (pnCode ts s d cs)]) ∧ OwnI w' w.heap.size v (fNw ts s d cs) ∧ Below w.heap.size w w' := by
  obtain ⟨g, hg⟩ : ∃ g, g = pnCode ts s d cs := ⟨_, rfl⟩
  by_cases h0 : g = 0
  · have h1 : pnCode ts s d cs = 0 := by rw [← hg]; exact h0
    obtain ⟨hp, hc, h7⟩ := pn_ok h1
    obtain ⟨h6, _, _, hT⟩ := pc_facts hp
    obtain ⟨fr, hfr⟩ : ∃ fr, fr = frk (fPs (mvs ts) cs) cs.length := ⟨_, rfl⟩
    obtain ⟨kp, hkp⟩ : ∃ kp, kp = kpk (mvs ts) (fPs (mvs ts) cs) cs ts.length := ⟨_, rfl⟩
    have e1 : fNw ts s d cs = fr.take (min fr.length (6 - kp.length)) := by simp [fNw, h1, ← hfr, ← hkp]
    have hS := fun w' A' c' B' e' (hr' : T64 w' w'.heap.size A' ts) (hs' : C64 w' w'.heap.size B' cs) => impl_scannedP A' B' c' e' ts s d cs w' hr' hs' h6 h7 hT hc
    rw [← hfr, ← hkp] at hS
    have hk6 : kp.length ≤ 6 := by rw [hkp]; exact Nat.le_trans kpk_len h6
    have hf6 : fr.length ≤ 6 := by rw [hfr]; exact Nat.le_trans frk_len h7
    obtain ⟨n, hn⟩ : ∃ n, n = min fr.length (6 - kp.length) := ⟨_, rfl⟩
    rw [e1, h1, ← hn]
    have h1H := Lib.hid h1
    have hSH := Lib.hid hS
    clear e1 hp hT hc h1 hg h0 hS hfr hkp
    go_enter Try.func10, Try.ntmps10
    repeat' (first | fail | go_values | go_skip | go_guarded | go_step | go_upon | (simp only []; go_step) | (go_ite <;> go_prune <;> (try go_simp)))
    refine (impl_scanCode _ _ _ _ _ _ _ _ _ (hr.up (by exact bgr)) (hs.up (by exact bgr)) hl hm).mono ?_; rintro e w1 ⟨rfl, hbw1⟩; have hzw1 := hbw1.size; (try simp only [World.size_alloc, World.size_setCell, World.size_drew] at hzw1); have hs1 : w.heap.size < w1.heap.size := (by omega); have q1 := bx_id (w := w1) (X := w.heap.size) (o := 0) (by exact bxc); (try simp only [List.getElem_toArray, List.getElem_cons_succ, List.getElem_cons_zero] at q1); have q1 := bx_id (w := w1) (X := w.heap.size) (o := 1) (by exact bxc); (try simp only [List.getElem_toArray, List.getElem_cons_succ, List.getElem_cons_zero] at q1); have q1 := bx_id (w := w1) (X := w.heap.size) (o := 2) (by exact bxc); (try simp only [List.getElem_toArray, List.getElem_cons_succ, List.getElem_cons_zero] at q1); have z1 : ∀ o, w1.frozen? ⟨w.heap.size, o, none⟩ = false := (by exact bxm)
    rw [h1H.out]
    repeat' (first | fail | go_values | go_skip | go_guarded | go_step | go_upon | (simp only []; go_step) | (go_ite <;> go_prune <;> (try go_simp)))
    refine (hSH.out _ _ _ _ _ (hr.up (by exact bgr)) (hs.up (by exact bgr))).mono ?_; rintro e w2 ⟨v2, v3, rfl, o2, o3, hbw2⟩; have hzw2 := hbw2.size; (try simp only [World.size_alloc, World.size_setCell, World.size_drew] at hzw2); have hs1 : w.heap.size < w2.heap.size := (by omega); have q1 := bx_id (w := w2) (X := w.heap.size) (o := 0) (by exact bxc); (try simp only [List.getElem_toArray, List.getElem_cons_succ, List.getElem_cons_zero] at q1); have q1 := bx_id (w := w2) (X := w.heap.size) (o := 1) (by exact bxc); (try simp only [List.getElem_toArray, List.getElem_cons_succ, List.getElem_cons_zero] at q1); have q1 := bx_id (w := w2) (X := w.heap.size) (o := 2) (by exact bxc); (try simp only [List.getElem_toArray, List.getElem_cons_succ, List.getElem_cons_zero] at q1); have z1 : ∀ o, w2.frozen? ⟨w.heap.size, o, none⟩ = false := (by exact bxm)
    obtain ⟨A2, c2, rfl⟩ := OwnS.form o2
    obtain ⟨A3, c3, rfl, _⟩ := id o3
    have hcap := OwnI.cap_le o3
    have B3 : Below w.heap.size w w2 := by exact bgr
    have z2 := hbw2.size
    have hfin := Lib.hid (OwnI.mono (base' := w.heap.size) (OwnI.takeN (k := n) o3 (by omega)) (by first | omega | (simp only [World.size_alloc] at *; omega)))
    have hA3 : ∀ m : Nat, (A3.map fun x => x.add (0 * m)) = A3 := by
      intro m
      rcases A3 with _ | ⟨b, o, sp⟩
      · rfl
      · simp [Addr.add]
    have hn6 : n ≤ 6 := by omega
    have hnc : n ≤ c3 := by omega
    by_cases hlt : (fr.length : Int) ≤ 6 - (kp.length : Int)
    · have hn1 : n = fr.length := by omega
      have hmi : min (fr.length : Int) (6 - (kp.length : Int)) = (n : Int) := by omega
      clear hn
      subst hn1
      repeat' (first | fail | go_values | go_skip | go_guarded | go_step | go_upon | (simp only []; go_step) | (go_ite <;> go_prune <;> (try go_simp)))
      all_goals go_returns
      all_goals exact ⟨_, rfl, hfin.out, B3⟩
    · have hq : 6 - (kp.length : Int) = (n : Int) := by omega
      have hmi : min (fr.length : Int) (n : Int) = (n : Int) := by omega
      have hnI : (n : Int) ≤ (c3 : Int) := by omega
      clear hn
      repeat' (first | fail | go_values | go_skip | go_guarded | go_step | go_upon | (simp only []; go_step) | (go_ite <;> go_prune <;> (try go_simp)))
      all_goals go_returns
      all_goals exact ⟨_, rfl, hfin.out, B3⟩
  · have e1 : fNw ts s d cs = [] := by simp [fNw, ← hg, h0]
    rw [e1, ← hg]
    have hgH := Lib.hid hg
    have h0' : (g != 0) = true := by simp [h0]
    clear e1 hg
    go_enter Try.func10, Try.ntmps10
    repeat' (first | fail | go_values | go_skip | go_guarded | go_step | go_upon | (simp only []; go_step) | (go_ite <;> go_prune <;> (try go_simp)))
    refine (impl_scanCode _ _ _ _ _ _ _ _ _ (hr.up (by exact bgr)) (hs.up (by exact bgr)) hl hm).mono ?_; rintro e w1 ⟨rfl, hbw1⟩; have hzw1 := hbw1.size; (try simp only [World.size_alloc, World.size_setCell, World.size_drew] at hzw1); have hs1 : w.heap.size < w1.heap.size := (by omega); have q1 := bx_id (w := w1) (X := w.heap.size) (o := 0) (by exact bxc); (try simp only [List.getElem_toArray, List.getElem_cons_succ, List.getElem_cons_zero] at q1); have q1 := bx_id (w := w1) (X := w.heap.size) (o := 1) (by exact bxc); (try simp only [List.getElem_toArray, List.getElem_cons_succ, List.getElem_cons_zero] at q1); have q1 := bx_id (w := w1) (X := w.heap.size) (o := 2) (by exact bxc); (try simp only [List.getElem_toArray, List.getElem_cons_succ, List.getElem_cons_zero] at q1); have z1 : ∀ o, w1.frozen? ⟨w.heap.size, o, none⟩ = false := (by exact bxm)
    rw [← hgH.out]
    repeat' (first | fail | go_values | go_skip | go_guarded | go_step | go_upon | (simp only []; go_step) | (go_ite <;> go_prune <;> (try go_simp)))
    all_goals go_returns
    all_goals exact ⟨_, rfl, OwnI.nil _ _, by exact bgr⟩
set_option maxRecDepth 100000 in
set_option maxHeartbeats 1600000 in
theorem spec_NewIn (A B : Option Addr) (c e : Nat) (ts : List Tr) (s d : Int) (cs : List (Int × Int)) (w : World) (hr : T64 w w.heap.size A ts) (hs : C64 w w.heap.size B cs) (hl : ts.length ≤ 1099511627776) (hm : cs.length ≤ 1099511627776) :
    Calls Try.prog 11 #[.agg #[.slice A ts.length c, .int .i64 s, .int .i64 d], .slice B cs.length e] w fun e w' => ∃ v, e = .returned (.tuple #[v, .int .i64 (pnCode ts s d cs)]) ∧ OwnI w' w.heap.size v (fNw ts s d cs) ∧ Below w.heap.size w w' := by
  obtain ⟨g, hg⟩ : ∃ g, g = pnCode ts s d cs := ⟨_, rfl⟩
  by_cases h0 : g = 0
  · have h1 : pnCode ts s d cs = 0 := by rw [← hg]; exact h0
    obtain ⟨hp, hc, h7⟩ := pn_ok h1
    obtain ⟨h6, _, _, hT⟩ := pc_facts hp
    obtain ⟨ps, hps⟩ : ∃ ps, ps = fPs (mvs ts) cs := ⟨_, rfl⟩
    obtain ⟨fr, hfr⟩ : ∃ fr, fr = frk ps cs.length := ⟨_, rfl⟩
    obtain ⟨kp, hkp⟩ : ∃ kp, kp = kpk (mvs ts) ps cs ts.length := ⟨_, rfl⟩
    have e1 : fNw ts s d cs = fr.take (min fr.length (6 - kp.length)) := by simp [fNw, h1, hfr, hkp, hps]
    have hpl : ps.length = ts.length := by rw [hps, fPs_len, mvs_len]
    have hpa : ∀ (k : Nat) (z : Int), ps[k]? = some z → z = -1 ∨ ∃ m : Nat, z = (m : Int) ∧ m < cs.length := by
      intro k z h
      rw [hps] at h
      rcases fPs_at h with h | ⟨m, h1, h2, _⟩
      · exact .inl h
      · exact .inr ⟨m, h1, h2⟩
    have hP := fun w' A' B' c' e' (hr' : T64 w' w'.heap.size A' ts) (hs' : C64 w' w'.heap.size B' cs) => spec_l17Pairs A' B' c' e' ts s d cs w' hr' hs' h6 h7 hT hc
    rw [← hps] at hP
    have hF := fun w' B' d' (hs' : I64 w' w'.heap.size B' ps) => spec_l15Free cs.length B' d' ps w' hs' (by omega) (by omega)
    rw [← hfr] at hF
    have hK := fun w' A' B' C' c' e' k' (hr' : T64 w' w'.heap.size A' ts) (hs' : C64 w' w'.heap.size B' cs) (hp' : I64 w' w'.heap.size C' ps) => spec_l17Kept A' B' C' c' e' k' ts s d cs ps w' hr' hs' hp' h6 h7 hT hc hpl hpa
    rw [← hkp] at hK
    have hk6 : kp.length ≤ 6 := by rw [hkp]; exact Nat.le_trans kpk_len h6
    have hf6 : fr.length ≤ 6 := by rw [hfr]; exact Nat.le_trans frk_len h7
    obtain ⟨n, hn⟩ : ∃ n, n = min fr.length (6 - kp.length) := ⟨_, rfl⟩
    rw [e1, h1, ← hn]
    have h1H := Lib.hid h1
    have hPH := Lib.hid hP
    have hFH := Lib.hid hF
    have hKH := Lib.hid hK
    clear e1 hp hT hc h1 hg h0 hP hF hK hfr hkp hpa hpl hps
    go_enter Try.func11, Try.ntmps11
    repeat' (first | fail | go_values | go_skip | go_guarded | go_step | go_upon | (simp only []; go_step) | (go_ite <;> go_prune <;> (try go_simp)))
    refine (spec_l17Code _ _ _ _ _ _ _ _ _ (hr.up (by exact bgr)) (hs.up (by exact bgr)) hl hm).mono ?_; rintro e w1 ⟨rfl, hbw1⟩; have hzw1 := hbw1.size; (try simp only [World.size_alloc, World.size_setCell, World.size_drew] at hzw1); have hs1 : w.heap.size < w1.heap.size := (by omega); have q1 := bx_id (w := w1) (X := w.heap.size) (o := 0) (by exact bxc); (try simp only [List.getElem_toArray, List.getElem_cons_succ, List.getElem_cons_zero] at q1); have q1 := bx_id (w := w1) (X := w.heap.size) (o := 1) (by exact bxc); (try simp only [List.getElem_toArray, List.getElem_cons_succ, List.getElem_cons_zero] at q1); have q1 := bx_id (w := w1) (X := w.heap.size) (o := 2) (by exact bxc); (try simp only [List.getElem_toArray, List.getElem_cons_succ, List.getElem_cons_zero] at q1); have z1 : ∀ o, w1.frozen? ⟨w.heap.size, o, none⟩ = false := (by exact bxm)
    rw [h1H.out]
    repeat' (first | fail | go_values | go_skip | go_guarded | go_step | go_upon | (simp only []; go_step) | (go_ite <;> go_prune <;> (try go_simp)))
    refine (hPH.out _ _ _ _ _ (hr.up (by exact bgr)) (hs.up (by exact bgr))).mono ?_; rintro e w2 ⟨v2, rfl, o2, hbw2⟩; have hzw2 := hbw2.size; (try simp only [World.size_alloc, World.size_setCell, World.size_drew] at hzw2); have hs1 : w.heap.size < w2.heap.size := (by omega); have q1 := bx_id (w := w2) (X := w.heap.size) (o := 0) (by exact bxc); (try simp only [List.getElem_toArray, List.getElem_cons_succ, List.getElem_cons_zero] at q1); have q1 := bx_id (w := w2) (X := w.heap.size) (o := 1) (by exact bxc); (try simp only [List.getElem_toArray, List.getElem_cons_succ, List.getElem_cons_zero] at q1); have q1 := bx_id (w := w2) (X := w.heap.size) (o := 2) (by exact bxc); (try simp only [List.getElem_toArray, List.getElem_cons_succ, List.getElem_cons_zero] at q1); have z1 : ∀ o, w2.frozen? ⟨w.heap.size, o, none⟩ = false := (by exact bxm)
    obtain ⟨A2, c2, rfl, _⟩ := id o2
    have q2 := (OwnI.reads o2).2
    repeat' (first | fail | go_values | go_skip | go_guarded | go_step | go_upon | (simp only []; go_step) | (go_ite <;> go_prune <;> (try go_simp)))
    refine (hFH.out _ _ _ (q2.up (by exact bgr))).mono ?_; rintro e w3 ⟨v3, rfl, o3, hbw3⟩; have hzw3 := hbw3.size; (try simp only [World.size_alloc, World.size_setCell, World.size_drew] at hzw3); have hs1 : w.heap.size < w3.heap.size := (by omega); have q1 := bx_id (w := w3) (X := w.heap.size) (o := 0) (by exact bxc); (try simp only [List.getElem_toArray, List.getElem_cons_succ, List.getElem_cons_zero] at q1); have q1 := bx_id (w := w3) (X := w.heap.size) (o := 1) (by exact bxc); (try simp only [List.getElem_toArray, List.getElem_cons_succ, List.getElem_cons_zero] at q1); have q1 := bx_id (w := w3) (X := w.heap.size) (o := 2) (by exact bxc); (try simp only [List.getElem_toArray, List.getElem_cons_succ, List.getElem_cons_zero] at q1); have z1 : ∀ o, w3.frozen? ⟨w.heap.size, o, none⟩ = false := (by exact bxm)
    obtain ⟨A3, c3, rfl, _⟩ := id o3
    have hcap := OwnI.cap_le o3
    repeat' (first | fail | go_values | go_skip | go_guarded | go_step | go_upon | (simp only []; go_step) | (go_ite <;> go_prune <;> (try go_simp)))
    refine (hKH.out _ _ _ _ _ _ _ (hr.up (by exact bgr)) (hs.up (by exact bgr)) (q2.up (by exact bgr))).mono ?_; rintro e w4 ⟨v4, rfl, o4, hbw4⟩; have hzw4 := hbw4.size; (try simp only [World.size_alloc, World.size_setCell, World.size_drew] at hzw4); have hs1 : w.heap.size < w4.heap.size := (by omega); have q1 := bx_id (w := w4) (X := w.heap.size) (o := 0) (by exact bxc); (try simp only [List.getElem_toArray, List.getElem_cons_succ, List.getElem_cons_zero] at q1); have q1 := bx_id (w := w4) (X := w.heap.size) (o := 1) (by exact bxc); (try simp only [List.getElem_toArray, List.getElem_cons_succ, List.getElem_cons_zero] at q1); have q1 := bx_id (w := w4) (X := w.heap.size) (o := 2) (by exact bxc); (try simp only [List.getElem_toArray, List.getElem_cons_succ, List.getElem_cons_zero] at q1); have z1 : ∀ o, w4.frozen? ⟨w.heap.size, o, none⟩ = false := (by exact bxm)
    obtain ⟨A4, c4, rfl⟩ := OwnS.form o4
    have B4 : Below w.heap.size w w4 := by exact bgr
    have hz4 := hbw4.size
    have hfin := Lib.hid (OwnI.mono (base' := w.heap.size) (OwnI.takeN (k := n) (o3.below hbw4) (by omega)) (by first | omega | (simp only [World.size_alloc] at *; omega)))
    have hn6 : n ≤ 6 := by omega
    have hnc : n ≤ c3 := by omega
    clear o2 o3 o4 q2
    by_cases hlt : 6 - (kp.length : Int) ≤ (fr.length : Int)
    · have hq : 6 - (kp.length : Int) = (n : Int) := by omega
      have hnI : (n : Int) ≤ (c3 : Int) := by omega
      have hnf : (n : Int) ≤ (fr.length : Int) := by omega
      clear hn hlt
      repeat' (first | fail | go_values | go_skip | go_guarded | go_step | go_upon | (simp only []; go_step) | (go_ite <;> go_prune <;> (try go_simp)))
      all_goals go_returns
      all_goals exact ⟨_, rfl, hfin.out, B4⟩
    · have hn1 : n = fr.length := by omega
      clear hn
      subst hn1
      repeat' (first | fail | go_values | go_skip | go_guarded | go_step | go_upon | (simp only []; go_step) | (go_ite <;> go_prune <;> (try go_simp)))
      all_goals go_returns
      all_goals exact ⟨_, rfl, hfin.out, B4⟩
  · have e1 : fNw ts s d cs = [] := by simp [fNw, ← hg, h0]
    rw [e1, ← hg]
    have hgH := Lib.hid hg
    have h0' : (g != 0) = true := by simp [h0]
    clear e1 hg
    go_enter Try.func11, Try.ntmps11
    repeat' (first | fail | go_values | go_skip | go_guarded | go_step | go_upon | (simp only []; go_step) | (go_ite <;> go_prune <;> (try go_simp)))
    refine (spec_l17Code _ _ _ _ _ _ _ _ _ (hr.up (by exact bgr)) (hs.up (by exact bgr)) hl hm).mono ?_; rintro e w1 ⟨rfl, hbw1⟩; have hzw1 := hbw1.size; (try simp only [World.size_alloc, World.size_setCell, World.size_drew] at hzw1); have hs1 : w.heap.size < w1.heap.size := (by omega); have q1 := bx_id (w := w1) (X := w.heap.size) (o := 0) (by exact bxc); (try simp only [List.getElem_toArray, List.getElem_cons_succ, List.getElem_cons_zero] at q1); have q1 := bx_id (w := w1) (X := w.heap.size) (o := 1) (by exact bxc); (try simp only [List.getElem_toArray, List.getElem_cons_succ, List.getElem_cons_zero] at q1); have q1 := bx_id (w := w1) (X := w.heap.size) (o := 2) (by exact bxc); (try simp only [List.getElem_toArray, List.getElem_cons_succ, List.getElem_cons_zero] at q1); have z1 : ∀ o, w1.frozen? ⟨w.heap.size, o, none⟩ = false := (by exact bxm)
    rw [← hgH.out]
    repeat' (first | fail | go_values | go_skip | go_guarded | go_step | go_upon | (simp only []; go_step) | (go_ite <;> go_prune <;> (try go_simp)))
    all_goals go_returns
    all_goals exact ⟨_, rfl, OwnI.nil _ _, by exact bgr⟩
end Go.Proofs.Ytinpfmbilibgfaa
