/- The trails of a picture behind a scan: contract of the program's scanned. -/
import Derived.Test.YthbljfanoaibkaaGreatDoorPaM
import Derived.Test.YthbljfanoaibkaaGreatDoorTrHitA
import Derived.Test.YthbljfanoaibkaaGreatDoorTrCoast
namespace Go.Proofs.YthbljfanoaibkaaGreatDoor
open Go.RowKit Go.ChangeShapes Go.WideShapes Go.ChangeAt
set_option linter.unusedVariables false
set_option linter.unusedSimpArgs false
/-- a trail that gets the contact n, none if n is less than 0 -/
def fTk (T : Tr) (n : Int) (cs : List (Int × Int)) : Tr := if 0 ≤ n then fHit T (cs.getD n.toNat (0, 0)).1 (cs.getD n.toNat (0, 0)).2 else fMiss T
/-- the first n trails behind a scan, without the lost ones -/
def kpk (ts : List Tr) (ps : List Int) (cs : List (Int × Int)) (n : Nat) : List Tr := ((List.range n).map fun (k : Nat) => fTk (ts.getD k t00) (ps.getD k 0) cs).filter lvb
theorem kpk_yes {ts : List Tr} {ps : List Int} {cs : List (Int × Int)} {k : Nat} {T : Tr} {z : Int} (hx : ts[k]? = some T) (hz : ps[k]? = some z) (h : ¬ (fTk T z cs).t = 2) : kpk ts ps cs (k + 1) = kpk ts ps cs k ++ [fTk T z cs] := by
  rw [kpk, List.range_succ, List.map_append, List.filter_append]; simp [kpk, List.getD, hx, hz, lvb, h]
theorem kpk_no {ts : List Tr} {ps : List Int} {cs : List (Int × Int)} {k : Nat} {T : Tr} {z : Int} (hx : ts[k]? = some T) (hz : ps[k]? = some z) (h : (fTk T z cs).t = 2) : kpk ts ps cs (k + 1) = kpk ts ps cs k := by
  rw [kpk, List.range_succ, List.map_append, List.filter_append]; simp [kpk, List.getD, hx, hz, lvb, h]
theorem kpk_len {ts : List Tr} {ps : List Int} {cs : List (Int × Int)} {n : Nat} : (kpk ts ps cs n).length ≤ n := by
  rw [kpk]
  exact Nat.le_trans (List.length_filter_le _ _) (by simp)
theorem fTk_miss {T : Tr} {cs : List (Int × Int)} : fTk T (-1) cs = fMiss T := by rw [fTk, if_neg (by omega)]
theorem fTk_hit {T : Tr} {cs : List (Int × Int)} {m : Nat} {a b : Int} (h : cs[m]? = some (a, b)) : fTk T (m : Int) cs = fHit T a b := by
  rw [fTk, if_pos (by omega), Int.toNat_natCast, show cs.getD m (0, 0) = (a, b) by simp [List.getD, h]]
theorem fPs_at {ts : List Tr} {cs : List (Int × Int)} {k : Nat} {z : Int} (h : (fPs ts cs)[k]? = some z) : z = -1 ∨ ∃ m : Nat, z = (m : Int) ∧ m < cs.length ∧ lvb (ts.getD k t00) = true := by
  have hk : k < ts.length := by have := lt_of_get h; rw [fPs_len] at this; exact this
  have e : z = dpk ts (bstP (gcAll (lmo ts) cs) 1000000) k := by
    rw [fPs, dps, List.getElem?_map, List.getElem?_range hk] at h
    simpa using h.symm
  subst e
  unfold dpk
  cases hl : lvb (ts.getD k t00)
  · exact .inl (by simp)
  · obtain ⟨bl, hbl⟩ : ∃ bl, bl = bstP (gcAll (lmo ts) cs) 1000000 := ⟨_, rfl⟩
    have h1 := cnl_live hk hl
    have h2 := cnl_mono (ts := ts) (a := k + 1) (b := ts.length) (by omega)
    have h3 : bl.length = cnl ts ts.length := by rw [hbl, best_len, gcAll_len, cnl, List.take_length]
    have hp : pairB (gcAll (lmo ts) cs) bl = true := by rw [hbl]; exact bst_pair
    obtain ⟨p, hp1⟩ := get_of_lt (xs := bl) (k := cnl ts k) (by omega)
    obtain ⟨xs, hxs⟩ := get_of_lt (xs := gcAll (lmo ts) cs) (k := cnl ts k) (by rw [← (pair_facts hp).1]; omega)
    rw [← hbl, iget_of hp1]
    rcases pok_facts (prk_of (pair_facts hp).2 (by omega)) hp1 hxs with h4 | ⟨m, y, h4, h5, _⟩
    · exact .inl (by simpa using h4)
    · refine .inr ⟨m, by simpa using h4, ?_, rfl⟩
      have := lt_of_get h5
      rw [gcRows hxs] at this
      exact this
theorem impl_lengthC (A : Option Addr) (n c : Nat) (w : World) : Calls Tryz.prog 71 #[.slice A n c] w fun e w' => e = .returned (.int .i64 n) ∧ w' = w := by
  go_enter Tryz.func71, Tryz.ntmps71
  repeat' (first | fail | go_values | go_skip | go_guarded | go_step | go_upon | (simp only []; go_step) | (go_ite <;> go_prune <;> (try go_simp)))
  all_goals go_returns
  all_goals exact ⟨rfl, rfl⟩
set_option maxRecDepth 100000 in
set_option maxHeartbeats 1600000 in
theorem impl_scannedP (A B : Option Addr) (c e0 : Nat) (ts : List Tr) (sq dq : Int) (cs : List (Int × Int)) (w : World) (hr : T64 w w.heap.size A ts) (hs : C64 w w.heap.size B cs) (h6 : ts.length ≤ 6) (h7 : cs.length ≤ 6) (hT : tsB ts = true) (hcs : ctsB cs = true) :
    Calls Tryz.prog 43 #[.agg #[.slice A ts.length c, .int .i64 sq, .int .i64 dq], .slice B cs.length e0] w fun e w' => ∃ a v, e = .returned (.tuple #[a, v]) ∧ OwnT w' w.heap.size w'.heap.size a (kpk (mvs ts) (fPs (mvs ts) cs) cs ts.length) ∧ OwnI w' w.heap.size v (frk (fPs (mvs ts) cs) cs.length) ∧ Below w.heap.size w w' := by
  obtain ⟨us, hus⟩ : ∃ us, us = mvs ts := ⟨_, rfl⟩
  obtain ⟨ps, hps⟩ : ∃ ps, ps = fPs us cs := ⟨_, rfl⟩
  have hM := fun w' (hr' : T64 w' w'.heap.size A ts) => impl_movedP A c ts sq dq w' hr' h6 hT
  rw [← hus] at hM ⊢
  rw [← hps]
  have hul : us.length = ts.length := by rw [hus, mvs_len]
  have huT : ∀ (k : Nat) (T : Tr), us[k]? = some T → trT T = true := fun k T h => mvs_get (by rw [← hus]; exact h) hT
  have hP := fun w' A' c' (hr' : T64 w' w'.heap.size A' us) (hs' : C64 w' w'.heap.size B cs) => impl_pairsIn A' B c' e0 us cs w' hr' hs' (by omega) h7 huT hcs
  rw [← hps] at hP
  have hpl : ps.length = ts.length := by rw [hps, fPs_len, hul]
  have hpa : ∀ (k : Nat) (z : Int), ps[k]? = some z → z = -1 ∨ ∃ m : Nat, z = (m : Int) ∧ m < cs.length := by
    intro k z h
    rw [hps] at h
    rcases fPs_at h with h | ⟨m, h1, h2, _⟩
    · exact .inl h
    · exact .inr ⟨m, h1, h2⟩
  have hMH := Lib.hid hM
  have hPH := Lib.hid hP
  have hulH := Lib.hid hul
  have huTH := Lib.hid huT
  have hplH := Lib.hid hpl
  have hpaH := Lib.hid hpa
  have hcsH := Lib.hid hcs
  clear hM hP hul huT hpl hpa hcs hus hps hT
  go_enter Tryz.func43, Tryz.ntmps43
  repeat' (first | fail | go_values | go_skip | go_guarded | go_step | go_upon | (simp only []; go_step) | (go_ite <;> go_prune <;> (try go_simp)))
  refine (hMH.out _ (hr.up (by exact bgr))).mono ?_; rintro e w1 ⟨v1, rfl, o1, hbw1⟩; have hzw1 := hbw1.size; (try simp only [World.size_alloc, World.size_setCell, World.size_drew] at hzw1); have hs1 : w.heap.size < w1.heap.size := (by omega); have q1 := bx_id (w := w1) (X := w.heap.size) (o := 0) (by exact bxc); (try simp only [List.getElem_toArray, List.getElem_cons_succ, List.getElem_cons_zero] at q1); have q1 := bx_id (w := w1) (X := w.heap.size) (o := 1) (by exact bxc); (try simp only [List.getElem_toArray, List.getElem_cons_succ, List.getElem_cons_zero] at q1); have q1 := bx_id (w := w1) (X := w.heap.size) (o := 2) (by exact bxc); (try simp only [List.getElem_toArray, List.getElem_cons_succ, List.getElem_cons_zero] at q1); have z1 : ∀ o, w1.frozen? ⟨w.heap.size, o, none⟩ = false := (by exact bxm)
  obtain ⟨A1, c1, rfl⟩ := OwnS.form o1
  have g1 := OwnS.rdT o1
  clear o1
  repeat' (first | fail | go_values | go_skip | go_guarded | go_step | go_upon | (simp only []; go_step) | (go_ite <;> go_prune <;> (try go_simp)))
  refine (hPH.out _ _ _ g1 (hs.up (by exact bgr))).mono ?_; rintro e w2 ⟨v2, rfl, o2, hbw2⟩; have hzw2 := hbw2.size; (try simp only [World.size_alloc, World.size_setCell, World.size_drew] at hzw2); have hs1 : w.heap.size < w2.heap.size := (by omega); have q1 := bx_id (w := w2) (X := w.heap.size) (o := 0) (by exact bxc); (try simp only [List.getElem_toArray, List.getElem_cons_succ, List.getElem_cons_zero] at q1); have q1 := bx_id (w := w2) (X := w.heap.size) (o := 1) (by exact bxc); (try simp only [List.getElem_toArray, List.getElem_cons_succ, List.getElem_cons_zero] at q1); have q1 := bx_id (w := w2) (X := w.heap.size) (o := 2) (by exact bxc); (try simp only [List.getElem_toArray, List.getElem_cons_succ, List.getElem_cons_zero] at q1); have z1 : ∀ o, w2.frozen? ⟨w.heap.size, o, none⟩ = false := (by exact bxm)
  obtain ⟨A2, c2, rfl, _⟩ := id o2
  have q1 : T64 w2 w2.heap.size A1 us := g1.up hbw2
  have q2 : I64 w2 w2.heap.size A2 ps := (OwnI.reads o2).2
  have q3 : C64 w2 w2.heap.size B cs := hs.up (by exact bgr)
  have B2 : Below w.heap.size w w2 := by exact bgr
  have z2 := B2.size
  clear g1 o2
  repeat' (first | fail | go_values | go_skip | go_guarded | go_step | go_upon | (simp only []; go_step) | (go_ite <;> go_prune <;> (try go_simp)))
  go_loopw [8, 20] (fun x iv wr => ∃ (v : Value) (k : Nat), v = x ∧ k ≤ us.length ∧ iv = .int .i64 k ∧ OwnT wr w2.heap.size wr.heap.size v (kpk us ps cs k) ∧ Below w2.heap.size w2 wr) (fun _ iv _ => us.length - (intOf iv).toNat)
  case atStart => exact ⟨_, 0, rfl, Nat.zero_le _, rfl, OwnS.nil _ _ _, by exact bgr⟩
  case round =>
    obtain ⟨v, k, rfl, hk, rfl, ho, hbr⟩ := hrel
    have hsz := hbr.size
    have hk6 : us.length ≤ 6 := by have := hulH.out; omega
    have hl1 : (kpk us ps cs k).length ≤ 1000000 := by have := kpk_len (ts := us) (ps := ps) (cs := cs) (n := k); have := hulH.out; omega
    by_cases hlt : k < us.length
    · obtain ⟨⟨x, y, p, q, sp, t, u, r⟩, hx⟩ := get_of_lt hlt
      obtain ⟨z, hz⟩ := get_of_lt (xs := ps) (k := k) (by have := hplH.out; have := hulH.out; omega)
      obtain ⟨b, o, rfl, hb, hc0, hc1, hc2, hc3, hc4, hc5, hc6, hc7⟩ := T64.at_ (q1.up hbr) hx
      obtain ⟨b2, o2, rfl, hb2, hcz⟩ := (q2.below hbr).at_ hz
      have hczA : ∀ ob, (wr.alloc ob).cell? ⟨b2, o2 + k, none⟩ = some (.int .i64 z) := fun ob => bx_alloc hcz
      have hbT : trB x y p q sp t u r = true := huTH.out k _ hx
      have p0 : (0 : Int) ≤ (k : Int) := by omega
      have p1 : (k : Int) < (us.length : Int) := by omega
      have p2 : (k : Int) < (ps.length : Int) := by have := hplH.out; have := hulH.out; omega
      have mz : -10 ≤ r ∧ r ≤ 10 := by have := (tr_facts hbT).2.2.2.2.2.2; omega
      have hbH := Lib.hid hbT
      obtain ⟨Av, cv, rfl⟩ := OwnS.form ho
      rcases hpaH.out k z hz with rfl | ⟨m, rfl, hm⟩
      · rcases hf : fMiss ⟨x, y, p, q, sp, t, u, r⟩ with ⟨xv, yv, pv, qv, sv, tv, uv, rv⟩
        have hft : fTk ⟨x, y, p, q, sp, t, u, r⟩ (-1) cs = ⟨xv, yv, pv, qv, sv, tv, uv, rv⟩ := by rw [fTk_miss, hf]
        have hfH := Lib.hid hf
        by_cases ht : tv = 2
        · have ht2 : (tv != 2) = false := by simp [ht]
          have hsu : Hid (kpk us ps cs (k + 1) = kpk us ps cs k) := kpk_no hx hz (by rw [hft]; exact ht)
          clear hx hz hbT hf hft ht
          repeat' (first | fail | go_values | go_skip | go_guarded | go_step | go_upon | (simp only []; go_step) | (go_ite <;> go_prune <;> (try go_simp)))
          refine (impl_miss x y p q sp t u r xv yv pv qv sv tv uv rv _ mz hfH.out).mono ?_; rintro e w4 ⟨rfl, hbw4⟩; have hzw4 := hbw4.size; (try simp only [World.size_alloc, World.size_setCell, World.size_drew] at hzw4); have hs1 : wr.heap.size < w4.heap.size := (by omega); have q1 := bx_id (w := w4) (X := wr.heap.size) (o := 0) (by exact bxc); (try simp only [List.getElem_toArray, List.getElem_cons_succ, List.getElem_cons_zero] at q1); have q1 := bx_id (w := w4) (X := wr.heap.size) (o := 1) (by exact bxc); (try simp only [List.getElem_toArray, List.getElem_cons_succ, List.getElem_cons_zero] at q1); have q1 := bx_id (w := w4) (X := wr.heap.size) (o := 2) (by exact bxc); (try simp only [List.getElem_toArray, List.getElem_cons_succ, List.getElem_cons_zero] at q1); have q1 := bx_id (w := w4) (X := wr.heap.size) (o := 3) (by exact bxc); (try simp only [List.getElem_toArray, List.getElem_cons_succ, List.getElem_cons_zero] at q1); have q1 := bx_id (w := w4) (X := wr.heap.size) (o := 4) (by exact bxc); (try simp only [List.getElem_toArray, List.getElem_cons_succ, List.getElem_cons_zero] at q1); have q1 := bx_id (w := w4) (X := wr.heap.size) (o := 5) (by exact bxc); (try simp only [List.getElem_toArray, List.getElem_cons_succ, List.getElem_cons_zero] at q1); have q1 := bx_id (w := w4) (X := wr.heap.size) (o := 6) (by exact bxc); (try simp only [List.getElem_toArray, List.getElem_cons_succ, List.getElem_cons_zero] at q1); have q1 := bx_id (w := w4) (X := wr.heap.size) (o := 7) (by exact bxc); (try simp only [List.getElem_toArray, List.getElem_cons_succ, List.getElem_cons_zero] at q1); have z1 : ∀ o, w4.frozen? ⟨wr.heap.size, o, none⟩ = false := (by exact bxm)
          repeat' (first | fail | go_values | go_skip | go_guarded | go_step | go_upon | (simp only []; go_step) | (go_ite <;> go_prune <;> (try go_simp)))
          all_goals exact ⟨⟨_, k + 1, rfl, by omega, by go_num, by rw [hsu.out]; exact OwnS.mono (OwnS.next ho (by exact bgr)) (Nat.le_refl _) (by simp only [World.size_setCell]; omega), by exact bgr⟩, by simp [intOf]; omega⟩
        · have ht2 : (tv != 2) = true := by simp [ht]
          have hsu : Hid (kpk us ps cs (k + 1) = kpk us ps cs k ++ [⟨xv, yv, pv, qv, sv, tv, uv, rv⟩]) := by unfold Hid; rw [kpk_yes hx hz (by rw [hft]; exact ht), hft]
          clear hx hz hbT hf hft ht
          repeat' (first | fail | go_values | go_skip | go_guarded | go_step | go_upon | (simp only []; go_step) | (go_ite <;> go_prune <;> (try go_simp)))
          refine (impl_miss x y p q sp t u r xv yv pv qv sv tv uv rv _ mz hfH.out).mono ?_; rintro e w4 ⟨rfl, hbw4⟩; have hzw4 := hbw4.size; (try simp only [World.size_alloc, World.size_setCell, World.size_drew] at hzw4); have hs1 : wr.heap.size < w4.heap.size := (by omega); have q1 := bx_id (w := w4) (X := wr.heap.size) (o := 0) (by exact bxc); (try simp only [List.getElem_toArray, List.getElem_cons_succ, List.getElem_cons_zero] at q1); have q1 := bx_id (w := w4) (X := wr.heap.size) (o := 1) (by exact bxc); (try simp only [List.getElem_toArray, List.getElem_cons_succ, List.getElem_cons_zero] at q1); have q1 := bx_id (w := w4) (X := wr.heap.size) (o := 2) (by exact bxc); (try simp only [List.getElem_toArray, List.getElem_cons_succ, List.getElem_cons_zero] at q1); have q1 := bx_id (w := w4) (X := wr.heap.size) (o := 3) (by exact bxc); (try simp only [List.getElem_toArray, List.getElem_cons_succ, List.getElem_cons_zero] at q1); have q1 := bx_id (w := w4) (X := wr.heap.size) (o := 4) (by exact bxc); (try simp only [List.getElem_toArray, List.getElem_cons_succ, List.getElem_cons_zero] at q1); have q1 := bx_id (w := w4) (X := wr.heap.size) (o := 5) (by exact bxc); (try simp only [List.getElem_toArray, List.getElem_cons_succ, List.getElem_cons_zero] at q1); have q1 := bx_id (w := w4) (X := wr.heap.size) (o := 6) (by exact bxc); (try simp only [List.getElem_toArray, List.getElem_cons_succ, List.getElem_cons_zero] at q1); have q1 := bx_id (w := w4) (X := wr.heap.size) (o := 7) (by exact bxc); (try simp only [List.getElem_toArray, List.getElem_cons_succ, List.getElem_cons_zero] at q1); have z1 : ∀ o, w4.frozen? ⟨wr.heap.size, o, none⟩ = false := (by exact bxm)
          go_wp2_with (at_builtin; refine push_T w4.heap.size (by simp) (OwnS.next ho (by exact bgr)) rfl _ _ (by rfl) (by rfl) (by rfl) (by simp only [World.size_setCell]; omega) hl1 ?_; intro v6 w6 ho6 hb6 hg6)
          clear hg6
          exact ⟨⟨_, k + 1, rfl, by omega, by go_num, by rw [hsu.out]; exact ho6, Below.trans (by exact bgr) hb6⟩, by simp [intOf]; omega⟩
      · obtain ⟨⟨a, b'⟩, hab⟩ := get_of_lt hm
        obtain ⟨bq, oq, rfl, hbq, hq0, hq1⟩ := (q3.below hbr).at_ hab
        have p3 : (0 : Int) ≤ (m : Int) := by omega
        have p4 : (m : Int) < (cs.length : Int) := by omega
        have hcoH := Lib.hid (ctsB_of hcsH.out hab)
        rcases hf : fHit ⟨x, y, p, q, sp, t, u, r⟩ a b' with ⟨xv, yv, pv, qv, sv, tv, uv, rv⟩
        have hft : fTk ⟨x, y, p, q, sp, t, u, r⟩ (m : Int) cs = ⟨xv, yv, pv, qv, sv, tv, uv, rv⟩ := by rw [fTk_hit hab, hf]
        have hfH := Lib.hid hf
        by_cases ht : tv = 2
        · have ht2 : (tv != 2) = false := by simp [ht]
          have hsu : Hid (kpk us ps cs (k + 1) = kpk us ps cs k) := kpk_no hx hz (by rw [hft]; exact ht)
          clear hx hz hbT hf hft ht hab
          repeat' (first | fail | go_values | go_skip | go_guarded | go_step | go_upon | (simp only []; go_step) | (go_ite <;> go_prune <;> (try go_simp)))
          refine wp_gen (fun W3 hW3 => ?_)
          have d0 : W3.cell? ⟨wr.heap.size, 0, none⟩ = some (.int .i64 x) := by rw [hW3]; exact bxc
          have d1 : W3.cell? ⟨wr.heap.size, 1, none⟩ = some (.int .i64 y) := by rw [hW3]; exact bxc
          have d2 : W3.cell? ⟨wr.heap.size, 2, none⟩ = some (.int .i64 p) := by rw [hW3]; exact bxc
          have d3 : W3.cell? ⟨wr.heap.size, 3, none⟩ = some (.int .i64 q) := by rw [hW3]; exact bxc
          have d4 : W3.cell? ⟨wr.heap.size, 4, none⟩ = some (.int .i64 sp) := by rw [hW3]; exact bxc
          have d5 : W3.cell? ⟨wr.heap.size, 5, none⟩ = some (.int .i64 t) := by rw [hW3]; exact bxc
          have d6 : W3.cell? ⟨wr.heap.size, 6, none⟩ = some (.int .i64 u) := by rw [hW3]; exact bxc
          have d7 : W3.cell? ⟨wr.heap.size, 7, none⟩ = some (.int .i64 r) := by rw [hW3]; exact bxc
          have df : ∀ o, W3.frozen? ⟨wr.heap.size, o, none⟩ = false := by rw [hW3]; exact bxm
          have BW3 : Below wr.heap.size wr W3 := by rw [hW3]; exact bgr
          have sW3 : wr.heap.size < W3.heap.size := by rw [hW3]; simp only [World.size_alloc]; omega
          have e0 := bx_keep BW3 hcz
          have e1 := bx_keep BW3 hq0
          have e2 := bx_keep BW3 hq1
          clear hW3
          go_still_tail 8, (by kernel_rfl)
          change wpList _ _ _ _ _ W3.drew
          repeat' (first | fail | go_values | go_skip | go_guarded | go_step | go_upon | (simp only []; go_step) | (go_ite <;> go_prune <;> (try go_simp)))
          refine (impl_hitA x y p q sp t u r a b' xv yv pv qv sv tv uv rv _ hbH.out hcoH.out hfH.out).mono ?_; rintro e w4 ⟨rfl, hbw4⟩; have hzw4 := hbw4.size; (try simp only [World.size_alloc, World.size_setCell, World.size_drew] at hzw4); have hs1 : wr.heap.size < w4.heap.size := (by omega); have q1 := bx_id (w := w4) (X := wr.heap.size) (o := 0) (by exact bxc); (try simp only [List.getElem_toArray, List.getElem_cons_succ, List.getElem_cons_zero] at q1); have q1 := bx_id (w := w4) (X := wr.heap.size) (o := 1) (by exact bxc); (try simp only [List.getElem_toArray, List.getElem_cons_succ, List.getElem_cons_zero] at q1); have q1 := bx_id (w := w4) (X := wr.heap.size) (o := 2) (by exact bxc); (try simp only [List.getElem_toArray, List.getElem_cons_succ, List.getElem_cons_zero] at q1); have q1 := bx_id (w := w4) (X := wr.heap.size) (o := 3) (by exact bxc); (try simp only [List.getElem_toArray, List.getElem_cons_succ, List.getElem_cons_zero] at q1); have q1 := bx_id (w := w4) (X := wr.heap.size) (o := 4) (by exact bxc); (try simp only [List.getElem_toArray, List.getElem_cons_succ, List.getElem_cons_zero] at q1); have q1 := bx_id (w := w4) (X := wr.heap.size) (o := 5) (by exact bxc); (try simp only [List.getElem_toArray, List.getElem_cons_succ, List.getElem_cons_zero] at q1); have q1 := bx_id (w := w4) (X := wr.heap.size) (o := 6) (by exact bxc); (try simp only [List.getElem_toArray, List.getElem_cons_succ, List.getElem_cons_zero] at q1); have q1 := bx_id (w := w4) (X := wr.heap.size) (o := 7) (by exact bxc); (try simp only [List.getElem_toArray, List.getElem_cons_succ, List.getElem_cons_zero] at q1); have z1 : ∀ o, w4.frozen? ⟨wr.heap.size, o, none⟩ = false := (by exact bxm)
          repeat' (first | fail | go_values | go_skip | go_guarded | go_step | go_upon | (simp only []; go_step) | (go_ite <;> go_prune <;> (try go_simp)))
          all_goals exact ⟨⟨_, k + 1, rfl, by omega, by go_num, by rw [hsu.out]; exact OwnS.mono (OwnS.next ho (by exact bgr)) (Nat.le_refl _) (by (try simp only [World.size_setCell, World.size_drew]); omega), by exact bgr⟩, by simp [intOf]; omega⟩
        · have ht2 : (tv != 2) = true := by simp [ht]
          have hsu : Hid (kpk us ps cs (k + 1) = kpk us ps cs k ++ [⟨xv, yv, pv, qv, sv, tv, uv, rv⟩]) := by unfold Hid; rw [kpk_yes hx hz (by rw [hft]; exact ht), hft]
          clear hx hz hbT hf hft ht hab
          repeat' (first | fail | go_values | go_skip | go_guarded | go_step | go_upon | (simp only []; go_step) | (go_ite <;> go_prune <;> (try go_simp)))
          refine wp_gen (fun W3 hW3 => ?_)
          have d0 : W3.cell? ⟨wr.heap.size, 0, none⟩ = some (.int .i64 x) := by rw [hW3]; exact bxc
          have d1 : W3.cell? ⟨wr.heap.size, 1, none⟩ = some (.int .i64 y) := by rw [hW3]; exact bxc
          have d2 : W3.cell? ⟨wr.heap.size, 2, none⟩ = some (.int .i64 p) := by rw [hW3]; exact bxc
          have d3 : W3.cell? ⟨wr.heap.size, 3, none⟩ = some (.int .i64 q) := by rw [hW3]; exact bxc
          have d4 : W3.cell? ⟨wr.heap.size, 4, none⟩ = some (.int .i64 sp) := by rw [hW3]; exact bxc
          have d5 : W3.cell? ⟨wr.heap.size, 5, none⟩ = some (.int .i64 t) := by rw [hW3]; exact bxc
          have d6 : W3.cell? ⟨wr.heap.size, 6, none⟩ = some (.int .i64 u) := by rw [hW3]; exact bxc
          have d7 : W3.cell? ⟨wr.heap.size, 7, none⟩ = some (.int .i64 r) := by rw [hW3]; exact bxc
          have df : ∀ o, W3.frozen? ⟨wr.heap.size, o, none⟩ = false := by rw [hW3]; exact bxm
          have BW3 : Below wr.heap.size wr W3 := by rw [hW3]; exact bgr
          have sW3 : wr.heap.size < W3.heap.size := by rw [hW3]; simp only [World.size_alloc]; omega
          have e0 := bx_keep BW3 hcz
          have e1 := bx_keep BW3 hq0
          have e2 := bx_keep BW3 hq1
          clear hW3
          go_still_tail 8, (by kernel_rfl)
          change wpList _ _ _ _ _ W3.drew
          repeat' (first | fail | go_values | go_skip | go_guarded | go_step | go_upon | (simp only []; go_step) | (go_ite <;> go_prune <;> (try go_simp)))
          refine (impl_hitA x y p q sp t u r a b' xv yv pv qv sv tv uv rv _ hbH.out hcoH.out hfH.out).mono ?_; rintro e w4 ⟨rfl, hbw4⟩; have hzw4 := hbw4.size; (try simp only [World.size_alloc, World.size_setCell, World.size_drew] at hzw4); have hs1 : wr.heap.size < w4.heap.size := (by omega); have q1 := bx_id (w := w4) (X := wr.heap.size) (o := 0) (by exact bxc); (try simp only [List.getElem_toArray, List.getElem_cons_succ, List.getElem_cons_zero] at q1); have q1 := bx_id (w := w4) (X := wr.heap.size) (o := 1) (by exact bxc); (try simp only [List.getElem_toArray, List.getElem_cons_succ, List.getElem_cons_zero] at q1); have q1 := bx_id (w := w4) (X := wr.heap.size) (o := 2) (by exact bxc); (try simp only [List.getElem_toArray, List.getElem_cons_succ, List.getElem_cons_zero] at q1); have q1 := bx_id (w := w4) (X := wr.heap.size) (o := 3) (by exact bxc); (try simp only [List.getElem_toArray, List.getElem_cons_succ, List.getElem_cons_zero] at q1); have q1 := bx_id (w := w4) (X := wr.heap.size) (o := 4) (by exact bxc); (try simp only [List.getElem_toArray, List.getElem_cons_succ, List.getElem_cons_zero] at q1); have q1 := bx_id (w := w4) (X := wr.heap.size) (o := 5) (by exact bxc); (try simp only [List.getElem_toArray, List.getElem_cons_succ, List.getElem_cons_zero] at q1); have q1 := bx_id (w := w4) (X := wr.heap.size) (o := 6) (by exact bxc); (try simp only [List.getElem_toArray, List.getElem_cons_succ, List.getElem_cons_zero] at q1); have q1 := bx_id (w := w4) (X := wr.heap.size) (o := 7) (by exact bxc); (try simp only [List.getElem_toArray, List.getElem_cons_succ, List.getElem_cons_zero] at q1); have z1 : ∀ o, w4.frozen? ⟨wr.heap.size, o, none⟩ = false := (by exact bxm)
          go_wp2_with (at_builtin; refine push_T w4.heap.size (by simp) (OwnS.next ho (by exact bgr)) rfl _ _ (by rfl) (by rfl) (by rfl) (by (try simp only [World.size_setCell, World.size_drew]); omega) hl1 ?_; intro v6 w6 ho6 hb6 hg6)
          clear hg6
          exact ⟨⟨_, k + 1, rfl, by omega, by go_num, by rw [hsu.out]; exact ho6, Below.trans (by exact bgr) hb6⟩, by simp [intOf]; omega⟩
    · have e : k = us.length := by omega
      rw [e] at ho
      clear e
      obtain ⟨Av, cv, rfl⟩ := OwnS.form ho
      have hpl' := hplH.out
      rename World => W9
      repeat' (first | fail | go_values | go_skip | go_guarded | go_step | go_upon | (simp only []; go_step) | (go_ite <;> go_prune <;> (try go_simp)))
      refine (impl_lengthC _ _ _ _).mono ?_
      rintro e wl ⟨rfl, rfl⟩
      repeat' (first | fail | go_values | go_skip | go_guarded | go_step | go_upon | (simp only []; go_step) | (go_ite <;> go_prune <;> (try go_simp)))
      go_loopw [11, 51] (fun x iv wr => ∃ (v : Value) (j : Nat), v = x ∧ j ≤ cs.length ∧ iv = .int .i64 j ∧ OwnI wr wl.heap.size v (frk ps j) ∧ Below wl.heap.size wl wr) (fun _ iv _ => cs.length - (intOf iv).toNat)
      case atStart => exact ⟨_, 0, rfl, Nat.zero_le _, rfl, by rw [frk_zero]; exact OwnI.nil _ _, by exact bgr⟩
      case round =>
        obtain ⟨v, j, rfl, hj, rfl, of, hbf⟩ := hrel
        have hszf := hbf.size
        have hI : I64 wr wr.heap.size A2 ps := q2.up (hbr.trans (hbf.mono hsz))
        have hlf : (frk ps j).length ≤ 1000 := by have := frk_len (ps := ps) (n := j); omega
        obtain ⟨Af, cf, rfl, _⟩ := id of
        have hplc : ps.length ≤ 1000 := by omega
        clear hpl'
        by_cases hlt : j < cs.length
        · have p1 : (j : Int) < (cs.length : Int) := by omega
          cases hb : decide ((j : Int) ∈ ps)
          · have hsu : Hid (frk ps (j + 1) = frk ps j ++ [(j : Int)]) := by unfold Hid; rw [frk_succ, hb]; rfl
            have hbH := Lib.hid hb
            clear hb
            repeat' (first | fail | go_values | go_skip | go_guarded | go_step | go_upon | (simp only []; go_step) | (go_ite <;> go_prune <;> (try go_simp)))
            refine (slices_Contains' A2 ps.length c2 ps j _ _ rfl (by omega) hI hbH.out).mono ?_
            rintro e w5 ⟨rfl, rfl⟩
            go_wp2_with (at_builtin; refine push_intG wr.heap.size rfl of rfl _ _ (by rfl) (by rfl) (by rfl) (by omega) (by omega) ?_; intro v' w6 ho6 hg6 hb6)
            exact ⟨⟨_, j + 1, rfl, by omega, by go_num, by rw [hsu.out]; exact ho6, hbf.trans hb6⟩, by simp [intOf]; omega⟩
          · have hsu : Hid (frk ps (j + 1) = frk ps j) := by unfold Hid; rw [frk_succ, hb]; simp
            have hbH := Lib.hid hb
            clear hb
            repeat' (first | fail | go_values | go_skip | go_guarded | go_step | go_upon | (simp only []; go_step) | (go_ite <;> go_prune <;> (try go_simp)))
            refine (slices_Contains' A2 ps.length c2 ps j _ _ rfl (by omega) hI hbH.out).mono ?_
            rintro e w5 ⟨rfl, rfl⟩
            repeat' (first | fail | go_values | go_skip | go_guarded | go_step | go_upon | (simp only []; go_step) | (go_ite <;> go_prune <;> (try go_simp)))
            all_goals exact ⟨⟨_, j + 1, rfl, by omega, by go_num, by rw [hsu.out]; exact of, hbf⟩, by simp [intOf]; omega⟩
        · have ej : j = cs.length := by omega
          subst ej
          repeat' (first | fail | go_values | go_skip | go_guarded | go_step | go_upon | (simp only []; go_step) | (go_ite <;> go_prune <;> (try go_simp)))
          all_goals go_returns
          all_goals exact ⟨_, _, rfl, by rw [← hulH.out]; exact OwnS.mono (OwnS.next ho hbf) z2 hszf, OwnI.mono (base := wl.heap.size) (base' := w.heap.size) of (by omega), (B2.trans (hbr.mono z2)).trans (hbf.mono (by omega))⟩
end Go.Proofs.YthbljfanoaibkaaGreatDoor
