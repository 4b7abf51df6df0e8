/- The trails of a picture behind a scan, by the reference: contract of l17Kept. -/
import Derived.Test.YthbljfanoaibkaaGreatDoorNiA
namespace Go.Proofs.YthbljfanoaibkaaGreatDoor
open Go.RowKit Go.ChangeShapes Go.WideShapes Go.ChangeAt
set_option linter.unusedVariables false
set_option linter.unusedSimpArgs false
theorem fTk_lost {T : Tr} {n : Int} {cs : List (Int × Int)} (h : T.t = 2) : fTk T n cs = T := by
  unfold fTk
  split
  · simp [fHit, h]
  · simp [fMiss, h]
set_option maxRecDepth 100000 in
set_option maxHeartbeats 1600000 in
theorem spec_l17Kept (A B C : Option Addr) (c e0 k0 : Nat) (ts : List Tr) (sq dq : Int) (cs : List (Int × Int)) (ps : List Int) (w : World) (hr : T64 w w.heap.size A ts) (hs : C64 w w.heap.size B cs) (hp : I64 w w.heap.size C ps) (h6 : ts.length ≤ 6) (h7 : cs.length ≤ 6) (hT : tsB ts = true) (hcs : ctsB cs = true) (hpl : ps.length = ts.length) (hpa : ∀ (k : Nat) (z : Int), ps[k]? = some z → z = -1 ∨ ∃ m : Nat, z = (m : Int) ∧ m < cs.length) :
    Calls Tryz.prog 46 #[.agg #[.slice A ts.length c, .int .i64 sq, .int .i64 dq], .slice B cs.length e0, .slice C ps.length k0] w fun e w' => ∃ a, e = .returned a ∧ OwnT w' w.heap.size w'.heap.size a (kpk (mvs ts) ps cs ts.length) ∧ Below w.heap.size w w' := by
  obtain ⟨us, hus⟩ : ∃ us, us = mvs ts := ⟨_, rfl⟩
  obtain ⟨ms, hms⟩ : ∃ ms, ms = lmo (mvs ts) := ⟨_, rfl⟩
  obtain ⟨rs, hrs⟩ : ∃ rs, rs = rwk (mvs ts) ts.length := ⟨_, rfl⟩
  have hM := fun w' (hr' : T64 w' w'.heap.size A ts) => spec_l17Moved A c ts sq dq w' hr' h6 hT
  rw [← hms, ← hrs, ← hus] at hM
  rw [← hus]
  have hul : us.length = ts.length := by rw [hus, mvs_len]
  have huT : ∀ (k : Nat) (T : Tr), us[k]? = some T → trT T = true := fun k T h => mvs_get (by rw [← hus]; exact h) hT
  have hMH := Lib.hid hM
  have hulH := Lib.hid hul
  have huTH := Lib.hid huT
  have hplH := Lib.hid hpl
  have hpaH := Lib.hid hpa
  have hcsH := Lib.hid hcs
  clear hM hul huT hpl hpa hcs hus hms hrs hT
  go_enter Tryz.func46, Tryz.ntmps46
  repeat' (first | fail | go_values | go_skip | go_guarded | go_step | go_upon | (simp only []; go_step) | (go_ite <;> go_prune <;> (try go_simp)))
  refine (hMH.out _ (hr.up (by exact bgr))).mono ?_; rintro e w1 ⟨v1, v2, v3, rfl, o1, o2, o3, hbw1⟩; have hzw1 := hbw1.size; (try simp only [World.size_alloc, World.size_setCell, World.size_drew] at hzw1); have hs1 : w.heap.size < w1.heap.size := (by omega); have q1 := bx_id (w := w1) (X := w.heap.size) (o := 0) (by exact bxc); (try simp only [List.getElem_toArray, List.getElem_cons_succ, List.getElem_cons_zero] at q1); have q1 := bx_id (w := w1) (X := w.heap.size) (o := 1) (by exact bxc); (try simp only [List.getElem_toArray, List.getElem_cons_succ, List.getElem_cons_zero] at q1); have q1 := bx_id (w := w1) (X := w.heap.size) (o := 2) (by exact bxc); (try simp only [List.getElem_toArray, List.getElem_cons_succ, List.getElem_cons_zero] at q1); have z1 : ∀ o, w1.frozen? ⟨w.heap.size, o, none⟩ = false := (by exact bxm)
  obtain ⟨A1, c1, rfl⟩ := OwnS.form o1
  obtain ⟨A2, c2, rfl⟩ := OwnS.form o2
  obtain ⟨A3, c3, rfl⟩ := OwnS.form o3
  have q1 := OwnS.rdT o1
  have q2 : I64 w1 w1.heap.size C ps := hp.up (by exact bgr)
  have q3 : C64 w1 w1.heap.size B cs := hs.up (by exact bgr)
  have B1 : Below w.heap.size w w1 := by exact bgr
  have z1 := B1.size
  clear o1 o2 o3
  repeat' (first | fail | go_values | go_skip | go_guarded | go_step | go_upon | (simp only []; go_step) | (go_ite <;> go_prune <;> (try go_simp)))
  go_loopw [10, 11] (fun x iv wr => ∃ (v : Value) (k : Nat), v = x ∧ k ≤ us.length ∧ iv = .int .i64 k ∧ OwnT wr w1.heap.size wr.heap.size v (kpk us ps cs k) ∧ Below w1.heap.size w1 wr) (fun _ iv _ => us.length - (intOf iv).toNat)
  case atStart => exact ⟨_, 0, rfl, Nat.zero_le _, rfl, by simpa [kpk] using OwnS.top (OwnS.lit0 (cl := trl) (T := 40) (k := 8) (W := w1) (lo := w1.heap.size) (Nat.le_refl _)), by exact bgr⟩
  case round =>
    obtain ⟨v, k, rfl, hk, rfl, ho, hbr⟩ := hrel
    have hsz := hbr.size
    have hk6 : us.length ≤ 6 := by have := hulH.out; omega
    have hl1 : (kpk us ps cs k).length ≤ 1000000 := by have := kpk_len (ts := us) (ps := ps) (cs := cs) (n := k); have := hulH.out; omega
    by_cases hlt : k < us.length
    · obtain ⟨⟨x, y, p, q, sp, t, u, r⟩, hx⟩ := get_of_lt hlt
      obtain ⟨z, hz⟩ := get_of_lt (xs := ps) (k := k) (by have := hplH.out; have := hulH.out; omega)
      obtain ⟨b, o, rfl, hb, hc0, hc1, hc2, hc3, hc4, hc5, hc6, hc7⟩ := T64.at_ (q1.up hbr) hx
      obtain ⟨b2, o2, rfl, hb2, hcz⟩ := (q2.below hbr).at_ hz
      have hczA : ∀ ob, (wr.alloc ob).cell? ⟨b2, o2 + k, none⟩ = some (.int .i64 z) := fun ob => bx_alloc hcz
      have hbT : trB x y p q sp t u r = true := huTH.out k _ hx
      have p0 : (0 : Int) ≤ (k : Int) := by omega
      have p1 : (k : Int) < (us.length : Int) := by omega
      have p2 : (k : Int) < (ps.length : Int) := by have := hplH.out; have := hulH.out; omega
      obtain ⟨f1, f2, f3, f4, f5, f6, fm⟩ := tr_facts hbT
      obtain ⟨Av, cv, rfl⟩ := OwnS.form ho
      by_cases hnl : t = 2
      · have hnl2 : (t == 2) = true := by simp [hnl]
        have hsu : Hid (kpk us ps cs (k + 1) = kpk us ps cs k) := kpk_no hx hz (by rw [fTk_lost hnl]; exact hnl)
        clear hx hz hbT fm hnl
        repeat' (first | fail | go_values | go_skip | go_guarded | go_step | go_upon | (simp only []; go_step) | (go_ite <;> go_prune <;> (try go_simp)))
        all_goals exact ⟨⟨_, k + 1, rfl, by omega, by go_num, by rw [hsu.out]; exact OwnS.mono (OwnS.next ho (by exact bgr)) (Nat.le_refl _) (by simp), by exact bgr⟩, by simp [intOf]; omega⟩
      have hnl2 : (t == 2) = false := by simp [hnl]
      rcases hpaH.out k z hz with rfl | ⟨m, rfl, hm⟩
      · rcases hf : fMiss ⟨x, y, p, q, sp, t, u, r⟩ with ⟨xv, yv, pv, qv, sv, tv, uv, rv⟩
        have hft : fTk ⟨x, y, p, q, sp, t, u, r⟩ (-1) cs = ⟨xv, yv, pv, qv, sv, tv, uv, rv⟩ := by rw [fTk_miss, hf]
        have hfH := Lib.hid hf
        have m1 : 0 ≤ r ∧ r ≤ 3 := by omega
        have m2 : t = 0 → r ≤ 1 := by omega
        have m2H := Lib.hid m2
        by_cases ht : tv = 2
        · have ht2 : (tv != 2) = false := by simp [ht]
          have hsu : Hid (kpk us ps cs (k + 1) = kpk us ps cs k) := kpk_no hx hz (by rw [hft]; exact ht)
          clear hx hz hbT hf hft ht m2 fm
          repeat' (first | fail | go_values | go_skip | go_guarded | go_step | go_upon | (simp only []; go_step) | (go_ite <;> go_prune <;> (try go_simp)))
          refine (spec_miss x y p q sp t u r xv yv pv qv sv tv uv rv _ hnl m1 m2H.out hfH.out).mono ?_; rintro e w4 ⟨rfl, hbw4⟩; have hzw4 := hbw4.size; (try simp only [World.size_alloc, World.size_setCell, World.size_drew] at hzw4); have hs1 : wr.heap.size < w4.heap.size := (by omega); have q1 := bx_id (w := w4) (X := wr.heap.size) (o := 0) (by exact bxc); (try simp only [List.getElem_toArray, List.getElem_cons_succ, List.getElem_cons_zero] at q1); have q1 := bx_id (w := w4) (X := wr.heap.size) (o := 1) (by exact bxc); (try simp only [List.getElem_toArray, List.getElem_cons_succ, List.getElem_cons_zero] at q1); have q1 := bx_id (w := w4) (X := wr.heap.size) (o := 2) (by exact bxc); (try simp only [List.getElem_toArray, List.getElem_cons_succ, List.getElem_cons_zero] at q1); have q1 := bx_id (w := w4) (X := wr.heap.size) (o := 3) (by exact bxc); (try simp only [List.getElem_toArray, List.getElem_cons_succ, List.getElem_cons_zero] at q1); have q1 := bx_id (w := w4) (X := wr.heap.size) (o := 4) (by exact bxc); (try simp only [List.getElem_toArray, List.getElem_cons_succ, List.getElem_cons_zero] at q1); have q1 := bx_id (w := w4) (X := wr.heap.size) (o := 5) (by exact bxc); (try simp only [List.getElem_toArray, List.getElem_cons_succ, List.getElem_cons_zero] at q1); have q1 := bx_id (w := w4) (X := wr.heap.size) (o := 6) (by exact bxc); (try simp only [List.getElem_toArray, List.getElem_cons_succ, List.getElem_cons_zero] at q1); have q1 := bx_id (w := w4) (X := wr.heap.size) (o := 7) (by exact bxc); (try simp only [List.getElem_toArray, List.getElem_cons_succ, List.getElem_cons_zero] at q1); have z1 : ∀ o, w4.frozen? ⟨wr.heap.size, o, none⟩ = false := (by exact bxm)
          repeat' (first | fail | go_values | go_skip | go_guarded | go_step | go_upon | (simp only []; go_step) | (go_ite <;> go_prune <;> (try go_simp)))
          all_goals exact ⟨⟨_, k + 1, rfl, by omega, by go_num, by rw [hsu.out]; exact OwnS.mono (OwnS.next ho (by exact bgr)) (Nat.le_refl _) (by (try simp only [World.size_setCell, World.size_drew]); omega), by exact bgr⟩, by simp [intOf]; omega⟩
        · have ht2 : (tv != 2) = true := by simp [ht]
          have hsu : Hid (kpk us ps cs (k + 1) = kpk us ps cs k ++ [⟨xv, yv, pv, qv, sv, tv, uv, rv⟩]) := by unfold Hid; rw [kpk_yes hx hz (by rw [hft]; exact ht), hft]
          clear hx hz hbT hf hft ht m2 fm
          repeat' (first | fail | go_values | go_skip | go_guarded | go_step | go_upon | (simp only []; go_step) | (go_ite <;> go_prune <;> (try go_simp)))
          refine (spec_miss x y p q sp t u r xv yv pv qv sv tv uv rv _ hnl m1 m2H.out hfH.out).mono ?_; rintro e w4 ⟨rfl, hbw4⟩; have hzw4 := hbw4.size; (try simp only [World.size_alloc, World.size_setCell, World.size_drew] at hzw4); have hs1 : wr.heap.size < w4.heap.size := (by omega); have q1 := bx_id (w := w4) (X := wr.heap.size) (o := 0) (by exact bxc); (try simp only [List.getElem_toArray, List.getElem_cons_succ, List.getElem_cons_zero] at q1); have q1 := bx_id (w := w4) (X := wr.heap.size) (o := 1) (by exact bxc); (try simp only [List.getElem_toArray, List.getElem_cons_succ, List.getElem_cons_zero] at q1); have q1 := bx_id (w := w4) (X := wr.heap.size) (o := 2) (by exact bxc); (try simp only [List.getElem_toArray, List.getElem_cons_succ, List.getElem_cons_zero] at q1); have q1 := bx_id (w := w4) (X := wr.heap.size) (o := 3) (by exact bxc); (try simp only [List.getElem_toArray, List.getElem_cons_succ, List.getElem_cons_zero] at q1); have q1 := bx_id (w := w4) (X := wr.heap.size) (o := 4) (by exact bxc); (try simp only [List.getElem_toArray, List.getElem_cons_succ, List.getElem_cons_zero] at q1); have q1 := bx_id (w := w4) (X := wr.heap.size) (o := 5) (by exact bxc); (try simp only [List.getElem_toArray, List.getElem_cons_succ, List.getElem_cons_zero] at q1); have q1 := bx_id (w := w4) (X := wr.heap.size) (o := 6) (by exact bxc); (try simp only [List.getElem_toArray, List.getElem_cons_succ, List.getElem_cons_zero] at q1); have q1 := bx_id (w := w4) (X := wr.heap.size) (o := 7) (by exact bxc); (try simp only [List.getElem_toArray, List.getElem_cons_succ, List.getElem_cons_zero] at q1); have z1 : ∀ o, w4.frozen? ⟨wr.heap.size, o, none⟩ = false := (by exact bxm)
          go_wp2_with (at_builtin; refine push_T w4.heap.size (by simp) (OwnS.next ho (by exact bgr)) rfl _ _ (by rfl) (by rfl) (by rfl) (by (try simp only [World.size_setCell, World.size_drew]); omega) hl1 ?_; intro v6 w6 ho6 hb6 hg6)
          clear hg6
          exact ⟨⟨_, k + 1, rfl, by omega, by go_num, by rw [hsu.out]; exact ho6, Below.trans (by exact bgr) hb6⟩, by simp [intOf]; omega⟩
      · obtain ⟨⟨a, b'⟩, hab⟩ := get_of_lt hm
        obtain ⟨bq, oq, rfl, hbq, hq0, hq1⟩ := (q3.below hbr).at_ hab
        have p3 : (0 : Int) ≤ (m : Int) := by omega
        have p4 : (m : Int) < (cs.length : Int) := by omega
        obtain ⟨ca, cb⟩ := co_facts (ctsB_of hcsH.out hab)
        rcases hf : fHit ⟨x, y, p, q, sp, t, u, r⟩ a b' with ⟨xv, yv, pv, qv, sv, tv, uv, rv⟩
        have hft : fTk ⟨x, y, p, q, sp, t, u, r⟩ (m : Int) cs = ⟨xv, yv, pv, qv, sv, tv, uv, rv⟩ := by rw [fTk_hit hab, hf]
        have hfH := Lib.hid hf
        have htt : t = 0 ∨ t = 1 ∧ 3 ≤ u := by omega
        have htH := Lib.hid htt
        by_cases ht : tv = 2
        · have ht2 : (tv != 2) = false := by simp [ht]
          have hsu : Hid (kpk us ps cs (k + 1) = kpk us ps cs k) := kpk_no hx hz (by rw [hft]; exact ht)
          clear hx hz hbT hf hft ht hab htt fm hnl
          repeat' (first | fail | go_values | go_skip | go_guarded | go_step | go_upon | (simp only []; go_step) | (go_ite <;> go_prune <;> (try go_simp)))
          refine wp_gen (fun W3 hW3 => ?_)
          have d0 : W3.cell? ⟨wr.heap.size, 0, none⟩ = some (.int .i64 x) := by rw [hW3]; exact bxc
          have d1 : W3.cell? ⟨wr.heap.size, 1, none⟩ = some (.int .i64 y) := by rw [hW3]; exact bxc
          have d2 : W3.cell? ⟨wr.heap.size, 2, none⟩ = some (.int .i64 p) := by rw [hW3]; exact bxc
          have d3 : W3.cell? ⟨wr.heap.size, 3, none⟩ = some (.int .i64 q) := by rw [hW3]; exact bxc
          have d4 : W3.cell? ⟨wr.heap.size, 4, none⟩ = some (.int .i64 sp) := by rw [hW3]; exact bxc
          have d5 : W3.cell? ⟨wr.heap.size, 5, none⟩ = some (.int .i64 t) := by rw [hW3]; exact bxc
          have d6 : W3.cell? ⟨wr.heap.size, 6, none⟩ = some (.int .i64 u) := by rw [hW3]; exact bxc
          have d7 : W3.cell? ⟨wr.heap.size, 7, none⟩ = some (.int .i64 r) := by rw [hW3]; exact bxc
          have df : ∀ o, W3.frozen? ⟨wr.heap.size, o, none⟩ = false := by rw [hW3]; exact bxm
          have BW3 : Below wr.heap.size wr W3 := by rw [hW3]; exact bgr
          have sW3 : wr.heap.size < W3.heap.size := by rw [hW3]; simp only [World.size_alloc]; omega
          have e0 := bx_keep BW3 hcz
          have e1 := bx_keep BW3 hq0
          have e2 := bx_keep BW3 hq1
          clear hW3
          go_still_tail 8, (by kernel_rfl)
          change wpList _ _ _ _ _ W3.drew
          repeat' (first | fail | go_values | go_skip | go_guarded | go_step | go_upon | (simp only []; go_step) | (go_ite <;> go_prune <;> (try go_simp)))
          refine (spec_hit x y p q sp t u r a b' xv yv pv qv sv tv uv rv _ f1 f2 f3 f4 f5 f6 ca cb htH.out hfH.out).mono ?_; rintro e w4 ⟨rfl, hbw4⟩; have hzw4 := hbw4.size; (try simp only [World.size_alloc, World.size_setCell, World.size_drew] at hzw4); have hs1 : wr.heap.size < w4.heap.size := (by omega); have q1 := bx_id (w := w4) (X := wr.heap.size) (o := 0) (by exact bxc); (try simp only [List.getElem_toArray, List.getElem_cons_succ, List.getElem_cons_zero] at q1); have q1 := bx_id (w := w4) (X := wr.heap.size) (o := 1) (by exact bxc); (try simp only [List.getElem_toArray, List.getElem_cons_succ, List.getElem_cons_zero] at q1); have q1 := bx_id (w := w4) (X := wr.heap.size) (o := 2) (by exact bxc); (try simp only [List.getElem_toArray, List.getElem_cons_succ, List.getElem_cons_zero] at q1); have q1 := bx_id (w := w4) (X := wr.heap.size) (o := 3) (by exact bxc); (try simp only [List.getElem_toArray, List.getElem_cons_succ, List.getElem_cons_zero] at q1); have q1 := bx_id (w := w4) (X := wr.heap.size) (o := 4) (by exact bxc); (try simp only [List.getElem_toArray, List.getElem_cons_succ, List.getElem_cons_zero] at q1); have q1 := bx_id (w := w4) (X := wr.heap.size) (o := 5) (by exact bxc); (try simp only [List.getElem_toArray, List.getElem_cons_succ, List.getElem_cons_zero] at q1); have q1 := bx_id (w := w4) (X := wr.heap.size) (o := 6) (by exact bxc); (try simp only [List.getElem_toArray, List.getElem_cons_succ, List.getElem_cons_zero] at q1); have q1 := bx_id (w := w4) (X := wr.heap.size) (o := 7) (by exact bxc); (try simp only [List.getElem_toArray, List.getElem_cons_succ, List.getElem_cons_zero] at q1); have z1 : ∀ o, w4.frozen? ⟨wr.heap.size, o, none⟩ = false := (by exact bxm)
          repeat' (first | fail | go_values | go_skip | go_guarded | go_step | go_upon | (simp only []; go_step) | (go_ite <;> go_prune <;> (try go_simp)))
          all_goals exact ⟨⟨_, k + 1, rfl, by omega, by go_num, by rw [hsu.out]; exact OwnS.mono (OwnS.next ho (by exact bgr)) (Nat.le_refl _) (by (try simp only [World.size_setCell, World.size_drew]); omega), by exact bgr⟩, by simp [intOf]; omega⟩
        · have ht2 : (tv != 2) = true := by simp [ht]
          have hsu : Hid (kpk us ps cs (k + 1) = kpk us ps cs k ++ [⟨xv, yv, pv, qv, sv, tv, uv, rv⟩]) := by unfold Hid; rw [kpk_yes hx hz (by rw [hft]; exact ht), hft]
          clear hx hz hbT hf hft ht hab htt fm hnl
          repeat' (first | fail | go_values | go_skip | go_guarded | go_step | go_upon | (simp only []; go_step) | (go_ite <;> go_prune <;> (try go_simp)))
          refine wp_gen (fun W3 hW3 => ?_)
          have d0 : W3.cell? ⟨wr.heap.size, 0, none⟩ = some (.int .i64 x) := by rw [hW3]; exact bxc
          have d1 : W3.cell? ⟨wr.heap.size, 1, none⟩ = some (.int .i64 y) := by rw [hW3]; exact bxc
          have d2 : W3.cell? ⟨wr.heap.size, 2, none⟩ = some (.int .i64 p) := by rw [hW3]; exact bxc
          have d3 : W3.cell? ⟨wr.heap.size, 3, none⟩ = some (.int .i64 q) := by rw [hW3]; exact bxc
          have d4 : W3.cell? ⟨wr.heap.size, 4, none⟩ = some (.int .i64 sp) := by rw [hW3]; exact bxc
          have d5 : W3.cell? ⟨wr.heap.size, 5, none⟩ = some (.int .i64 t) := by rw [hW3]; exact bxc
          have d6 : W3.cell? ⟨wr.heap.size, 6, none⟩ = some (.int .i64 u) := by rw [hW3]; exact bxc
          have d7 : W3.cell? ⟨wr.heap.size, 7, none⟩ = some (.int .i64 r) := by rw [hW3]; exact bxc
          have df : ∀ o, W3.frozen? ⟨wr.heap.size, o, none⟩ = false := by rw [hW3]; exact bxm
          have BW3 : Below wr.heap.size wr W3 := by rw [hW3]; exact bgr
          have sW3 : wr.heap.size < W3.heap.size := by rw [hW3]; simp only [World.size_alloc]; omega
          have e0 := bx_keep BW3 hcz
          have e1 := bx_keep BW3 hq0
          have e2 := bx_keep BW3 hq1
          clear hW3
          go_still_tail 8, (by kernel_rfl)
          change wpList _ _ _ _ _ W3.drew
          repeat' (first | fail | go_values | go_skip | go_guarded | go_step | go_upon | (simp only []; go_step) | (go_ite <;> go_prune <;> (try go_simp)))
          refine (spec_hit x y p q sp t u r a b' xv yv pv qv sv tv uv rv _ f1 f2 f3 f4 f5 f6 ca cb htH.out hfH.out).mono ?_; rintro e w4 ⟨rfl, hbw4⟩; have hzw4 := hbw4.size; (try simp only [World.size_alloc, World.size_setCell, World.size_drew] at hzw4); have hs1 : wr.heap.size < w4.heap.size := (by omega); have q1 := bx_id (w := w4) (X := wr.heap.size) (o := 0) (by exact bxc); (try simp only [List.getElem_toArray, List.getElem_cons_succ, List.getElem_cons_zero] at q1); have q1 := bx_id (w := w4) (X := wr.heap.size) (o := 1) (by exact bxc); (try simp only [List.getElem_toArray, List.getElem_cons_succ, List.getElem_cons_zero] at q1); have q1 := bx_id (w := w4) (X := wr.heap.size) (o := 2) (by exact bxc); (try simp only [List.getElem_toArray, List.getElem_cons_succ, List.getElem_cons_zero] at q1); have q1 := bx_id (w := w4) (X := wr.heap.size) (o := 3) (by exact bxc); (try simp only [List.getElem_toArray, List.getElem_cons_succ, List.getElem_cons_zero] at q1); have q1 := bx_id (w := w4) (X := wr.heap.size) (o := 4) (by exact bxc); (try simp only [List.getElem_toArray, List.getElem_cons_succ, List.getElem_cons_zero] at q1); have q1 := bx_id (w := w4) (X := wr.heap.size) (o := 5) (by exact bxc); (try simp only [List.getElem_toArray, List.getElem_cons_succ, List.getElem_cons_zero] at q1); have q1 := bx_id (w := w4) (X := wr.heap.size) (o := 6) (by exact bxc); (try simp only [List.getElem_toArray, List.getElem_cons_succ, List.getElem_cons_zero] at q1); have q1 := bx_id (w := w4) (X := wr.heap.size) (o := 7) (by exact bxc); (try simp only [List.getElem_toArray, List.getElem_cons_succ, List.getElem_cons_zero] at q1); have z1 : ∀ o, w4.frozen? ⟨wr.heap.size, o, none⟩ = false := (by exact bxm)
          go_wp2_with (at_builtin; refine push_T w4.heap.size (by simp) (OwnS.next ho (by exact bgr)) rfl _ _ (by rfl) (by rfl) (by rfl) (by (try simp only [World.size_setCell, World.size_drew]); omega) hl1 ?_; intro v6 w6 ho6 hb6 hg6)
          clear hg6
          exact ⟨⟨_, k + 1, rfl, by omega, by go_num, by rw [hsu.out]; exact ho6, Below.trans (by exact bgr) hb6⟩, by simp [intOf]; omega⟩
    · have e : k = us.length := by omega
      subst e
      obtain ⟨Av, cv, rfl⟩ := OwnS.form ho
      repeat' (first | fail | go_values | go_skip | go_guarded | go_step | go_upon | (simp only []; go_step) | (go_ite <;> go_prune <;> (try go_simp)))
      all_goals go_returns
      all_goals exact ⟨_, rfl, by rw [← hulH.out]; exact OwnS.mono ho z1 (Nat.le_refl _), B1.trans (hbr.mono z1)⟩
end Go.Proofs.YthbljfanoaibkaaGreatDoor
