/- A step of a picture, by the reference; StepPicture: contracts. -/
import Derived.Test.YthbljfanoaibkaaGreatDoorStA
import Derived.Test.YthbljfanoaibkaaGreatDoorNiB
import Derived.Test.YthbljfanoaibkaaGreatDoorPaE
import Derived.Test.YthbljfanoaibkaaGreatDoorMPic
namespace Go.Proofs.YthbljfanoaibkaaGreatDoor
open Go.RowKit Go.ChangeShapes Go.WideShapes Go.ChangeAt
set_option linter.unusedVariables false
set_option linter.unusedSimpArgs false
theorem sp_bad {ts : List Tr} {s d : Int} {cs : List (Int × Int)} (h : spCode ts s d cs ≠ 0) : fStT ts s d cs = [] ∧ fStS ts s d cs = 0 ∧ fStD ts s d cs = 0 := by
  simp [fStT, fStS, fStD, h]
theorem sp_good {ts : List Tr} {s d : Int} {cs : List (Int × Int)} (h : spCode ts s d cs = 0) : fStT ts s d cs = stT ts cs ∧ fStS ts s d cs = s + 1 ∧ fStD ts s d cs = stD ts d cs := by
  simp [fStT, fStS, fStD, h]
set_option maxRecDepth 100000 in
set_option maxHeartbeats 3200000 in
theorem spec_l17Step (A B : Option Addr) (c e0 : Nat) (ts : List Tr) (sq dq : Int) (cs : List (Int × Int)) (w : World) (hr : T64 w w.heap.size A ts) (hs : C64 w w.heap.size B cs) (h6 : ts.length ≤ 6) (h7 : cs.length ≤ 6) (hT : tsB ts = true) (hcs : ctsB cs = true) (hsq : 0 ≤ sq ∧ sq ≤ 60) (hdq : 0 ≤ dq ∧ dq ≤ 360) :
    Calls Tryz.prog 26 #[.agg #[.slice A ts.length c, .int .i64 sq, .int .i64 dq], .slice B cs.length e0] w fun e w' => ∃ v, e = .returned (.agg #[v, .int .i64 (sq + 1), .int .i64 (stD ts dq cs)]) ∧ OwnT w' w.heap.size w'.heap.size v (stT ts cs) ∧ Below w.heap.size w w' := by
  obtain ⟨ps, hps⟩ : ∃ ps, ps = fPs (mvs ts) cs := ⟨_, rfl⟩
  obtain ⟨fr, hfr⟩ : ∃ fr, fr = frk ps cs.length := ⟨_, rfl⟩
  obtain ⟨kp, hkp⟩ : ∃ kp, kp = kpk (mvs ts) ps cs ts.length := ⟨_, rfl⟩
  have e1 : stT ts cs = stk kp fr cs fr.length := by rw [hkp, hfr, hps]; rfl
  have e2 : stD ts dq cs = min (drk kp.length dq fr.length) 360 := by rw [hkp, hfr, hps]; rfl
  rw [e1, e2]
  have hat : ∀ (j : Nat) (z : Int), fr[j]? = some z → ∃ m : Nat, z = (m : Int) ∧ m < cs.length := fun j z h => frk_at (by rw [hfr] at h; exact h)
  have hpl : ps.length = ts.length := by rw [hps, fPs_len, mvs_len]
  have hpa : ∀ (k : Nat) (z : Int), ps[k]? = some z → z = -1 ∨ ∃ m : Nat, z = (m : Int) ∧ m < cs.length := by
    intro k z h
    rw [hps] at h
    rcases fPs_at h with h | ⟨m, h1, h2, _⟩
    · exact .inl h
    · exact .inr ⟨m, h1, h2⟩
  have hP := fun w' A' B' c' e' (hr' : T64 w' w'.heap.size A' ts) (hs' : C64 w' w'.heap.size B' cs) => spec_l17Pairs A' B' c' e' ts sq dq cs w' hr' hs' h6 h7 hT hcs
  rw [← hps] at hP
  have hF := fun w' B' d' (hs' : I64 w' w'.heap.size B' ps) => spec_l15Free cs.length B' d' ps w' hs' (by omega) (by omega)
  rw [← hfr] at hF
  have hK := fun w' A' B' C' c' e' k' (hr' : T64 w' w'.heap.size A' ts) (hs' : C64 w' w'.heap.size B' cs) (hp' : I64 w' w'.heap.size C' ps) => spec_l17Kept A' B' C' c' e' k' ts sq dq cs ps w' hr' hs' hp' h6 h7 hT hcs hpl hpa
  rw [← hkp] at hK
  have hk6 : kp.length ≤ 6 := by rw [hkp]; exact Nat.le_trans kpk_len h6
  have hf6 : fr.length ≤ 6 := by rw [hfr]; exact Nat.le_trans frk_len h7
  have hatH := Lib.hid hat
  have hPH := Lib.hid hP
  have hFH := Lib.hid hF
  have hKH := Lib.hid hK
  have hIt : Hid (2 ≠ 40) := by unfold Hid; decide
  have hTp : Hid (40 ≠ 28) := by unfold Hid; decide
  clear e1 e2 hkp hfr hat hP hF hK hT hcs hpa hpl hps
  go_enter Tryz.func26, Tryz.ntmps26
  repeat' (first | fail | go_values | go_skip | go_guarded | go_step | go_upon | (simp only []; go_step) | (go_ite <;> go_prune <;> (try go_simp)))
  refine (hPH.out _ _ _ _ _ (hr.up (by exact bgr)) (hs.up (by exact bgr))).mono ?_; rintro e w2 ⟨v2, rfl, o2, hbw2⟩; have hzw2 := hbw2.size; (try simp only [World.size_alloc, World.size_setCell, World.size_drew] at hzw2); have hs1 : w.heap.size < w2.heap.size := (by omega); have q1 := bx_id (w := w2) (X := w.heap.size) (o := 0) (by exact bxc); (try simp only [List.getElem_toArray, List.getElem_cons_succ, List.getElem_cons_zero] at q1); have q1 := bx_id (w := w2) (X := w.heap.size) (o := 1) (by exact bxc); (try simp only [List.getElem_toArray, List.getElem_cons_succ, List.getElem_cons_zero] at q1); have q1 := bx_id (w := w2) (X := w.heap.size) (o := 2) (by exact bxc); (try simp only [List.getElem_toArray, List.getElem_cons_succ, List.getElem_cons_zero] at q1); have z1 : ∀ o, w2.frozen? ⟨w.heap.size, o, none⟩ = false := (by exact bxm)
  obtain ⟨A2, c2, rfl, _⟩ := id o2
  have q2 := (OwnI.reads o2).2
  repeat' (first | fail | go_values | go_skip | go_guarded | go_step | go_upon | (simp only []; go_step) | (go_ite <;> go_prune <;> (try go_simp)))
  refine (hKH.out _ _ _ _ _ _ _ (hr.up (by exact bgr)) (hs.up (by exact bgr)) (q2.up (by exact bgr))).mono ?_; rintro e w3 ⟨v3, rfl, o3, hbw3⟩; have hzw3 := hbw3.size; (try simp only [World.size_alloc, World.size_setCell, World.size_drew] at hzw3); have hs1 : w.heap.size < w3.heap.size := (by omega); have q1 := bx_id (w := w3) (X := w.heap.size) (o := 0) (by exact bxc); (try simp only [List.getElem_toArray, List.getElem_cons_succ, List.getElem_cons_zero] at q1); have q1 := bx_id (w := w3) (X := w.heap.size) (o := 1) (by exact bxc); (try simp only [List.getElem_toArray, List.getElem_cons_succ, List.getElem_cons_zero] at q1); have q1 := bx_id (w := w3) (X := w.heap.size) (o := 2) (by exact bxc); (try simp only [List.getElem_toArray, List.getElem_cons_succ, List.getElem_cons_zero] at q1); have z1 : ∀ o, w3.frozen? ⟨w.heap.size, o, none⟩ = false := (by exact bxm)
  obtain ⟨A3, c3, rfl⟩ := OwnS.form o3
  repeat' (first | fail | go_values | go_skip | go_guarded | go_step | go_upon | (simp only []; go_step) | (go_ite <;> go_prune <;> (try go_simp)))
  refine (hFH.out _ _ _ (q2.up (by exact bgr))).mono ?_; rintro e w4 ⟨v4, rfl, o4, hbw4⟩; have hzw4 := hbw4.size; (try simp only [World.size_alloc, World.size_setCell, World.size_drew] at hzw4); have hs1 : w.heap.size < w4.heap.size := (by omega); have q1 := bx_id (w := w4) (X := w.heap.size) (o := 0) (by exact bxc); (try simp only [List.getElem_toArray, List.getElem_cons_succ, List.getElem_cons_zero] at q1); have q1 := bx_id (w := w4) (X := w.heap.size) (o := 1) (by exact bxc); (try simp only [List.getElem_toArray, List.getElem_cons_succ, List.getElem_cons_zero] at q1); have q1 := bx_id (w := w4) (X := w.heap.size) (o := 2) (by exact bxc); (try simp only [List.getElem_toArray, List.getElem_cons_succ, List.getElem_cons_zero] at q1); have z1 : ∀ o, w4.frozen? ⟨w.heap.size, o, none⟩ = false := (by exact bxm)
  obtain ⟨A4, c4, rfl, _⟩ := id o4
  have B4 : Below w.heap.size w w4 := by exact bgr
  have z3 : w.heap.size + 2 ≤ w3.heap.size := by have := hbw3.size; have := hbw2.size; simp only [World.size_alloc] at *; omega
  have z4 := hbw4.size
  have o3 := OwnS.mono (lo' := w.heap.size + 2) (OwnS.next o3 hbw4) (by have := hbw2.size; simp only [World.size_alloc] at *; omega) z4
  have o4 := OwnI.mono (base' := w.heap.size + 2) o4 (by omega)
  clear o2 q2
  have pw : PBox w4 w.heap.size (.slice A ts.length c) sq dq := PBox.next (PBox.next (PBox.next (PBox.alloc (PBox.new rfl) _) hbw2) hbw3) hbw4
  have pb : PBox w4 (w.heap.size + 1) (.slice none 0 0) 0 0 := PBox.next (PBox.next (PBox.next (PBox.new (by simp)) hbw2) hbw3) hbw4
  repeat' (first | fail | go_values | go_skip | go_guarded | go_step | go_upon | (simp only []; go_step) | (go_ite <;> go_prune <;> (try go_simp)))
  go_loopw [6, 8, 9] (fun x dv iv wr => ∃ (v : Value) (j : Nat), v = x ∧ j ≤ fr.length ∧ dv = .int .i64 (drk kp.length dq j) ∧ iv = .int .i64 j ∧ OwnT wr (w.heap.size + 2) wr.heap.size v (stk kp fr cs j) ∧ OwnI wr (w.heap.size + 2) (.slice A4 fr.length c4) fr ∧ PBox wr w.heap.size (.slice A ts.length c) sq dq ∧ PBox wr (w.heap.size + 1) (.slice none 0 0) 0 0 ∧ Below w.heap.size w wr) (fun _ _ iv _ => fr.length - (intOf iv).toNat)
  case atStart => exact ⟨_, 0, rfl, Nat.zero_le _, by rw [drk_zero], rfl, by rw [stk_zero]; exact o3, o4, pw, pb, B4⟩
  case round =>
    clear o3 o4 pw pb B4 z3 z4
    obtain ⟨v, j, rfl, hj, rfl, rfl, ho, oi, pw, pb, hbr⟩ := hrel
    obtain ⟨x0, x1, x2, xf⟩ := pw.cells
    obtain ⟨b0, b1, b2, bf⟩ := pb.cells
    have zb := pb.lt
    obtain ⟨Av, cv, rfl⟩ := OwnS.form ho
    have hdr := drk_bd (n := kp.length) (d := dq) (j := j)
    have hle : (stk kp fr cs j).length ≤ 6 := stk_le hk6
    by_cases hlt : j < fr.length
    · obtain ⟨z, hz⟩ := get_of_lt hlt
      obtain ⟨m, rfl, hm⟩ := hatH.out j z hz
      obtain ⟨⟨a, b⟩, hab⟩ := get_of_lt hm
      obtain ⟨b3, q3, rfl, hb3, hc3⟩ := (OwnI.reads oi).2.at_ hz
      obtain ⟨bq, oq, rfl, hbq, hq0, hq1⟩ := C64.at_ (hs.up hbr) hab
      have p0 : (0 : Int) ≤ (j : Int) := by omega
      have p1 : (j : Int) < (fr.length : Int) := by omega
      have p3 : (0 : Int) ≤ (m : Int) := by omega
      have p4 : (m : Int) < (cs.length : Int) := by omega
      by_cases hl : (stk kp fr cs j).length < 6
      · have hsu := Lib.hid (stk_yes hz hab hl)
        have hdu := Lib.hid (drk_yes (d := dq) hlt hl)
        have hlI : ((stk kp fr cs j).length : Int) < 6 := by omega
        clear hz hab hl
        repeat' (first | fail | go_values | go_skip | go_guarded | go_step | go_upon | (simp only []; go_step) | (go_ite <;> go_prune <;> (try go_simp)))
        refine (spec_l16First _ _ _).mono ?_; rintro e w5 ⟨rfl, hbw5⟩; have hzw5 := hbw5.size; (try simp only [World.size_alloc, World.size_setCell, World.size_drew] at hzw5)
        have px5 := PBox.next pw hbw5
        have pb5 := PBox.next pb hbw5
        have ho5 := OwnS.next ho hbw5
        have oi5 := OwnI.below oi hbw5
        have B5 : Below w.heap.size w w5 := by exact bgr
        go_wp2_with (at_builtin; refine push_T w5.heap.size (by simp) ho5 rfl _ _ (by rfl) (by rfl) (by rfl) (by (try simp only [World.size_setCell, World.size_drew]); omega) (by omega) ?_; intro v6 w6 ho6 hb6 hg6)
        have px6 := PBox.push px5 ho5 hg6 hTp.out
        have pb6 := PBox.push pb5 ho5 hg6 hTp.out
        have oi6 := OwnI.push oi5 ho5 hg6 hIt.out
        exact ⟨⟨_, j + 1, rfl, by omega, by rw [hdu.out], by go_num, by rw [hsu.out]; exact ho6, oi6, px6, pb6, B5.trans (hb6.mono (by omega))⟩, by simp [intOf]; omega⟩
      · have hsu := Lib.hid (stk_no (cs := cs) hlt hl)
        have hdu := Lib.hid (drk_no (d := dq) hlt hk6 hl)
        have hlI : ¬ ((stk kp fr cs j).length : Int) < 6 := by omega
        clear hz hab
        repeat' (first | fail | go_values | go_skip | go_guarded | go_step | go_upon | (simp only []; go_step) | (go_ite <;> go_prune <;> (try go_simp)))
        all_goals exact ⟨⟨_, j + 1, rfl, by omega, by rw [hdu.out], by go_num, by rw [hsu.out]; exact ho, oi, pw, pb, hbr⟩, by simp [intOf]; omega⟩
    · have e : j = fr.length := by omega
      subst e
      have hmn : min (360 : Int) (drk kp.length dq fr.length) = min (drk kp.length dq fr.length) 360 := by omega
      have hmnH := Lib.hid hmn
      clear hmn
      repeat' (first | fail | go_values | go_skip | go_guarded | go_step | go_upon | (simp only []; go_step) | (go_ite <;> go_prune <;> (try go_simp)))
      all_goals ((try simp only [Exit.inBlock, Exit.then]); refine bodyPost_ret (by simp [results, Tryz.results26, go_sem, *]; try rfl) rfl ?_)
      all_goals refine ⟨.slice Av (stk kp fr cs fr.length).length cv, by first | (rw [show min (drk kp.length dq fr.length) 360 = drk kp.length dq fr.length by omega]; done) | (rw [show min (drk kp.length dq fr.length) 360 = 360 by omega]; done), ?_, by exact bgr⟩
      all_goals exact OwnS.mono (OwnS.setX (OwnS.setX (OwnS.setX ho pb hTp.out) (pb.set0) hTp.out) (pb.set0.set1) hTp.out).top (by omega) (Nat.le_refl _)
end Go.Proofs.YthbljfanoaibkaaGreatDoor
