/- Several texts in one: StC, StP, PicC. No condition of its own. Printed by mergeclaim.py. -/
import Derived.Test.YthbljfanoaibkaaGreatDoorStB
import Derived.Test.YthbljfanoaibkaaGreatDoorRtS
import Derived.Test.YthbljfanoaibkaaGreatDoorCtA
import Derived.Test.YthbljfanoaibkaaGreatDoorMPic
namespace Go.Proofs.YthbljfanoaibkaaGreatDoor
open Go.RowKit Go.ChangeShapes Go.WideShapes Go.ChangeAt
set_option linter.unusedVariables false
set_option linter.unusedSimpArgs false
/-- the picture behind the first k scans -/
def rpk (css : List Cts) : Nat → List Tr × Int
  | 0 => ([], 0)
  | k + 1 => (stT (rpk css k).1 (css.getD k []), stD (rpk css k).1 (rpk css k).2 (css.getD k []))
theorem rpk_succ {css : List Cts} {k : Nat} {cs : Cts} (h : css[k]? = some cs) : rpk css (k + 1) = (stT (rpk css k).1 cs, stD (rpk css k).1 (rpk css k).2 cs) := by
  rw [rpk, show css.getD k [] = cs by simp [List.getD, h]]
theorem rpk_ok {css : List Cts} (h1 : cssB css = true) (h2 : css.length ≤ 60) : ∀ k, k ≤ css.length → pcB (rpk css k).1 (k : Int) (rpk css k).2 = true
  | 0, _ => by simp [rpk, pcB, tsB, inB]
  | k + 1, hk => by
    obtain ⟨cs, hx⟩ := get_of_lt (xs := css) (k := k) (by omega)
    rw [rpk_succ hx]
    exact st_ok (rpk_ok h1 h2 k (by omega)) (cssB_of h1 hx) (by omega)
/-- RunPicture's answer -/
def rpT (css : List Cts) : List Tr := if scCode 60 css = 0 then (rpk css css.length).1 else []
def rpS (css : List Cts) : Int := if scCode 60 css = 0 then (css.length : Int) else 0
def rpD (css : List Cts) : Int := if scCode 60 css = 0 then (rpk css css.length).2 else 0
theorem rp_bad {css : List Cts} (h : scCode 60 css ≠ 0) : rpT css = [] ∧ rpS css = 0 ∧ rpD css = 0 := by simp [rpT, rpS, rpD, h]
theorem rp_good {css : List Cts} (h : scCode 60 css = 0) : rpT css = (rpk css css.length).1 ∧ rpS css = (css.length : Int) ∧ rpD css = (rpk css css.length).2 := by simp [rpT, rpS, rpD, h]
theorem rp_pic {css : List Cts} (h : scCode 60 css = 0) : pcB (rpT css) (rpS css) (rpD css) = true := by
  obtain ⟨e1, e2, e3⟩ := rp_good h
  obtain ⟨h1, h2, h3⟩ := scCode_ok h
  rw [e1, e2, e3]
  exact rpk_ok h1 (by omega) _ (Nat.le_refl _)
theorem rpT_len {css : List Cts} : (rpT css).length ≤ 6 := by
  by_cases h : scCode 60 css = 0
  · exact (pc_facts (rp_pic h)).1
  · rw [(rp_bad h).1]; simp
set_option maxRecDepth 100000 in
set_option maxHeartbeats 1600000 in
theorem impl_RunPicture (A : Option Addr) (c : Nat) (css : List Cts) (w : World) (hr : CC64 w w.heap.size A css) (hl : css.length ≤ 1099511627776) (hm : ∀ (i : Nat) (cs : Cts), css[i]? = some cs → cs.length ≤ 1099511627776) :
    Calls Tryz.prog 6 #[.slice A css.length c] w fun e w' => ∃ v, e = .returned (.tuple #[.agg #[v, .int .i64 (rpS css), .int .i64 (rpD css)], .int .i64 (scCode 60 css)]) ∧ OwnT w' w.heap.size w'.heap.size v (rpT css) ∧ Below w.heap.size w w' := by
  obtain ⟨g, hg⟩ : ∃ g, g = scCode 60 css := ⟨_, rfl⟩
  have hC := fun w' (hb' : Below w.heap.size w w') => impl_scansCode A c css 60 w' (hr.up hb') hl hm
  rw [← hg] at hC
  have hCH := Lib.hid hC
  have hmH := Lib.hid hm
  by_cases h0 : g = 0
  · obtain ⟨e1, e2, e3⟩ := rp_good (css := css) (by rw [← hg]; exact h0)
    obtain ⟨h1, h2, h3⟩ := scCode_ok (most := 60) (css := css) (by rw [← hg]; exact h0)
    have h60 : css.length ≤ 60 := by omega
    have hok := rpk_ok h1 h60
    rw [e1, e2, e3, ← hg, h0]
    have h1H := Lib.hid h1
    have h2H := Lib.hid h2
    have hokH := Lib.hid hok
    have h0H := Lib.hid h0
    have hTp : Hid (40 ≠ 28) := by unfold Hid; decide
    clear e1 e2 e3 h1 h2 hok hC hm hg h0
    go_enter Tryz.func6, Tryz.ntmps6
    repeat' (first | fail | go_values | go_skip | go_guarded | go_step | go_upon | (simp only []; go_step) | (go_ite <;> go_prune <;> (try go_simp)))
    refine (hCH.out _ (by exact bgr)).mono ?_; rintro e w1 ⟨rfl, hbw1⟩; have hzw1 := hbw1.size; (try simp only [World.size_alloc, World.size_setCell, World.size_drew] at hzw1)
    rw [h0H.out]
    repeat' (first | fail | go_values | go_skip | go_guarded | go_step | go_upon | (simp only []; go_step) | (go_ite <;> go_prune <;> (try go_simp)))
    obtain ⟨X, hX⟩ : ∃ X, X = w1.heap.size := ⟨_, rfl⟩
    have B1 : Below w.heap.size w w1 := by exact bgr
    have z1 : w.heap.size < w1.heap.size := by have := hbw1.size; simp only [World.size_alloc] at this; omega
    have pb : PBox w1 w.heap.size (.slice none 0 0) 0 0 := by exact PBox.next (PBox.new rfl) hbw1
    repeat' (first | fail | go_values | go_skip | go_guarded | go_step | go_upon | (simp only []; go_step) | (go_ite <;> go_prune <;> (try go_simp)))
    refine wp_gen (fun W4 hW4 => ?_)
    have px : PBox W4 X (.slice none 0 0) 0 0 := by rw [hW4, hX]; exact PBox.new rfl
    have B4 : Below w1.heap.size w1 W4 := by rw [hW4]; exact bgr
    have pb4 := pb.next B4
    have B5 : Below w.heap.size w W4 := B1.trans (B4.mono (by omega))
    rw [← hX]
    have zX : w.heap.size < X := by omega
    clear hW4 pb B4 B1 z1 hbw1 hX
    go_loopw [16] (fun iv wr => ∃ (v : Value) (j : Nat), j ≤ css.length ∧ iv = .int .i64 j ∧ PBox wr X v (j : Int) (rpk css j).2 ∧ OwnT wr (w.heap.size + 1) wr.heap.size v (rpk css j).1 ∧ PBox wr w.heap.size (.slice none 0 0) 0 0 ∧ Below w.heap.size w wr) (fun iv _ => css.length - (intOf iv).toNat)
    case atStart => exact ⟨_, 0, Nat.zero_le _, rfl, px, OwnS.nil _ _ _, pb4, B5⟩
    case round =>
      clear px pb4 B5
      obtain ⟨v, j, hj, rfl, px, ho, pb, hbr⟩ := hrel
      have hpc := hokH.out j hj
      rcases hrp : rpk css j with ⟨ts, d⟩
      rw [hrp] at px ho hpc
      obtain ⟨x0, x1, x2, xf⟩ := px.cells
      have zx := px.lt
      obtain ⟨b0, b1, b2, bf⟩ := pb.cells
      obtain ⟨Av, cv, rfl⟩ := OwnS.form ho
      obtain ⟨h6, hs0, hd0, hT⟩ := pc_facts hpc
      by_cases hlt : j < css.length
      · obtain ⟨cs, hx⟩ := get_of_lt hlt
        obtain ⟨bq, o, A', c', rfl, hbq, hc, hi⟩ := (hr.up hbr).at_ hx
        have h7 := manyB_of h2H.out hx
        have hcs := Lib.hid (cssB_of h1H.out hx)
        have hsu := Lib.hid (rpk_succ hx)
        rw [hrp] at hsu
        have hTH := Lib.hid hT
        have hrH := Lib.hid (OwnS.rdT ho)
        clear hx hT hpc hrp
        repeat' (first | fail | go_values | go_skip | go_guarded | go_step | go_upon | (simp only []; go_step) | (go_ite <;> go_prune <;> (try go_simp)))
        refine (impl_stepP _ _ _ _ ts j d cs _ (hrH.out.up (by exact bgr)) (hi.up (by exact bgr)) h6 h7 hTH.out hcs.out hs0 hd0).mono ?_; rintro e w2 ⟨v2, rfl, o2, hbw2⟩; have hzw2 := hbw2.size; (try simp only [World.size_alloc, World.size_setCell, World.size_drew] at hzw2)
        obtain ⟨A9, c9, rfl⟩ := OwnS.form o2
        have px2 := PBox.next px hbw2
        have pb2 := PBox.next pb hbw2
        have B2 : Below w.heap.size w w2 := by exact bgr
        obtain ⟨y0, y1, y2, yf⟩ := px2.cells
        have o2 := OwnS.mono (lo' := w.heap.size + 1) o2 (by have := pb.lt; omega) (Nat.le_refl _)
        repeat' (first | fail | go_values | go_skip | go_guarded | go_step | go_upon | (simp only []; go_step) | (go_ite <;> go_prune <;> (try go_simp)))
        all_goals exact ⟨⟨_, j + 1, by omega, by go_num, by rw [hsu.out]; exact px2.set0.set1.set2, by rw [hsu.out]; exact (OwnS.setX (OwnS.setX (OwnS.setX o2 px2 hTp.out) px2.set0 hTp.out) px2.set0.set1 hTp.out).top, ((pb2.far (by omega)).far (by omega)).far (by omega), by exact bgr⟩, by simp [intOf]; omega⟩
      · have e : j = css.length := by omega
        subst e
        repeat' (first | fail | go_values | go_skip | go_guarded | go_step | go_upon | (simp only []; go_step) | (go_ite <;> go_prune <;> (try go_simp)))
        all_goals ((try simp only [Exit.inBlock, Exit.then]); refine bodyPost_ret (by simp [results, Tryz.results6, go_sem, *]; try rfl) rfl ?_)
        all_goals refine ⟨_, by rw [hrp], ?_, by exact bgr⟩
        all_goals rw [hrp]
        all_goals exact OwnS.mono (OwnS.setX (OwnS.setX (OwnS.setX ho pb hTp.out) (pb.set0) hTp.out) (pb.set0.set1) hTp.out).top (by omega) (Nat.le_refl _)
  · obtain ⟨e1, e2, e3⟩ := rp_bad (css := css) (by rw [← hg]; exact h0)
    rw [e1, e2, e3, ← hg]
    have h0' : (g != 0) = true := by simp [h0]
    clear e1 e2 e3 hC hm hg h0
    go_enter Tryz.func6, Tryz.ntmps6
    repeat' (first | fail | go_values | go_skip | go_guarded | go_step | go_upon | (simp only []; go_step) | (go_ite <;> go_prune <;> (try go_simp)))
    refine (hCH.out _ (by exact bgr)).mono ?_; rintro e w1 ⟨rfl, hbw1⟩; have hzw1 := hbw1.size; (try simp only [World.size_alloc, World.size_setCell, World.size_drew] at hzw1); have hs1 : w.heap.size < w1.heap.size := (by omega); have q1 := bx_id (w := w1) (X := w.heap.size) (o := 0) (by exact bxc); (try simp only [List.getElem_toArray, List.getElem_cons_succ, List.getElem_cons_zero] at q1); have q1 := bx_id (w := w1) (X := w.heap.size) (o := 1) (by exact bxc); (try simp only [List.getElem_toArray, List.getElem_cons_succ, List.getElem_cons_zero] at q1); have q1 := bx_id (w := w1) (X := w.heap.size) (o := 2) (by exact bxc); (try simp only [List.getElem_toArray, List.getElem_cons_succ, List.getElem_cons_zero] at q1); have z1 : ∀ o, w1.frozen? ⟨w.heap.size, o, none⟩ = false := (by exact bxm)
    repeat' (first | fail | go_values | go_skip | go_guarded | go_step | go_upon | (simp only []; go_step) | (go_ite <;> go_prune <;> (try go_simp)))
    all_goals ((try simp only [Exit.inBlock, Exit.then]); refine bodyPost_ret (by simp [results, Tryz.results6, go_sem, *]; try rfl) rfl ?_)
    all_goals exact ⟨_, rfl, OwnS.nil _ _ _, by exact bgr⟩
set_option maxRecDepth 100000 in
set_option maxHeartbeats 2400000 in
theorem spec_RunPicture (A : Option Addr) (c : Nat) (css : List Cts) (w : World) (hr : CC64 w w.heap.size A css) (hl : css.length ≤ 1099511627776) (hm : ∀ (i : Nat) (cs : Cts), css[i]? = some cs → cs.length ≤ 1099511627776) :
    Calls Tryz.prog 7 #[.slice A css.length c] w fun e w' => ∃ v, e = .returned (.tuple #[.agg #[v, .int .i64 (rpS css), .int .i64 (rpD css)], .int .i64 (scCode 60 css)]) ∧ OwnT w' w.heap.size w'.heap.size v (rpT css) ∧ Below w.heap.size w w' := by
  obtain ⟨g, hg⟩ : ∃ g, g = scCode 60 css := ⟨_, rfl⟩
  have hmH := Lib.hid hm
  have hgH := Lib.hid hg
  by_cases h0 : g = 0
  · obtain ⟨e1, e2, e3⟩ := rp_good (css := css) (by rw [← hg]; exact h0)
    obtain ⟨h1, h2, h3⟩ := scCode_ok (most := 60) (css := css) (by rw [← hg]; exact h0)
    have h60 : css.length ≤ 60 := by omega
    have hok := rpk_ok h1 h60
    rw [e1, e2, e3, ← hg, h0]
    have h1H := Lib.hid h1
    have h2H := Lib.hid h2
    have hokH := Lib.hid hok
    have h0H := Lib.hid h0
    have hTp : Hid (40 ≠ 28) := by unfold Hid; decide
    clear e1 e2 e3 h1 h2 hok hm hg h0
    go_enter Tryz.func7, Tryz.ntmps7
    repeat' (first | fail | go_values | go_skip | go_guarded | go_step | go_upon | (simp only []; go_step) | (go_ite <;> go_prune <;> (try go_simp)))
    go_loopw [4, 5] (fun mv iv wr => ∃ (k : Nat) (wv : Int), k ≤ css.length ∧ iv = .int .i64 k ∧ mv = .int .i64 wv ∧ Hid (wv = if manyB (css.take k) then 3 else 0) ∧ Hid (cssB (css.take k) = true) ∧ PBox wr w.heap.size (.slice none 0 0) 0 0 ∧ Below w.heap.size w wr) (fun _ iv _ => css.length - (intOf iv).toNat)
    case atStart => exact ⟨0, 0, Nat.zero_le _, rfl, rfl, by simp [Hid, manyB], by simp [Hid, cssB], PBox.new rfl, by exact bgr⟩
    case round =>
      obtain ⟨k, wv, hk, rfl, rfl, hwv, hcs, pb, hbr⟩ := hrel
      obtain ⟨b0, b1, b2, bf⟩ := pb.cells
      by_cases hlt : k < css.length
      · obtain ⟨cs, hx⟩ := get_of_lt hlt
        obtain ⟨bq, oq, A', c', rfl, hbq, hc, hi⟩ := (hr.up hbr).at_ hx
        have hml := hmH.out k cs hx
        have p0 : (0 : Int) ≤ (k : Int) := by omega
        have p1 : (k : Int) < (css.length : Int) := by omega
        have hwb : wv = 0 ∨ wv = 3 := by have := hwv.out; split at this <;> omega
        have hxH := Lib.hid hx
        clear hx
        cases h3 : ctsB cs
        · have e := h1H.out
          rw [cssB_no hxH.out h3] at e
          cases e
        · have e : Hid (cssB (css.take (k + 1)) = true) := by unfold Hid; rw [cssB_snoc hxH.out, hcs.out, h3]; rfl
          rcases hwb with rfl | rfl
          · by_cases h6 : cs.length ≤ 6
            · have e3 : ctCode cs = 0 := by rw [ctCode, h3, if_pos rfl, if_pos h6]
              have e2 : Hid ((0 : Int) = if manyB (css.take (k + 1)) then 3 else 0) := by unfold Hid; rw [manyB_snoc hxH.out, decide_eq_false (by omega), Bool.or_false]; exact hwv.out
              have e3H := Lib.hid e3
              clear e3
              repeat' (first | fail | go_values | go_skip | go_guarded | go_step | go_upon | (simp only []; go_step) | (go_ite <;> go_prune <;> (try go_simp)))
              refine (spec_l14Contacts _ _ _ _ (hi.up (by exact bgr)) hml).mono ?_; rintro e w2 ⟨rfl, hbw2⟩; have hzw2 := hbw2.size; (try simp only [World.size_alloc, World.size_setCell, World.size_drew] at hzw2)
              rw [e3H.out]
              have pb2 := PBox.next pb hbw2
              repeat' (first | fail | go_values | go_skip | go_guarded | go_step | go_upon | (simp only []; go_step) | (go_ite <;> go_prune <;> (try go_simp)))
              all_goals exact ⟨⟨k + 1, 0, by omega, by go_num, rfl, e2, e, pb2, by exact bgr⟩, by simp [intOf]; omega⟩
            · have e3 : ctCode cs = 3 := by rw [ctCode, h3, if_pos rfl, if_neg h6]
              have e2 : Hid ((3 : Int) = if manyB (css.take (k + 1)) then 3 else 0) := by unfold Hid; rw [manyB_snoc hxH.out, decide_eq_true (by omega), Bool.or_true]; rfl
              have e3H := Lib.hid e3
              clear e3
              repeat' (first | fail | go_values | go_skip | go_guarded | go_step | go_upon | (simp only []; go_step) | (go_ite <;> go_prune <;> (try go_simp)))
              refine (spec_l14Contacts _ _ _ _ (hi.up (by exact bgr)) hml).mono ?_; rintro e w2 ⟨rfl, hbw2⟩; have hzw2 := hbw2.size; (try simp only [World.size_alloc, World.size_setCell, World.size_drew] at hzw2)
              rw [e3H.out]
              have pb2 := PBox.next pb hbw2
              repeat' (first | fail | go_values | go_skip | go_guarded | go_step | go_upon | (simp only []; go_step) | (go_ite <;> go_prune <;> (try go_simp)))
              all_goals exact ⟨⟨k + 1, 3, by omega, by go_num, rfl, e2, e, pb2, by exact bgr⟩, by simp [intOf]; omega⟩
          · by_cases h6 : cs.length ≤ 6
            · have e3 : ctCode cs = 0 := by rw [ctCode, h3, if_pos rfl, if_pos h6]
              have e2 : Hid ((3 : Int) = if manyB (css.take (k + 1)) then 3 else 0) := by unfold Hid; rw [manyB_snoc hxH.out, decide_eq_false (by omega), Bool.or_false]; exact hwv.out
              have e3H := Lib.hid e3
              clear e3
              repeat' (first | fail | go_values | go_skip | go_guarded | go_step | go_upon | (simp only []; go_step) | (go_ite <;> go_prune <;> (try go_simp)))
              refine (spec_l14Contacts _ _ _ _ (hi.up (by exact bgr)) hml).mono ?_; rintro e w2 ⟨rfl, hbw2⟩; have hzw2 := hbw2.size; (try simp only [World.size_alloc, World.size_setCell, World.size_drew] at hzw2)
              rw [e3H.out]
              have pb2 := PBox.next pb hbw2
              repeat' (first | fail | go_values | go_skip | go_guarded | go_step | go_upon | (simp only []; go_step) | (go_ite <;> go_prune <;> (try go_simp)))
              all_goals exact ⟨⟨k + 1, 3, by omega, by go_num, rfl, e2, e, pb2, by exact bgr⟩, by simp [intOf]; omega⟩
            · have e3 : ctCode cs = 3 := by rw [ctCode, h3, if_pos rfl, if_neg h6]
              have e2 : Hid ((3 : Int) = if manyB (css.take (k + 1)) then 3 else 0) := by unfold Hid; rw [manyB_snoc hxH.out, decide_eq_true (by omega), Bool.or_true]; rfl
              have e3H := Lib.hid e3
              clear e3
              repeat' (first | fail | go_values | go_skip | go_guarded | go_step | go_upon | (simp only []; go_step) | (go_ite <;> go_prune <;> (try go_simp)))
              refine (spec_l14Contacts _ _ _ _ (hi.up (by exact bgr)) hml).mono ?_; rintro e w2 ⟨rfl, hbw2⟩; have hzw2 := hbw2.size; (try simp only [World.size_alloc, World.size_setCell, World.size_drew] at hzw2)
              rw [e3H.out]
              have pb2 := PBox.next pb hbw2
              repeat' (first | fail | go_values | go_skip | go_guarded | go_step | go_upon | (simp only []; go_step) | (go_ite <;> go_prune <;> (try go_simp)))
              all_goals exact ⟨⟨k + 1, 3, by omega, by go_num, rfl, e2, e, pb2, by exact bgr⟩, by simp [intOf]; omega⟩
      · have et : css.take k = css := List.take_of_length_le (by omega)
        have hwv1 : wv = 0 := by
          have := hwv.out
          rw [et, h2H.out] at this
          exact this
        have hl60 : ¬ (60 : Int) < (css.length : Int) := by omega
        subst hwv1
        clear et hcs hwv
        repeat' (first | fail | go_values | go_skip | go_guarded | go_step | go_upon | (simp only []; go_step) | (go_ite <;> go_prune <;> (try go_simp)))
        obtain ⟨X, hX⟩ : ∃ X, X = wr.heap.size := ⟨_, rfl⟩
        refine wp_gen (fun W4 hW4 => ?_)
        have px : PBox W4 X (.slice none 0 0) 0 0 := by rw [hW4, hX]; exact PBox.new rfl
        have B4 : Below wr.heap.size wr W4 := by rw [hW4]; exact bgr
        have pb4 := pb.next B4
        have zb := pb.lt
        have B5 : Below w.heap.size w W4 := hbr.trans (B4.mono (by omega))
        rw [← hX]
        have zX : w.heap.size < X := by omega
        clear hW4 pb B4 hbr hX b0 b1 b2 bf
        go_loopw [8] (fun iv wr => ∃ (v : Value) (j : Nat), j ≤ css.length ∧ iv = .int .i64 j ∧ PBox wr X v (j : Int) (rpk css j).2 ∧ OwnT wr (w.heap.size + 1) wr.heap.size v (rpk css j).1 ∧ PBox wr w.heap.size (.slice none 0 0) 0 0 ∧ Below w.heap.size w wr) (fun iv _ => css.length - (intOf iv).toNat)
        case atStart => exact ⟨_, 0, Nat.zero_le _, rfl, px, OwnS.nil _ _ _, pb4, B5⟩
        case round =>
          clear px pb4 B5
          obtain ⟨v, j, hj, rfl, px, ho, pb, hbr⟩ := hrel
          have hpc := hokH.out j hj
          rcases hrp : rpk css j with ⟨ts, d⟩
          rw [hrp] at px ho hpc
          obtain ⟨x0, x1, x2, xf⟩ := px.cells
          have zx := px.lt
          obtain ⟨b0, b1, b2, bf⟩ := pb.cells
          obtain ⟨Av, cv, rfl⟩ := OwnS.form ho
          obtain ⟨h6, hs0, hd0, hT⟩ := pc_facts hpc
          by_cases hlt : j < css.length
          · obtain ⟨cs, hx⟩ := get_of_lt hlt
            obtain ⟨bq, o, A', c', rfl, hbq, hc, hi⟩ := (hr.up hbr).at_ hx
            have h7 := manyB_of h2H.out hx
            have hcs := Lib.hid (cssB_of h1H.out hx)
            have hsu := Lib.hid (rpk_succ hx)
            rw [hrp] at hsu
            have hTH := Lib.hid hT
            have hrH := Lib.hid (OwnS.rdT ho)
            have p0 : (0 : Int) ≤ (j : Int) := by omega
            have p1 : (j : Int) < (css.length : Int) := by omega
            clear hx hT hpc hrp
            repeat' (first | fail | go_values | go_skip | go_guarded | go_step | go_upon | (simp only []; go_step) | (go_ite <;> go_prune <;> (try go_simp)))
            go_still_tail 5, (by kernel_rfl)
            change wpList _ _ _ _ _ wr.drew
            repeat' (first | fail | go_values | go_skip | go_guarded | go_step | go_upon | (simp only []; go_step) | (go_ite <;> go_prune <;> (try go_simp)))
            refine (spec_l17Step _ _ _ _ ts j d cs _ (hrH.out.up (by exact bgr)) (hi.up (by exact bgr)) h6 h7 hTH.out hcs.out hs0 hd0).mono ?_; rintro e w2 ⟨v2, rfl, o2, hbw2⟩; have hzw2 := hbw2.size; (try simp only [World.size_alloc, World.size_setCell, World.size_drew] at hzw2)
            obtain ⟨A9, c9, rfl⟩ := OwnS.form o2
            have px2 := PBox.next (w := wr.drew) px hbw2
            have pb2 := PBox.next (w := wr.drew) pb hbw2
            have B2 : Below w.heap.size w w2 := by exact bgr
            obtain ⟨y0, y1, y2, yf⟩ := px2.cells
            have o2 := OwnS.mono (lo' := w.heap.size + 1) o2 (by have := pb.lt; simp only [World.size_drew]; omega) (Nat.le_refl _)
            repeat' (first | fail | go_values | go_skip | go_guarded | go_step | go_upon | (simp only []; go_step) | (go_ite <;> go_prune <;> (try go_simp)))
            all_goals exact ⟨⟨_, j + 1, by omega, by go_num, by rw [hsu.out]; exact px2.set0.set1.set2, by rw [hsu.out]; exact (OwnS.setX (OwnS.setX (OwnS.setX o2 px2 hTp.out) px2.set0 hTp.out) px2.set0.set1 hTp.out).top, ((pb2.far (by omega)).far (by omega)).far (by omega), by exact bgr⟩, by simp [intOf]; omega⟩
          · have e : j = css.length := by omega
            subst e
            repeat' (first | fail | go_values | go_skip | go_guarded | go_step | go_upon | (simp only []; go_step) | (go_ite <;> go_prune <;> (try go_simp)))
            all_goals ((try simp only [Exit.inBlock, Exit.then]); refine bodyPost_ret (by simp [results, Tryz.results7, go_sem, *]; try rfl) rfl ?_)
            all_goals refine ⟨_, by rw [hrp], ?_, by exact bgr⟩
            all_goals rw [hrp]
            all_goals exact OwnS.mono (OwnS.setX (OwnS.setX (OwnS.setX ho pb hTp.out) (pb.set0) hTp.out) (pb.set0.set1) hTp.out).top (by omega) (Nat.le_refl _)
  · obtain ⟨e1, e2, e3⟩ := rp_bad (css := css) (by rw [← hg]; exact h0)
    rw [e1, e2, e3, ← hg]
    have h0H := Lib.hid h0
    clear e1 e2 e3 hm hg h0
    go_enter Tryz.func7, Tryz.ntmps7
    repeat' (first | fail | go_values | go_skip | go_guarded | go_step | go_upon | (simp only []; go_step) | (go_ite <;> go_prune <;> (try go_simp)))
    go_loopw [4, 5] (fun mv iv wr => ∃ (k : Nat) (wv : Int), k ≤ css.length ∧ iv = .int .i64 k ∧ mv = .int .i64 wv ∧ Hid (wv = if manyB (css.take k) then 3 else 0) ∧ Hid (cssB (css.take k) = true) ∧ PBox wr w.heap.size (.slice none 0 0) 0 0 ∧ Below w.heap.size w wr) (fun _ iv _ => css.length - (intOf iv).toNat)
    case atStart => exact ⟨0, 0, Nat.zero_le _, rfl, rfl, by simp [Hid, manyB], by simp [Hid, cssB], PBox.new rfl, by exact bgr⟩
    case round =>
      obtain ⟨k, wv, hk, rfl, rfl, hwv, hcs, pb, hbr⟩ := hrel
      obtain ⟨b0, b1, b2, bf⟩ := pb.cells
      by_cases hlt : k < css.length
      · obtain ⟨cs, hx⟩ := get_of_lt hlt
        obtain ⟨bq, oq, A', c', rfl, hbq, hc, hi⟩ := (hr.up hbr).at_ hx
        have hml := hmH.out k cs hx
        have p0 : (0 : Int) ≤ (k : Int) := by omega
        have p1 : (k : Int) < (css.length : Int) := by omega
        have hwb : wv = 0 ∨ wv = 3 := by have := hwv.out; split at this <;> omega
        have hxH := Lib.hid hx
        clear hx
        cases h3 : ctsB cs
        · have e : cssB css = false := cssB_no hxH.out h3
          have e1 : g = 1 := by rw [hgH.out]; exact sc_1 e
          have e3 : ctCode cs = 1 := by rw [ctCode, h3]; rfl
          have e3H := Lib.hid e3
          have e1H := Lib.hid e1
          clear e e3 e1
          repeat' (first | fail | go_values | go_skip | go_guarded | go_step | go_upon | (simp only []; go_step) | (go_ite <;> go_prune <;> (try go_simp)))
          refine (spec_l14Contacts _ _ _ _ (hi.up (by exact bgr)) hml).mono ?_; rintro e w2 ⟨rfl, hbw2⟩; have hzw2 := hbw2.size; (try simp only [World.size_alloc, World.size_setCell, World.size_drew] at hzw2)
          rw [e3H.out]
          have pb2 := PBox.next pb hbw2
          obtain ⟨y0, y1, y2, yf⟩ := pb2.cells
          repeat' (first | fail | go_values | go_skip | go_guarded | go_step | go_upon | (simp only []; go_step) | (go_ite <;> go_prune <;> (try go_simp)))
          rw [e1H.out]
          all_goals ((try simp only [Exit.inBlock, Exit.then]); refine bodyPost_ret (by simp [results, Tryz.results7, go_sem, *]; try rfl) rfl ?_)
          all_goals exact ⟨_, rfl, OwnS.nil _ _ _, by exact bgr⟩
        · have e : Hid (cssB (css.take (k + 1)) = true) := by unfold Hid; rw [cssB_snoc hxH.out, hcs.out, h3]; rfl
          rcases hwb with rfl | rfl
          · by_cases h6 : cs.length ≤ 6
            · have e3 : ctCode cs = 0 := by rw [ctCode, h3, if_pos rfl, if_pos h6]
              have e2 : Hid ((0 : Int) = if manyB (css.take (k + 1)) then 3 else 0) := by unfold Hid; rw [manyB_snoc hxH.out, decide_eq_false (by omega), Bool.or_false]; exact hwv.out
              have e3H := Lib.hid e3
              clear e3
              repeat' (first | fail | go_values | go_skip | go_guarded | go_step | go_upon | (simp only []; go_step) | (go_ite <;> go_prune <;> (try go_simp)))
              refine (spec_l14Contacts _ _ _ _ (hi.up (by exact bgr)) hml).mono ?_; rintro e w2 ⟨rfl, hbw2⟩; have hzw2 := hbw2.size; (try simp only [World.size_alloc, World.size_setCell, World.size_drew] at hzw2)
              rw [e3H.out]
              have pb2 := PBox.next pb hbw2
              repeat' (first | fail | go_values | go_skip | go_guarded | go_step | go_upon | (simp only []; go_step) | (go_ite <;> go_prune <;> (try go_simp)))
              all_goals exact ⟨⟨k + 1, 0, by omega, by go_num, rfl, e2, e, pb2, by exact bgr⟩, by simp [intOf]; omega⟩
            · have e3 : ctCode cs = 3 := by rw [ctCode, h3, if_pos rfl, if_neg h6]
              have e2 : Hid ((3 : Int) = if manyB (css.take (k + 1)) then 3 else 0) := by unfold Hid; rw [manyB_snoc hxH.out, decide_eq_true (by omega), Bool.or_true]; rfl
              have e3H := Lib.hid e3
              clear e3
              repeat' (first | fail | go_values | go_skip | go_guarded | go_step | go_upon | (simp only []; go_step) | (go_ite <;> go_prune <;> (try go_simp)))
              refine (spec_l14Contacts _ _ _ _ (hi.up (by exact bgr)) hml).mono ?_; rintro e w2 ⟨rfl, hbw2⟩; have hzw2 := hbw2.size; (try simp only [World.size_alloc, World.size_setCell, World.size_drew] at hzw2)
              rw [e3H.out]
              have pb2 := PBox.next pb hbw2
              repeat' (first | fail | go_values | go_skip | go_guarded | go_step | go_upon | (simp only []; go_step) | (go_ite <;> go_prune <;> (try go_simp)))
              all_goals exact ⟨⟨k + 1, 3, by omega, by go_num, rfl, e2, e, pb2, by exact bgr⟩, by simp [intOf]; omega⟩
          · by_cases h6 : cs.length ≤ 6
            · have e3 : ctCode cs = 0 := by rw [ctCode, h3, if_pos rfl, if_pos h6]
              have e2 : Hid ((3 : Int) = if manyB (css.take (k + 1)) then 3 else 0) := by unfold Hid; rw [manyB_snoc hxH.out, decide_eq_false (by omega), Bool.or_false]; exact hwv.out
              have e3H := Lib.hid e3
              clear e3
              repeat' (first | fail | go_values | go_skip | go_guarded | go_step | go_upon | (simp only []; go_step) | (go_ite <;> go_prune <;> (try go_simp)))
              refine (spec_l14Contacts _ _ _ _ (hi.up (by exact bgr)) hml).mono ?_; rintro e w2 ⟨rfl, hbw2⟩; have hzw2 := hbw2.size; (try simp only [World.size_alloc, World.size_setCell, World.size_drew] at hzw2)
              rw [e3H.out]
              have pb2 := PBox.next pb hbw2
              repeat' (first | fail | go_values | go_skip | go_guarded | go_step | go_upon | (simp only []; go_step) | (go_ite <;> go_prune <;> (try go_simp)))
              all_goals exact ⟨⟨k + 1, 3, by omega, by go_num, rfl, e2, e, pb2, by exact bgr⟩, by simp [intOf]; omega⟩
            · have e3 : ctCode cs = 3 := by rw [ctCode, h3, if_pos rfl, if_neg h6]
              have e2 : Hid ((3 : Int) = if manyB (css.take (k + 1)) then 3 else 0) := by unfold Hid; rw [manyB_snoc hxH.out, decide_eq_true (by omega), Bool.or_true]; rfl
              have e3H := Lib.hid e3
              clear e3
              repeat' (first | fail | go_values | go_skip | go_guarded | go_step | go_upon | (simp only []; go_step) | (go_ite <;> go_prune <;> (try go_simp)))
              refine (spec_l14Contacts _ _ _ _ (hi.up (by exact bgr)) hml).mono ?_; rintro e w2 ⟨rfl, hbw2⟩; have hzw2 := hbw2.size; (try simp only [World.size_alloc, World.size_setCell, World.size_drew] at hzw2)
              rw [e3H.out]
              have pb2 := PBox.next pb hbw2
              repeat' (first | fail | go_values | go_skip | go_guarded | go_step | go_upon | (simp only []; go_step) | (go_ite <;> go_prune <;> (try go_simp)))
              all_goals exact ⟨⟨k + 1, 3, by omega, by go_num, rfl, e2, e, pb2, by exact bgr⟩, by simp [intOf]; omega⟩
      · have et : css.take k = css := List.take_of_length_le (by omega)
        have hcs1 : cssB css = true := by have := hcs.out; rw [et] at this; exact this
        have hwv1 : wv = if manyB css then 3 else 0 := by have := hwv.out; rw [et] at this; exact this
        clear et hcs hwv
        cases hmn : manyB css
        · have h200 : (60 : Int) < (css.length : Int) := by
            by_cases h : (60 : Int) < (css.length : Int)
            · exact h
            · exact absurd (by rw [hgH.out]; exact sc_0 hcs1 hmn h) h0H.out
          have e1 : g = 3 := by rw [hgH.out]; exact sc_3 hcs1 (.inr h200)
          have e2 : wv = 0 := by rw [hwv1, hmn]; rfl
          have e1H := Lib.hid e1
          subst e2
          clear hwv1 hcs1 e1
          repeat' (first | fail | go_values | go_skip | go_guarded | go_step | go_upon | (simp only []; go_step) | (go_ite <;> go_prune <;> (try go_simp)))
          rw [e1H.out]
          all_goals ((try simp only [Exit.inBlock, Exit.then]); refine bodyPost_ret (by simp [results, Tryz.results7, go_sem, *]; try rfl) rfl ?_)
          all_goals exact ⟨_, rfl, OwnS.nil _ _ _, by exact bgr⟩
        · have e1 : g = 3 := by rw [hgH.out]; exact sc_3 hcs1 (.inl hmn)
          have e2 : wv = 3 := by rw [hwv1, hmn]; rfl
          have e1H := Lib.hid e1
          subst e2
          clear hwv1 hcs1 e1
          repeat' (first | fail | go_values | go_skip | go_guarded | go_step | go_upon | (simp only []; go_step) | (go_ite <;> go_prune <;> (try go_simp)))
          rw [e1H.out]
          all_goals ((try simp only [Exit.inBlock, Exit.then]); refine bodyPost_ret (by simp [results, Tryz.results7, go_sem, *]; try rfl) rfl ?_)
          all_goals exact ⟨_, rfl, OwnS.nil _ _ _, by exact bgr⟩
end Go.Proofs.YthbljfanoaibkaaGreatDoor
namespace Go.Proofs.YthbljfanoaibkaaGreatDoor
open Go.RowKit Go.ChangeShapes Go.WideShapes Go.ChangeAt
set_option linter.unusedVariables false
set_option linter.unusedSimpArgs false
set_option maxRecDepth 100000 in
set_option maxHeartbeats 1600000 in
theorem impl_StepPicture (A B : Option Addr) (c e : Nat) (ts : List Tr) (s d : Int) (cs : List (Int × Int)) (w : World) (hr : T64 w w.heap.size A ts) (hs : C64 w w.heap.size B cs) (hl : ts.length ≤ 1099511627776) (hm : cs.length ≤ 1099511627776) :
    Calls Tryz.prog 18 #[.agg #[.slice A ts.length c, .int .i64 s, .int .i64 d], .slice B cs.length e] w fun e w' => ∃ v, e = .returned (.tuple #[.agg #[v, .int .i64 (fStS ts s d cs), .int .i64 (fStD ts s d cs)], .int .i64 (spCode ts s d cs)]) ∧ OwnT w' w.heap.size w'.heap.size v (fStT ts s d cs) ∧ Below w.heap.size w w' := by
  obtain ⟨g, hg⟩ : ∃ g, g = pnCode ts s d cs := ⟨_, rfl⟩
  by_cases h0 : g = 0
  · have h1 : pnCode ts s d cs = 0 := by rw [← hg]; exact h0
    obtain ⟨hp, hc, h7⟩ := pn_ok h1
    obtain ⟨h6, hs0, hd0, hT⟩ := pc_facts hp
    by_cases h60 : s = 60
    · subst h60
      have e0 : spCode ts 60 d cs = 3 := by rw [spCode, if_pos h1]; rfl
      obtain ⟨e1, e2, e3⟩ := sp_bad (by rw [e0]; omega)
      rw [e0, e1, e2, e3]
      have h1H := Lib.hid h1
      clear e0 e1 e2 e3 hp hT hc h1 hg h0
      go_enter Tryz.func18, Tryz.ntmps18
      repeat' (first | fail | go_values | go_skip | go_guarded | go_step | go_upon | (simp only []; go_step) | (go_ite <;> go_prune <;> (try go_simp)))
      refine (impl_scanCode _ _ _ _ _ _ _ _ _ (hr.up (by exact bgr)) (hs.up (by exact bgr)) hl hm).mono ?_; rintro e w1 ⟨rfl, hbw1⟩; have hzw1 := hbw1.size; (try simp only [World.size_alloc, World.size_setCell, World.size_drew] at hzw1); have hs1 : w.heap.size < w1.heap.size := (by omega); have q1 := bx_id (w := w1) (X := w.heap.size) (o := 0) (by exact bxc); (try simp only [List.getElem_toArray, List.getElem_cons_succ, List.getElem_cons_zero] at q1); have q1 := bx_id (w := w1) (X := w.heap.size) (o := 1) (by exact bxc); (try simp only [List.getElem_toArray, List.getElem_cons_succ, List.getElem_cons_zero] at q1); have q1 := bx_id (w := w1) (X := w.heap.size) (o := 2) (by exact bxc); (try simp only [List.getElem_toArray, List.getElem_cons_succ, List.getElem_cons_zero] at q1); have z1 : ∀ o, w1.frozen? ⟨w.heap.size, o, none⟩ = false := (by exact bxm); have hs1 : w.heap.size + 1 < w1.heap.size := (by omega); have q1 := bx_id (w := w1) (X := w.heap.size + 1) (o := 0) (by exact bxc); (try simp only [List.getElem_toArray, List.getElem_cons_succ, List.getElem_cons_zero] at q1); have q1 := bx_id (w := w1) (X := w.heap.size + 1) (o := 1) (by exact bxc); (try simp only [List.getElem_toArray, List.getElem_cons_succ, List.getElem_cons_zero] at q1); have q1 := bx_id (w := w1) (X := w.heap.size + 1) (o := 2) (by exact bxc); (try simp only [List.getElem_toArray, List.getElem_cons_succ, List.getElem_cons_zero] at q1); have z1 : ∀ o, w1.frozen? ⟨w.heap.size + 1, o, none⟩ = false := (by exact bxm)
      rw [h1H.out]
      repeat' (first | fail | go_values | go_skip | go_guarded | go_step | go_upon | (simp only []; go_step) | (go_ite <;> go_prune <;> (try go_simp)))
      all_goals ((try simp only [Exit.inBlock, Exit.then]); refine bodyPost_ret (by simp [results, Tryz.results18, go_sem, *]; try rfl) rfl ?_)
      all_goals exact ⟨_, rfl, OwnS.nil _ _ _, by exact bgr⟩
    · have e0 : spCode ts s d cs = 0 := by simp [spCode, h1, h60]
      obtain ⟨e1, e2, e3⟩ := sp_good e0
      have hS := fun w' A' c' B' e' (hr' : T64 w' w'.heap.size A' ts) (hs' : C64 w' w'.heap.size B' cs) => impl_stepP A' B' c' e' ts s d cs w' hr' hs' h6 h7 hT hc hs0 hd0
      obtain ⟨D, hD⟩ : ∃ D, D = stD ts d cs := ⟨_, rfl⟩
      rw [← hD] at hS
      rw [e0, e1, e2, e3, ← hD]
      have h1H := Lib.hid h1
      have hSH := Lib.hid hS
      have n60 : (s == 60) = false := by simp [h60]
      clear e0 e1 e2 e3 hp hT hc h1 hg h0 hS hD
      go_enter Tryz.func18, Tryz.ntmps18
      repeat' (first | fail | go_values | go_skip | go_guarded | go_step | go_upon | (simp only []; go_step) | (go_ite <;> go_prune <;> (try go_simp)))
      refine (impl_scanCode _ _ _ _ _ _ _ _ _ (hr.up (by exact bgr)) (hs.up (by exact bgr)) hl hm).mono ?_; rintro e w1 ⟨rfl, hbw1⟩; have hzw1 := hbw1.size; (try simp only [World.size_alloc, World.size_setCell, World.size_drew] at hzw1); have hs1 : w.heap.size < w1.heap.size := (by omega); have q1 := bx_id (w := w1) (X := w.heap.size) (o := 0) (by exact bxc); (try simp only [List.getElem_toArray, List.getElem_cons_succ, List.getElem_cons_zero] at q1); have q1 := bx_id (w := w1) (X := w.heap.size) (o := 1) (by exact bxc); (try simp only [List.getElem_toArray, List.getElem_cons_succ, List.getElem_cons_zero] at q1); have q1 := bx_id (w := w1) (X := w.heap.size) (o := 2) (by exact bxc); (try simp only [List.getElem_toArray, List.getElem_cons_succ, List.getElem_cons_zero] at q1); have z1 : ∀ o, w1.frozen? ⟨w.heap.size, o, none⟩ = false := (by exact bxm); have hs1 : w.heap.size + 1 < w1.heap.size := (by omega); have q1 := bx_id (w := w1) (X := w.heap.size + 1) (o := 0) (by exact bxc); (try simp only [List.getElem_toArray, List.getElem_cons_succ, List.getElem_cons_zero] at q1); have q1 := bx_id (w := w1) (X := w.heap.size + 1) (o := 1) (by exact bxc); (try simp only [List.getElem_toArray, List.getElem_cons_succ, List.getElem_cons_zero] at q1); have q1 := bx_id (w := w1) (X := w.heap.size + 1) (o := 2) (by exact bxc); (try simp only [List.getElem_toArray, List.getElem_cons_succ, List.getElem_cons_zero] at q1); have z1 : ∀ o, w1.frozen? ⟨w.heap.size + 1, o, none⟩ = false := (by exact bxm)
      rw [h1H.out]
      repeat' (first | fail | go_values | go_skip | go_guarded | go_step | go_upon | (simp only []; go_step) | (go_ite <;> go_prune <;> (try go_simp)))
      refine (hSH.out _ _ _ _ _ (hr.up (by exact bgr)) (hs.up (by exact bgr))).mono ?_; rintro e w2 ⟨v2, rfl, o2, hbw2⟩; have hzw2 := hbw2.size; (try simp only [World.size_alloc, World.size_setCell, World.size_drew] at hzw2); have hs1 : w.heap.size < w2.heap.size := (by omega); have q1 := bx_id (w := w2) (X := w.heap.size) (o := 0) (by exact bxc); (try simp only [List.getElem_toArray, List.getElem_cons_succ, List.getElem_cons_zero] at q1); have q1 := bx_id (w := w2) (X := w.heap.size) (o := 1) (by exact bxc); (try simp only [List.getElem_toArray, List.getElem_cons_succ, List.getElem_cons_zero] at q1); have q1 := bx_id (w := w2) (X := w.heap.size) (o := 2) (by exact bxc); (try simp only [List.getElem_toArray, List.getElem_cons_succ, List.getElem_cons_zero] at q1); have z1 : ∀ o, w2.frozen? ⟨w.heap.size, o, none⟩ = false := (by exact bxm); have hs1 : w.heap.size + 1 < w2.heap.size := (by omega); have q1 := bx_id (w := w2) (X := w.heap.size + 1) (o := 0) (by exact bxc); (try simp only [List.getElem_toArray, List.getElem_cons_succ, List.getElem_cons_zero] at q1); have q1 := bx_id (w := w2) (X := w.heap.size + 1) (o := 1) (by exact bxc); (try simp only [List.getElem_toArray, List.getElem_cons_succ, List.getElem_cons_zero] at q1); have q1 := bx_id (w := w2) (X := w.heap.size + 1) (o := 2) (by exact bxc); (try simp only [List.getElem_toArray, List.getElem_cons_succ, List.getElem_cons_zero] at q1); have z1 : ∀ o, w2.frozen? ⟨w.heap.size + 1, o, none⟩ = false := (by exact bxm)
      obtain ⟨A2, c2, rfl⟩ := OwnS.form o2
      have B2 : Below w.heap.size w w2 := by exact bgr
      have z2 : w.heap.size ≤ w1.heap.size := by have := hbw1.size; simp only [World.size_alloc] at *; omega
      repeat' (first | fail | go_values | go_skip | go_guarded | go_step | go_upon | (simp only []; go_step) | (go_ite <;> go_prune <;> (try go_simp)))
      all_goals ((try simp only [Exit.inBlock, Exit.then]); refine bodyPost_ret (by simp [results, Tryz.results18, go_sem, *]; try rfl) rfl ?_)
      all_goals exact ⟨_, rfl, OwnS.mono (OwnS.top (OwnS.off1 (OwnS.off1 (OwnS.off1 o2 (by omega)) (by omega)) (by omega))) (by first | omega | (simp only [World.size_alloc] at *; omega)) (Nat.le_refl _), by exact bgr⟩
  · have e0 : spCode ts s d cs = g := by simp [spCode, ← hg, h0]
    obtain ⟨e1, e2, e3⟩ := sp_bad (by rw [e0]; exact h0)
    rw [e0, e1, e2, e3]
    have hgH := Lib.hid hg
    have h0' : (g != 0) = true := by simp [h0]
    clear e0 e1 e2 e3 hg
    go_enter Tryz.func18, Tryz.ntmps18
    repeat' (first | fail | go_values | go_skip | go_guarded | go_step | go_upon | (simp only []; go_step) | (go_ite <;> go_prune <;> (try go_simp)))
    refine (impl_scanCode _ _ _ _ _ _ _ _ _ (hr.up (by exact bgr)) (hs.up (by exact bgr)) hl hm).mono ?_; rintro e w1 ⟨rfl, hbw1⟩; have hzw1 := hbw1.size; (try simp only [World.size_alloc, World.size_setCell, World.size_drew] at hzw1); have hs1 : w.heap.size < w1.heap.size := (by omega); have q1 := bx_id (w := w1) (X := w.heap.size) (o := 0) (by exact bxc); (try simp only [List.getElem_toArray, List.getElem_cons_succ, List.getElem_cons_zero] at q1); have q1 := bx_id (w := w1) (X := w.heap.size) (o := 1) (by exact bxc); (try simp only [List.getElem_toArray, List.getElem_cons_succ, List.getElem_cons_zero] at q1); have q1 := bx_id (w := w1) (X := w.heap.size) (o := 2) (by exact bxc); (try simp only [List.getElem_toArray, List.getElem_cons_succ, List.getElem_cons_zero] at q1); have z1 : ∀ o, w1.frozen? ⟨w.heap.size, o, none⟩ = false := (by exact bxm); have hs1 : w.heap.size + 1 < w1.heap.size := (by omega); have q1 := bx_id (w := w1) (X := w.heap.size + 1) (o := 0) (by exact bxc); (try simp only [List.getElem_toArray, List.getElem_cons_succ, List.getElem_cons_zero] at q1); have q1 := bx_id (w := w1) (X := w.heap.size + 1) (o := 1) (by exact bxc); (try simp only [List.getElem_toArray, List.getElem_cons_succ, List.getElem_cons_zero] at q1); have q1 := bx_id (w := w1) (X := w.heap.size + 1) (o := 2) (by exact bxc); (try simp only [List.getElem_toArray, List.getElem_cons_succ, List.getElem_cons_zero] at q1); have z1 : ∀ o, w1.frozen? ⟨w.heap.size + 1, o, none⟩ = false := (by exact bxm)
    rw [← hgH.out]
    repeat' (first | fail | go_values | go_skip | go_guarded | go_step | go_upon | (simp only []; go_step) | (go_ite <;> go_prune <;> (try go_simp)))
    all_goals ((try simp only [Exit.inBlock, Exit.then]); refine bodyPost_ret (by simp [results, Tryz.results18, go_sem, *]; try rfl) rfl ?_)
    all_goals exact ⟨_, rfl, OwnS.nil _ _ _, by exact bgr⟩
end Go.Proofs.YthbljfanoaibkaaGreatDoor
namespace Go.Proofs.YthbljfanoaibkaaGreatDoor
open Go.RowKit Go.ChangeShapes Go.WideShapes Go.ChangeAt
set_option linter.unusedVariables false
set_option linter.unusedSimpArgs false
theorem push_intH {ops : Array Oper} {rest : List Oper} {o : Oper} {a : Act} {Q : Exit → Act → World → Prop} {W : World} {y : Int} {xs : List Int} {v : Value} {base : Nat} (H : Nat) (hH : W.heap.size = H) (hown : OwnI W base v xs) (hgd : o.guard = none) (s x : Operand)
    (ho : o.op = .call { callee := .builtin .append, args := #[s, x], argTypes := #[34, 34] }) (hs : a.eval s = v) (hx : a.eval x = .slice (some ⟨H, 0, none⟩) 1 1) (hbase : base ≤ W.heap.size) (hb : xs.length ≤ 1099511627776)
    (h : ∀ v' w', OwnI w' base v' (xs ++ [y]) → W.grownBy w' v.ownBlock → Below base W w' → wpList Tryz.prog ops Q rest (a.put o.dst v') w') : wpList Tryz.prog ops Q (o :: rest) a (W.alloc (.cells #[.int .i64 y] 2)) := by
  subst hH; exact push_int hown hgd s x ho hs hx hbase hb h
def t0 : Tr := ⟨0, 0, 0, 0, 0, 0, 0, 0⟩
def cfB (ts : List Tr) (j : Nat) : Bool := decide ((ts.getD j t0).t = 1)
/-- the indices of the confirmed ones among the first n -/
def cfk (ts : List Tr) (n : Nat) : List Int := ((List.range n).filter (cfB ts)).map fun (j : Nat) => (j : Int)
theorem cfk_succ {ts : List Tr} {n : Nat} : cfk ts (n + 1) = cfk ts n ++ if cfB ts n then [(n : Int)] else [] := by
  rw [cfk, List.range_succ, List.filter_append, List.map_append]
  cases h : cfB ts n <;> simp [cfk, h]
theorem cfk_zero {ts : List Tr} : cfk ts 0 = [] := by simp [cfk]
theorem cfk_len {ts : List Tr} {n : Nat} : (cfk ts n).length ≤ n := by
  rw [cfk, List.length_map]
  exact Nat.le_trans (List.length_filter_le _ _) (by simp)
theorem cfB_of {ts : List Tr} {k : Nat} {T : Tr} (h : ts[k]? = some T) : cfB ts k = decide (T.t = 1) := by simp [cfB, List.getD, h]
def fConf (ts : List Tr) (s d : Int) : List Int := if pcB ts s d then cfk ts ts.length else []
def pcCode (ts : List Tr) (s d : Int) : Int := if pcB ts s d then 0 else 1
theorem fConf_len {ts : List Tr} {s d : Int} : (fConf ts s d).length ≤ 6 := by
  unfold fConf
  split
  · rename_i h
    have := (pc_facts h).1
    have := cfk_len (ts := ts) (n := ts.length)
    omega
  · simp
set_option maxRecDepth 100000 in
set_option maxHeartbeats 1600000 in
theorem impl_ConfirmedIn (A : Option Addr) (c : Nat) (ts : List Tr) (s d : Int) (w : World) (hr : T64 w w.heap.size A ts) (hl : ts.length ≤ 1099511627776) :
    Calls Tryz.prog 11 #[.agg #[.slice A ts.length c, .int .i64 s, .int .i64 d]] w fun e w' => ∃ v, e = .returned (.tuple #[v, .int .i64 (pcCode ts s d)]) ∧ OwnI w' w.heap.size v (fConf ts s d) ∧ Below w.heap.size w w' := by
  cases hb : pcB ts s d
  · have e1 : pcCode ts s d = 1 := by simp [pcCode, hb]
    have e2 : fConf ts s d = [] := by simp [fConf, hb]
    rw [e1, e2]
    clear e1 e2
    go_enter Tryz.func11, Tryz.ntmps11
    repeat' (first | fail | go_values | go_skip | go_guarded | go_step | go_upon | (simp only []; go_step) | (go_ite <;> go_prune <;> (try go_simp)))
    refine (impl_IsPicture _ _ _ _ _ _ (hr.up (by exact bgr)) hl).mono ?_; rintro e w1 ⟨rfl, hbw1⟩; have hzw1 := hbw1.size; (try simp only [World.size_alloc, World.size_setCell, World.size_drew] at hzw1); have hs1 : w.heap.size < w1.heap.size := (by omega); have q1 := bx_id (w := w1) (X := w.heap.size) (o := 0) (by exact bxc); (try simp only [List.getElem_toArray, List.getElem_cons_succ, List.getElem_cons_zero] at q1); have q1 := bx_id (w := w1) (X := w.heap.size) (o := 1) (by exact bxc); (try simp only [List.getElem_toArray, List.getElem_cons_succ, List.getElem_cons_zero] at q1); have q1 := bx_id (w := w1) (X := w.heap.size) (o := 2) (by exact bxc); (try simp only [List.getElem_toArray, List.getElem_cons_succ, List.getElem_cons_zero] at q1); have z1 : ∀ o, w1.frozen? ⟨w.heap.size, o, none⟩ = false := (by exact bxm)
    rw [hb]
    repeat' (first | fail | go_values | go_skip | go_guarded | go_step | go_upon | (simp only []; go_step) | (go_ite <;> go_prune <;> (try go_simp)))
    all_goals go_returns
    all_goals exact ⟨_, rfl, OwnI.nil _ _, by exact bgr⟩
  · have e1 : pcCode ts s d = 0 := by simp [pcCode, hb]
    have e2 : fConf ts s d = cfk ts ts.length := by simp [fConf, hb]
    have h6 := (pc_facts hb).1
    rw [e1, e2]
    clear e1 e2
    go_enter Tryz.func11, Tryz.ntmps11
    repeat' (first | fail | go_values | go_skip | go_guarded | go_step | go_upon | (simp only []; go_step) | (go_ite <;> go_prune <;> (try go_simp)))
    refine (impl_IsPicture _ _ _ _ _ _ (hr.up (by exact bgr)) hl).mono ?_; rintro e w1 ⟨rfl, hbw1⟩; have hzw1 := hbw1.size; (try simp only [World.size_alloc, World.size_setCell, World.size_drew] at hzw1); have hs1 : w.heap.size < w1.heap.size := (by omega); have q1 := bx_id (w := w1) (X := w.heap.size) (o := 0) (by exact bxc); (try simp only [List.getElem_toArray, List.getElem_cons_succ, List.getElem_cons_zero] at q1); have q1 := bx_id (w := w1) (X := w.heap.size) (o := 1) (by exact bxc); (try simp only [List.getElem_toArray, List.getElem_cons_succ, List.getElem_cons_zero] at q1); have q1 := bx_id (w := w1) (X := w.heap.size) (o := 2) (by exact bxc); (try simp only [List.getElem_toArray, List.getElem_cons_succ, List.getElem_cons_zero] at q1); have z1 : ∀ o, w1.frozen? ⟨w.heap.size, o, none⟩ = false := (by exact bxm)
    rw [hb]
    have hbH := Lib.hid hb
    clear hb
    repeat' (first | fail | go_values | go_skip | go_guarded | go_step | go_upon | (simp only []; go_step) | (go_ite <;> go_prune <;> (try go_simp)))
    go_loopw [4, 13] (fun x iv wr => ∃ (v : Value) (k : Nat), v = x ∧ k ≤ ts.length ∧ iv = .int .i64 k ∧ OwnI wr w.heap.size v (cfk ts k) ∧ Below w.heap.size w wr) (fun _ iv _ => ts.length - (intOf iv).toNat)
    case atStart => exact ⟨_, 0, rfl, Nat.zero_le _, rfl, by rw [cfk_zero]; exact OwnI.nil _ _, by exact bgr⟩
    case round =>
      obtain ⟨v, k, rfl, hk, rfl, ho, hbr⟩ := hrel
      have hsz := hbr.size
      by_cases hlt : k < ts.length
      · obtain ⟨⟨x, y, p, q, sp, t, u, r⟩, hx⟩ := get_of_lt hlt
        obtain ⟨b, o, rfl, hb, hc0, hc1, hc2, hc3, hc4, hc5, hc6, hc7⟩ := T64.at_ (hr.up hbr) hx
        have p0 : (0 : Int) ≤ (k : Int) := by omega
        have p1 : (k : Int) < (ts.length : Int) := by omega
        have hs : Hid (cfk ts (k + 1) = cfk ts k ++ if decide (t = 1) then [(k : Int)] else []) := by unfold Hid; rw [cfk_succ, cfB_of hx]
        have hlc : (cfk ts k).length ≤ 1000 := by have := cfk_len (ts := ts) (n := k); omega
        clear hx
        by_cases ht : t = 1
        · subst ht
          have hs2 : Hid (cfk ts (k + 1) = cfk ts k ++ [(k : Int)]) := by unfold Hid; rw [hs.out]; rfl
          clear hs
          obtain ⟨Av, cv, rfl, _⟩ := id ho
          go_wp2_with (at_builtin; refine push_intH (wr.heap.size + 1) (by simp) (ho.alloc _) rfl _ _ (by rfl) (by rfl) (by rfl) (by simp only [World.size_alloc]; omega) (by omega) ?_; intro v' w4 ho4 hg4 hb4)
          go_roundw
          case rel => exact ⟨_, k + 1, rfl, by omega, by go_num, by rw [hs2.out]; exact ho4, (Below.trans hbr (Below.mono (Below.new (Below.refl _ _) _) hsz)).trans hb4⟩
          case measure => simp [intOf]; omega
        · have ht2 : (t == 1) = false := by simpa using ht
          have hs2 : Hid (cfk ts (k + 1) = cfk ts k) := by unfold Hid; rw [hs.out, decide_eq_false ht]; simp
          clear hs ht
          repeat' (first | fail | go_values | go_skip | go_guarded | go_step | go_upon | (simp only []; go_step) | (go_ite <;> go_prune <;> (try go_simp)))
          all_goals exact ⟨⟨_, k + 1, rfl, by omega, by go_num, by rw [hs2.out]; exact ho.alloc _, by exact bgr⟩, by simp [intOf]; omega⟩
      · have e : k = ts.length := by omega
        subst e
        obtain ⟨Av, cv, rfl, _⟩ := id ho
        repeat' (first | fail | go_values | go_skip | go_guarded | go_step | go_upon | (simp only []; go_step) | (go_ite <;> go_prune <;> (try go_simp)))
        all_goals go_returns
        all_goals exact ⟨_, rfl, ho, by exact bgr⟩
set_option maxRecDepth 100000 in
set_option maxHeartbeats 1600000 in
theorem spec_ConfirmedIn (A : Option Addr) (c : Nat) (ts : List Tr) (s d : Int) (w : World) (hr : T64 w w.heap.size A ts) (hl : ts.length ≤ 1099511627776) :
    Calls Tryz.prog 12 #[.agg #[.slice A ts.length c, .int .i64 s, .int .i64 d]] w fun e w' => ∃ v, e = .returned (.tuple #[v, .int .i64 (pcCode ts s d)]) ∧ OwnI w' w.heap.size v (fConf ts s d) ∧ Below w.heap.size w w' := by
  cases hb : pcB ts s d
  · have e1 : pcCode ts s d = 1 := by simp [pcCode, hb]
    have e2 : fConf ts s d = [] := by simp [fConf, hb]
    rw [e1, e2]
    clear e1 e2
    go_enter Tryz.func12, Tryz.ntmps12
    repeat' (first | fail | go_values | go_skip | go_guarded | go_step | go_upon | (simp only []; go_step) | (go_ite <;> go_prune <;> (try go_simp)))
    refine (spec_IsPicture _ _ _ _ _ _ (hr.up (by exact bgr)) hl).mono ?_; rintro e w1 ⟨rfl, hbw1⟩; have hzw1 := hbw1.size; (try simp only [World.size_alloc, World.size_setCell, World.size_drew] at hzw1); have hs1 : w.heap.size < w1.heap.size := (by omega); have q1 := bx_id (w := w1) (X := w.heap.size) (o := 0) (by exact bxc); (try simp only [List.getElem_toArray, List.getElem_cons_succ, List.getElem_cons_zero] at q1); have q1 := bx_id (w := w1) (X := w.heap.size) (o := 1) (by exact bxc); (try simp only [List.getElem_toArray, List.getElem_cons_succ, List.getElem_cons_zero] at q1); have q1 := bx_id (w := w1) (X := w.heap.size) (o := 2) (by exact bxc); (try simp only [List.getElem_toArray, List.getElem_cons_succ, List.getElem_cons_zero] at q1); have z1 : ∀ o, w1.frozen? ⟨w.heap.size, o, none⟩ = false := (by exact bxm)
    rw [hb]
    repeat' (first | fail | go_values | go_skip | go_guarded | go_step | go_upon | (simp only []; go_step) | (go_ite <;> go_prune <;> (try go_simp)))
    all_goals go_returns
    all_goals exact ⟨_, rfl, OwnI.nil _ _, by exact bgr⟩
  · have e1 : pcCode ts s d = 0 := by simp [pcCode, hb]
    have e2 : fConf ts s d = cfk ts ts.length := by simp [fConf, hb]
    have h6 := (pc_facts hb).1
    rw [e1, e2]
    clear e1 e2
    go_enter Tryz.func12, Tryz.ntmps12
    repeat' (first | fail | go_values | go_skip | go_guarded | go_step | go_upon | (simp only []; go_step) | (go_ite <;> go_prune <;> (try go_simp)))
    refine (spec_IsPicture _ _ _ _ _ _ (hr.up (by exact bgr)) hl).mono ?_; rintro e w1 ⟨rfl, hbw1⟩; have hzw1 := hbw1.size; (try simp only [World.size_alloc, World.size_setCell, World.size_drew] at hzw1); have hs1 : w.heap.size < w1.heap.size := (by omega); have q1 := bx_id (w := w1) (X := w.heap.size) (o := 0) (by exact bxc); (try simp only [List.getElem_toArray, List.getElem_cons_succ, List.getElem_cons_zero] at q1); have q1 := bx_id (w := w1) (X := w.heap.size) (o := 1) (by exact bxc); (try simp only [List.getElem_toArray, List.getElem_cons_succ, List.getElem_cons_zero] at q1); have q1 := bx_id (w := w1) (X := w.heap.size) (o := 2) (by exact bxc); (try simp only [List.getElem_toArray, List.getElem_cons_succ, List.getElem_cons_zero] at q1); have z1 : ∀ o, w1.frozen? ⟨w.heap.size, o, none⟩ = false := (by exact bxm)
    rw [hb]
    have hbH := Lib.hid hb
    clear hb
    repeat' (first | fail | go_values | go_skip | go_guarded | go_step | go_upon | (simp only []; go_step) | (go_ite <;> go_prune <;> (try go_simp)))
    go_loopw [4, 5] (fun x iv wr => ∃ (v : Value) (k : Nat), v = x ∧ k ≤ ts.length ∧ iv = .int .i64 k ∧ OwnI wr (w.heap.size + 1) v (cfk ts k) ∧ wr.cell? ⟨w.heap.size, 0, none⟩ = some (.slice A ts.length c) ∧ Below w.heap.size w wr) (fun _ iv _ => ts.length - (intOf iv).toNat)
    case atStart => exact ⟨_, 0, rfl, Nat.zero_le _, rfl, by rw [cfk_zero]; exact OwnI.lit0 (by omega), by exact bxc, by exact bgr⟩
    case round =>
      obtain ⟨v, k, rfl, hk, rfl, ho, c0, hbr⟩ := hrel
      have hsz := hbr.size
      have hsz1 : w.heap.size + 1 ≤ wr.heap.size := World.block_lt_of_cell? wr ⟨w.heap.size, 0, none⟩ c0
      by_cases hlt : k < ts.length
      · obtain ⟨⟨x, y, p, q, sp, t, u, r⟩, hx⟩ := get_of_lt hlt
        obtain ⟨b, o, rfl, hb, hc0, hc1, hc2, hc3, hc4, hc5, hc6, hc7⟩ := T64.at_ (hr.up hbr) hx
        have p0 : (0 : Int) ≤ (k : Int) := by omega
        have p1 : (k : Int) < (ts.length : Int) := by omega
        have hs : Hid (cfk ts (k + 1) = cfk ts k ++ if decide (t = 1) then [(k : Int)] else []) := by unfold Hid; rw [cfk_succ, cfB_of hx]
        have hlc : (cfk ts k).length ≤ 1000 := by have := cfk_len (ts := ts) (n := k); omega
        clear hx
        by_cases ht : t = 1
        · subst ht
          have hs2 : Hid (cfk ts (k + 1) = cfk ts k ++ [(k : Int)]) := by unfold Hid; rw [hs.out]; rfl
          clear hs
          obtain ⟨Av, cv, rfl, _⟩ := id ho
          go_wp2_with (at_builtin; refine push_int ho rfl _ _ (by rfl) (by rfl) (by rfl) hsz1 (by omega) ?_; intro v' w4 ho4 hg4 hb4)
          go_roundw
          case rel => exact ⟨_, k + 1, rfl, by omega, by go_num, by rw [hs2.out]; exact ho4, (hb4.cell (p := ⟨w.heap.size, 0, none⟩) (by show w.heap.size < w.heap.size + 1; omega)).trans c0, (hbr).trans (hb4.mono (by omega))⟩
          case measure => simp [intOf]; omega
        · have ht2 : (t == 1) = false := by simpa using ht
          have hs2 : Hid (cfk ts (k + 1) = cfk ts k) := by unfold Hid; rw [hs.out, decide_eq_false ht]; simp
          clear hs ht
          repeat' (first | fail | go_values | go_skip | go_guarded | go_step | go_upon | (simp only []; go_step) | (go_ite <;> go_prune <;> (try go_simp)))
          all_goals exact ⟨⟨_, k + 1, rfl, by omega, by go_num, by rw [hs2.out]; exact ho, c0, by exact bgr⟩, by simp [intOf]; omega⟩
      · have e : k = ts.length := by omega
        subst e
        obtain ⟨Av, cv, rfl, _⟩ := id ho
        repeat' (first | fail | go_values | go_skip | go_guarded | go_step | go_upon | (simp only []; go_step) | (go_ite <;> go_prune <;> (try go_simp)))
        all_goals go_returns
        all_goals exact ⟨_, rfl, ho.mono (by omega), by exact bgr⟩
end Go.Proofs.YthbljfanoaibkaaGreatDoor
