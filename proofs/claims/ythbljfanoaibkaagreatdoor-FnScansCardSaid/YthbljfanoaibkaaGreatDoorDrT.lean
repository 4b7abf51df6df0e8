/- The draws of trails: contracts. Printed by gen_drt.py. -/
import Derived.Test.YthbljfanoaibkaaGreatDoorDrM
import Derived.Test.YthbljfanoaibkaaGreatDoorTrCoastS
import Derived.Test.YthbljfanoaibkaaGreatDoorTrHitA
import Derived.Test.YthbljfanoaibkaaGreatDoorRtA
import Derived.Test.YthbljfanoaibkaaGreatDoorMKit
import Derived.Deep.CutRange
import Derived.Deep.DeepCutAuto
namespace Go.Proofs.YthbljfanoaibkaaGreatDoor
open Go.RowKit Go.ChangeShapes Go.WideShapes Go.ChangeAt
set_option linter.unusedVariables false
set_option linter.unusedSimpArgs false
theorem half_ge {x u L : Int} (hx : L ≤ x) (hu : L ≤ u) : L ≤ x + (u - x).tdiv 2 := by
  rcases Int.le_total 0 (u - x) with h | h
  · rw [Int.tdiv_eq_ediv_of_nonneg h]; omega
  · have e : (u - x).tdiv 2 = -((x - u) / 2) := by
      have := Int.neg_tdiv (a := x - u) (b := 2)
      rw [Int.neg_sub] at this
      rw [this, Int.tdiv_eq_ediv_of_nonneg (by omega)]
    rw [e]; omega
theorem half_le {x u L : Int} (hx : x ≤ L) (hu : u ≤ L) : x + (u - x).tdiv 2 ≤ L := by
  rcases Int.le_total 0 (u - x) with h | h
  · rw [Int.tdiv_eq_ediv_of_nonneg h]; omega
  · have e : (u - x).tdiv 2 = -((x - u) / 2) := by
      have := Int.neg_tdiv (a := x - u) (b := 2)
      rw [Int.neg_sub] at this
      rw [this, Int.tdiv_eq_ediv_of_nonneg (by omega)]
    rw [e]; omega
theorem moved_bd {T : Tr} (hb : trT T = true) : T.x - 1000 ≤ (fMoved T).x ∧ (fMoved T).x ≤ T.x + 1000 ∧ T.y - 1000 ≤ (fMoved T).y ∧ (fMoved T).y ≤ T.y + 1000 := by
  obtain ⟨x, y, p, q, s, t, h, m⟩ := T
  obtain ⟨h1, h2, h3, h4, h5, h6, h7⟩ := tr_facts (show trB x y p q s t h m = true from hb)
  unfold fMoved
  split
  · dsimp only; omega
  · split <;> (dsimp only; omega)
theorem miss_xy {T : Tr} : (fMiss T).x = T.x ∧ (fMiss T).y = T.y := by
  unfold fMiss
  split <;> exact ⟨rfl, rfl⟩
theorem coast_bd {T : Tr} (hb : trT T = true) : T.x - 1000 ≤ (fCoast T).x ∧ (fCoast T).x ≤ T.x + 1000 ∧ T.y - 1000 ≤ (fCoast T).y ∧ (fCoast T).y ≤ T.y + 1000 := by
  have := moved_bd hb
  unfold fCoast
  rw [miss_xy.1, miss_xy.2]; exact this
theorem coastT {T : Tr} (hb : trT T = true) : trT (fCoast T) = true := missT (movedT hb)
theorem hit_bd {T : Tr} {a b L M N : Int} (h1 : L ≤ T.x) (h2 : L ≤ a) (h3 : M ≤ T.y) (h4 : M ≤ b) (h5 : T.y ≤ N) (h6 : b ≤ N) : L ≤ (fHit T a b).x ∧ M ≤ (fHit T a b).y ∧ (fHit T a b).y ≤ N := by
  unfold fHit
  split
  · exact ⟨h1, h3, h5⟩
  · exact ⟨half_ge h1 h2, half_ge h3 h4, half_le h5 h6⟩
set_option maxRecDepth 100000 in
set_option maxHeartbeats 6400000 in
theorem spec_l16Draw (B g : Nat) (w : World) (hs : Src w B g) :
    Calls Tryz.prog 33 #[.pointer (some ⟨g, 0, none⟩)] w fun e w' => ∃ x y p q s t h m, e = .returned (.agg #[.int .i64 x, .int .i64 y, .int .i64 p, .int .i64 q, .int .i64 s, .int .i64 t, .int .i64 h, .int .i64 m]) ∧ Src w' B g ∧ w.grownBy w' (some g) := by
  have hlt := hs.lt
  go_enter Tryz.func33, Tryz.ntmps33
  repeat' (first | fail | go_values | go_skip | go_guarded | go_step | go_upon | (simp only []; go_step) | (go_ite <;> go_prune <;> (try go_simp)))
  refine calls_gen (fun W0 hW0 => ?_)
  have rb : IBox W0 40 w.heap.size [0, 0, 0, 0, 0, 0, 0, 0] := by rw [hW0]; exact IBox.new (w := w) (T := 40) (l := [0, 0, 0, 0, 0, 0, 0, 0]) rfl
  have hs0 : Src W0 B g := by rw [hW0]; exact hs.alloc _
  have G : w.grownBy W0 (some g) := by rw [hW0]; exact grownBy_alloc' (World.grownBy.refl _ _) _
  clear hW0 hs
  refine (spec_l01Next _ _ _ _ hs0 (by omega)).mono ?_
  rintro e w1 ⟨r1, rfl, ⟨hr1, ht1⟩, hs1, hg1⟩
  have rb := rb.src hg1 (by omega)
  have G := grownBy_src G hg1
  clear hg1 hs0
  repeat' (first | fail | go_values | go_skip | go_guarded | go_step | go_upon | (simp only []; go_step) | (go_ite <;> go_prune <;> (try go_simp)))
  refine (spec_l01Next _ _ _ _ hs1 (by omega)).mono ?_
  rintro e w2 ⟨r2, rfl, ⟨hr2, ht2⟩, hs2, hg2⟩
  have rb := rb.src hg2 (by omega)
  have G := grownBy_src G hg2
  clear hg2 hs1
  repeat' (first | fail | go_values | go_skip | go_guarded | go_step | go_upon | (simp only []; go_step) | (go_ite <;> go_prune <;> (try go_simp)))
  have z2 := rb.lt
  refine (spec_l16First _ _ _).mono ?_
  rintro e w3 ⟨rfl, hb3⟩
  have rb := rb.next hb3
  have G := grownBy_below G hb3 (by omega)
  have hs3 := Src.below hs2 hb3
  have z3 := rb.lt
  clear hb3 hs2 z2
  repeat' (first | fail | go_values | go_skip | go_guarded | go_step | go_upon | (simp only []; go_step) | (go_ite <;> go_prune <;> (try go_simp)))
  refine calls_gen (fun W4 hW4 => ?_)
  have tb : IBox W4 40 w3.heap.size [r1 - 1000, r2 - 1000, 0, 0, 400, 0, 1, 0] := by rw [hW4]; exact IBox.new (w := w3) (T := 40) (l := [r1 - 1000, r2 - 1000, 0, 0, 400, 0, 1, 0]) rfl
  have rb : IBox W4 40 w.heap.size [0, 0, 0, 0, 0, 0, 0, 0] := by rw [hW4]; exact rb.alloc _
  have hs4 : Src W4 B g := by rw [hW4]; exact hs3.alloc _
  have G : w.grownBy W4 (some g) := by rw [hW4]; exact grownBy_alloc' G _
  clear hW4 hs3
  obtain ⟨X, hX⟩ : ∃ X, X = w3.heap.size := ⟨_, rfl⟩
  rw [← hX] at tb ⊢
  have zX : w.heap.size < X := by omega
  have gX : g < X := by omega
  have wX : w.heap.size ≤ X := by omega
  have ww := Nat.le_refl w.heap.size
  clear hX z3
  refine (spec_l01Next _ _ _ _ hs4 (by omega)).mono ?_
  rintro e w5 ⟨r5, rfl, ⟨hr5, ht5⟩, hs5, hg5⟩
  have rb := rb.src hg5 (by omega)
  have tb := tb.src hg5 (by omega)
  have G := grownBy_src G hg5
  clear hg5 hs4
  go_upto_if 17 with fail
  go_cut [] (fun wx => ∃ x0 y0 : Int, -1000 ≤ x0 ∧ -1000 ≤ y0 ∧ y0 ≤ 1000 ∧ trB x0 y0 0 0 400 0 1 0 = true ∧ IBox wx 40 X [x0, y0, 0, 0, 400, 0, 1, 0] ∧ IBox wx 40 w.heap.size [0, 0, 0, 0, 0, 0, 0, 0] ∧ Src wx B g ∧ w.grownBy wx (some g))
  case first =>
    by_cases q5 : r5 = 0
    · subst q5
      repeat' (first | fail | go_values | go_skip | go_guarded | go_step | go_upon | (simp only []; go_step) | (go_ite <;> go_prune <;> (try go_simp)))
      refine (spec_l01Next _ _ _ _ hs5 (by omega)).mono ?_
      rintro e w6 ⟨r6, rfl, ⟨hr6, ht6⟩, hs6, hg6⟩
      have rb := rb.src hg6 (by omega)
      have tb := tb.src hg6 (by omega)
      have G := grownBy_src G hg6
      clear hg6 hs5
      have t0 := tb.cell (j := 0) rfl
      have t1 := tb.cell (j := 1) rfl
      have t2 := tb.cell (j := 2) rfl
      have t3 := tb.cell (j := 3) rfl
      have t4 := tb.cell (j := 4) rfl
      have t5 := tb.cell (j := 5) rfl
      have t6 := tb.cell (j := 6) rfl
      have t7 := tb.cell (j := 7) rfl
      have tf := tb.fz
      repeat' (first | fail | go_values | go_skip | go_guarded | go_step | go_upon | (simp only []; go_step) | (go_ite <;> go_prune <;> (try go_simp)))
      go_meet
      case rel => exact ⟨100000 - r6, r2 - 1000, by omega, by omega, by omega, trB_mkH (moB_mk (by omega) (by omega) (by omega) (by omega) (by omega)) (by omega) (by omega), tb.set 0 _, rb.far (by omega), (by repeat' (first | (with_reducible assumption) | (with_reducible refine Src.setX ?_ (by first | assumption | omega)) | (with_reducible refine Src.alloc ?_ _) | (with_reducible refine Src.drewS ?_))), (by repeat' (first | (with_reducible assumption) | (with_reducible refine grownBy_setX ?_ (by first | assumption | omega)) | (with_reducible refine grownBy_alloc' ?_ _) | (with_reducible refine grownBy_drew ?_)))⟩
    · have e5 : (r5 == 0) = false := by simpa using q5
      repeat' (first | fail | go_values | go_skip | go_guarded | go_step | go_upon | (simp only []; go_step) | (go_ite <;> go_prune <;> (try go_simp)))
      go_meet
      case rel => exact ⟨r1 - 1000, r2 - 1000, by omega, by omega, by omega, trB_mkH (moB_mk (by omega) (by omega) (by omega) (by omega) (by omega)) (by omega) (by omega), tb, rb, hs5, G⟩
  case rest =>
    clear tb rb hs5 G hr5 ht5 hr1 hr2 ht1 ht2
    obtain ⟨x0, y0, bx0, by00, by01, h0T, tb, rb, hs7, G⟩ := hcut
    repeat' (first | fail | go_values | go_skip | go_guarded | go_step | go_upon | (simp only []; go_step) | (go_ite <;> go_prune <;> (try go_simp)))
    refine (spec_l01Next _ _ _ _ hs7 (by omega)).mono ?_
    rintro e w8 ⟨n8, rfl, ⟨hn8, hm8⟩, hs8, hg8⟩
    have rb := rb.src hg8 (by omega)
    have tb := tb.src hg8 (by omega)
    have G := grownBy_src G hg8
    clear hg8 hs7
    repeat' (first | fail | go_values | go_skip | go_guarded | go_step | go_upon | (simp only []; go_step) | (go_ite <;> go_prune <;> (try go_simp)))
    go_loopw [4] (fun n9 wr => ∃ (k j x y p q s t h m : Int), n9 = .int .i64 k ∧ 0 ≤ k ∧ 0 ≤ j ∧ k + j ≤ 7 ∧ -1000 - 1200 * j ≤ x ∧ -1000 - 1200 * j ≤ y ∧ y ≤ 1000 + 1200 * j ∧ trB x y p q s t h m = true ∧ IBox wr 40 X [x, y, p, q, s, t, h, m] ∧ IBox wr 40 w.heap.size [0, 0, 0, 0, 0, 0, 0, 0] ∧ Src wr B g ∧ w.grownBy wr (some g)) (fun n9 _ => (intOf n9).toNat)
    case atStart => exact ⟨n8, 0, _, _, _, _, _, _, _, _, rfl, hn8, by omega, by omega, by omega, by omega, by omega, h0T, tb, rb, hs8, G⟩
    case round =>
      clear tb rb hs8 G hn8 hm8 h0T
      obtain ⟨k, j, x, y, p, q, s, t, h, m, rfl, k0, j0, kj, bx, by0, by1, hb, tb, rb, hsr, G⟩ := hrel
      have hbT : trT ⟨x, y, p, q, s, t, h, m⟩ = true := hb
      have zr := tb.lt
      have t0 := tb.cell (j := 0) rfl
      have t1 := tb.cell (j := 1) rfl
      have t2 := tb.cell (j := 2) rfl
      have t3 := tb.cell (j := 3) rfl
      have t4 := tb.cell (j := 4) rfl
      have t5 := tb.cell (j := 5) rfl
      have t6 := tb.cell (j := 6) rfl
      have t7 := tb.cell (j := 7) rfl
      have tf := tb.fz
      by_cases hk : 0 < k
      · repeat' (first | fail | go_values | go_skip | go_guarded | go_step | go_upon | (simp only []; go_step) | (go_ite <;> go_prune <;> (try go_simp)))
        refine (spec_l01Next _ _ _ _ hsr (by omega)).mono ?_
        rintro e w9 ⟨r9, rfl, ⟨hr9, ht9⟩, hs9, hg9⟩
        have rb := rb.src hg9 (by omega)
        have tb := tb.src hg9 (by omega)
        have G := grownBy_src G hg9
        clear hg9 hsr t0 t1 t2 t3 t4 t5 t6 t7 tf
        have t0 := tb.cell (j := 0) rfl
        have t1 := tb.cell (j := 1) rfl
        have t2 := tb.cell (j := 2) rfl
        have t3 := tb.cell (j := 3) rfl
        have t4 := tb.cell (j := 4) rfl
        have t5 := tb.cell (j := 5) rfl
        have t6 := tb.cell (j := 6) rfl
        have t7 := tb.cell (j := 7) rfl
        have tf := tb.fz
        have z9 := tb.lt
        by_cases q9 : r9 = 0
        · skip
          subst q9
          have cb := coast_bd hbT
          have cv := coastT hbT
          rcases hf : fCoast ⟨x, y, p, q, s, t, h, m⟩ with ⟨xv, yv, pv, qv, sv, tv, hv, mv⟩
          rw [hf] at cb cv
          have hfH := Lib.hid hf
          have cv : Hid (trB xv yv pv qv sv tv hv mv = true) := cv
          dsimp only at cb
          have hbH := Lib.hid hb
          clear hf hb hbT
          repeat' (first | fail | go_values | go_skip | go_guarded | go_step | go_upon | (simp only []; go_step) | (go_ite <;> go_prune <;> (try go_simp)))
          refine (spec_coast x y p q s t h m xv yv pv qv sv tv hv mv _ hbH.out hfH.out).mono ?_
          rintro e w10 ⟨rfl, hb10⟩
          have rb := rb.next hb10
          have tb := tb.next hb10
          have G := grownBy_below G hb10 (by omega)
          have hs10 := Src.below hs9 hb10
          have z10 := tb.lt
          clear hb10 hs9 t0 t1 t2 t3 t4 t5 t6 t7 tf
          have t0 := tb.cell (j := 0) rfl
          have t1 := tb.cell (j := 1) rfl
          have t2 := tb.cell (j := 2) rfl
          have t3 := tb.cell (j := 3) rfl
          have t4 := tb.cell (j := 4) rfl
          have t5 := tb.cell (j := 5) rfl
          have t6 := tb.cell (j := 6) rfl
          have t7 := tb.cell (j := 7) rfl
          have tf := tb.fz
          repeat' (first | fail | go_values | go_skip | go_guarded | go_step | go_upon | (simp only []; go_step) | (go_ite <;> go_prune <;> (try go_simp)))
          all_goals exact ⟨⟨k - 1, j + 1, xv, yv, pv, qv, sv, tv, hv, mv, rfl, by omega, by omega, by omega, by omega, by omega, by omega, cv.out, ((((((((tb.set 0 _).set 1 _).set 2 _).set 3 _).set 4 _).set 5 _).set 6 _).set 7 _), ((((((((rb.far (by omega)).far (by omega)).far (by omega)).far (by omega)).far (by omega)).far (by omega)).far (by omega)).far (by omega)), (by repeat' (first | (with_reducible assumption) | (with_reducible refine Src.setX ?_ (by first | assumption | omega)) | (with_reducible refine Src.alloc ?_ _) | (with_reducible refine Src.drewS ?_))), (by repeat' (first | (with_reducible assumption) | (with_reducible refine grownBy_setX ?_ (by first | assumption | omega)) | (with_reducible refine grownBy_alloc' ?_ _) | (with_reducible refine grownBy_drew ?_)))⟩, by simp [intOf]; omega⟩
        · have e9 : (r9 == 0) = false := by simpa using q9
          have cb := moved_bd hbT
          have cv := movedT hbT
          rcases hf : fMoved ⟨x, y, p, q, s, t, h, m⟩ with ⟨xz, yz, pz, qz, sz, tz, hz, mz⟩
          have hgo := moved_goes hbT
          rw [hf] at cb cv hgo
          have hfH := Lib.hid hf
          have cvH : Hid (trB xz yz pz qz sz tz hz mz = true) := cv
          dsimp only at cb hgo
          have hbH := Lib.hid hb
          clear hf hb hbT cv
          cases hgg : fGoes ⟨x, y, p, q, s, t, h, m⟩
          · skip
            have hggH := Lib.hid hgg
            clear hgg hgo
            repeat' (first | fail | go_values | go_skip | go_guarded | go_step | go_upon | (simp only []; go_step) | (go_ite <;> go_prune <;> (try go_simp)))
            refine (spec_moved x y p q s t h m xz yz pz qz sz tz hz mz _ hbH.out hfH.out).mono ?_
            rintro e w10 ⟨rfl, hb10⟩
            rw [hggH.out]
            have rb := rb.next hb10
            have tb := tb.next hb10
            have G := grownBy_below G hb10 (by omega)
            have hs10 := Src.below hs9 hb10
            have z10 := tb.lt
            clear hb10 hs9 t0 t1 t2 t3 t4 t5 t6 t7 tf
            have t0 := tb.cell (j := 0) rfl
            have t1 := tb.cell (j := 1) rfl
            have t2 := tb.cell (j := 2) rfl
            have t3 := tb.cell (j := 3) rfl
            have t4 := tb.cell (j := 4) rfl
            have t5 := tb.cell (j := 5) rfl
            have t6 := tb.cell (j := 6) rfl
            have t7 := tb.cell (j := 7) rfl
            have tf := tb.fz
            repeat' (first | fail | go_values | go_skip | go_guarded | go_step | go_upon | (simp only []; go_step) | (go_ite <;> go_prune <;> (try go_simp)))
            all_goals exact ⟨⟨k - 1, j + 1, xz, yz, pz, qz, sz, tz, hz, mz, rfl, by omega, by omega, by omega, by omega, by omega, by omega, cvH.out, (IBox.alloc ((((((((tb.set 0 _).set 1 _).set 2 _).set 3 _).set 4 _).set 5 _).set 6 _).set 7 _) _), (IBox.alloc ((((((((rb.far (by omega)).far (by omega)).far (by omega)).far (by omega)).far (by omega)).far (by omega)).far (by omega)).far (by omega)) _), (by repeat' (first | (with_reducible assumption) | (with_reducible refine Src.setX ?_ (by first | assumption | omega)) | (with_reducible refine Src.alloc ?_ _) | (with_reducible refine Src.drewS ?_))), (by repeat' (first | (with_reducible assumption) | (with_reducible refine grownBy_setX ?_ (by first | assumption | omega)) | (with_reducible refine grownBy_alloc' ?_ _) | (with_reducible refine grownBy_drew ?_)))⟩, by simp [intOf]; omega⟩
          · skip
            have hggH := Lib.hid hgg
            have hlive := hgo.1 hgg
            have hok : tz = 0 ∨ tz = 1 ∧ 3 ≤ hz := by have := (tr_facts cvH.out).2.2.2.2.2.2; omega
            obtain ⟨f1, f2, f3, f4, f5, f6, f7⟩ := tr_facts cvH.out
            obtain ⟨f1a, f1b⟩ := id f1
            obtain ⟨f2a, f2b⟩ := id f2
            clear hgg hgo f7
            repeat' (first | fail | go_values | go_skip | go_guarded | go_step | go_upon | (simp only []; go_step) | (go_ite <;> go_prune <;> (try go_simp)))
            refine (spec_moved x y p q s t h m xz yz pz qz sz tz hz mz _ hbH.out hfH.out).mono ?_
            rintro e w10 ⟨rfl, hb10⟩
            rw [hggH.out]
            have rb := rb.next hb10
            have tb := tb.next hb10
            have G := grownBy_below G hb10 (by omega)
            have hs10 := Src.below hs9 hb10
            have z10 := tb.lt
            clear hb10 hs9 t0 t1 t2 t3 t4 t5 t6 t7 tf
            repeat' (first | fail | go_values | go_skip | go_guarded | go_step | go_upon | (simp only []; go_step) | (go_ite <;> go_prune <;> (try go_simp)))
            refine wp_gen (fun W11 hW11 => ?_)
            have nb : IBox W11 40 w10.heap.size [xz, yz, pz, qz, sz, tz, hz, mz] := by rw [hW11]; exact IBox.new (w := w10) (T := 40) (l := [xz, yz, pz, qz, sz, tz, hz, mz]) rfl
            have tb : IBox W11 40 X [x, y, p, q, s, t, h, m] := by rw [hW11]; exact tb.alloc _
            have rb : IBox W11 40 w.heap.size [0, 0, 0, 0, 0, 0, 0, 0] := by rw [hW11]; exact rb.alloc _
            have hs11 : Src W11 B g := by rw [hW11]; exact hs10.alloc _
            have G : w.grownBy W11 (some g) := by rw [hW11]; exact grownBy_alloc' G _
            clear hW11 hs10
            obtain ⟨Y, hY⟩ : ∃ Y, Y = w10.heap.size := ⟨_, rfl⟩
            rw [← hY] at nb ⊢
            have zY : X < Y := by omega
            have nXY : ¬ X = Y := by omega
            have nYX : ¬ Y = X := by omega
            have zw : Y < W11.heap.size := nb.lt
            clear hY z10
            have n0 := nb.cell (j := 0) rfl
            have n1 := nb.cell (j := 1) rfl
            have n2 := nb.cell (j := 2) rfl
            have n3 := nb.cell (j := 3) rfl
            have n4 := nb.cell (j := 4) rfl
            have n5 := nb.cell (j := 5) rfl
            have n6 := nb.cell (j := 6) rfl
            have n7 := nb.cell (j := 7) rfl
            have nf := nb.fz
            (refine wp_region_noPanic ?_; refine beginE 18 (fun w' => w'.cell? ⟨Y, 0, none⟩ = some (.int .i64 xz) ∧ w'.cell? ⟨Y, 1, none⟩ = some (.int .i64 yz) ∧ w'.cell? ⟨Y, 2, none⟩ = some (.int .i64 pz) ∧ w'.cell? ⟨Y, 3, none⟩ = some (.int .i64 qz) ∧ w'.cell? ⟨Y, 4, none⟩ = some (.int .i64 sz) ∧ w'.cell? ⟨Y, 5, none⟩ = some (.int .i64 tz) ∧ w'.cell? ⟨Y, 6, none⟩ = some (.int .i64 hz) ∧ w'.cell? ⟨Y, 7, none⟩ = some (.int .i64 mz)) (by kernel_rfl) ?_ (fun hHeld => ?_); (focus ((try dsimp only); (refine ⟨?_, ?_, ?_, ?_, ?_, ?_, ?_, ?_⟩ <;> exact bxc))); (refine takeE (i := 0) (d := 40) rfl rfl (by kernel_rfl) (by decide) (by kernel_rfl) (by kernel_rfl) (by kernel_rfl) (by rfl) (by assumption) (v := ?_) ?_ ?_; rotate_left; (focus (intro wq hSw; (try dsimp only at hSw); go_simp; (try (with_reducible rfl)); done)); (try simp only [Act.put, List.setIfInBounds_toArray, List.set_cons_zero, List.set_cons_succ])); (refine takeE (i := 1) (d := 41) rfl rfl (by kernel_rfl) (by decide) (by kernel_rfl) (by kernel_rfl) (by kernel_rfl) (by rfl) (by assumption) (v := ?_) ?_ ?_; rotate_left; (focus (intro wq hSw; (try dsimp only at hSw); go_simp; (try (with_reducible rfl)); done)); (try simp only [Act.put, List.setIfInBounds_toArray, List.set_cons_zero, List.set_cons_succ])); (refine takeE (i := 2) (d := 42) rfl rfl (by kernel_rfl) (by decide) (by kernel_rfl) (by kernel_rfl) (by kernel_rfl) (by rfl) (by assumption) (v := ?_) ?_ ?_; rotate_left; (focus (intro wq hSw; (try dsimp only at hSw); go_simp; (try (with_reducible rfl)); done)); (try simp only [Act.put, List.setIfInBounds_toArray, List.set_cons_zero, List.set_cons_succ])); (refine takeE (i := 3) (d := 43) rfl rfl (by kernel_rfl) (by decide) (by kernel_rfl) (by kernel_rfl) (by kernel_rfl) (by rfl) (by assumption) (v := ?_) ?_ ?_; rotate_left; (focus (intro wq hSw; (try dsimp only at hSw); go_simp; (try (with_reducible rfl)); done)); (try simp only [Act.put, List.setIfInBounds_toArray, List.set_cons_zero, List.set_cons_succ])); (refine takeE (i := 4) (d := 44) rfl rfl (by kernel_rfl) (by decide) (by kernel_rfl) (by kernel_rfl) (by kernel_rfl) (by rfl) (by assumption) (v := ?_) ?_ ?_; rotate_left; (focus (intro wq hSw; (try dsimp only at hSw); go_simp; (try (with_reducible rfl)); done)); (try simp only [Act.put, List.setIfInBounds_toArray, List.set_cons_zero, List.set_cons_succ])); (refine takeE (i := 9) (d := 49) rfl rfl (by kernel_rfl) (by decide) (by kernel_rfl) (by kernel_rfl) (by kernel_rfl) (by rfl) (by assumption) (v := ?_) ?_ ?_; rotate_left; (focus (intro wq hSw; (try dsimp only at hSw); go_simp; (try (with_reducible rfl)); done)); (try simp only [Act.put, List.setIfInBounds_toArray, List.set_cons_zero, List.set_cons_succ])); (refine takeE (i := 10) (d := 50) rfl rfl (by kernel_rfl) (by decide) (by kernel_rfl) (by kernel_rfl) (by kernel_rfl) (by rfl) (by assumption) (v := ?_) ?_ ?_; rotate_left; (focus (intro wq hSw; (try dsimp only at hSw); go_simp; (try (with_reducible rfl)); done)); (try simp only [Act.put, List.setIfInBounds_toArray, List.set_cons_zero, List.set_cons_succ])); (refine takeE (i := 11) (d := 51) rfl rfl (by kernel_rfl) (by decide) (by kernel_rfl) (by kernel_rfl) (by kernel_rfl) (by rfl) (by assumption) (v := ?_) ?_ ?_; rotate_left; (focus (intro wq hSw; (try dsimp only at hSw); go_simp; (try (with_reducible rfl)); done)); (try simp only [Act.put, List.setIfInBounds_toArray, List.set_cons_zero, List.set_cons_succ])); (refine takeE (i := 12) (d := 52) rfl rfl (by kernel_rfl) (by decide) (by kernel_rfl) (by kernel_rfl) (by kernel_rfl) (by rfl) (by assumption) (v := ?_) ?_ ?_; rotate_left; (focus (intro wq hSw; (try dsimp only at hSw); go_simp; (try (with_reducible rfl)); done)); (try simp only [Act.put, List.setIfInBounds_toArray, List.set_cons_zero, List.set_cons_succ])); (refine runE (i := 5) (by kernel_rfl) rfl (by decide) (fun K hK => ?_); go_simp; (first | (go_at_call 20; first | (refine (spec_l01Next _ _ _ _ (Src.drewS hs11) (by omega)).mono ?_; rintro e w12 ⟨r12, rfl, ⟨hr12, ht12⟩, hs12, hg12⟩; have ht12 : r12 < 401 := (by omega); have nb12 := IBox.src (w := W11.drew) nb hg12 (by omega); have tb12 := IBox.src (w := W11.drew) tb hg12 (by omega); have rb12 := IBox.src (w := W11.drew) rb hg12 (by omega); have G12 := grownBy_src (grownBy_drew G) hg12; have k0 := nb12.cell (j := 0) rfl; have k1 := nb12.cell (j := 1) rfl; have k2 := nb12.cell (j := 2) rfl; have k3 := nb12.cell (j := 3) rfl; have k4 := nb12.cell (j := 4) rfl; have k5 := nb12.cell (j := 5) rfl; have k6 := nb12.cell (j := 6) rfl; have k7 := nb12.cell (j := 7) rfl; have kf := nb12.fz) | (refine (spec_l01Next _ _ _ _ hs12 (by omega)).mono ?_; rintro e w13 ⟨r13, rfl, ⟨hr13, ht13⟩, hs13, hg13⟩; have ht13 : r13 < 401 := (by omega); have nb13 := nb12.src hg13 (by omega); have tb13 := tb12.src hg13 (by omega); have rb13 := rb12.src hg13 (by omega); have G13 := grownBy_src G12 hg13; have z13 := nb13.lt; have k0 := nb13.cell (j := 0) rfl; have k1 := nb13.cell (j := 1) rfl; have k2 := nb13.cell (j := 2) rfl; have k3 := nb13.cell (j := 3) rfl; have k4 := nb13.cell (j := 4) rfl; have k5 := nb13.cell (j := 5) rfl; have k6 := nb13.cell (j := 6) rfl; have k7 := nb13.cell (j := 7) rfl; have kf := nb13.fz)) | (go_at_call 58; (try simp only [(show IntKind.i64.wrap (IntKind.i64.wrap (xz + r12) - 100) = xz + r12 - 100 from by rw [IntWalk.i64_in (xz + r12) (by omega)]; exact IntWalk.i64_in _ (by omega))] at *); (try simp only [(show IntKind.i64.wrap (IntKind.i64.wrap (yz + r13) - 200) = yz + r13 - 200 from by rw [IntWalk.i64_in (yz + r13) (by omega)]; exact IntWalk.i64_in _ (by omega))] at *); first | (have hA : -100000 ≤ (100000 : Int) ∧ (100000 : Int) ≤ 100000 := (by omega); have hB : -100000 ≤ (yz + r13 - 200) ∧ (yz + r13 - 200) ≤ 100000 := (by omega); have hit := hit_bd (T := ⟨xz, yz, pz, qz, sz, tz, hz, mz⟩) (a := (100000 : Int)) (b := (yz + r13 - 200)) (L := -1000 - 1200 * (j + 1)) (M := -1000 - 1200 * (j + 1)) (N := 1000 + 1200 * (j + 1)) (by dsimp only; omega) (by omega) (by dsimp only; omega) (by omega) (by dsimp only; omega) (by omega); have hiT := hitT (T := ⟨xz, yz, pz, qz, sz, tz, hz, mz⟩) (a := (100000 : Int)) (b := (yz + r13 - 200)) cvH.out (by rw [coB, inB_t hA, inB_t hB]; rfl); (rcases hf : fHit ⟨xz, yz, pz, qz, sz, tz, hz, mz⟩ (100000 : Int) (yz + r13 - 200) with ⟨xv, yv, pv, qv, sv, tv, hv, mv⟩); rw [hf] at hit hiT; dsimp only at hit; have hfH2 := Lib.hid hf; have hiH : Hid (trB xv yv pv qv sv tv hv mv = true) := hiT; clear hf hiT; (with_reducible refine (spec_hit xz yz pz qz sz tz hz mz (100000 : Int) (yz + r13 - 200) xv yv pv qv sv tv hv mv _ f1 f2 f3 f4 f5 f6 hA hB hok hfH2.out).mono ?_); rintro e w14 ⟨rfl, hb14⟩; have nb14 := nb13.next hb14; have tb14 := tb13.next hb14; have rb14 := rb13.next hb14; have G14 := grownBy_below G13 hb14 (by omega); have hs14 := Src.below hs13 hb14; have k0 := nb14.cell (j := 0) rfl; have k1 := nb14.cell (j := 1) rfl; have k2 := nb14.cell (j := 2) rfl; have k3 := nb14.cell (j := 3) rfl; have k4 := nb14.cell (j := 4) rfl; have k5 := nb14.cell (j := 5) rfl; have k6 := nb14.cell (j := 6) rfl; have k7 := nb14.cell (j := 7) rfl; have kf := nb14.fz; have t0 := tb14.cell (j := 0) rfl; have t1 := tb14.cell (j := 1) rfl; have t2 := tb14.cell (j := 2) rfl; have t3 := tb14.cell (j := 3) rfl; have t4 := tb14.cell (j := 4) rfl; have t5 := tb14.cell (j := 5) rfl; have t6 := tb14.cell (j := 6) rfl; have t7 := tb14.cell (j := 7) rfl; have tf := tb14.fz) | (have hA : -100000 ≤ (xz + r12 - 100) ∧ (xz + r12 - 100) ≤ 100000 := (by omega); have hB : -100000 ≤ (yz + r13 - 200) ∧ (yz + r13 - 200) ≤ 100000 := (by omega); have hit := hit_bd (T := ⟨xz, yz, pz, qz, sz, tz, hz, mz⟩) (a := (xz + r12 - 100)) (b := (yz + r13 - 200)) (L := -1000 - 1200 * (j + 1)) (M := -1000 - 1200 * (j + 1)) (N := 1000 + 1200 * (j + 1)) (by dsimp only; omega) (by omega) (by dsimp only; omega) (by omega) (by dsimp only; omega) (by omega); have hiT := hitT (T := ⟨xz, yz, pz, qz, sz, tz, hz, mz⟩) (a := (xz + r12 - 100)) (b := (yz + r13 - 200)) cvH.out (by rw [coB, inB_t hA, inB_t hB]; rfl); (rcases hf : fHit ⟨xz, yz, pz, qz, sz, tz, hz, mz⟩ (xz + r12 - 100) (yz + r13 - 200) with ⟨xv, yv, pv, qv, sv, tv, hv, mv⟩); rw [hf] at hit hiT; dsimp only at hit; have hfH2 := Lib.hid hf; have hiH : Hid (trB xv yv pv qv sv tv hv mv = true) := hiT; clear hf hiT; (with_reducible refine (spec_hit xz yz pz qz sz tz hz mz (xz + r12 - 100) (yz + r13 - 200) xv yv pv qv sv tv hv mv _ f1 f2 f3 f4 f5 f6 hA hB hok hfH2.out).mono ?_); rintro e w14 ⟨rfl, hb14⟩; have nb14 := nb13.next hb14; have tb14 := tb13.next hb14; have rb14 := rb13.next hb14; have G14 := grownBy_below G13 hb14 (by omega); have hs14 := Src.below hs13 hb14; have k0 := nb14.cell (j := 0) rfl; have k1 := nb14.cell (j := 1) rfl; have k2 := nb14.cell (j := 2) rfl; have k3 := nb14.cell (j := 3) rfl; have k4 := nb14.cell (j := 4) rfl; have k5 := nb14.cell (j := 5) rfl; have k6 := nb14.cell (j := 6) rfl; have k7 := nb14.cell (j := 7) rfl; have kf := nb14.fz; have t0 := tb14.cell (j := 0) rfl; have t1 := tb14.cell (j := 1) rfl; have t2 := tb14.cell (j := 2) rfl; have t3 := tb14.cell (j := 3) rfl; have t4 := tb14.cell (j := 4) rfl; have t5 := tb14.cell (j := 5) rfl; have t6 := tb14.cell (j := 6) rfl; have t7 := tb14.cell (j := 7) rfl; have tf := tb14.fz)) | skip); (try go_wp2_with fail); all_goals (refine hK.out _ _ ?_ (fun hHeld => ?_); (focus ((try dsimp only); (refine ⟨?_, ?_, ?_, ?_, ?_, ?_, ?_, ?_⟩ <;> exact bxc))); clear hK K; (try simp only [Act.put, List.setIfInBounds_toArray, List.set_cons_zero, List.set_cons_succ]))); (refine takeE (i := 6) (d := 46) rfl rfl (by kernel_rfl) (by decide) (by kernel_rfl) (by kernel_rfl) (by kernel_rfl) (by rfl) (by assumption) (v := ?_) ?_ ?_; rotate_left; (focus (intro wq hSw; (try dsimp only at hSw); go_simp; (try (with_reducible rfl)); done)); (try simp only [Act.put, List.setIfInBounds_toArray, List.set_cons_zero, List.set_cons_succ])); (refine takeE (i := 7) (d := 47) rfl rfl (by kernel_rfl) (by decide) (by kernel_rfl) (by kernel_rfl) (by kernel_rfl) (by rfl) (by assumption) (v := ?_) ?_ ?_; rotate_left; (focus (intro wq hSw; (try dsimp only at hSw); go_simp; (try (with_reducible rfl)); done)); (try simp only [Act.put, List.setIfInBounds_toArray, List.set_cons_zero, List.set_cons_succ])); (refine runE2 (i := 8) (j := 13) (by kernel_rfl) rfl rfl (by decide) (by decide) (fun hT K hK => ?_) (fun hT K hK => ?_)); all_goals (go_simp; (first | (go_at_call 20; first | (refine (spec_l01Next _ _ _ _ (Src.drewS hs11) (by omega)).mono ?_; rintro e w12 ⟨r12, rfl, ⟨hr12, ht12⟩, hs12, hg12⟩; have ht12 : r12 < 401 := (by omega); have nb12 := IBox.src (w := W11.drew) nb hg12 (by omega); have tb12 := IBox.src (w := W11.drew) tb hg12 (by omega); have rb12 := IBox.src (w := W11.drew) rb hg12 (by omega); have G12 := grownBy_src (grownBy_drew G) hg12; have k0 := nb12.cell (j := 0) rfl; have k1 := nb12.cell (j := 1) rfl; have k2 := nb12.cell (j := 2) rfl; have k3 := nb12.cell (j := 3) rfl; have k4 := nb12.cell (j := 4) rfl; have k5 := nb12.cell (j := 5) rfl; have k6 := nb12.cell (j := 6) rfl; have k7 := nb12.cell (j := 7) rfl; have kf := nb12.fz) | (refine (spec_l01Next _ _ _ _ hs12 (by omega)).mono ?_; rintro e w13 ⟨r13, rfl, ⟨hr13, ht13⟩, hs13, hg13⟩; have ht13 : r13 < 401 := (by omega); have nb13 := nb12.src hg13 (by omega); have tb13 := tb12.src hg13 (by omega); have rb13 := rb12.src hg13 (by omega); have G13 := grownBy_src G12 hg13; have z13 := nb13.lt; have k0 := nb13.cell (j := 0) rfl; have k1 := nb13.cell (j := 1) rfl; have k2 := nb13.cell (j := 2) rfl; have k3 := nb13.cell (j := 3) rfl; have k4 := nb13.cell (j := 4) rfl; have k5 := nb13.cell (j := 5) rfl; have k6 := nb13.cell (j := 6) rfl; have k7 := nb13.cell (j := 7) rfl; have kf := nb13.fz)) | (go_at_call 58; (try simp only [(show IntKind.i64.wrap (IntKind.i64.wrap (xz + r12) - 100) = xz + r12 - 100 from by rw [IntWalk.i64_in (xz + r12) (by omega)]; exact IntWalk.i64_in _ (by omega))] at *); (try simp only [(show IntKind.i64.wrap (IntKind.i64.wrap (yz + r13) - 200) = yz + r13 - 200 from by rw [IntWalk.i64_in (yz + r13) (by omega)]; exact IntWalk.i64_in _ (by omega))] at *); first | (have hA : -100000 ≤ (100000 : Int) ∧ (100000 : Int) ≤ 100000 := (by omega); have hB : -100000 ≤ (yz + r13 - 200) ∧ (yz + r13 - 200) ≤ 100000 := (by omega); have hit := hit_bd (T := ⟨xz, yz, pz, qz, sz, tz, hz, mz⟩) (a := (100000 : Int)) (b := (yz + r13 - 200)) (L := -1000 - 1200 * (j + 1)) (M := -1000 - 1200 * (j + 1)) (N := 1000 + 1200 * (j + 1)) (by dsimp only; omega) (by omega) (by dsimp only; omega) (by omega) (by dsimp only; omega) (by omega); have hiT := hitT (T := ⟨xz, yz, pz, qz, sz, tz, hz, mz⟩) (a := (100000 : Int)) (b := (yz + r13 - 200)) cvH.out (by rw [coB, inB_t hA, inB_t hB]; rfl); (rcases hf : fHit ⟨xz, yz, pz, qz, sz, tz, hz, mz⟩ (100000 : Int) (yz + r13 - 200) with ⟨xv, yv, pv, qv, sv, tv, hv, mv⟩); rw [hf] at hit hiT; dsimp only at hit; have hfH2 := Lib.hid hf; have hiH : Hid (trB xv yv pv qv sv tv hv mv = true) := hiT; clear hf hiT; (with_reducible refine (spec_hit xz yz pz qz sz tz hz mz (100000 : Int) (yz + r13 - 200) xv yv pv qv sv tv hv mv _ f1 f2 f3 f4 f5 f6 hA hB hok hfH2.out).mono ?_); rintro e w14 ⟨rfl, hb14⟩; have nb14 := nb13.next hb14; have tb14 := tb13.next hb14; have rb14 := rb13.next hb14; have G14 := grownBy_below G13 hb14 (by omega); have hs14 := Src.below hs13 hb14; have k0 := nb14.cell (j := 0) rfl; have k1 := nb14.cell (j := 1) rfl; have k2 := nb14.cell (j := 2) rfl; have k3 := nb14.cell (j := 3) rfl; have k4 := nb14.cell (j := 4) rfl; have k5 := nb14.cell (j := 5) rfl; have k6 := nb14.cell (j := 6) rfl; have k7 := nb14.cell (j := 7) rfl; have kf := nb14.fz; have t0 := tb14.cell (j := 0) rfl; have t1 := tb14.cell (j := 1) rfl; have t2 := tb14.cell (j := 2) rfl; have t3 := tb14.cell (j := 3) rfl; have t4 := tb14.cell (j := 4) rfl; have t5 := tb14.cell (j := 5) rfl; have t6 := tb14.cell (j := 6) rfl; have t7 := tb14.cell (j := 7) rfl; have tf := tb14.fz) | (have hA : -100000 ≤ (xz + r12 - 100) ∧ (xz + r12 - 100) ≤ 100000 := (by omega); have hB : -100000 ≤ (yz + r13 - 200) ∧ (yz + r13 - 200) ≤ 100000 := (by omega); have hit := hit_bd (T := ⟨xz, yz, pz, qz, sz, tz, hz, mz⟩) (a := (xz + r12 - 100)) (b := (yz + r13 - 200)) (L := -1000 - 1200 * (j + 1)) (M := -1000 - 1200 * (j + 1)) (N := 1000 + 1200 * (j + 1)) (by dsimp only; omega) (by omega) (by dsimp only; omega) (by omega) (by dsimp only; omega) (by omega); have hiT := hitT (T := ⟨xz, yz, pz, qz, sz, tz, hz, mz⟩) (a := (xz + r12 - 100)) (b := (yz + r13 - 200)) cvH.out (by rw [coB, inB_t hA, inB_t hB]; rfl); (rcases hf : fHit ⟨xz, yz, pz, qz, sz, tz, hz, mz⟩ (xz + r12 - 100) (yz + r13 - 200) with ⟨xv, yv, pv, qv, sv, tv, hv, mv⟩); rw [hf] at hit hiT; dsimp only at hit; have hfH2 := Lib.hid hf; have hiH : Hid (trB xv yv pv qv sv tv hv mv = true) := hiT; clear hf hiT; (with_reducible refine (spec_hit xz yz pz qz sz tz hz mz (xz + r12 - 100) (yz + r13 - 200) xv yv pv qv sv tv hv mv _ f1 f2 f3 f4 f5 f6 hA hB hok hfH2.out).mono ?_); rintro e w14 ⟨rfl, hb14⟩; have nb14 := nb13.next hb14; have tb14 := tb13.next hb14; have rb14 := rb13.next hb14; have G14 := grownBy_below G13 hb14 (by omega); have hs14 := Src.below hs13 hb14; have k0 := nb14.cell (j := 0) rfl; have k1 := nb14.cell (j := 1) rfl; have k2 := nb14.cell (j := 2) rfl; have k3 := nb14.cell (j := 3) rfl; have k4 := nb14.cell (j := 4) rfl; have k5 := nb14.cell (j := 5) rfl; have k6 := nb14.cell (j := 6) rfl; have k7 := nb14.cell (j := 7) rfl; have kf := nb14.fz; have t0 := tb14.cell (j := 0) rfl; have t1 := tb14.cell (j := 1) rfl; have t2 := tb14.cell (j := 2) rfl; have t3 := tb14.cell (j := 3) rfl; have t4 := tb14.cell (j := 4) rfl; have t5 := tb14.cell (j := 5) rfl; have t6 := tb14.cell (j := 6) rfl; have t7 := tb14.cell (j := 7) rfl; have tf := tb14.fz)) | skip); (try go_wp2_with fail); all_goals (refine hK.out _ _ ?_ (fun hHeld => ?_); (focus ((try dsimp only); (refine ⟨?_, ?_, ?_, ?_, ?_, ?_, ?_, ?_⟩ <;> exact bxc))); clear hK K; (try simp only [Act.put, List.setIfInBounds_toArray, List.set_cons_zero, List.set_cons_succ]))); all_goals (first | ((have hT2 : Tag 8 := (by assumption)); clear hT2; (refine runE (i := 13) (by kernel_rfl) rfl (by decide) (fun K hK => ?_); go_simp; (first | (go_at_call 20; first | (refine (spec_l01Next _ _ _ _ (Src.drewS hs11) (by omega)).mono ?_; rintro e w12 ⟨r12, rfl, ⟨hr12, ht12⟩, hs12, hg12⟩; have ht12 : r12 < 401 := (by omega); have nb12 := IBox.src (w := W11.drew) nb hg12 (by omega); have tb12 := IBox.src (w := W11.drew) tb hg12 (by omega); have rb12 := IBox.src (w := W11.drew) rb hg12 (by omega); have G12 := grownBy_src (grownBy_drew G) hg12; have k0 := nb12.cell (j := 0) rfl; have k1 := nb12.cell (j := 1) rfl; have k2 := nb12.cell (j := 2) rfl; have k3 := nb12.cell (j := 3) rfl; have k4 := nb12.cell (j := 4) rfl; have k5 := nb12.cell (j := 5) rfl; have k6 := nb12.cell (j := 6) rfl; have k7 := nb12.cell (j := 7) rfl; have kf := nb12.fz) | (refine (spec_l01Next _ _ _ _ hs12 (by omega)).mono ?_; rintro e w13 ⟨r13, rfl, ⟨hr13, ht13⟩, hs13, hg13⟩; have ht13 : r13 < 401 := (by omega); have nb13 := nb12.src hg13 (by omega); have tb13 := tb12.src hg13 (by omega); have rb13 := rb12.src hg13 (by omega); have G13 := grownBy_src G12 hg13; have z13 := nb13.lt; have k0 := nb13.cell (j := 0) rfl; have k1 := nb13.cell (j := 1) rfl; have k2 := nb13.cell (j := 2) rfl; have k3 := nb13.cell (j := 3) rfl; have k4 := nb13.cell (j := 4) rfl; have k5 := nb13.cell (j := 5) rfl; have k6 := nb13.cell (j := 6) rfl; have k7 := nb13.cell (j := 7) rfl; have kf := nb13.fz)) | (go_at_call 58; (try simp only [(show IntKind.i64.wrap (IntKind.i64.wrap (xz + r12) - 100) = xz + r12 - 100 from by rw [IntWalk.i64_in (xz + r12) (by omega)]; exact IntWalk.i64_in _ (by omega))] at *); (try simp only [(show IntKind.i64.wrap (IntKind.i64.wrap (yz + r13) - 200) = yz + r13 - 200 from by rw [IntWalk.i64_in (yz + r13) (by omega)]; exact IntWalk.i64_in _ (by omega))] at *); first | (have hA : -100000 ≤ (100000 : Int) ∧ (100000 : Int) ≤ 100000 := (by omega); have hB : -100000 ≤ (yz + r13 - 200) ∧ (yz + r13 - 200) ≤ 100000 := (by omega); have hit := hit_bd (T := ⟨xz, yz, pz, qz, sz, tz, hz, mz⟩) (a := (100000 : Int)) (b := (yz + r13 - 200)) (L := -1000 - 1200 * (j + 1)) (M := -1000 - 1200 * (j + 1)) (N := 1000 + 1200 * (j + 1)) (by dsimp only; omega) (by omega) (by dsimp only; omega) (by omega) (by dsimp only; omega) (by omega); have hiT := hitT (T := ⟨xz, yz, pz, qz, sz, tz, hz, mz⟩) (a := (100000 : Int)) (b := (yz + r13 - 200)) cvH.out (by rw [coB, inB_t hA, inB_t hB]; rfl); (rcases hf : fHit ⟨xz, yz, pz, qz, sz, tz, hz, mz⟩ (100000 : Int) (yz + r13 - 200) with ⟨xv, yv, pv, qv, sv, tv, hv, mv⟩); rw [hf] at hit hiT; dsimp only at hit; have hfH2 := Lib.hid hf; have hiH : Hid (trB xv yv pv qv sv tv hv mv = true) := hiT; clear hf hiT; (with_reducible refine (spec_hit xz yz pz qz sz tz hz mz (100000 : Int) (yz + r13 - 200) xv yv pv qv sv tv hv mv _ f1 f2 f3 f4 f5 f6 hA hB hok hfH2.out).mono ?_); rintro e w14 ⟨rfl, hb14⟩; have nb14 := nb13.next hb14; have tb14 := tb13.next hb14; have rb14 := rb13.next hb14; have G14 := grownBy_below G13 hb14 (by omega); have hs14 := Src.below hs13 hb14; have k0 := nb14.cell (j := 0) rfl; have k1 := nb14.cell (j := 1) rfl; have k2 := nb14.cell (j := 2) rfl; have k3 := nb14.cell (j := 3) rfl; have k4 := nb14.cell (j := 4) rfl; have k5 := nb14.cell (j := 5) rfl; have k6 := nb14.cell (j := 6) rfl; have k7 := nb14.cell (j := 7) rfl; have kf := nb14.fz; have t0 := tb14.cell (j := 0) rfl; have t1 := tb14.cell (j := 1) rfl; have t2 := tb14.cell (j := 2) rfl; have t3 := tb14.cell (j := 3) rfl; have t4 := tb14.cell (j := 4) rfl; have t5 := tb14.cell (j := 5) rfl; have t6 := tb14.cell (j := 6) rfl; have t7 := tb14.cell (j := 7) rfl; have tf := tb14.fz) | (have hA : -100000 ≤ (xz + r12 - 100) ∧ (xz + r12 - 100) ≤ 100000 := (by omega); have hB : -100000 ≤ (yz + r13 - 200) ∧ (yz + r13 - 200) ≤ 100000 := (by omega); have hit := hit_bd (T := ⟨xz, yz, pz, qz, sz, tz, hz, mz⟩) (a := (xz + r12 - 100)) (b := (yz + r13 - 200)) (L := -1000 - 1200 * (j + 1)) (M := -1000 - 1200 * (j + 1)) (N := 1000 + 1200 * (j + 1)) (by dsimp only; omega) (by omega) (by dsimp only; omega) (by omega) (by dsimp only; omega) (by omega); have hiT := hitT (T := ⟨xz, yz, pz, qz, sz, tz, hz, mz⟩) (a := (xz + r12 - 100)) (b := (yz + r13 - 200)) cvH.out (by rw [coB, inB_t hA, inB_t hB]; rfl); (rcases hf : fHit ⟨xz, yz, pz, qz, sz, tz, hz, mz⟩ (xz + r12 - 100) (yz + r13 - 200) with ⟨xv, yv, pv, qv, sv, tv, hv, mv⟩); rw [hf] at hit hiT; dsimp only at hit; have hfH2 := Lib.hid hf; have hiH : Hid (trB xv yv pv qv sv tv hv mv = true) := hiT; clear hf hiT; (with_reducible refine (spec_hit xz yz pz qz sz tz hz mz (xz + r12 - 100) (yz + r13 - 200) xv yv pv qv sv tv hv mv _ f1 f2 f3 f4 f5 f6 hA hB hok hfH2.out).mono ?_); rintro e w14 ⟨rfl, hb14⟩; have nb14 := nb13.next hb14; have tb14 := tb13.next hb14; have rb14 := rb13.next hb14; have G14 := grownBy_below G13 hb14 (by omega); have hs14 := Src.below hs13 hb14; have k0 := nb14.cell (j := 0) rfl; have k1 := nb14.cell (j := 1) rfl; have k2 := nb14.cell (j := 2) rfl; have k3 := nb14.cell (j := 3) rfl; have k4 := nb14.cell (j := 4) rfl; have k5 := nb14.cell (j := 5) rfl; have k6 := nb14.cell (j := 6) rfl; have k7 := nb14.cell (j := 7) rfl; have kf := nb14.fz; have t0 := tb14.cell (j := 0) rfl; have t1 := tb14.cell (j := 1) rfl; have t2 := tb14.cell (j := 2) rfl; have t3 := tb14.cell (j := 3) rfl; have t4 := tb14.cell (j := 4) rfl; have t5 := tb14.cell (j := 5) rfl; have t6 := tb14.cell (j := 6) rfl; have t7 := tb14.cell (j := 7) rfl; have tf := tb14.fz)) | skip); (try go_wp2_with fail); all_goals (refine hK.out _ _ ?_ (fun hHeld => ?_); (focus ((try dsimp only); (refine ⟨?_, ?_, ?_, ?_, ?_, ?_, ?_, ?_⟩ <;> exact bxc))); clear hK K; (try simp only [Act.put, List.setIfInBounds_toArray, List.set_cons_zero, List.set_cons_succ]))); all_goals ((refine takeE (i := 14) (d := 54) rfl rfl (by kernel_rfl) (by decide) (by kernel_rfl) (by kernel_rfl) (by kernel_rfl) (by rfl) (by assumption) (v := ?_) ?_ ?_; rotate_left; (focus (intro wq hSw; (try dsimp only at hSw); go_simp; (try (with_reducible rfl)); done)); (try simp only [Act.put, List.setIfInBounds_toArray, List.set_cons_zero, List.set_cons_succ])); (refine takeE (i := 15) (d := 55) rfl rfl (by kernel_rfl) (by decide) (by kernel_rfl) (by kernel_rfl) (by kernel_rfl) (by rfl) (by assumption) (v := ?_) ?_ ?_; rotate_left; (focus (intro wq hSw; (try dsimp only at hSw); go_simp; (try (with_reducible rfl)); done)); (try simp only [Act.put, List.setIfInBounds_toArray, List.set_cons_zero, List.set_cons_succ])); (refine takeE (i := 16) (d := 56) rfl rfl (by kernel_rfl) (by decide) (by kernel_rfl) (by kernel_rfl) (by kernel_rfl) (by rfl) (by assumption) (v := ?_) ?_ ?_; rotate_left; (focus (intro wq hSw; (try dsimp only at hSw); go_simp; (try (with_reducible rfl)); done)); (try simp only [Act.put, List.setIfInBounds_toArray, List.set_cons_zero, List.set_cons_succ])))) | ((have hT2 : Tag 13 := (by assumption)); clear hT2; (refine takeE (i := 14) (d := 54) rfl rfl (by kernel_rfl) (by decide) (by kernel_rfl) (by kernel_rfl) (by kernel_rfl) (by rfl) (by assumption) (v := ?_) ?_ ?_; rotate_left; (focus (intro wq hSw; (try dsimp only at hSw); go_simp; (try (with_reducible rfl)); done)); (try simp only [Act.put, List.setIfInBounds_toArray, List.set_cons_zero, List.set_cons_succ])); (refine takeE (i := 15) (d := 55) rfl rfl (by kernel_rfl) (by decide) (by kernel_rfl) (by kernel_rfl) (by kernel_rfl) (by rfl) (by assumption) (v := ?_) ?_ ?_; rotate_left; (focus (intro wq hSw; (try dsimp only at hSw); go_simp; (try (with_reducible rfl)); done)); (try simp only [Act.put, List.setIfInBounds_toArray, List.set_cons_zero, List.set_cons_succ])); (refine runE (i := 8) (by kernel_rfl) rfl (by decide) (fun K hK => ?_); go_simp; (first | (go_at_call 20; first | (refine (spec_l01Next _ _ _ _ (Src.drewS hs11) (by omega)).mono ?_; rintro e w12 ⟨r12, rfl, ⟨hr12, ht12⟩, hs12, hg12⟩; have ht12 : r12 < 401 := (by omega); have nb12 := IBox.src (w := W11.drew) nb hg12 (by omega); have tb12 := IBox.src (w := W11.drew) tb hg12 (by omega); have rb12 := IBox.src (w := W11.drew) rb hg12 (by omega); have G12 := grownBy_src (grownBy_drew G) hg12; have k0 := nb12.cell (j := 0) rfl; have k1 := nb12.cell (j := 1) rfl; have k2 := nb12.cell (j := 2) rfl; have k3 := nb12.cell (j := 3) rfl; have k4 := nb12.cell (j := 4) rfl; have k5 := nb12.cell (j := 5) rfl; have k6 := nb12.cell (j := 6) rfl; have k7 := nb12.cell (j := 7) rfl; have kf := nb12.fz) | (refine (spec_l01Next _ _ _ _ hs12 (by omega)).mono ?_; rintro e w13 ⟨r13, rfl, ⟨hr13, ht13⟩, hs13, hg13⟩; have ht13 : r13 < 401 := (by omega); have nb13 := nb12.src hg13 (by omega); have tb13 := tb12.src hg13 (by omega); have rb13 := rb12.src hg13 (by omega); have G13 := grownBy_src G12 hg13; have z13 := nb13.lt; have k0 := nb13.cell (j := 0) rfl; have k1 := nb13.cell (j := 1) rfl; have k2 := nb13.cell (j := 2) rfl; have k3 := nb13.cell (j := 3) rfl; have k4 := nb13.cell (j := 4) rfl; have k5 := nb13.cell (j := 5) rfl; have k6 := nb13.cell (j := 6) rfl; have k7 := nb13.cell (j := 7) rfl; have kf := nb13.fz)) | (go_at_call 58; (try simp only [(show IntKind.i64.wrap (IntKind.i64.wrap (xz + r12) - 100) = xz + r12 - 100 from by rw [IntWalk.i64_in (xz + r12) (by omega)]; exact IntWalk.i64_in _ (by omega))] at *); (try simp only [(show IntKind.i64.wrap (IntKind.i64.wrap (yz + r13) - 200) = yz + r13 - 200 from by rw [IntWalk.i64_in (yz + r13) (by omega)]; exact IntWalk.i64_in _ (by omega))] at *); first | (have hA : -100000 ≤ (100000 : Int) ∧ (100000 : Int) ≤ 100000 := (by omega); have hB : -100000 ≤ (yz + r13 - 200) ∧ (yz + r13 - 200) ≤ 100000 := (by omega); have hit := hit_bd (T := ⟨xz, yz, pz, qz, sz, tz, hz, mz⟩) (a := (100000 : Int)) (b := (yz + r13 - 200)) (L := -1000 - 1200 * (j + 1)) (M := -1000 - 1200 * (j + 1)) (N := 1000 + 1200 * (j + 1)) (by dsimp only; omega) (by omega) (by dsimp only; omega) (by omega) (by dsimp only; omega) (by omega); have hiT := hitT (T := ⟨xz, yz, pz, qz, sz, tz, hz, mz⟩) (a := (100000 : Int)) (b := (yz + r13 - 200)) cvH.out (by rw [coB, inB_t hA, inB_t hB]; rfl); (rcases hf : fHit ⟨xz, yz, pz, qz, sz, tz, hz, mz⟩ (100000 : Int) (yz + r13 - 200) with ⟨xv, yv, pv, qv, sv, tv, hv, mv⟩); rw [hf] at hit hiT; dsimp only at hit; have hfH2 := Lib.hid hf; have hiH : Hid (trB xv yv pv qv sv tv hv mv = true) := hiT; clear hf hiT; (with_reducible refine (spec_hit xz yz pz qz sz tz hz mz (100000 : Int) (yz + r13 - 200) xv yv pv qv sv tv hv mv _ f1 f2 f3 f4 f5 f6 hA hB hok hfH2.out).mono ?_); rintro e w14 ⟨rfl, hb14⟩; have nb14 := nb13.next hb14; have tb14 := tb13.next hb14; have rb14 := rb13.next hb14; have G14 := grownBy_below G13 hb14 (by omega); have hs14 := Src.below hs13 hb14; have k0 := nb14.cell (j := 0) rfl; have k1 := nb14.cell (j := 1) rfl; have k2 := nb14.cell (j := 2) rfl; have k3 := nb14.cell (j := 3) rfl; have k4 := nb14.cell (j := 4) rfl; have k5 := nb14.cell (j := 5) rfl; have k6 := nb14.cell (j := 6) rfl; have k7 := nb14.cell (j := 7) rfl; have kf := nb14.fz; have t0 := tb14.cell (j := 0) rfl; have t1 := tb14.cell (j := 1) rfl; have t2 := tb14.cell (j := 2) rfl; have t3 := tb14.cell (j := 3) rfl; have t4 := tb14.cell (j := 4) rfl; have t5 := tb14.cell (j := 5) rfl; have t6 := tb14.cell (j := 6) rfl; have t7 := tb14.cell (j := 7) rfl; have tf := tb14.fz) | (have hA : -100000 ≤ (xz + r12 - 100) ∧ (xz + r12 - 100) ≤ 100000 := (by omega); have hB : -100000 ≤ (yz + r13 - 200) ∧ (yz + r13 - 200) ≤ 100000 := (by omega); have hit := hit_bd (T := ⟨xz, yz, pz, qz, sz, tz, hz, mz⟩) (a := (xz + r12 - 100)) (b := (yz + r13 - 200)) (L := -1000 - 1200 * (j + 1)) (M := -1000 - 1200 * (j + 1)) (N := 1000 + 1200 * (j + 1)) (by dsimp only; omega) (by omega) (by dsimp only; omega) (by omega) (by dsimp only; omega) (by omega); have hiT := hitT (T := ⟨xz, yz, pz, qz, sz, tz, hz, mz⟩) (a := (xz + r12 - 100)) (b := (yz + r13 - 200)) cvH.out (by rw [coB, inB_t hA, inB_t hB]; rfl); (rcases hf : fHit ⟨xz, yz, pz, qz, sz, tz, hz, mz⟩ (xz + r12 - 100) (yz + r13 - 200) with ⟨xv, yv, pv, qv, sv, tv, hv, mv⟩); rw [hf] at hit hiT; dsimp only at hit; have hfH2 := Lib.hid hf; have hiH : Hid (trB xv yv pv qv sv tv hv mv = true) := hiT; clear hf hiT; (with_reducible refine (spec_hit xz yz pz qz sz tz hz mz (xz + r12 - 100) (yz + r13 - 200) xv yv pv qv sv tv hv mv _ f1 f2 f3 f4 f5 f6 hA hB hok hfH2.out).mono ?_); rintro e w14 ⟨rfl, hb14⟩; have nb14 := nb13.next hb14; have tb14 := tb13.next hb14; have rb14 := rb13.next hb14; have G14 := grownBy_below G13 hb14 (by omega); have hs14 := Src.below hs13 hb14; have k0 := nb14.cell (j := 0) rfl; have k1 := nb14.cell (j := 1) rfl; have k2 := nb14.cell (j := 2) rfl; have k3 := nb14.cell (j := 3) rfl; have k4 := nb14.cell (j := 4) rfl; have k5 := nb14.cell (j := 5) rfl; have k6 := nb14.cell (j := 6) rfl; have k7 := nb14.cell (j := 7) rfl; have kf := nb14.fz; have t0 := tb14.cell (j := 0) rfl; have t1 := tb14.cell (j := 1) rfl; have t2 := tb14.cell (j := 2) rfl; have t3 := tb14.cell (j := 3) rfl; have t4 := tb14.cell (j := 4) rfl; have t5 := tb14.cell (j := 5) rfl; have t6 := tb14.cell (j := 6) rfl; have t7 := tb14.cell (j := 7) rfl; have tf := tb14.fz)) | skip); (try go_wp2_with fail); all_goals (refine hK.out _ _ ?_ (fun hHeld => ?_); (focus ((try dsimp only); (refine ⟨?_, ?_, ?_, ?_, ?_, ?_, ?_, ?_⟩ <;> exact bxc))); clear hK K; (try simp only [Act.put, List.setIfInBounds_toArray, List.set_cons_zero, List.set_cons_succ]))); all_goals ((refine takeE (i := 16) (d := 56) rfl rfl (by kernel_rfl) (by decide) (by kernel_rfl) (by kernel_rfl) (by kernel_rfl) (by rfl) (by assumption) (v := ?_) ?_ ?_; rotate_left; (focus (intro wq hSw; (try dsimp only at hSw); go_simp; (try (with_reducible rfl)); done)); (try simp only [Act.put, List.setIfInBounds_toArray, List.set_cons_zero, List.set_cons_succ]))))); all_goals ((refine runE (i := 17) (by kernel_rfl) rfl (by decide) (fun K hK => ?_); go_simp; (first | (go_at_call 20; first | (refine (spec_l01Next _ _ _ _ (Src.drewS hs11) (by omega)).mono ?_; rintro e w12 ⟨r12, rfl, ⟨hr12, ht12⟩, hs12, hg12⟩; have ht12 : r12 < 401 := (by omega); have nb12 := IBox.src (w := W11.drew) nb hg12 (by omega); have tb12 := IBox.src (w := W11.drew) tb hg12 (by omega); have rb12 := IBox.src (w := W11.drew) rb hg12 (by omega); have G12 := grownBy_src (grownBy_drew G) hg12; have k0 := nb12.cell (j := 0) rfl; have k1 := nb12.cell (j := 1) rfl; have k2 := nb12.cell (j := 2) rfl; have k3 := nb12.cell (j := 3) rfl; have k4 := nb12.cell (j := 4) rfl; have k5 := nb12.cell (j := 5) rfl; have k6 := nb12.cell (j := 6) rfl; have k7 := nb12.cell (j := 7) rfl; have kf := nb12.fz) | (refine (spec_l01Next _ _ _ _ hs12 (by omega)).mono ?_; rintro e w13 ⟨r13, rfl, ⟨hr13, ht13⟩, hs13, hg13⟩; have ht13 : r13 < 401 := (by omega); have nb13 := nb12.src hg13 (by omega); have tb13 := tb12.src hg13 (by omega); have rb13 := rb12.src hg13 (by omega); have G13 := grownBy_src G12 hg13; have z13 := nb13.lt; have k0 := nb13.cell (j := 0) rfl; have k1 := nb13.cell (j := 1) rfl; have k2 := nb13.cell (j := 2) rfl; have k3 := nb13.cell (j := 3) rfl; have k4 := nb13.cell (j := 4) rfl; have k5 := nb13.cell (j := 5) rfl; have k6 := nb13.cell (j := 6) rfl; have k7 := nb13.cell (j := 7) rfl; have kf := nb13.fz)) | (go_at_call 58; (try simp only [(show IntKind.i64.wrap (IntKind.i64.wrap (xz + r12) - 100) = xz + r12 - 100 from by rw [IntWalk.i64_in (xz + r12) (by omega)]; exact IntWalk.i64_in _ (by omega))] at *); (try simp only [(show IntKind.i64.wrap (IntKind.i64.wrap (yz + r13) - 200) = yz + r13 - 200 from by rw [IntWalk.i64_in (yz + r13) (by omega)]; exact IntWalk.i64_in _ (by omega))] at *); first | (have hA : -100000 ≤ (100000 : Int) ∧ (100000 : Int) ≤ 100000 := (by omega); have hB : -100000 ≤ (yz + r13 - 200) ∧ (yz + r13 - 200) ≤ 100000 := (by omega); have hit := hit_bd (T := ⟨xz, yz, pz, qz, sz, tz, hz, mz⟩) (a := (100000 : Int)) (b := (yz + r13 - 200)) (L := -1000 - 1200 * (j + 1)) (M := -1000 - 1200 * (j + 1)) (N := 1000 + 1200 * (j + 1)) (by dsimp only; omega) (by omega) (by dsimp only; omega) (by omega) (by dsimp only; omega) (by omega); have hiT := hitT (T := ⟨xz, yz, pz, qz, sz, tz, hz, mz⟩) (a := (100000 : Int)) (b := (yz + r13 - 200)) cvH.out (by rw [coB, inB_t hA, inB_t hB]; rfl); (rcases hf : fHit ⟨xz, yz, pz, qz, sz, tz, hz, mz⟩ (100000 : Int) (yz + r13 - 200) with ⟨xv, yv, pv, qv, sv, tv, hv, mv⟩); rw [hf] at hit hiT; dsimp only at hit; have hfH2 := Lib.hid hf; have hiH : Hid (trB xv yv pv qv sv tv hv mv = true) := hiT; clear hf hiT; (with_reducible refine (spec_hit xz yz pz qz sz tz hz mz (100000 : Int) (yz + r13 - 200) xv yv pv qv sv tv hv mv _ f1 f2 f3 f4 f5 f6 hA hB hok hfH2.out).mono ?_); rintro e w14 ⟨rfl, hb14⟩; have nb14 := nb13.next hb14; have tb14 := tb13.next hb14; have rb14 := rb13.next hb14; have G14 := grownBy_below G13 hb14 (by omega); have hs14 := Src.below hs13 hb14; have k0 := nb14.cell (j := 0) rfl; have k1 := nb14.cell (j := 1) rfl; have k2 := nb14.cell (j := 2) rfl; have k3 := nb14.cell (j := 3) rfl; have k4 := nb14.cell (j := 4) rfl; have k5 := nb14.cell (j := 5) rfl; have k6 := nb14.cell (j := 6) rfl; have k7 := nb14.cell (j := 7) rfl; have kf := nb14.fz; have t0 := tb14.cell (j := 0) rfl; have t1 := tb14.cell (j := 1) rfl; have t2 := tb14.cell (j := 2) rfl; have t3 := tb14.cell (j := 3) rfl; have t4 := tb14.cell (j := 4) rfl; have t5 := tb14.cell (j := 5) rfl; have t6 := tb14.cell (j := 6) rfl; have t7 := tb14.cell (j := 7) rfl; have tf := tb14.fz) | (have hA : -100000 ≤ (xz + r12 - 100) ∧ (xz + r12 - 100) ≤ 100000 := (by omega); have hB : -100000 ≤ (yz + r13 - 200) ∧ (yz + r13 - 200) ≤ 100000 := (by omega); have hit := hit_bd (T := ⟨xz, yz, pz, qz, sz, tz, hz, mz⟩) (a := (xz + r12 - 100)) (b := (yz + r13 - 200)) (L := -1000 - 1200 * (j + 1)) (M := -1000 - 1200 * (j + 1)) (N := 1000 + 1200 * (j + 1)) (by dsimp only; omega) (by omega) (by dsimp only; omega) (by omega) (by dsimp only; omega) (by omega); have hiT := hitT (T := ⟨xz, yz, pz, qz, sz, tz, hz, mz⟩) (a := (xz + r12 - 100)) (b := (yz + r13 - 200)) cvH.out (by rw [coB, inB_t hA, inB_t hB]; rfl); (rcases hf : fHit ⟨xz, yz, pz, qz, sz, tz, hz, mz⟩ (xz + r12 - 100) (yz + r13 - 200) with ⟨xv, yv, pv, qv, sv, tv, hv, mv⟩); rw [hf] at hit hiT; dsimp only at hit; have hfH2 := Lib.hid hf; have hiH : Hid (trB xv yv pv qv sv tv hv mv = true) := hiT; clear hf hiT; (with_reducible refine (spec_hit xz yz pz qz sz tz hz mz (xz + r12 - 100) (yz + r13 - 200) xv yv pv qv sv tv hv mv _ f1 f2 f3 f4 f5 f6 hA hB hok hfH2.out).mono ?_); rintro e w14 ⟨rfl, hb14⟩; have nb14 := nb13.next hb14; have tb14 := tb13.next hb14; have rb14 := rb13.next hb14; have G14 := grownBy_below G13 hb14 (by omega); have hs14 := Src.below hs13 hb14; have k0 := nb14.cell (j := 0) rfl; have k1 := nb14.cell (j := 1) rfl; have k2 := nb14.cell (j := 2) rfl; have k3 := nb14.cell (j := 3) rfl; have k4 := nb14.cell (j := 4) rfl; have k5 := nb14.cell (j := 5) rfl; have k6 := nb14.cell (j := 6) rfl; have k7 := nb14.cell (j := 7) rfl; have kf := nb14.fz; have t0 := tb14.cell (j := 0) rfl; have t1 := tb14.cell (j := 1) rfl; have t2 := tb14.cell (j := 2) rfl; have t3 := tb14.cell (j := 3) rfl; have t4 := tb14.cell (j := 4) rfl; have t5 := tb14.cell (j := 5) rfl; have t6 := tb14.cell (j := 6) rfl; have t7 := tb14.cell (j := 7) rfl; have tf := tb14.fz)) | skip); (try go_wp2_with fail); all_goals (refine hK.out _ _ ?_ (fun hHeld => ?_); (focus ((try dsimp only); (refine ⟨?_, ?_, ?_, ?_, ?_, ?_, ?_, ?_⟩ <;> exact bxc))); clear hK K; (try simp only [Act.put, List.setIfInBounds_toArray, List.set_cons_zero, List.set_cons_succ]))); (refine lastE (by kernel_rfl) rfl (by kernel_rfl) (fun K hK => ?_); (go_simp; (try go_wp2_with fail)); refine hK.out _ _ ?_; clear hK K; (try simp only [Act.put, List.setIfInBounds_toArray, List.set_cons_zero, List.set_cons_succ])); refine NoPanic.normal ?_))
            all_goals (
              repeat' (first | fail | go_values | go_skip | go_guarded | go_step | go_upon | (simp only []; go_step) | (go_ite <;> go_prune <;> (try go_simp)))
              all_goals exact ⟨⟨k - 1, j + 1, xv, yv, pv, qv, sv, tv, hv, mv, rfl, by omega, by omega, by omega, by omega, by omega, by omega, hiH.out, ((((((((((((((((tb14.far (by omega)).far (by omega)).far (by omega)).far (by omega)).far (by omega)).far (by omega)).far (by omega)).far (by omega)).set 0 _).set 1 _).set 2 _).set 3 _).set 4 _).set 5 _).set 6 _).set 7 _), ((((((((((((((((rb14.far (by omega)).far (by omega)).far (by omega)).far (by omega)).far (by omega)).far (by omega)).far (by omega)).far (by omega)).far (by omega)).far (by omega)).far (by omega)).far (by omega)).far (by omega)).far (by omega)).far (by omega)).far (by omega)), (by repeat' (first | (with_reducible assumption) | (with_reducible refine Src.setX ?_ (by first | assumption | omega)) | (with_reducible refine Src.alloc ?_ _) | (with_reducible refine Src.drewS ?_))), (by repeat' (first | (with_reducible assumption) | (with_reducible refine grownBy_setX ?_ (by first | assumption | omega)) | (with_reducible refine grownBy_alloc' ?_ _) | (with_reducible refine grownBy_drew ?_)))⟩, by simp [intOf]; omega⟩)
      · skip
        repeat' (first | fail | go_values | go_skip | go_guarded | go_step | go_upon | (simp only []; go_step) | (go_ite <;> go_prune <;> (try go_simp)))
        refine (spec_l01Next _ _ _ _ hsr (by omega)).mono ?_
        rintro e w9 ⟨r9, rfl, ⟨hr9, ht9⟩, hs9, hg9⟩
        have rb := rb.src hg9 (by omega)
        have tb := tb.src hg9 (by omega)
        have G := grownBy_src G hg9
        have z9 := tb.lt
        clear hg9 hsr t0 t1 t2 t3 t4 t5 t6 t7 tf hb hbT
        by_cases q0 : r9 = 0
        · subst q0
          repeat' (first | fail | go_values | go_skip | go_guarded | go_step | go_upon | (simp only []; go_step) | (go_ite <;> go_prune <;> (try go_simp)))
          (go_at_call 59; refine (pick5 _ _ _ _ _ _ _ _ _ (hs9.alloc _) (by exact heap_alloc_new _ _) (by omega)).mono ?_; rintro e w1 ⟨r1, rfl, hm1, hs1, hg1⟩; (have tb := (tb.alloc _).src hg1 (by omega)); (have rb := (rb.alloc _).src hg1 (by omega)); (have G := grownBy_src (grownBy_alloc' G _) hg1); (have t0 := tb.cell (j := 0) rfl); (have t1 := tb.cell (j := 1) rfl); (have t2 := tb.cell (j := 2) rfl); (have t3 := tb.cell (j := 3) rfl); (have t4 := tb.cell (j := 4) rfl); (have t5 := tb.cell (j := 5) rfl); (have t6 := tb.cell (j := 6) rfl); (have t7 := tb.cell (j := 7) rfl); (have tf := tb.fz); (have b0 := rb.cell (j := 0) rfl); (have b1 := rb.cell (j := 1) rfl); (have b2 := rb.cell (j := 2) rfl); (have b3 := rb.cell (j := 3) rfl); (have b4 := rb.cell (j := 4) rfl); (have b5 := rb.cell (j := 5) rfl); (have b6 := rb.cell (j := 6) rfl); (have b7 := rb.cell (j := 7) rfl); (have bf := rb.fz))
          repeat' (first | fail | go_values | go_skip | go_guarded | go_step | go_upon | (simp only []; go_step) | (go_ite <;> go_prune <;> (try go_simp)))
          all_goals ((try simp only [Exit.inBlock, Exit.then]); refine bodyPost_ret (by simp [results, Tryz.results33, go_sem, *]; try rfl) rfl ?_)
          all_goals (refine ⟨_, _, _, _, _, _, _, _, rfl, ?_, ?_⟩; (focus ((repeat' (first | (with_reducible assumption) | (with_reducible refine Src.setX ?_ (by first | assumption | omega)) | (with_reducible refine Src.alloc ?_ _) | (with_reducible refine Src.drewS ?_))); done)); (focus ((repeat' (first | (with_reducible assumption) | (with_reducible refine grownBy_setX ?_ (by first | assumption | omega)) | (with_reducible refine grownBy_alloc' ?_ _) | (with_reducible refine grownBy_drew ?_))); done)))
        have e0 : (r9 == 0) = false := by simpa using q0
        by_cases q1 : r9 = 1
        · subst q1
          repeat' (first | fail | go_values | go_skip | go_guarded | go_step | go_upon | (simp only []; go_step) | (go_ite <;> go_prune <;> (try go_simp)))
          (go_at_call 59; refine (pick5 _ _ _ _ _ _ _ _ _ (hs9.alloc _) (by exact heap_alloc_new _ _) (by omega)).mono ?_; rintro e w1 ⟨r1, rfl, hm1, hs1, hg1⟩; (have tb := (tb.alloc _).src hg1 (by omega)); (have rb := (rb.alloc _).src hg1 (by omega)); (have G := grownBy_src (grownBy_alloc' G _) hg1); (have t0 := tb.cell (j := 0) rfl); (have t1 := tb.cell (j := 1) rfl); (have t2 := tb.cell (j := 2) rfl); (have t3 := tb.cell (j := 3) rfl); (have t4 := tb.cell (j := 4) rfl); (have t5 := tb.cell (j := 5) rfl); (have t6 := tb.cell (j := 6) rfl); (have t7 := tb.cell (j := 7) rfl); (have tf := tb.fz); (have b0 := rb.cell (j := 0) rfl); (have b1 := rb.cell (j := 1) rfl); (have b2 := rb.cell (j := 2) rfl); (have b3 := rb.cell (j := 3) rfl); (have b4 := rb.cell (j := 4) rfl); (have b5 := rb.cell (j := 5) rfl); (have b6 := rb.cell (j := 6) rfl); (have b7 := rb.cell (j := 7) rfl); (have bf := rb.fz))
          repeat' (first | fail | go_values | go_skip | go_guarded | go_step | go_upon | (simp only []; go_step) | (go_ite <;> go_prune <;> (try go_simp)))
          all_goals ((try simp only [Exit.inBlock, Exit.then]); refine bodyPost_ret (by simp [results, Tryz.results33, go_sem, *]; try rfl) rfl ?_)
          all_goals (refine ⟨_, _, _, _, _, _, _, _, rfl, ?_, ?_⟩; (focus ((repeat' (first | (with_reducible assumption) | (with_reducible refine Src.setX ?_ (by first | assumption | omega)) | (with_reducible refine Src.alloc ?_ _) | (with_reducible refine Src.drewS ?_))); done)); (focus ((repeat' (first | (with_reducible assumption) | (with_reducible refine grownBy_setX ?_ (by first | assumption | omega)) | (with_reducible refine grownBy_alloc' ?_ _) | (with_reducible refine grownBy_drew ?_))); done)))
        have e1 : (r9 == 1) = false := by simpa using q1
        by_cases q2 : r9 = 2
        · subst q2
          repeat' (first | fail | go_values | go_skip | go_guarded | go_step | go_upon | (simp only []; go_step) | (go_ite <;> go_prune <;> (try go_simp)))
          (go_at_call 59; refine (pick6 _ _ _ _ _ _ _ _ _ _ (hs9.alloc _) (by exact heap_alloc_new _ _) (by omega)).mono ?_; rintro e w1 ⟨r1, rfl, hm1, hs1, hg1⟩; (have tb := (tb.alloc _).src hg1 (by omega)); (have rb := (rb.alloc _).src hg1 (by omega)); (have G := grownBy_src (grownBy_alloc' G _) hg1); (have t0 := tb.cell (j := 0) rfl); (have t1 := tb.cell (j := 1) rfl); (have t2 := tb.cell (j := 2) rfl); (have t3 := tb.cell (j := 3) rfl); (have t4 := tb.cell (j := 4) rfl); (have t5 := tb.cell (j := 5) rfl); (have t6 := tb.cell (j := 6) rfl); (have t7 := tb.cell (j := 7) rfl); (have tf := tb.fz); (have b0 := rb.cell (j := 0) rfl); (have b1 := rb.cell (j := 1) rfl); (have b2 := rb.cell (j := 2) rfl); (have b3 := rb.cell (j := 3) rfl); (have b4 := rb.cell (j := 4) rfl); (have b5 := rb.cell (j := 5) rfl); (have b6 := rb.cell (j := 6) rfl); (have b7 := rb.cell (j := 7) rfl); (have bf := rb.fz))
          repeat' (first | fail | go_values | go_skip | go_guarded | go_step | go_upon | (simp only []; go_step) | (go_ite <;> go_prune <;> (try go_simp)))
          all_goals ((try simp only [Exit.inBlock, Exit.then]); refine bodyPost_ret (by simp [results, Tryz.results33, go_sem, *]; try rfl) rfl ?_)
          all_goals (refine ⟨_, _, _, _, _, _, _, _, rfl, ?_, ?_⟩; (focus ((repeat' (first | (with_reducible assumption) | (with_reducible refine Src.setX ?_ (by first | assumption | omega)) | (with_reducible refine Src.alloc ?_ _) | (with_reducible refine Src.drewS ?_))); done)); (focus ((repeat' (first | (with_reducible assumption) | (with_reducible refine grownBy_setX ?_ (by first | assumption | omega)) | (with_reducible refine grownBy_alloc' ?_ _) | (with_reducible refine grownBy_drew ?_))); done)))
        have e2 : (r9 == 2) = false := by simpa using q2
        by_cases q3 : r9 = 3
        · subst q3
          repeat' (first | fail | go_values | go_skip | go_guarded | go_step | go_upon | (simp only []; go_step) | (go_ite <;> go_prune <;> (try go_simp)))
          (go_at_call 60; refine (spec_l14DrawMotion _ _ _ hs9).mono ?_; rintro e w1 ⟨xm, ym, pm, qm, sm, rfl, hs1, hg1⟩; (have tb := tb.src hg1 (by omega)); (have rb := rb.src hg1 (by omega)); (have G := grownBy_src G hg1); (have t0 := tb.cell (j := 0) rfl); (have t1 := tb.cell (j := 1) rfl); (have t2 := tb.cell (j := 2) rfl); (have t3 := tb.cell (j := 3) rfl); (have t4 := tb.cell (j := 4) rfl); (have t5 := tb.cell (j := 5) rfl); (have t6 := tb.cell (j := 6) rfl); (have t7 := tb.cell (j := 7) rfl); (have tf := tb.fz); (have b0 := rb.cell (j := 0) rfl); (have b1 := rb.cell (j := 1) rfl); (have b2 := rb.cell (j := 2) rfl); (have b3 := rb.cell (j := 3) rfl); (have b4 := rb.cell (j := 4) rfl); (have b5 := rb.cell (j := 5) rfl); (have b6 := rb.cell (j := 6) rfl); (have b7 := rb.cell (j := 7) rfl); (have bf := rb.fz))
          repeat' (first | fail | go_values | go_skip | go_guarded | go_step | go_upon | (simp only []; go_step) | (go_ite <;> go_prune <;> (try go_simp)))
          all_goals ((try simp only [Exit.inBlock, Exit.then]); refine bodyPost_ret (by simp [results, Tryz.results33, go_sem, *]; try rfl) rfl ?_)
          all_goals (refine ⟨_, _, _, _, _, _, _, _, rfl, ?_, ?_⟩; (focus ((repeat' (first | (with_reducible assumption) | (with_reducible refine Src.setX ?_ (by first | assumption | omega)) | (with_reducible refine Src.alloc ?_ _) | (with_reducible refine Src.drewS ?_))); done)); (focus ((repeat' (first | (with_reducible assumption) | (with_reducible refine grownBy_setX ?_ (by first | assumption | omega)) | (with_reducible refine grownBy_alloc' ?_ _) | (with_reducible refine grownBy_drew ?_))); done)))
        have e3 : (r9 == 3) = false := by simpa using q3
        have t0 := tb.cell (j := 0) rfl
        have t1 := tb.cell (j := 1) rfl
        have t2 := tb.cell (j := 2) rfl
        have t3 := tb.cell (j := 3) rfl
        have t4 := tb.cell (j := 4) rfl
        have t5 := tb.cell (j := 5) rfl
        have t6 := tb.cell (j := 6) rfl
        have t7 := tb.cell (j := 7) rfl
        have tf := tb.fz
        have b0 := rb.cell (j := 0) rfl
        have b1 := rb.cell (j := 1) rfl
        have b2 := rb.cell (j := 2) rfl
        have b3 := rb.cell (j := 3) rfl
        have b4 := rb.cell (j := 4) rfl
        have b5 := rb.cell (j := 5) rfl
        have b6 := rb.cell (j := 6) rfl
        have b7 := rb.cell (j := 7) rfl
        have bf := rb.fz
        repeat' (first | fail | go_values | go_skip | go_guarded | go_step | go_upon | (simp only []; go_step) | (go_ite <;> go_prune <;> (try go_simp)))
        all_goals ((try simp only [Exit.inBlock, Exit.then]); refine bodyPost_ret (by simp [results, Tryz.results33, go_sem, *]; try rfl) rfl ?_)
        all_goals (refine ⟨_, _, _, _, _, _, _, _, rfl, ?_, ?_⟩; (focus ((repeat' (first | (with_reducible assumption) | (with_reducible refine Src.setX ?_ (by first | assumption | omega)) | (with_reducible refine Src.alloc ?_ _) | (with_reducible refine Src.drewS ?_))); done)); (focus ((repeat' (first | (with_reducible assumption) | (with_reducible refine grownBy_setX ?_ (by first | assumption | omega)) | (with_reducible refine grownBy_alloc' ?_ _) | (with_reducible refine grownBy_drew ?_))); done)))
end Go.Proofs.YthbljfanoaibkaaGreatDoor
