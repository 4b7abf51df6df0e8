/- The draws of mosaics: contracts. Printed by gen_shd.py. -/
import Derived.Test.YtdedmiennpbfcaaVBox
import Derived.Test.YtdedmiennpbfcaaShrC
import Derived.Test.YtdedmiennpbfcaaNewS
import Derived.Test.YtdedmiennpbfcaaRegKit
import Derived.Deep.CutRange
import Derived.Deep.DeepCutAuto
namespace Go.Proofs.Ytdedmiennpbfcaa
open Go.RowKit Go.ChangeShapes Go.WideShapes Go.ChangeAt
set_option linter.unusedVariables false
set_option linter.unusedSimpArgs false
theorem below_row {w W w1 : World} {g : Nat} (h : Below w.heap.size w W) (hg : W.grownBy w1 (some g)) (hB : w.heap.size ≤ g) : Below w.heap.size w w1 :=
  ⟨hg.os.trans h.os, hg.tape.trans h.tape, hg.output.trans h.output, Nat.le_trans h.size hg.size, fun k hk => (hg.block k (Nat.lt_of_lt_of_le hk h.size) (by simp; omega)).trans (h.block k hk)⟩
theorem below_drew {B : Nat} {a w : World} (h : Below B a w) : Below B a w.drew := ⟨h.os, h.tape, h.output, h.size, h.block⟩
theorem ownI_src {w w' : World} {base g : Nat} {v : Value} {xs : List Int} (h : OwnI w base v xs) (hg : w.grownBy w' (some g)) (hlt : g < base) : OwnI w' base v xs := h.kept hg (by
  cases hv : v.ownBlock with
  | none => simp
  | some q => right; have := h.lt q hv; simp; omega)
theorem OwnI.c0 {w : World} {base gb n c k : Nat} {xs : List Int} {x : Int} (h : OwnI w base (.slice (some ⟨gb, 0, none⟩) n c) xs) (hx : xs[k]? = some x) : w.cell? ⟨gb, k, none⟩ = some (.int .i64 x) ∧ w.frozen? ⟨gb, k, none⟩ = false := by
  obtain ⟨g9, e9, _, c0, f0, _⟩ := h.cell hx
  obtain rfl : gb = g9 := by simpa using e9
  exact ⟨c0, f0⟩
theorem Src.under {w w' : World} {B g M : Nat} (h : Src w B g) (hb : Below M w w') (hl : g < M) : Src w' B g := by
  have hlt := h.lt
  obtain ⟨A, c, code, pos, seed, hg, h1, h2, h3, h4, h5, hB⟩ := h
  exact ⟨A, c, code, pos, seed, (hb.block g hl).trans hg, Rd.below h1 (hb.mono (by omega)), h2, h3, h4, h5, hB⟩
set_option maxHeartbeats 1600000 in
theorem spec_l19PutH (p q V G z1 : Int) (n cv cu gv gu base i : Nat) (zs gs : List Int) (w : World) (ov : OwnI w base (.slice (some ⟨gv, 0, none⟩) n cv) zs) (ou : OwnI w base (.slice (some ⟨gu, 0, none⟩) n cu) gs) (hne : gv ≠ gu) (hbase : base ≤ w.heap.size) (hi : i < n) (hn : n ≤ 1600) (hz1 : gs[i]? = some z1) (hG : z1 < G) :
    Calls Try.prog 25 #[.agg #[.int .i64 p, .int .i64 q, .slice (some ⟨gv, 0, none⟩) n cv, .slice (some ⟨gu, 0, none⟩) n cu], .int .i64 i, .int .i64 V, .int .i64 G] w fun e w' => e = .returned (.tuple #[]) ∧ OwnI w' base (.slice (some ⟨gv, 0, none⟩) n cv) (zs.set i V) ∧ OwnI w' base (.slice (some ⟨gu, 0, none⟩) n cu) (gs.set i G) ∧ Below base w w' ∧ w.heap.size ≤ w'.heap.size ∧ (∀ b, b < w.heap.size → b ≠ gv → b ≠ gu → w'.heap[b]? = w.heap[b]?) := by
  have hlz := ov.reads.1
  obtain ⟨z0, hz0⟩ := get_of_lt (xs := zs) (k := i) (by omega)
  obtain ⟨g1, e1, b1, c0, f0, _⟩ := ov.cell hz0
  simp only [Option.some.injEq, Addr.mk.injEq, and_true] at e1
  subst e1
  obtain ⟨g2, e2, b2, c1, f1, _⟩ := ou.cell hz1
  simp only [Option.some.injEq, Addr.mk.injEq, and_true] at e2
  subst e2
  have hgv := World.block_lt_of_cell? w ⟨gv, i, none⟩ c0
  have hgu := World.block_lt_of_cell? w ⟨gu, i, none⟩ c1
  have p0 : (0 : Int) ≤ (i : Int) := by omega
  have p1 : (i : Int) < (n : Int) := by omega
  have d1 : decide (z1 < G) = true := decide_eq_true hG
  have hzH := Lib.hid hz0
  have hz1H := Lib.hid hz1
  have hlH := Lib.hid hlz
  clear hz0 hz1 hlz
  go_enter Try.func25, Try.ntmps25
  repeat' (first | fail | go_values | go_skip | go_guarded | go_step | go_upon | (simp only []; go_step) | (go_ite <;> go_prune <;> (try go_simp)))
  all_goals go_returns
  have hw := two_sets (i := i) ov ou hne (by have := hlH.out; omega) (lt_of_get hz1H.out) V G
  have hB : Below base w ((w.setCell ⟨gv, i, none⟩ (.int .i64 V)).setCell ⟨gu, i, none⟩ (.int .i64 G)) := ((Below.refl _ _).setCell b1 _).setCell b2 _
  exact ⟨rfl, hw.1.alloc _, hw.2.alloc _, hB.alloc (by simp only [World.size_setCell]; exact hbase) _, by simp only [World.size_setCell, World.size_alloc]; omega, fun b hb n1 n2 => (Below.heap_alloc _ _ b (by simp only [World.size_setCell]; exact hb)).trans ((Below.heap_setCell _ ⟨gu, i, none⟩ _ b n2).trans (Below.heap_setCell w ⟨gv, i, none⟩ _ b n1))⟩
/-- a mosaic that was drawn -/
def DrawnMos (w : World) (B g : Nat) (e : Ending) (w' : World) : Prop := ∃ p q A c A2 d xs ys, e = .returned (.agg #[.int .i64 p, .int .i64 q, .slice A xs.length c, .slice A2 ys.length d]) ∧ I64 w' w'.heap.size A xs ∧ I64 w' w'.heap.size A2 ys ∧ xs.length ≤ 30 ∧ ys.length ≤ 30 ∧ (∀ b o, A = some ⟨b, o, none⟩ → w.heap.size < b) ∧ (∀ b o, A2 = some ⟨b, o, none⟩ → w.heap.size < b) ∧ Src w' B g ∧ w.grownBy w' (some g)
set_option maxRecDepth 100000 in
set_option maxHeartbeats 3200000 in
theorem spec_l19Draw (B g : Nat) (w : World) (hs : Src w B g) : Calls Try.prog 14 #[.pointer (some ⟨g, 0, none⟩)] w (DrawnMos w B g) := by
  have hlt := hs.lt
  go_enter Try.func14, Try.ntmps14
  go_wp2_with fail
  refine calls_gen (fun W0 hW0 => ?_)
  have rb : VBox W0 26 w.heap.size [.int .i64 0, .int .i64 0, .slice none 0 0, .slice none 0 0] := by rw [hW0]; exact VBox.new rfl
  have hs0 : Src W0 B g := by rw [hW0]; exact hs.alloc _
  have G : w.grownBy W0 (some g) := by rw [hW0]; exact grownBy_alloc' (World.grownBy.refl _ _) _
  clear hW0 hs
  refine (spec_l01Next _ _ _ _ hs0 (by omega)).mono ?_
  rintro e w1 ⟨r1, rfl, ⟨hr1, ht1⟩, hs1, hg1⟩
  have rb := rb.src hg1 (by omega)
  have G := grownBy_src G hg1
  clear hg1 hs0
  go_wp2_with fail
  refine (spec_l01Next _ _ _ _ hs1 (by omega)).mono ?_
  rintro e w2 ⟨r2, rfl, ⟨hr2, ht2⟩, hs2, hg2⟩
  have rb := rb.src hg2 (by omega)
  have G := grownBy_src G hg2
  clear hg2 hs1
  go_wp2_with fail
  have zb : w.heap.size < w2.heap.size := rb.lt
  have hpq : 1 ≤ (1 + r1) * (1 + r2) ∧ (1 + r1) * (1 + r2) ≤ 30 := by
    have a1 := Int.mul_le_mul (a := 1 + r1) (b := 1 + r2) (c := 6) (d := 5) (by omega) (by omega) (by omega) (by omega)
    have a2 := Int.mul_le_mul (a := 1) (b := 1) (c := 1 + r1) (d := 1 + r2) (by omega) (by omega) (by omega) (by omega)
    omega
  obtain ⟨n, hn⟩ := Int.eq_ofNat_of_zero_le (show 0 ≤ (1 + r1) * (1 + r2) by omega)
  have hn1 : 1 ≤ n := by omega
  have hn30 : n ≤ 30 := by omega
  refine (spec_l19New _ _ n _ (by omega) (by omega) hn hn1 (by omega)).mono ?_
  rintro e w3 ⟨v, u, rfl, ov, ou, hb3⟩
  have rb := rb.next hb3
  have G := grownBy_below G hb3 (by have := G.size; exact this)
  have hs3 := Src.below hs2 hb3
  have z2 := G.size
  obtain ⟨M2, hM2⟩ : ∃ M, M = w2.heap.size := ⟨_, rfl⟩
  have z23 := hb3.size
  rw [← hM2] at ov ou zb z23
  have zg : g < M2 := by rw [hM2]; exact hs2.lt.2
  obtain ⟨p, hp⟩ : ∃ p : Int, p = 1 + r1 := ⟨_, rfl⟩
  obtain ⟨q, hq⟩ : ∃ q : Int, q = 1 + r2 := ⟨_, rfl⟩
  rw [← hp, ← hq] at hn hpq
  rw [← hp, ← hq]
  clear hb3 hs2 hp hq hM2
  obtain ⟨A1, cv, rfl⟩ : ∃ A c, v = .slice A n c := by obtain ⟨A, c, h, _⟩ := id ov; exact ⟨A, c, by simpa using h⟩
  obtain ⟨A2, cu, rfl⟩ : ∃ A c, u = .slice A n c := by obtain ⟨A, c, h, _⟩ := id ou; exact ⟨A, c, by simpa using h⟩
  obtain ⟨gv, rfl, bv, cv0, _⟩ := ov.cell (k := 0) (x := -1) (by simp [List.getElem?_replicate]; omega)
  obtain ⟨gu, rfl, bu, cu0, _⟩ := ou.cell (k := 0) (x := 0) (by simp [List.getElem?_replicate]; omega)
  have hvu : gv ≠ gu := fun e => by rw [e, cu0] at cv0; simp at cv0
  have lv := World.block_lt_of_cell? w3 ⟨gv, 0, none⟩ cv0
  have lu := World.block_lt_of_cell? w3 ⟨gu, 0, none⟩ cu0
  have lv : gv < w3.heap.size := lv
  have lu : gu < w3.heap.size := lu
  clear cv0 cu0
  have wpq : IntKind.i64.wrap (p * q) = (n : Int) := by rw [hn]; exact IntWalk.i64_in _ (by omega)
  have wpq2 : wrap64 (p * q) = (n : Int) := by rw [hn]; exact IntWalk.wrap64_in _ ⟨by omega, by omega⟩
  clear hn hpq
  go_wp2_with fail
  refine wp_gen (fun W4 hW4 => ?_)
  obtain ⟨X, hX⟩ : ∃ X, X = w3.heap.size := ⟨_, rfl⟩
  have mb : VBox W4 26 X [.int .i64 p, .int .i64 q, .slice (some ⟨gv, 0, none⟩) n cv, .slice (some ⟨gu, 0, none⟩) n cu] := by rw [hW4, hX]; exact VBox.new rfl
  have rb : VBox W4 26 w.heap.size [.int .i64 0, .int .i64 0, .slice none 0 0, .slice none 0 0] := by rw [hW4]; exact rb.alloc _
  have ov : OwnI W4 M2 (.slice (some ⟨gv, 0, none⟩) n cv) (List.replicate n (-1)) := by rw [hW4]; exact ov.alloc _
  have ou : OwnI W4 M2 (.slice (some ⟨gu, 0, none⟩) n cu) (List.replicate n 0) := by rw [hW4]; exact ou.alloc _
  have hs4 : Src W4 B g := by rw [hW4]; exact hs3.alloc _
  have G : w.grownBy W4 (some g) := by rw [hW4]; exact grownBy_alloc' G _
  rw [← hX]
  rw [← hX] at lv lu z23
  clear hW4 hs3 hX
  go_loopw [4] (fun i9 wr => ∃ (i : Nat) (zs gs : List Int), i9 = .int .i64 i ∧ i ≤ n ∧ Hid (zs.length = n) ∧ Hid (gs.length = n) ∧ Hid (∀ j, i ≤ j → j < n → gs[j]? = some 0) ∧ VBox wr 26 X [.int .i64 p, .int .i64 q, .slice (some ⟨gv, 0, none⟩) n cv, .slice (some ⟨gu, 0, none⟩) n cu] ∧ VBox wr 26 w.heap.size [.int .i64 0, .int .i64 0, .slice none 0 0, .slice none 0 0] ∧ OwnI wr M2 (.slice (some ⟨gv, 0, none⟩) n cv) zs ∧ OwnI wr M2 (.slice (some ⟨gu, 0, none⟩) n cu) gs ∧ Src wr B g ∧ w.grownBy wr (some g)) (fun i9 _ => n - (intOf i9).toNat)
  case atStart => exact ⟨0, _, _, rfl, Nat.zero_le _, by simp [Hid], by simp [Hid], fun j _ hj => by simp [List.getElem?_replicate, hj], mb, rb, ov, ou, hs4, G⟩
  case round =>
    clear mb rb ov ou hs4 G
    obtain ⟨i, zs, gs, rfl, hi, hz, hgl, hg0, mb, rb, ov, ou, hsr, G⟩ := hrel
    have zX := mb.lt
    have m0 := mb.cell (j := 0) rfl
    have m1 := mb.cell (j := 1) rfl
    have m2 := mb.cell (j := 2) rfl
    have m3 := mb.cell (j := 3) rfl
    have mf := mb.fz
    by_cases hlt : i < n
    · have p0 : (i : Int) < (n : Int) := by omega
      go_wp2_with fail
      refine (spec_l01Next _ _ _ _ hsr (by omega)).mono ?_
      rintro e w5 ⟨r5, rfl, ⟨hr5, ht5⟩, hs5, hg5⟩
      have mb := mb.src hg5 (by omega)
      have rb := rb.src hg5 (by omega)
      have ov := ownI_src ov hg5 (by omega)
      have ou := ownI_src ou hg5 (by omega)
      have G := grownBy_src G hg5
      have z5 := hg5.size
      clear hg5 hsr m0 m1 m2 m3 mf
      by_cases hr : 0 < r5
      · have hz1 := hg0.out i (Nat.le_refl _) hlt
        have hz1H := Lib.hid hz1
        clear hz1
        have m0 := mb.cell (j := 0) rfl
        have m1 := mb.cell (j := 1) rfl
        have m2 := mb.cell (j := 2) rfl
        have m3 := mb.cell (j := 3) rfl
        have mf := mb.fz
        go_wp2_with fail
        (refine wp_region_noPanic ?_; refine wp_region_held_drew (S := (fun w' => w'.cell? ⟨X, 0, none⟩ = some (.int .i64 p) ∧ w'.cell? ⟨X, 1, none⟩ = some (.int .i64 q) ∧ w'.cell? ⟨X, 2, none⟩ = some (.slice (some ⟨gv, 0, none⟩) n cv) ∧ w'.cell? ⟨X, 3, none⟩ = some (.slice (some ⟨gu, 0, none⟩) n cu))) (by kernel_rfl) ?_ (fun hHeld => ?_); (focus ((try dsimp only); (refine ⟨?_, ?_, ?_, ?_⟩ <;> exact bxc))); (refine takeT (i := 0) (d := 24) rfl rfl (by kernel_rfl) (by kernel_rfl) (by kernel_rfl) (by rfl) (by assumption) (v := ?_) ?_ ?_; rotate_left; (focus (intro wq hSw; (try dsimp only at hSw); go_simp; (try (with_reducible rfl)); done)); (try simp only [Act.put, List.setIfInBounds_toArray, List.set_cons_zero, List.set_cons_succ])); (refine takeT (i := 1) (d := 25) rfl rfl (by kernel_rfl) (by kernel_rfl) (by kernel_rfl) (by rfl) (by assumption) (v := ?_) ?_ ?_; rotate_left; (focus (intro wq hSw; (try dsimp only at hSw); go_simp; (try (with_reducible rfl)); done)); (try simp only [Act.put, List.setIfInBounds_toArray, List.set_cons_zero, List.set_cons_succ])); (refine takeT (i := 2) (d := 26) rfl rfl (by kernel_rfl) (by kernel_rfl) (by kernel_rfl) (by rfl) (by assumption) (v := ?_) ?_ ?_; rotate_left; (focus (intro wq hSw; (try dsimp only at hSw); go_simp; (try (with_reducible rfl)); done)); (try simp only [Act.put, List.setIfInBounds_toArray, List.set_cons_zero, List.set_cons_succ])); (refine takeT (i := 4) (d := 28) rfl rfl (by kernel_rfl) (by kernel_rfl) (by kernel_rfl) (by rfl) (by assumption) (v := ?_) ?_ ?_; rotate_left; (focus (intro wq hSw; (try dsimp only at hSw); go_simp; (try (with_reducible rfl)); done)); (try simp only [Act.put, List.setIfInBounds_toArray, List.set_cons_zero, List.set_cons_succ])); (refine wpAnyH_ready (rs := [3]) (by kernel_rfl) (by simp) ?_; refine AllReadyH.cons rfl (fun K hK => ?_) AllReadyH.nil; go_simp; (first | (go_at_call 15; refine (spec_l01Next _ _ _ _ (Src.drewS hs5) (by omega)).mono ?_; rintro e w6 ⟨r6, rfl, ⟨hr6, ht6⟩, hs6, hg6⟩; have mb6 := VBox.src (w := w5.drew) mb hg6 (by omega); have rb6 := VBox.src (w := w5.drew) rb hg6 (by omega); have ov6 := ownI_src (w := w5.drew) ov hg6 (by omega); have ou6 := ownI_src (w := w5.drew) ou hg6 (by omega); have G6 := grownBy_src (grownBy_drew G) hg6; have z6 := hg6.size; (try simp only [World.size_drew] at z6); have k0 := mb6.cell (j := 0) rfl; have k1 := mb6.cell (j := 1) rfl; have k2 := mb6.cell (j := 2) rfl; have k3 := mb6.cell (j := 3) rfl; have kf := mb6.fz) | (go_at_call 15; refine (spec_l01Next _ _ _ _ hs6 (by omega)).mono ?_; rintro e w7 ⟨r7, rfl, ⟨hr7, ht7⟩, hs7, hg7⟩; have mb7 := VBox.src mb6 hg7 (by omega); have rb7 := VBox.src rb6 hg7 (by omega); have ov7 := ownI_src ov6 hg7 (by omega); have ou7 := ownI_src ou6 hg7 (by omega); have G7 := grownBy_src G6 hg7; have z7 := hg7.size; have k0 := mb7.cell (j := 0) rfl; have k1 := mb7.cell (j := 1) rfl; have k2 := mb7.cell (j := 2) rfl; have k3 := mb7.cell (j := 3) rfl; have kf := mb7.fz) | (go_at_call 25; refine (spec_l19PutH _ _ _ _ 0 n cv cu gv gu M2 i zs gs _ ov7 ou7 hvu (by omega) hlt (by omega) hz1H.out (by first | omega | (rw [IntWalk.i64_in _ (by omega)]; omega))).mono ?_; rintro e w8 ⟨rfl, ov8, ou8, hb8, z8, hc8⟩; have mb8 : VBox w8 26 X [.int .i64 p, .int .i64 q, .slice (some ⟨gv, 0, none⟩) n cv, .slice (some ⟨gu, 0, none⟩) n cu] := (hc8 X (by omega) (by omega) (by omega)).trans mb7; have rb8 := rb7.below hb8 (by omega); have hs8 : Src w8 B g := Src.under hs7 hb8 (by omega); have G8 := grownBy_below G7 hb8 (by omega); have k0 := mb8.cell (j := 0) rfl; have k1 := mb8.cell (j := 1) rfl; have k2 := mb8.cell (j := 2) rfl; have k3 := mb8.cell (j := 3) rfl; have kf := mb8.fz) | skip); (try go_wp2_with fail); refine hK.out _ _ ?_ (fun hHeld => ?_); (focus ((try dsimp only); (refine ⟨?_, ?_, ?_, ?_⟩ <;> exact bxc))); clear hK K; (try simp only [Act.put, List.setIfInBounds_toArray, List.set_cons_zero, List.set_cons_succ])); (refine wpAnyH_ready (rs := [5]) (by kernel_rfl) (by simp) ?_; refine AllReadyH.cons rfl (fun K hK => ?_) AllReadyH.nil; go_simp; (first | (go_at_call 15; refine (spec_l01Next _ _ _ _ (Src.drewS hs5) (by omega)).mono ?_; rintro e w6 ⟨r6, rfl, ⟨hr6, ht6⟩, hs6, hg6⟩; have mb6 := VBox.src (w := w5.drew) mb hg6 (by omega); have rb6 := VBox.src (w := w5.drew) rb hg6 (by omega); have ov6 := ownI_src (w := w5.drew) ov hg6 (by omega); have ou6 := ownI_src (w := w5.drew) ou hg6 (by omega); have G6 := grownBy_src (grownBy_drew G) hg6; have z6 := hg6.size; (try simp only [World.size_drew] at z6); have k0 := mb6.cell (j := 0) rfl; have k1 := mb6.cell (j := 1) rfl; have k2 := mb6.cell (j := 2) rfl; have k3 := mb6.cell (j := 3) rfl; have kf := mb6.fz) | (go_at_call 15; refine (spec_l01Next _ _ _ _ hs6 (by omega)).mono ?_; rintro e w7 ⟨r7, rfl, ⟨hr7, ht7⟩, hs7, hg7⟩; have mb7 := VBox.src mb6 hg7 (by omega); have rb7 := VBox.src rb6 hg7 (by omega); have ov7 := ownI_src ov6 hg7 (by omega); have ou7 := ownI_src ou6 hg7 (by omega); have G7 := grownBy_src G6 hg7; have z7 := hg7.size; have k0 := mb7.cell (j := 0) rfl; have k1 := mb7.cell (j := 1) rfl; have k2 := mb7.cell (j := 2) rfl; have k3 := mb7.cell (j := 3) rfl; have kf := mb7.fz) | (go_at_call 25; refine (spec_l19PutH _ _ _ _ 0 n cv cu gv gu M2 i zs gs _ ov7 ou7 hvu (by omega) hlt (by omega) hz1H.out (by first | omega | (rw [IntWalk.i64_in _ (by omega)]; omega))).mono ?_; rintro e w8 ⟨rfl, ov8, ou8, hb8, z8, hc8⟩; have mb8 : VBox w8 26 X [.int .i64 p, .int .i64 q, .slice (some ⟨gv, 0, none⟩) n cv, .slice (some ⟨gu, 0, none⟩) n cu] := (hc8 X (by omega) (by omega) (by omega)).trans mb7; have rb8 := rb7.below hb8 (by omega); have hs8 : Src w8 B g := Src.under hs7 hb8 (by omega); have G8 := grownBy_below G7 hb8 (by omega); have k0 := mb8.cell (j := 0) rfl; have k1 := mb8.cell (j := 1) rfl; have k2 := mb8.cell (j := 2) rfl; have k3 := mb8.cell (j := 3) rfl; have kf := mb8.fz) | skip); (try go_wp2_with fail); refine hK.out _ _ ?_ (fun hHeld => ?_); (focus ((try dsimp only); (refine ⟨?_, ?_, ?_, ?_⟩ <;> exact bxc))); clear hK K; (try simp only [Act.put, List.setIfInBounds_toArray, List.set_cons_zero, List.set_cons_succ])); (refine takeT (i := 6) (d := 30) rfl rfl (by kernel_rfl) (by kernel_rfl) (by kernel_rfl) (by rfl) (by assumption) (v := ?_) ?_ ?_; rotate_left; (focus (intro wq hSw; (try dsimp only at hSw); go_simp; (try (with_reducible rfl)); done)); (try simp only [Act.put, List.setIfInBounds_toArray, List.set_cons_zero, List.set_cons_succ])); (refine wpAnyH_ready (rs := [7]) (by kernel_rfl) (by simp) ?_; refine AllReadyH.cons rfl (fun K hK => ?_) AllReadyH.nil; go_simp; (first | (go_at_call 15; refine (spec_l01Next _ _ _ _ (Src.drewS hs5) (by omega)).mono ?_; rintro e w6 ⟨r6, rfl, ⟨hr6, ht6⟩, hs6, hg6⟩; have mb6 := VBox.src (w := w5.drew) mb hg6 (by omega); have rb6 := VBox.src (w := w5.drew) rb hg6 (by omega); have ov6 := ownI_src (w := w5.drew) ov hg6 (by omega); have ou6 := ownI_src (w := w5.drew) ou hg6 (by omega); have G6 := grownBy_src (grownBy_drew G) hg6; have z6 := hg6.size; (try simp only [World.size_drew] at z6); have k0 := mb6.cell (j := 0) rfl; have k1 := mb6.cell (j := 1) rfl; have k2 := mb6.cell (j := 2) rfl; have k3 := mb6.cell (j := 3) rfl; have kf := mb6.fz) | (go_at_call 15; refine (spec_l01Next _ _ _ _ hs6 (by omega)).mono ?_; rintro e w7 ⟨r7, rfl, ⟨hr7, ht7⟩, hs7, hg7⟩; have mb7 := VBox.src mb6 hg7 (by omega); have rb7 := VBox.src rb6 hg7 (by omega); have ov7 := ownI_src ov6 hg7 (by omega); have ou7 := ownI_src ou6 hg7 (by omega); have G7 := grownBy_src G6 hg7; have z7 := hg7.size; have k0 := mb7.cell (j := 0) rfl; have k1 := mb7.cell (j := 1) rfl; have k2 := mb7.cell (j := 2) rfl; have k3 := mb7.cell (j := 3) rfl; have kf := mb7.fz) | (go_at_call 25; refine (spec_l19PutH _ _ _ _ 0 n cv cu gv gu M2 i zs gs _ ov7 ou7 hvu (by omega) hlt (by omega) hz1H.out (by first | omega | (rw [IntWalk.i64_in _ (by omega)]; omega))).mono ?_; rintro e w8 ⟨rfl, ov8, ou8, hb8, z8, hc8⟩; have mb8 : VBox w8 26 X [.int .i64 p, .int .i64 q, .slice (some ⟨gv, 0, none⟩) n cv, .slice (some ⟨gu, 0, none⟩) n cu] := (hc8 X (by omega) (by omega) (by omega)).trans mb7; have rb8 := rb7.below hb8 (by omega); have hs8 : Src w8 B g := Src.under hs7 hb8 (by omega); have G8 := grownBy_below G7 hb8 (by omega); have k0 := mb8.cell (j := 0) rfl; have k1 := mb8.cell (j := 1) rfl; have k2 := mb8.cell (j := 2) rfl; have k3 := mb8.cell (j := 3) rfl; have kf := mb8.fz) | skip); (try go_wp2_with fail); refine hK.out _ _ ?_ (fun hHeld => ?_); (focus ((try dsimp only); (refine ⟨?_, ?_, ?_, ?_⟩ <;> exact bxc))); clear hK K; (try simp only [Act.put, List.setIfInBounds_toArray, List.set_cons_zero, List.set_cons_succ])); refine wpAnyH_done (by kernel_rfl) ?_ _; refine NoPanic.normal ?_)
        go_wp2_with fail
        go_roundw
        case rel => exact ⟨i + 1, _, _, by go_num, by omega, by have := hz.out; simp [Hid, this], by have := hgl.out; simp [Hid, this], fun j h1 h2 => by rw [List.getElem?_set_ne (by omega)]; exact hg0.out j (by omega) h2, mb8, rb8, ov8, ou8, hs8, G8⟩
        case measure => simp [intOf]; omega
      · go_wp2_with fail
        go_roundw
        case rel => exact ⟨i + 1, _, _, by go_num, by omega, hz, hgl, fun j h1 h2 => hg0.out j (by omega) h2, mb, rb, ov, ou, hs5, G⟩
        case measure => simp [intOf]; omega
    · go_wp2_with fail
      refine (spec_l01Next _ _ _ _ hsr (by omega)).mono ?_
      rintro e w5 ⟨r5, rfl, ⟨hr5, ht5⟩, hs5, hg5⟩
      have mb := mb.src hg5 (by omega)
      have rb := rb.src hg5 (by omega)
      have ov := ownI_src ov hg5 (by omega)
      have ou := ownI_src ou hg5 (by omega)
      have G := grownBy_src G hg5
      have z5 := hg5.size
      obtain ⟨zl, hzl⟩ : ∃ z, zs[0]? = some z := get_of_lt (by have := hz.out; omega)
      obtain ⟨gl, hgl0⟩ : ∃ z, gs[0]? = some z := get_of_lt (by have := hgl.out; omega)
      obtain ⟨g9, e9, _, v0, vf, vst⟩ := ov.cell hzl
      obtain rfl : gv = g9 := by simpa using e9
      obtain ⟨g9, e8, _, u0, uf, ust⟩ := ou.cell hgl0
      obtain rfl : gu = g9 := by simpa using e8
      have vstH := Lib.hid vst
      have ustH := Lib.hid ust
      have p1 : (0 : Int) < (n : Int) := by omega
      have p2 : 0 < n := by omega
      have hzlH := Lib.hid hzl
      have hglH := Lib.hid hgl0
      clear hg5 hsr m0 m1 m2 m3 mf e9 e8 hzl hgl0 vst ust hg0
      by_cases q0 : r5 = 0
      · subst q0
        have m0 := mb.cell (j := 0) rfl
        have m1 := mb.cell (j := 1) rfl
        have m2 := mb.cell (j := 2) rfl
        have m3 := mb.cell (j := 3) rfl
        have mf := mb.fz
        go_wp2_with fail
        (refine wp_region_noPanic ?_; refine wp_region_held_drew (S := (fun w' => w'.cell? ⟨X, 2, none⟩ = some (.slice (some ⟨gv, 0, none⟩) n cv))) (by kernel_rfl) ?_ (fun hHeld => ?_); (focus ((try dsimp only); (exact bxc))); (refine takeT (i := 0) (d := 36) rfl rfl (by kernel_rfl) (by kernel_rfl) (by kernel_rfl) (by rfl) (by assumption) (v := ?_) ?_ ?_; rotate_left; (focus (intro wq hSw; (try dsimp only at hSw); go_simp; (try (with_reducible rfl)); done)); (try simp only [Act.put, List.setIfInBounds_toArray, List.set_cons_zero, List.set_cons_succ])); (refine takeT (i := 1) (d := 37) rfl rfl (by kernel_rfl) (by kernel_rfl) (by kernel_rfl) (by rfl) (by assumption) (v := ?_) ?_ ?_; rotate_left; (focus (intro wq hSw; (try dsimp only at hSw); go_simp; (try (with_reducible rfl)); done)); (try simp only [Act.put, List.setIfInBounds_toArray, List.set_cons_zero, List.set_cons_succ])); (refine takeT (i := 2) (d := 38) rfl rfl (by kernel_rfl) (by kernel_rfl) (by kernel_rfl) (by rfl) (by assumption) (v := ?_) ?_ ?_; rotate_left; (focus (intro wq hSw; (try dsimp only at hSw); go_simp; (try (with_reducible rfl)); done)); (try simp only [Act.put, List.setIfInBounds_toArray, List.set_cons_zero, List.set_cons_succ])); (refine wpAnyH_ready (rs := [3]) (by kernel_rfl) (by simp) ?_; refine AllReadyH.cons rfl (fun K hK => ?_) AllReadyH.nil; go_simp; (first | (go_at_call 16; refine (pick3 B g w5.heap.size (-1) (1000) (1001) ((w5.alloc (.cells #[.int .i64 (-1), .int .i64 (1000), .int .i64 (1001)] 2)).drew) (Src.drewS (Src.alloc hs5 _)) (heap_alloc_new w5 _) (by omega)).mono ?_; rintro e w6 ⟨r6, rfl, hr6, hs6, hg6⟩; have z6 := hg6.size; (try simp only [World.size_alloc, World.size_drew] at z6); have mb6 := VBox.src (w := (w5.alloc _).drew) (mb.alloc _) hg6 (by omega); have rb6 := VBox.src (w := (w5.alloc _).drew) (rb.alloc _) hg6 (by omega); have ov6 := ownI_src (w := (w5.alloc _).drew) (ov.alloc _) hg6 (by omega); have ou6 := ownI_src (w := (w5.alloc _).drew) (ou.alloc _) hg6 (by omega); have G6 := grownBy_src (grownBy_drew (grownBy_alloc' G _)) hg6; have kc := OwnI.c0 ov6 hzlH.out; have kc1 := kc.1; have kc2 := kc.2; have k0 := mb6.cell (j := 0) rfl; have k1 := mb6.cell (j := 1) rfl; have k2 := mb6.cell (j := 2) rfl; have k3 := mb6.cell (j := 3) rfl; have kf := mb6.fz) | skip); (try go_wp2_with fail); refine hK.out _ _ ?_ (fun hHeld => ?_); (focus ((try dsimp only); (exact bxc))); clear hK K; (try simp only [Act.put, List.setIfInBounds_toArray, List.set_cons_zero, List.set_cons_succ])); (refine wpAnyH_ready (rs := [4]) (by kernel_rfl) (by simp) ?_; refine AllReadyH.cons rfl (fun K hK => ?_) AllReadyH.nil; go_simp; (first | (go_at_call 16; refine (pick3 B g w5.heap.size (-1) (1000) (1001) ((w5.alloc (.cells #[.int .i64 (-1), .int .i64 (1000), .int .i64 (1001)] 2)).drew) (Src.drewS (Src.alloc hs5 _)) (heap_alloc_new w5 _) (by omega)).mono ?_; rintro e w6 ⟨r6, rfl, hr6, hs6, hg6⟩; have z6 := hg6.size; (try simp only [World.size_alloc, World.size_drew] at z6); have mb6 := VBox.src (w := (w5.alloc _).drew) (mb.alloc _) hg6 (by omega); have rb6 := VBox.src (w := (w5.alloc _).drew) (rb.alloc _) hg6 (by omega); have ov6 := ownI_src (w := (w5.alloc _).drew) (ov.alloc _) hg6 (by omega); have ou6 := ownI_src (w := (w5.alloc _).drew) (ou.alloc _) hg6 (by omega); have G6 := grownBy_src (grownBy_drew (grownBy_alloc' G _)) hg6; have kc := OwnI.c0 ov6 hzlH.out; have kc1 := kc.1; have kc2 := kc.2; have k0 := mb6.cell (j := 0) rfl; have k1 := mb6.cell (j := 1) rfl; have k2 := mb6.cell (j := 2) rfl; have k3 := mb6.cell (j := 3) rfl; have kf := mb6.fz) | skip); (try go_wp2_with fail); refine hK.out _ _ ?_ (fun hHeld => ?_); (focus ((try dsimp only); (exact bxc))); clear hK K; (try simp only [Act.put, List.setIfInBounds_toArray, List.set_cons_zero, List.set_cons_succ])); (refine takeT (i := 5) (d := 41) rfl rfl (by kernel_rfl) (by kernel_rfl) (by kernel_rfl) (by rfl) (by assumption) (v := ?_) ?_ ?_; rotate_left; (focus (intro wq hSw; (try dsimp only at hSw); go_simp; (try (with_reducible rfl)); done)); (try simp only [Act.put, List.setIfInBounds_toArray, List.set_cons_zero, List.set_cons_succ])); (refine wpAnyH_ready (rs := [6]) (by kernel_rfl) (by simp) ?_; refine AllReadyH.cons rfl (fun K hK => ?_) AllReadyH.nil; go_simp; (first | (go_at_call 16; refine (pick3 B g w5.heap.size (-1) (1000) (1001) ((w5.alloc (.cells #[.int .i64 (-1), .int .i64 (1000), .int .i64 (1001)] 2)).drew) (Src.drewS (Src.alloc hs5 _)) (heap_alloc_new w5 _) (by omega)).mono ?_; rintro e w6 ⟨r6, rfl, hr6, hs6, hg6⟩; have z6 := hg6.size; (try simp only [World.size_alloc, World.size_drew] at z6); have mb6 := VBox.src (w := (w5.alloc _).drew) (mb.alloc _) hg6 (by omega); have rb6 := VBox.src (w := (w5.alloc _).drew) (rb.alloc _) hg6 (by omega); have ov6 := ownI_src (w := (w5.alloc _).drew) (ov.alloc _) hg6 (by omega); have ou6 := ownI_src (w := (w5.alloc _).drew) (ou.alloc _) hg6 (by omega); have G6 := grownBy_src (grownBy_drew (grownBy_alloc' G _)) hg6; have kc := OwnI.c0 ov6 hzlH.out; have kc1 := kc.1; have kc2 := kc.2; have k0 := mb6.cell (j := 0) rfl; have k1 := mb6.cell (j := 1) rfl; have k2 := mb6.cell (j := 2) rfl; have k3 := mb6.cell (j := 3) rfl; have kf := mb6.fz) | skip); (try go_wp2_with fail); refine hK.out _ _ ?_ (fun hHeld => ?_); (focus ((try dsimp only); (exact bxc))); clear hK K; (try simp only [Act.put, List.setIfInBounds_toArray, List.set_cons_zero, List.set_cons_succ])); refine wpAnyH_done (by kernel_rfl) ?_ _; refine NoPanic.normal ?_)
        refine q_gen (fun W7 hW7 => ?_)
        obtain ⟨g9, e9, _, _, _, st9⟩ := ov6.cell hzlH.out
        obtain rfl : gv = g9 := by simpa using e9
        have ov7 : OwnI W7 M2 (.slice (some ⟨gv, 0, none⟩) n cv) (zs.set 0 r6) := by rw [hW7]; exact (st9 r6).1
        have ou7 : OwnI W7 M2 (.slice (some ⟨gu, 0, none⟩) n cu) gs := by rw [hW7]; exact own_box ou6 (by simp [Value.ownBlock]; omega)
        have mb7 : VBox W7 26 X [.int .i64 p, .int .i64 q, .slice (some ⟨gv, 0, none⟩) n cv, .slice (some ⟨gu, 0, none⟩) n cu] := by rw [hW7]; exact mb6.far (by omega)
        have rb7 : VBox W7 26 w.heap.size [.int .i64 0, .int .i64 0, .slice none 0 0, .slice none 0 0] := by rw [hW7]; exact rb6.far (by omega)
        have hs7 : Src W7 B g := by rw [hW7]; exact hs6.setX (by omega)
        have G7 : w.grownBy W7 (some g) := by rw [hW7]; exact grownBy_setX G6 (by omega)
        clear hW7 st9 e9 mb rb ov ou hs5 hs6 mb6 rb6 ov6 ou6 k0 k1 k2 k3 kf m0 m1 m2 m3 mf
        have m0 := mb7.cell (j := 0) rfl
        have m1 := mb7.cell (j := 1) rfl
        have m2 := mb7.cell (j := 2) rfl
        have m3 := mb7.cell (j := 3) rfl
        have mf := mb7.fz
        have b0 := rb7.cell (j := 0) rfl
        have b1 := rb7.cell (j := 1) rfl
        have b2 := rb7.cell (j := 2) rfl
        have b3 := rb7.cell (j := 3) rfl
        have bf := rb7.fz
        have rv := ov7.reads
        have ru := ou7.reads
        obtain ⟨lnv, rdv⟩ := rv
        obtain ⟨lnu, rdu⟩ := ru
        have lnvH := Lib.hid lnv
        have lnuH := Lib.hid lnu
        clear lnv lnu
        go_wp2_with fail
        all_goals ((try simp only [Exit.inBlock, Exit.then]); refine bodyPost_ret (by simp [results, Try.results14, go_sem, *]; try rfl) rfl ?_)
        all_goals (refine ⟨_, _, _, _, _, _, (zs.set 0 r6), gs, by rw [← lnvH.out, ← lnuH.out], ?_, ?_, ?_, ?_, (fun b o h => by simp at h; omega), (fun b o h => by simp at h; omega), ?_, ?_⟩; (exact (OwnI.reads (base := M2) (n := n) (c := cv) (by repeat' (first | (with_reducible assumption) | (with_reducible refine own_box ?_ (by simp [Value.ownBlock]; omega)) | (with_reducible refine OwnI.alloc ?_ _)))).2); (exact (OwnI.reads (base := M2) (n := n) (c := cu) (by repeat' (first | (with_reducible assumption) | (with_reducible refine own_box ?_ (by simp [Value.ownBlock]; omega)) | (with_reducible refine OwnI.alloc ?_ _)))).2); (rw [← lnvH.out]; omega); (rw [← lnuH.out]; omega); (exact (by repeat' (first | (with_reducible assumption) | (with_reducible refine Src.setX ?_ (by omega)) | (with_reducible refine Src.alloc ?_ _) | (with_reducible refine Src.drewS ?_)))); (exact (by repeat' (first | (with_reducible assumption) | (with_reducible refine grownBy_setX ?_ (by omega)) | (with_reducible refine grownBy_alloc' ?_ _) | (with_reducible refine grownBy_drew ?_)))))
      have e0 : (r5 == 0) = false := by simpa using q0
      by_cases q1 : r5 = 1
      · subst q1
        have m0 := mb.cell (j := 0) rfl
        have m1 := mb.cell (j := 1) rfl
        have m2 := mb.cell (j := 2) rfl
        have m3 := mb.cell (j := 3) rfl
        have mf := mb.fz
        go_wp2_with fail
        (refine wp_region_noPanic ?_; refine wp_region_held_drew (S := (fun w' => w'.cell? ⟨X, 3, none⟩ = some (.slice (some ⟨gu, 0, none⟩) n cu))) (by kernel_rfl) ?_ (fun hHeld => ?_); (focus ((try dsimp only); (exact bxc))); (refine takeT (i := 0) (d := 44) rfl rfl (by kernel_rfl) (by kernel_rfl) (by kernel_rfl) (by rfl) (by assumption) (v := ?_) ?_ ?_; rotate_left; (focus (intro wq hSw; (try dsimp only at hSw); go_simp; (try (with_reducible rfl)); done)); (try simp only [Act.put, List.setIfInBounds_toArray, List.set_cons_zero, List.set_cons_succ])); (refine takeT (i := 1) (d := 45) rfl rfl (by kernel_rfl) (by kernel_rfl) (by kernel_rfl) (by rfl) (by assumption) (v := ?_) ?_ ?_; rotate_left; (focus (intro wq hSw; (try dsimp only at hSw); go_simp; (try (with_reducible rfl)); done)); (try simp only [Act.put, List.setIfInBounds_toArray, List.set_cons_zero, List.set_cons_succ])); (refine takeT (i := 2) (d := 46) rfl rfl (by kernel_rfl) (by kernel_rfl) (by kernel_rfl) (by rfl) (by assumption) (v := ?_) ?_ ?_; rotate_left; (focus (intro wq hSw; (try dsimp only at hSw); go_simp; (try (with_reducible rfl)); done)); (try simp only [Act.put, List.setIfInBounds_toArray, List.set_cons_zero, List.set_cons_succ])); (refine wpAnyH_ready (rs := [3]) (by kernel_rfl) (by simp) ?_; refine AllReadyH.cons rfl (fun K hK => ?_) AllReadyH.nil; go_simp; (first | (go_at_call 16; refine (pick3 B g w5.heap.size (0) (9) (10) ((w5.alloc (.cells #[.int .i64 (0), .int .i64 (9), .int .i64 (10)] 2)).drew) (Src.drewS (Src.alloc hs5 _)) (heap_alloc_new w5 _) (by omega)).mono ?_; rintro e w6 ⟨r6, rfl, hr6, hs6, hg6⟩; have z6 := hg6.size; (try simp only [World.size_alloc, World.size_drew] at z6); have mb6 := VBox.src (w := (w5.alloc _).drew) (mb.alloc _) hg6 (by omega); have rb6 := VBox.src (w := (w5.alloc _).drew) (rb.alloc _) hg6 (by omega); have ov6 := ownI_src (w := (w5.alloc _).drew) (ov.alloc _) hg6 (by omega); have ou6 := ownI_src (w := (w5.alloc _).drew) (ou.alloc _) hg6 (by omega); have G6 := grownBy_src (grownBy_drew (grownBy_alloc' G _)) hg6; have kc := OwnI.c0 ou6 hglH.out; have kc1 := kc.1; have kc2 := kc.2; have k0 := mb6.cell (j := 0) rfl; have k1 := mb6.cell (j := 1) rfl; have k2 := mb6.cell (j := 2) rfl; have k3 := mb6.cell (j := 3) rfl; have kf := mb6.fz) | skip); (try go_wp2_with fail); refine hK.out _ _ ?_ (fun hHeld => ?_); (focus ((try dsimp only); (exact bxc))); clear hK K; (try simp only [Act.put, List.setIfInBounds_toArray, List.set_cons_zero, List.set_cons_succ])); (refine wpAnyH_ready (rs := [4]) (by kernel_rfl) (by simp) ?_; refine AllReadyH.cons rfl (fun K hK => ?_) AllReadyH.nil; go_simp; (first | (go_at_call 16; refine (pick3 B g w5.heap.size (0) (9) (10) ((w5.alloc (.cells #[.int .i64 (0), .int .i64 (9), .int .i64 (10)] 2)).drew) (Src.drewS (Src.alloc hs5 _)) (heap_alloc_new w5 _) (by omega)).mono ?_; rintro e w6 ⟨r6, rfl, hr6, hs6, hg6⟩; have z6 := hg6.size; (try simp only [World.size_alloc, World.size_drew] at z6); have mb6 := VBox.src (w := (w5.alloc _).drew) (mb.alloc _) hg6 (by omega); have rb6 := VBox.src (w := (w5.alloc _).drew) (rb.alloc _) hg6 (by omega); have ov6 := ownI_src (w := (w5.alloc _).drew) (ov.alloc _) hg6 (by omega); have ou6 := ownI_src (w := (w5.alloc _).drew) (ou.alloc _) hg6 (by omega); have G6 := grownBy_src (grownBy_drew (grownBy_alloc' G _)) hg6; have kc := OwnI.c0 ou6 hglH.out; have kc1 := kc.1; have kc2 := kc.2; have k0 := mb6.cell (j := 0) rfl; have k1 := mb6.cell (j := 1) rfl; have k2 := mb6.cell (j := 2) rfl; have k3 := mb6.cell (j := 3) rfl; have kf := mb6.fz) | skip); (try go_wp2_with fail); refine hK.out _ _ ?_ (fun hHeld => ?_); (focus ((try dsimp only); (exact bxc))); clear hK K; (try simp only [Act.put, List.setIfInBounds_toArray, List.set_cons_zero, List.set_cons_succ])); (refine takeT (i := 5) (d := 49) rfl rfl (by kernel_rfl) (by kernel_rfl) (by kernel_rfl) (by rfl) (by assumption) (v := ?_) ?_ ?_; rotate_left; (focus (intro wq hSw; (try dsimp only at hSw); go_simp; (try (with_reducible rfl)); done)); (try simp only [Act.put, List.setIfInBounds_toArray, List.set_cons_zero, List.set_cons_succ])); (refine wpAnyH_ready (rs := [6]) (by kernel_rfl) (by simp) ?_; refine AllReadyH.cons rfl (fun K hK => ?_) AllReadyH.nil; go_simp; (first | (go_at_call 16; refine (pick3 B g w5.heap.size (0) (9) (10) ((w5.alloc (.cells #[.int .i64 (0), .int .i64 (9), .int .i64 (10)] 2)).drew) (Src.drewS (Src.alloc hs5 _)) (heap_alloc_new w5 _) (by omega)).mono ?_; rintro e w6 ⟨r6, rfl, hr6, hs6, hg6⟩; have z6 := hg6.size; (try simp only [World.size_alloc, World.size_drew] at z6); have mb6 := VBox.src (w := (w5.alloc _).drew) (mb.alloc _) hg6 (by omega); have rb6 := VBox.src (w := (w5.alloc _).drew) (rb.alloc _) hg6 (by omega); have ov6 := ownI_src (w := (w5.alloc _).drew) (ov.alloc _) hg6 (by omega); have ou6 := ownI_src (w := (w5.alloc _).drew) (ou.alloc _) hg6 (by omega); have G6 := grownBy_src (grownBy_drew (grownBy_alloc' G _)) hg6; have kc := OwnI.c0 ou6 hglH.out; have kc1 := kc.1; have kc2 := kc.2; have k0 := mb6.cell (j := 0) rfl; have k1 := mb6.cell (j := 1) rfl; have k2 := mb6.cell (j := 2) rfl; have k3 := mb6.cell (j := 3) rfl; have kf := mb6.fz) | skip); (try go_wp2_with fail); refine hK.out _ _ ?_ (fun hHeld => ?_); (focus ((try dsimp only); (exact bxc))); clear hK K; (try simp only [Act.put, List.setIfInBounds_toArray, List.set_cons_zero, List.set_cons_succ])); refine wpAnyH_done (by kernel_rfl) ?_ _; refine NoPanic.normal ?_)
        refine q_gen (fun W7 hW7 => ?_)
        obtain ⟨g9, e9, _, _, _, st9⟩ := ou6.cell hglH.out
        obtain rfl : gu = g9 := by simpa using e9
        have ou7 : OwnI W7 M2 (.slice (some ⟨gu, 0, none⟩) n cu) (gs.set 0 r6) := by rw [hW7]; exact (st9 r6).1
        have ov7 : OwnI W7 M2 (.slice (some ⟨gv, 0, none⟩) n cv) zs := by rw [hW7]; exact own_box ov6 (by simp [Value.ownBlock]; omega)
        have mb7 : VBox W7 26 X [.int .i64 p, .int .i64 q, .slice (some ⟨gv, 0, none⟩) n cv, .slice (some ⟨gu, 0, none⟩) n cu] := by rw [hW7]; exact mb6.far (by omega)
        have rb7 : VBox W7 26 w.heap.size [.int .i64 0, .int .i64 0, .slice none 0 0, .slice none 0 0] := by rw [hW7]; exact rb6.far (by omega)
        have hs7 : Src W7 B g := by rw [hW7]; exact hs6.setX (by omega)
        have G7 : w.grownBy W7 (some g) := by rw [hW7]; exact grownBy_setX G6 (by omega)
        clear hW7 st9 e9 mb rb ov ou hs5 hs6 mb6 rb6 ov6 ou6 k0 k1 k2 k3 kf m0 m1 m2 m3 mf
        have m0 := mb7.cell (j := 0) rfl
        have m1 := mb7.cell (j := 1) rfl
        have m2 := mb7.cell (j := 2) rfl
        have m3 := mb7.cell (j := 3) rfl
        have mf := mb7.fz
        have b0 := rb7.cell (j := 0) rfl
        have b1 := rb7.cell (j := 1) rfl
        have b2 := rb7.cell (j := 2) rfl
        have b3 := rb7.cell (j := 3) rfl
        have bf := rb7.fz
        have rv := ov7.reads
        have ru := ou7.reads
        obtain ⟨lnv, rdv⟩ := rv
        obtain ⟨lnu, rdu⟩ := ru
        have lnvH := Lib.hid lnv
        have lnuH := Lib.hid lnu
        clear lnv lnu
        go_wp2_with fail
        all_goals ((try simp only [Exit.inBlock, Exit.then]); refine bodyPost_ret (by simp [results, Try.results14, go_sem, *]; try rfl) rfl ?_)
        all_goals (refine ⟨_, _, _, _, _, _, zs, (gs.set 0 r6), by rw [← lnvH.out, ← lnuH.out], ?_, ?_, ?_, ?_, (fun b o h => by simp at h; omega), (fun b o h => by simp at h; omega), ?_, ?_⟩; (exact (OwnI.reads (base := M2) (n := n) (c := cv) (by repeat' (first | (with_reducible assumption) | (with_reducible refine own_box ?_ (by simp [Value.ownBlock]; omega)) | (with_reducible refine OwnI.alloc ?_ _)))).2); (exact (OwnI.reads (base := M2) (n := n) (c := cu) (by repeat' (first | (with_reducible assumption) | (with_reducible refine own_box ?_ (by simp [Value.ownBlock]; omega)) | (with_reducible refine OwnI.alloc ?_ _)))).2); (rw [← lnvH.out]; omega); (rw [← lnuH.out]; omega); (exact (by repeat' (first | (with_reducible assumption) | (with_reducible refine Src.setX ?_ (by omega)) | (with_reducible refine Src.alloc ?_ _) | (with_reducible refine Src.drewS ?_)))); (exact (by repeat' (first | (with_reducible assumption) | (with_reducible refine grownBy_setX ?_ (by omega)) | (with_reducible refine grownBy_alloc' ?_ _) | (with_reducible refine grownBy_drew ?_)))))
      have e1 : (r5 == 1) = false := by simpa using q1
      by_cases q2 : r5 = 2
      · subst q2
        have m0 := mb.cell (j := 0) rfl
        have m1 := mb.cell (j := 1) rfl
        have m2 := mb.cell (j := 2) rfl
        have m3 := mb.cell (j := 3) rfl
        have mf := mb.fz
        go_wp2_with fail
        refine (pick2 _ _ _ _ _ _ (hs5.alloc _) (by exact heap_alloc_new _ _) (by omega)).mono ?_
        rintro e w6 ⟨r6, rfl, hr6, hs6, hg6⟩
        have mb := VBox.src (mb.alloc _) hg6 (by omega)
        have rb := VBox.src (rb.alloc _) hg6 (by omega)
        have ov := ownI_src (ov.alloc _) hg6 (by omega)
        have ou := ownI_src (ou.alloc _) hg6 (by omega)
        have G := grownBy_src (grownBy_alloc' G _) hg6
        clear hg6 hs5 m0 m1 m2 m3 mf
        have m0 := mb.cell (j := 0) rfl
        have m1 := mb.cell (j := 1) rfl
        have m2 := mb.cell (j := 2) rfl
        have m3 := mb.cell (j := 3) rfl
        have mf := mb.fz
        have b0 := rb.cell (j := 0) rfl
        have b1 := rb.cell (j := 1) rfl
        have b2 := rb.cell (j := 2) rfl
        have b3 := rb.cell (j := 3) rfl
        have bf := rb.fz
        have rv := ov.reads
        have ru := ou.reads
        obtain ⟨lnv, rdv⟩ := rv
        obtain ⟨lnu, rdu⟩ := ru
        have lnvH := Lib.hid lnv
        have lnuH := Lib.hid lnu
        clear lnv lnu
        go_wp2_with fail
        all_goals ((try simp only [Exit.inBlock, Exit.then]); refine bodyPost_ret (by simp [results, Try.results14, go_sem, *]; try rfl) rfl ?_)
        all_goals (refine ⟨_, _, _, _, _, _, zs, gs, by rw [← lnvH.out, ← lnuH.out], ?_, ?_, ?_, ?_, (fun b o h => by simp at h; omega), (fun b o h => by simp at h; omega), ?_, ?_⟩; (exact (OwnI.reads (base := M2) (n := n) (c := cv) (by repeat' (first | (with_reducible assumption) | (with_reducible refine own_box ?_ (by simp [Value.ownBlock]; omega)) | (with_reducible refine OwnI.alloc ?_ _)))).2); (exact (OwnI.reads (base := M2) (n := n) (c := cu) (by repeat' (first | (with_reducible assumption) | (with_reducible refine own_box ?_ (by simp [Value.ownBlock]; omega)) | (with_reducible refine OwnI.alloc ?_ _)))).2); (rw [← lnvH.out]; omega); (rw [← lnuH.out]; omega); (exact (by repeat' (first | (with_reducible assumption) | (with_reducible refine Src.setX ?_ (by omega)) | (with_reducible refine Src.alloc ?_ _) | (with_reducible refine Src.drewS ?_)))); (exact (by repeat' (first | (with_reducible assumption) | (with_reducible refine grownBy_setX ?_ (by omega)) | (with_reducible refine grownBy_alloc' ?_ _) | (with_reducible refine grownBy_drew ?_)))))
      have e2 : (r5 == 2) = false := by simpa using q2
      have m0 := mb.cell (j := 0) rfl
      have m1 := mb.cell (j := 1) rfl
      have m2 := mb.cell (j := 2) rfl
      have m3 := mb.cell (j := 3) rfl
      have mf := mb.fz
      have b0 := rb.cell (j := 0) rfl
      have b1 := rb.cell (j := 1) rfl
      have b2 := rb.cell (j := 2) rfl
      have b3 := rb.cell (j := 3) rfl
      have bf := rb.fz
      have rv := ov.reads
      have ru := ou.reads
      obtain ⟨lnv, rdv⟩ := rv
      obtain ⟨lnu, rdu⟩ := ru
      have lnvH := Lib.hid lnv
      have lnuH := Lib.hid lnu
      clear lnv lnu
      go_wp2_with fail
      all_goals ((try simp only [Exit.inBlock, Exit.then]); refine bodyPost_ret (by simp [results, Try.results14, go_sem, *]; try rfl) rfl ?_)
      all_goals (refine ⟨_, _, _, _, _, _, zs, gs, by rw [← lnvH.out, ← lnuH.out], ?_, ?_, ?_, ?_, (fun b o h => by simp at h; omega), (fun b o h => by simp at h; omega), ?_, ?_⟩; (exact (OwnI.reads (base := M2) (n := n) (c := cv) (by repeat' (first | (with_reducible assumption) | (with_reducible refine own_box ?_ (by simp [Value.ownBlock]; omega)) | (with_reducible refine OwnI.alloc ?_ _)))).2); (exact (OwnI.reads (base := M2) (n := n) (c := cu) (by repeat' (first | (with_reducible assumption) | (with_reducible refine own_box ?_ (by simp [Value.ownBlock]; omega)) | (with_reducible refine OwnI.alloc ?_ _)))).2); (rw [← lnvH.out]; omega); (rw [← lnuH.out]; omega); (exact (by repeat' (first | (with_reducible assumption) | (with_reducible refine Src.setX ?_ (by omega)) | (with_reducible refine Src.alloc ?_ _) | (with_reducible refine Src.drewS ?_)))); (exact (by repeat' (first | (with_reducible assumption) | (with_reducible refine grownBy_setX ?_ (by omega)) | (with_reducible refine grownBy_alloc' ?_ _) | (with_reducible refine grownBy_drew ?_)))))
end Go.Proofs.Ytdedmiennpbfcaa
