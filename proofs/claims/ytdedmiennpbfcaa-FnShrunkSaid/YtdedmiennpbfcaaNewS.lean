/- New mosaics by the reference: contract. -/
import Derived.Test.YtdedmiennpbfcaaLawKit
import Derived.Test.YtdedmiennpbfcaaMosB
import Derived.Deep.RegionHeld3
namespace Go.Proofs.Ytdedmiennpbfcaa
open Go.RowKit Go.ChangeShapes Go.WideShapes Go.ChangeAt
set_option linter.unusedVariables false
set_option linter.unusedSimpArgs false
theorem own_ne_cell {w : World} {base : Nat} {v : Value} {x : Int} {xs : List Int} (h : OwnI w base v (x :: xs)) {X : Nat} {y : Value} (hc : w.cell? ⟨X, 0, none⟩ = some y) (hne : y ≠ .int .i64 x) : v.ownBlock ≠ some X := fun he => by
  obtain ⟨A, c, rfl, _⟩ := id h
  obtain ⟨g, rfl, _, h1, _⟩ := h.cell (k := 0) (x := x) rfl
  simp [Value.ownBlock] at he
  subst he
  rw [h1] at hc
  injection hc with hc
  exact hne hc.symm
set_option maxHeartbeats 1600000 in
set_option maxRecDepth 100000 in
theorem spec_l19New (p q : Int) (n : Nat) (w : World) (hp : 1 ≤ p ∧ p ≤ 40) (hq : 1 ≤ q ∧ q ≤ 40) (hn : p * q = (n : Int)) (h1 : 1 ≤ n) (h2 : n ≤ 1600) :
    Calls Try.prog 23 #[.int .i64 p, .int .i64 q] w fun e w' => ∃ v u, e = .returned (.agg #[.int .i64 p, .int .i64 q, v, u]) ∧ OwnI w' w.heap.size v (List.replicate n (-1)) ∧ OwnI w' w.heap.size u (List.replicate n 0) ∧ Below w.heap.size w w' := by
  have wpq : IntKind.i64.wrap (p * q) = (n : Int) := by rw [hn, IntWalk.i64_in _ (by omega)]
  obtain ⟨i0, hi, hz0, hz1, hz2⟩ := info_parts int_info
  go_enter Try.func23, Try.ntmps23
  go_wp2_with (at_make; refine wpList_make_full _ rfl _ _ 24 rfl (w.heap.size + 1) 2 i0 _ 1 Try.underlying24 hi hz0 hz1 .i64 .i64 _ _ n rfl rfl rfl rfl (by rw [hz2]; omega) (by simp only [maxLen]; omega) (by simp) ?_; intro w1 hown hg)
  have hu : OwnI w1 (w.heap.size + 1) (.slice (some ⟨w.heap.size + 1 + 1, 0, none⟩) n n) (List.replicate n 0) := by
    refine ⟨some ⟨w.heap.size + 1 + 1, 0, none⟩, n, by simp, ?_⟩
    have h := hown
    simp only [show (Value.int .i64 0).cells = #[Value.int .i64 0] from rfl, Nat.mul_one, toList_madeCells_one, World.size_alloc] at h
    simpa using h
  have hg2 : Below w.heap.size w w1 := (show Below w.heap.size w _ from by exact bgr).trans ⟨hg.os, hg.tape, hg.output, hg.size, fun k hk => hg.block k (by simp; omega) (by simp)⟩
  have hz : w.heap.size + 3 ≤ w1.heap.size := by have := (hu.lt (w.heap.size + 1 + 1) rfl).2; omega
  have hv : OwnI w1 (w.heap.size + 1) (.slice (some ⟨w.heap.size + 1, 0, none⟩) 0 0) [] := by
    have h0 : OwnI ((w.alloc (.cells #[.int .i64 0, .int .i64 0, .slice none 0 0, .slice none 0 0] 26)).alloc (.cells #[] 2)) (w.heap.size + 1) (.slice (some ⟨w.heap.size + 1, 0, none⟩) 0 0) [] := by
      have := OwnI.lit0 (W := w.alloc (.cells #[.int .i64 0, .int .i64 0, .slice none 0 0, .slice none 0 0] 26)) (base := w.heap.size + 1) (by simp)
      simpa using this
    exact h0.kept hg (.inr (by simp [Value.ownBlock]))
  obtain ⟨uv, huv⟩ : ∃ uv, uv = Value.slice (some ⟨w.heap.size + 1 + 1, 0, none⟩) n n := ⟨_, rfl⟩
  have hBox : ∀ (o : Nat) (v : Value), (#[Value.int .i64 0, .int .i64 0, .slice none 0 0, .slice none 0 0] : Array Value)[o]? = some v → w1.cell? ⟨w.heap.size, o, none⟩ = some v := fun o v hv => (World.cell?_of_block (a := ⟨w.heap.size, o, none⟩) (hg.block w.heap.size (by simp; omega) (by simp))).trans (bx_alloc (bx_new rfl hv))
  have hFz : ∀ o, w1.frozen? ⟨w.heap.size, o, none⟩ = false := fun o => (World.frozen?_of_block (a := ⟨w.heap.size, o, none⟩) (hg.block w.heap.size (by simp; omega) (by simp))).trans (bm_old (by simp) (bm_new rfl) o)
  have c0 := hBox 0 _ rfl
  have c1 := hBox 1 _ rfl
  have c2 := hBox 2 _ rfl
  have c3 := hBox 3 _ rfl
  clear hBox hown
  refine wp_gen (fun W1 hW1 => ?_)
  have b0 := bx_id (w := W1) (X := w1.heap.size) (o := 0) (v := .int .i64 p) (by rw [hW1]; exact bx_new rfl rfl)
  have b1 := bx_id (w := W1) (X := w1.heap.size) (o := 1) (v := .int .i64 q) (by rw [hW1]; exact bx_new rfl rfl)
  have b2 := bx_id (w := W1) (X := w1.heap.size) (o := 2) (v := .slice (some ⟨w.heap.size + 1, 0, none⟩) 0 0) (by rw [hW1]; exact bx_new rfl rfl)
  have b3 := bx_id (w := W1) (X := w1.heap.size) (o := 3) (v := uv) (by rw [hW1, huv]; exact bx_new rfl rfl)
  have bf : ∀ o, W1.frozen? ⟨w1.heap.size, o, none⟩ = false := by rw [hW1]; exact bm_new rfl
  have d0 := bx_id (w := W1) (X := w.heap.size) (o := 0) (v := .int .i64 0) (by rw [hW1]; exact bx_alloc c0)
  have d1 := bx_id (w := W1) (X := w.heap.size) (o := 1) (v := .int .i64 0) (by rw [hW1]; exact bx_alloc c1)
  have d2 := bx_id (w := W1) (X := w.heap.size) (o := 2) (v := .slice none 0 0) (by rw [hW1]; exact bx_alloc c2)
  have d3 := bx_id (w := W1) (X := w.heap.size) (o := 3) (v := .slice none 0 0) (by rw [hW1]; exact bx_alloc c3)
  have df : ∀ o, W1.frozen? ⟨w.heap.size, o, none⟩ = false := by rw [hW1]; exact bm_old (by omega) hFz
  have hu1 : OwnI W1 (w.heap.size + 1) uv (List.replicate n 0) := by rw [hW1, huv]; exact hu.alloc _
  have hv1 : OwnI W1 (w.heap.size + 1) (.slice (some ⟨w.heap.size + 1, 0, none⟩) 0 0) (List.replicate 0 (-1)) := by rw [hW1]; exact hv.alloc _
  have hne : (Value.slice (some ⟨w.heap.size + 1, 0, none⟩) 0 0).ownBlock ≠ uv.ownBlock := by rw [huv]; simp [Value.ownBlock]
  have hnX : (Value.slice (some ⟨w.heap.size + 1, 0, none⟩) 0 0).ownBlock ≠ some w1.heap.size := by simp [Value.ownBlock]; omega
  have hB1 : Below w.heap.size w W1 := by rw [hW1]; exact Below.next hg2 (by exact bgr)
  have hs1 : w1.heap.size < W1.heap.size := by rw [hW1]; simp
  rw [← huv]
  clear hW1 hv hu hg hg2 hFz c0 c1 c2 c3
  obtain ⟨Au, cu, hue⟩ : ∃ Au cu, uv = .slice Au n cu := ⟨_, _, huv⟩
  clear huv
  subst hue
  obtain ⟨X, hX⟩ : ∃ X, X = w1.heap.size := ⟨_, rfl⟩
  rw [← hX] at b0 b1 b2 b3 bf hnX hs1 hz
  rw [← hX]
  clear hX
  have hXw : w.heap.size + 3 ≤ X := hz
  clear hz
  go_loopw [6] (fun i wr => ∃ (k : Nat) (v : Value), k ≤ n ∧ i = .int .i64 k ∧ wr.cell? ⟨X, 0, none⟩ = some (.int .i64 p) ∧ wr.cell? ⟨X, 1, none⟩ = some (.int .i64 q) ∧ wr.cell? ⟨X, 2, none⟩ = some v ∧ wr.cell? ⟨X, 3, none⟩ = some (.slice Au n cu) ∧ (∀ o, wr.frozen? ⟨X, o, none⟩ = false) ∧
    wr.cell? ⟨w.heap.size, 0, none⟩ = some (.int .i64 0) ∧ wr.cell? ⟨w.heap.size, 1, none⟩ = some (.int .i64 0) ∧ wr.cell? ⟨w.heap.size, 2, none⟩ = some (.slice none 0 0) ∧ wr.cell? ⟨w.heap.size, 3, none⟩ = some (.slice none 0 0) ∧ (∀ o, wr.frozen? ⟨w.heap.size, o, none⟩ = false) ∧
    OwnI wr (w.heap.size + 1) v (List.replicate k (-1)) ∧ OwnI wr (w.heap.size + 1) (.slice Au n cu) (List.replicate n 0) ∧ Hid (v.ownBlock ≠ (Value.slice Au n cu).ownBlock) ∧ Hid (v.ownBlock ≠ some X) ∧ Below w.heap.size w wr ∧ X < wr.heap.size) (fun i _ => n - (intOf i).toNat)
  case atStart => exact ⟨0, _, Nat.zero_le _, rfl, b0, b1, b2, b3, bf, d0, d1, d2, d3, df, hv1, hu1, hne, hnX, hB1, hs1⟩
  case round =>
    clear b0 b1 b2 b3 bf d0 d1 d2 d3 df hv1 hu1 hne hnX hB1 hs1
    obtain ⟨k, v, hk, rfl, b0, b1, b2, b3, bf, d0, d1, d2, d3, df, hv, hu, hne, hnX, hB, hs⟩ := hrel
    by_cases hlt : k < n
    · obtain ⟨Av, cv, ev, _⟩ := id hv
      rw [List.length_replicate] at ev
      subst ev
      go_wp2_with (at_builtin; refine push_int (base := w.heap.size + 1) (by exact hv) rfl _ _ rfl rfl rfl (by omega) (by simp; omega) ?_; go_loud (intro v' w4 ho4 hg4 hb4; have hg5 : wr.grownBy w4 (Value.slice Av k cv).ownBlock := hg4; clear hg4; have e4 := id ho4; obtain ⟨Aw, cw, ew, _⟩ := e4; have ew' : v' = Value.slice Aw (k + 1) cw := (by simpa using ew); clear ew; subst ew'; rw [← List.replicate_succ'] at ho4; have x0 := (hg5.cell_far ⟨X, 0, none⟩ hs hnX.out.symm).trans b0; have x1 := (hg5.cell_far ⟨X, 1, none⟩ hs hnX.out.symm).trans b1; have x2 := (hg5.cell_far ⟨X, 2, none⟩ hs hnX.out.symm).trans b2; have x3 := (hg5.cell_far ⟨X, 3, none⟩ hs hnX.out.symm).trans b3; have xf : ∀ o, w4.frozen? ⟨X, o, none⟩ = false := fun o => (hg5.frozen_far ⟨X, o, none⟩ hs hnX.out.symm).trans (bf o); have hu4 := hu.kept hg5 (.inr hne.out.symm); have s4 := hg5.size))
      have nX : Hid ((Value.slice Aw (k + 1) cw).ownBlock ≠ some X) := own_ne_cell (x := -1) ho4 x0 (by simp; omega)
      have nU : Hid ((Value.slice Aw (k + 1) cw).ownBlock ≠ (Value.slice Au n cu).ownBlock) := fun he => by
        obtain ⟨m, hm⟩ : ∃ m, n = m + 1 := ⟨n - 1, by omega⟩
        rw [hm, List.replicate_succ] at hu4
        obtain ⟨g, rfl, _, hc, _⟩ := hu4.cell (k := 0) (x := 0) rfl
        exact own_ne_cell (x := -1) ho4 hc (by simp) (he.trans (by simp [Value.ownBlock]))
      have hbw : Below w.heap.size w w4 := hB.trans (hb4.mono (by omega))
      have hd : ∀ (o : Nat) (y : Value), wr.cell? ⟨w.heap.size, o, none⟩ = some y → (w4.setCell ⟨X, 2, none⟩ (.slice Aw (k + 1) cw)).cell? ⟨w.heap.size, o, none⟩ = some y := fun o y h => bx_other (by omega) ((hb4.cell (p := ⟨w.heap.size, o, none⟩) (by show w.heap.size < _; omega)).trans h)
      refine ⟨⟨k + 1, .slice Aw (k + 1) cw, by omega, by go_num, bx_other (by omega) x0, bx_other (by omega) x1, bx_same x2, bx_other (by omega) x3, bm_set xf, hd 0 _ d0, hd 1 _ d1, hd 2 _ d2, hd 3 _ d3, bm_set (fun o => (hb4.frozen (p := ⟨w.heap.size, o, none⟩) (by show w.heap.size < _; omega)).trans (df o)), ?_, ?_, nU, nX, hbw.setCell (by show w.heap.size ≤ X; omega) _, by simp only [World.size_setCell]; omega⟩, by simp [intOf]; omega⟩
      · exact ho4.kept (row := some X) ⟨rfl, rfl, rfl, by simp [World.setCell], fun i hi hne => Below.heap_setCell w4 ⟨X, 2, none⟩ _ i (fun e => hne (by rw [e]))⟩ (.inr nX)
      · exact hu4.kept (row := some X) ⟨rfl, rfl, rfl, by simp [World.setCell], fun i hi hne => Below.heap_setCell w4 ⟨X, 2, none⟩ _ i (fun e => hne (by rw [e]))⟩ (.inr (by
          obtain ⟨m, hm⟩ : ∃ m, n = m + 1 := ⟨n - 1, by omega⟩
          rw [hm, List.replicate_succ] at hu4
          rw [hm]
          exact own_ne_cell (x := 0) hu4 x0 (by simp; omega)))
    · have e : k = n := by omega
      subst e
      obtain ⟨Av, cv, ev, _⟩ := id hv
      rw [List.length_replicate] at ev
      subst ev
      repeat' (first | fail | go_values | go_skip | go_guarded | go_step | go_upon | (simp only []; go_step) | (go_ite <;> go_prune <;> (try go_simp)))
      refine q_gen (fun W2 hW2 => ?_)
      have q0 := bx_id (w := W2) (X := w.heap.size) (o := 0) (v := .int .i64 p) (by rw [hW2]; exact bxc)
      have q1 := bx_id (w := W2) (X := w.heap.size) (o := 1) (v := .int .i64 q) (by rw [hW2]; exact bxc)
      have q2 := bx_id (w := W2) (X := w.heap.size) (o := 2) (by rw [hW2]; exact bxc)
      have q3 := bx_id (w := W2) (X := w.heap.size) (o := 3) (by rw [hW2]; exact bxc)
      have hv2 : OwnI W2 (w.heap.size + 1) (.slice Av k cv) (List.replicate k (-1)) := by rw [hW2]; repeat' (first | (with_reducible assumption) | (refine OwnI.off ?_ (by omega) _) | (refine OwnI.alloc ?_ _) | (refine OwnI.drewN ?_ _) | (refine OwnI.below ?_ (by with_reducible assumption)))
      have hu2 : OwnI W2 (w.heap.size + 1) (.slice Au k cu) (List.replicate k 0) := by rw [hW2]; repeat' (first | (with_reducible assumption) | (refine OwnI.off ?_ (by omega) _) | (refine OwnI.alloc ?_ _) | (refine OwnI.drewN ?_ _) | (refine OwnI.below ?_ (by with_reducible assumption)))
      have hB2 : Below w.heap.size w W2 := by rw [hW2]; exact bgr
      clear hW2
      ((try simp only [Exit.inBlock, Exit.then]); refine bodyPost_ret (by simp [results, Try.results23, go_sem, *]; try rfl) rfl ?_)
      exact ⟨_, _, rfl, hv2.mono (by omega), hu2.mono (by omega), hB2⟩
end Go.Proofs.Ytdedmiennpbfcaa
