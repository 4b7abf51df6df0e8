/- New mosaics: contracts. -/
import Derived.Test.YtdedmiennpbfcaaRep
import Derived.Test.YtdedmiennpbfcaaMosB
import Derived.Deep.RegionHeld3
namespace Go.Proofs.Ytdedmiennpbfcaa
open Go.RowKit Go.ChangeShapes Go.WideShapes Go.ChangeAt
set_option linter.unusedVariables false
set_option linter.unusedSimpArgs false
def nwm (p q : Int) : List Int := List.replicate (p * q).toNat (-1)
def nwg (p q : Int) : List Int := List.replicate (p * q).toNat 0
/-- 'make([]int64, n)' as an equation -/
theorem make_int_run (w1 : World) (n : Nat) (hn : n ≤ 1048576) : ∃ w', (Instr.makeSlice 24 (.int .i64 (n : Int)) (.int .i64 (n : Int))).run Try.prog w1 = .ok (.slice (some ⟨w1.heap.size, 0, none⟩) n n) w' ∧
    OwnI w' w1.heap.size (.slice (some ⟨w1.heap.size, 0, none⟩) n n) (List.replicate n 0) ∧ Below w1.heap.size w1 w' ∧ w1.heap.size < w'.heap.size := by
  obtain ⟨i0, hi, hz0, hz1, hz2⟩ := info_parts int_info
  obtain ⟨w', hrun, r1, r2⟩ := run_make_full (P := Try.prog) w1 w1.heap.size 24 2 i0 _ 1 Try.underlying24 hi hz0 hz1 .i64 .i64 n (by rw [hz2]; omega) (by simp only [maxLen]; omega) (Nat.le_refl _)
  refine ⟨w', hrun, ⟨some ⟨w1.heap.size, 0, none⟩, n, by simp, ?_⟩, ⟨r2.os, r2.tape, r2.output, r2.size, fun k hk => r2.block k hk (by simp)⟩, by have := r1.lt w1.heap.size rfl; omega⟩
  simp only [show (Value.int .i64 0).cells = #[Value.int .i64 0] from rfl, Nat.mul_one, toList_madeCells_one] at r1
  simpa using r1
def SzOk (B : Nat) (w' : World) : Prop := B ≤ w'.heap.size
theorem lit1 {W : World} {b : Nat} {x : Int} (h : W.cell? ⟨b, 0, none⟩ = some (.int .i64 x)) : I64 W W.heap.size (some ⟨b, 0, none⟩) [x] :=
  .inr ⟨b, 0, rfl, World.block_lt_of_cell? W ⟨b, 0, none⟩ h, fun j v hj => by
    have h0 : j = 0 := by have := (List.getElem?_eq_some_iff.1 hj).1; simp at this; omega
    subst h0
    simp at hj
    subst hj
    exact h⟩
set_option maxHeartbeats 800000 in
set_option maxRecDepth 100000 in
theorem impl_newMosaic (p q : Int) (n : Nat) (w : World) (hp : 1 ≤ p ∧ p ≤ 40) (hq : 1 ≤ q ∧ q ≤ 40) (hn : p * q = (n : Int)) (h1 : 1 ≤ n) (h2 : n ≤ 1600) :
    Calls Try.prog 18 #[.int .i64 p, .int .i64 q] w fun e w' => ∃ v u, e = .returned (.agg #[.int .i64 p, .int .i64 q, v, u]) ∧ OwnI w' w.heap.size v (List.replicate n (-1)) ∧ OwnI w' w.heap.size u (List.replicate n 0) ∧ Below w.heap.size w w' := by
  have wpq : IntKind.i64.wrap (p * q) = (n : Int) := by rw [hn, IntWalk.i64_in _ (by omega)]
  have hnH := Lib.hid hn
  clear hn
  go_enter Try.func18, Try.ntmps18
  repeat' (first | fail | go_values | go_skip | go_guarded | go_step | go_upon | (simp only []; go_step) | (go_ite <;> go_prune <;> (try go_simp)))
  obtain ⟨wa, ra, oa, bwa, za⟩ := make_int_run (w.alloc (.cells #[.int .i64 0, .int .i64 0, .slice none 0 0, .slice none 0 0] 26)).drew n (by omega)
  obtain ⟨wb, rb, ob, bwb, zb⟩ := make_int_run ((w.alloc (.cells #[.int .i64 0, .int .i64 0, .slice none 0 0, .slice none 0 0] 26)).alloc (.cells #[.int .i64 (-1)] 2)).drew n (by omega)
  have Ba : Below w.heap.size w wa := Below.next (W := (w.alloc (.cells #[.int .i64 0, .int .i64 0, .slice none 0 0, .slice none 0 0] 26)).drew) (by exact bgr) bwa
  have Bb : Below w.heap.size w wb := Below.next (W := ((w.alloc (.cells #[.int .i64 0, .int .i64 0, .slice none 0 0, .slice none 0 0] 26)).alloc (.cells #[.int .i64 (-1)] 2)).drew) (by exact bgr) bwb
  simp only [World.size_drew, World.size_alloc] at oa bwa za ob bwb zb
  have qwa0 : wa.cell? ⟨w.heap.size, 0, none⟩ = some (.int .i64 0) := bx_keep (W := (w.alloc (.cells #[.int .i64 0, .int .i64 0, .slice none 0 0, .slice none 0 0] 26)).drew) (by simpa using bwa) (by exact bxc)
  have qwa1 : wa.cell? ⟨w.heap.size, 1, none⟩ = some (.int .i64 0) := bx_keep (W := (w.alloc (.cells #[.int .i64 0, .int .i64 0, .slice none 0 0, .slice none 0 0] 26)).drew) (by simpa using bwa) (by exact bxc)
  have qwa2 : wa.cell? ⟨w.heap.size, 2, none⟩ = some (.slice none 0 0) := bx_keep (W := (w.alloc (.cells #[.int .i64 0, .int .i64 0, .slice none 0 0, .slice none 0 0] 26)).drew) (by simpa using bwa) (by exact bxc)
  have qwa3 : wa.cell? ⟨w.heap.size, 3, none⟩ = some (.slice none 0 0) := bx_keep (W := (w.alloc (.cells #[.int .i64 0, .int .i64 0, .slice none 0 0, .slice none 0 0] 26)).drew) (by simpa using bwa) (by exact bxc)
  have zwa : ∀ o, wa.frozen? ⟨w.heap.size, o, none⟩ = false := bm_keep (W := (w.alloc (.cells #[.int .i64 0, .int .i64 0, .slice none 0 0, .slice none 0 0] 26)).drew) (by simpa using bwa) (by simp) (by exact bxm)
  have qwb0 : wb.cell? ⟨w.heap.size, 0, none⟩ = some (.int .i64 0) := bx_keep (W := ((w.alloc (.cells #[.int .i64 0, .int .i64 0, .slice none 0 0, .slice none 0 0] 26)).alloc (.cells #[.int .i64 (-1)] 2)).drew) (by simpa using bwb) (by exact bxc)
  have qwb1 : wb.cell? ⟨w.heap.size, 1, none⟩ = some (.int .i64 0) := bx_keep (W := ((w.alloc (.cells #[.int .i64 0, .int .i64 0, .slice none 0 0, .slice none 0 0] 26)).alloc (.cells #[.int .i64 (-1)] 2)).drew) (by simpa using bwb) (by exact bxc)
  have qwb2 : wb.cell? ⟨w.heap.size, 2, none⟩ = some (.slice none 0 0) := bx_keep (W := ((w.alloc (.cells #[.int .i64 0, .int .i64 0, .slice none 0 0, .slice none 0 0] 26)).alloc (.cells #[.int .i64 (-1)] 2)).drew) (by simpa using bwb) (by exact bxc)
  have qwb3 : wb.cell? ⟨w.heap.size, 3, none⟩ = some (.slice none 0 0) := bx_keep (W := ((w.alloc (.cells #[.int .i64 0, .int .i64 0, .slice none 0 0, .slice none 0 0] 26)).alloc (.cells #[.int .i64 (-1)] 2)).drew) (by simpa using bwb) (by exact bxc)
  have qwb4 : wb.cell? ⟨w.heap.size + 1, 0, none⟩ = some (.int .i64 (-1)) := bx_keep (W := ((w.alloc (.cells #[.int .i64 0, .int .i64 0, .slice none 0 0, .slice none 0 0] 26)).alloc (.cells #[.int .i64 (-1)] 2)).drew) (by simpa using bwb) (by exact bxc)
  have oa' := OwnI.mono (base' := w.heap.size + 1) oa (by omega)
  have ob' := OwnI.mono (base' := w.heap.size + 1) ob (by omega)
  have zwb : ∀ o, wb.frozen? ⟨w.heap.size, o, none⟩ = false := bm_keep (W := ((w.alloc (.cells #[.int .i64 0, .int .i64 0, .slice none 0 0, .slice none 0 0] 26)).alloc (.cells #[.int .i64 (-1)] 2)).drew) (by simpa using bwb) (by simp; omega) (by exact bxm)
  go_region_held3 (fun w' => SzOk (w.heap.size + 1) w') (first | (unfold SzOk; simp only [World.size_alloc, World.size_setCell, World.size_drew]; omega) | (unfold SzOk; omega)) (first | (go_at_call 31; refine (slices_Repeat1 _ _ n (-1) _ (lit1 (by exact bxc)) (by omega) (by omega)).mono ?_; rintro e w1 ⟨vr, rfl, hor, hbw1⟩; have hzw1 := hbw1.size; (try simp only [World.size_alloc, World.size_setCell, World.size_drew] at hzw1); have hs1 : w.heap.size < w1.heap.size := (by omega); have q1 := bx_id (w := w1) (X := w.heap.size) (o := 0) (by exact bxc); (try simp only [List.getElem_toArray, List.getElem_cons_succ, List.getElem_cons_zero] at q1); have q1 := bx_id (w := w1) (X := w.heap.size) (o := 1) (by exact bxc); (try simp only [List.getElem_toArray, List.getElem_cons_succ, List.getElem_cons_zero] at q1); have q1 := bx_id (w := w1) (X := w.heap.size) (o := 2) (by exact bxc); (try simp only [List.getElem_toArray, List.getElem_cons_succ, List.getElem_cons_zero] at q1); have q1 := bx_id (w := w1) (X := w.heap.size) (o := 3) (by exact bxc); (try simp only [List.getElem_toArray, List.getElem_cons_succ, List.getElem_cons_zero] at q1); have z1 : ∀ o, w1.frozen? ⟨w.heap.size, o, none⟩ = false := (by exact bxm); have hor2 := hor; have hor3 := OwnI.mono (base' := w.heap.size + 1) hor (by first | omega | (simp only [World.size_alloc, World.size_drew]; omega));  obtain ⟨Ar, cr, er, _⟩ := hor2; rw [List.length_replicate] at er; subst er; obtain ⟨wc, rc, oc, bwc, zc⟩ := make_int_run w1 n (by omega); have oc' := OwnI.mono (base' := w.heap.size + 1) oc (by omega); have qc0 : wc.cell? ⟨w.heap.size, 0, none⟩ = some (.int .i64 0) := bx_keep bwc (by exact bxc); have qc1 : wc.cell? ⟨w.heap.size, 1, none⟩ = some (.int .i64 0) := bx_keep bwc (by exact bxc); have qc2 : wc.cell? ⟨w.heap.size, 2, none⟩ = some (.slice none 0 0) := bx_keep bwc (by exact bxc); have qc3 : wc.cell? ⟨w.heap.size, 3, none⟩ = some (.slice none 0 0) := bx_keep bwc (by exact bxc); have hsc : w.heap.size < w1.heap.size := (by omega); have zzc : ∀ o, wc.frozen? ⟨w.heap.size, o, none⟩ = false := (by exact bxm)))
  all_goals
    refine q_gen (fun W1 hW1 => ?_)
    have b0 := bx_id (w := W1) (X := w.heap.size) (o := 0) (v := .int .i64 p) (by rw [hW1]; exact bxc)
    have b1 := bx_id (w := W1) (X := w.heap.size) (o := 1) (v := .int .i64 q) (by rw [hW1]; exact bxc)
    have b2 := bx_id (w := W1) (X := w.heap.size) (o := 2) (by rw [hW1]; exact bxc)
    have b3 := bx_id (w := W1) (X := w.heap.size) (o := 3) (by rw [hW1]; exact bxc)
    have hv : OwnI W1 (w.heap.size + 1) (.slice Ar n cr) (List.replicate n (-1)) := by rw [hW1]; repeat' (first | (with_reducible assumption) | (refine OwnI.off ?_ (by omega) _) | (refine OwnI.alloc ?_ _) | (refine OwnI.drewN ?_ _) | (refine OwnI.below ?_ (by with_reducible assumption)))
    have hu : ∃ u, W1.cell? ⟨w.heap.size, 3, none⟩ = some u ∧ OwnI W1 (w.heap.size + 1) u (List.replicate n 0) := ⟨_, b3, by rw [hW1]; repeat' (first | (with_reducible assumption) | (refine OwnI.off ?_ (by omega) _) | (refine OwnI.alloc ?_ _) | (refine OwnI.drewN ?_ _) | (refine OwnI.below ?_ (by with_reducible assumption)))⟩
    have hB : Below w.heap.size w W1 := by rw [hW1]; exact bgr
    clear hW1 b3
    obtain ⟨u, b3, hu⟩ := hu
    have hu2 := hu
    obtain ⟨Au, cu, eu, _⟩ := hu2
    rw [List.length_replicate] at eu
    subst eu
    repeat' (first | fail | go_values | go_skip | go_guarded | go_step | go_upon | (simp only []; go_step) | (go_ite <;> go_prune <;> (try go_simp)))
    ((try simp only [Exit.inBlock, Exit.then]); refine bodyPost_ret (by simp [results, Try.results18, go_sem, *]; try rfl) rfl ?_)
    exact ⟨_, _, rfl, hv.mono (by omega), hu.mono (by omega), hB⟩
end Go.Proofs.Ytdedmiennpbfcaa
