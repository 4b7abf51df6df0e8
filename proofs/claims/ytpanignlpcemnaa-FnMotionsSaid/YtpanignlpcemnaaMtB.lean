/- DrawMoveOn: contract. Printed by gen_mta.py. -/
import Derived.Test.YtpanignlpcemnaaMtA
namespace Go.Proofs.Ytpanignlpcemnaa
open Go.RowKit Go.ChangeShapes Go.WideShapes Go.ChangeAt
set_option linter.unusedVariables false
set_option linter.unusedSimpArgs false
theorem pick8 (B g h : Nat) (a b c d p k m n : Int) (w : World) (hs : Src w B g) (hh : w.heap[h]? = some (.cells #[.int .i64 a, .int .i64 b, .int .i64 c, .int .i64 d, .int .i64 p, .int .i64 k, .int .i64 m, .int .i64 n] 2 (0, 0))) (hne : g < h) :
    Calls Try.prog 48 #[.pointer (some ⟨g, 0, none⟩), .slice (some ⟨h, 0, none⟩) 8 8] w fun e w' => ∃ r, e = .returned (.int .i64 r) ∧ Src w' B g ∧ w.grownBy w' (some g) :=
  (spec_l01Pick B g h [a, b, c, d, p, k, m, n] w hs hh hne (by simp) (by simp)).mono fun e w' ⟨r, he, hm, h1, h2⟩ => ⟨r, he, h1, h2⟩
set_option maxRecDepth 100000 in
set_option maxHeartbeats 1600000 in
theorem spec_DrawMoveOn (A : Option Addr) (c : Nat) (code : List Int) (w : World) (hr : U8 w w.heap.size A code) (hb : ∀ x ∈ code, 0 ≤ x ∧ x ≤ 255) (hl : code.length ≤ 4096) :
    Calls Try.prog 8 #[.slice A code.length c] w fun e w' => ∃ x y p q s n, e = .returned (.tuple #[.agg #[.int .i64 x, .int .i64 y, .int .i64 p, .int .i64 q, .int .i64 s], .int .i64 n]) ∧ Below w.heap.size w w' := by
  go_enter Try.func8, Try.ntmps8
  go_wp2_with fail
  refine calls_gen (fun W0 hW0 => ?_)
  have rb : IBox W0 25 w.heap.size [0, 0, 0, 0, 0] := by rw [hW0]; exact IBox.new (w := w) (T := 25) (l := [0, 0, 0, 0, 0]) rfl
  have B0 : Below w.heap.size w W0 := by rw [hW0]; exact Below.new (Below.refl _ _) _
  clear hW0
  have z0 := rb.lt
  refine (spec_l01From _ _ _ _ (Rd.up hr B0) hb hl).mono ?_
  rintro e w1 ⟨g, rfl, hg0, hs1, hb1⟩
  have rb := rb.next hb1
  have B1 : Below w.heap.size w w1 := B0.trans (hb1.mono B0.size)
  clear hb1 B0
  go_wp2_with fail
  refine (spec_l14DrawMotion _ _ _ hs1).mono ?_
  rintro e w2 ⟨x, y, p, q, s, rfl, hs2, hg2⟩
  have rb := rb.grown hg2 (by simp; omega)
  have B2 : Below w.heap.size w w2 := below_row B1 hg2 (by omega)
  have z2 := hs2.lt
  clear hg2 hs1 B1
  go_wp2_with fail
  refine wp_gen (fun W3 hW3 => ?_)
  have tb : IBox W3 25 w2.heap.size [x, y, p, q, s] := by rw [hW3]; exact IBox.new (w := w2) (T := 25) (l := [x, y, p, q, s]) rfl
  have rb : IBox W3 25 w.heap.size [0, 0, 0, 0, 0] := by rw [hW3]; exact rb.alloc _
  have hs3 : Src W3 W0.heap.size g := by rw [hW3]; exact hs2.alloc _
  have B3 : Below w.heap.size w W3 := by rw [hW3]; exact Below.new B2 _
  clear hW3 hs2 B2
  obtain ⟨X, hX⟩ : ∃ X, X = w2.heap.size := ⟨_, rfl⟩
  rw [← hX] at tb z2 ⊢
  have zX := tb.lt
  clear hX
  have t0 := tb.cell (j := 0) rfl
  have t1 := tb.cell (j := 1) rfl
  have t2 := tb.cell (j := 2) rfl
  have t3 := tb.cell (j := 3) rfl
  have t4 := tb.cell (j := 4) rfl
  have tf := tb.fz
  have b0 := rb.cell (j := 0) rfl
  have b1 := rb.cell (j := 1) rfl
  have b2 := rb.cell (j := 2) rfl
  have b3 := rb.cell (j := 3) rfl
  have b4 := rb.cell (j := 4) rfl
  have bf := rb.fz
  (refine wp_region_noPanic ?_; refine beginE 5 (fun w' => w'.cell? ⟨X, 0, none⟩ = some (.int .i64 x) ∧ w'.cell? ⟨X, 1, none⟩ = some (.int .i64 y) ∧ w'.cell? ⟨X, 2, none⟩ = some (.int .i64 p) ∧ w'.cell? ⟨X, 3, none⟩ = some (.int .i64 q) ∧ w'.cell? ⟨X, 4, none⟩ = some (.int .i64 s)) (by kernel_rfl) ?_ (fun hHeld => ?_); (focus ((try dsimp only); (refine ⟨?_, ?_, ?_, ?_, ?_⟩ <;> repeat' (first | (with_reducible assumption) | ((with_reducible apply bx_new) <;> first | (simp only [World.size_alloc, World.size_setCell]; done) | rfl) | (with_reducible apply bx_alloc) | (with_reducible apply bx_other; (first | (simp only [World.size_alloc, World.size_setCell]; omega) | omega)) | (with_reducible apply bx_same) | (with_reducible apply bx_drew) | (with_reducible apply bx_drew1) | (with_reducible apply bx_keep; with_reducible assumption) | fail)))); (refine takeE (i := 0) (d := 10) rfl rfl (by kernel_rfl) (by decide) (by kernel_rfl) (by kernel_rfl) (by kernel_rfl) (by rfl) (by assumption) (v := ?_) ?_ ?_; rotate_left; (focus (intro wq hSw; (try dsimp only at hSw); go_simp; (try (with_reducible rfl)); done)); (try simp only [Act.put, List.setIfInBounds_toArray, List.set_cons_zero, List.set_cons_succ])); (refine takeE (i := 1) (d := 11) rfl rfl (by kernel_rfl) (by decide) (by kernel_rfl) (by kernel_rfl) (by kernel_rfl) (by rfl) (by assumption) (v := ?_) ?_ ?_; rotate_left; (focus (intro wq hSw; (try dsimp only at hSw); go_simp; (try (with_reducible rfl)); done)); (try simp only [Act.put, List.setIfInBounds_toArray, List.set_cons_zero, List.set_cons_succ])); (refine runE (i := 2) (by kernel_rfl) rfl (by decide) (fun K hK => ?_); go_simp; (first | (go_at_call 48; refine (pick8 _ _ _ _ _ _ _ _ _ _ _ _ (Src.alloc (Src.drewS hs3) _) (by exact heap_alloc_new _ _) (by first | omega | (simp only [World.size_drew]; omega) | (show g < W3.heap.size; omega))).mono ?_; rintro e w5 ⟨n, rfl, hs5, hg5⟩; have B5 : Below w.heap.size w w5 := below_row (Below.new (below_drew B3) _) hg5 (by omega); have tb5 := IBox.src (IBox.alloc (IBox.drew tb) _) hg5 (by omega); have rb5 := IBox.grown (IBox.alloc (IBox.drew rb) _) hg5 (by simp; omega); have t0 := tb5.cell (j := 0) rfl; have t1 := tb5.cell (j := 1) rfl; have t2 := tb5.cell (j := 2) rfl; have t3 := tb5.cell (j := 3) rfl; have t4 := tb5.cell (j := 4) rfl; have tf := tb5.fz; have k0 := rb5.cell (j := 0) rfl; have k1 := rb5.cell (j := 1) rfl; have k2 := rb5.cell (j := 2) rfl; have k3 := rb5.cell (j := 3) rfl; have k4 := rb5.cell (j := 4) rfl; have kf := rb5.fz) | skip); (try go_wp2_with fail); all_goals (refine hK.out _ _ ?_ (fun hHeld => ?_); (focus ((try dsimp only); (refine ⟨?_, ?_, ?_, ?_, ?_⟩ <;> repeat' (first | (with_reducible assumption) | ((with_reducible apply bx_new) <;> first | (simp only [World.size_alloc, World.size_setCell]; done) | rfl) | (with_reducible apply bx_alloc) | (with_reducible apply bx_other; (first | (simp only [World.size_alloc, World.size_setCell]; omega) | omega)) | (with_reducible apply bx_same) | (with_reducible apply bx_drew) | (with_reducible apply bx_drew1) | (with_reducible apply bx_keep; with_reducible assumption) | fail)))); clear hK K; (try simp only [Act.put, List.setIfInBounds_toArray, List.set_cons_zero, List.set_cons_succ]))); (refine runE (i := 3) (by kernel_rfl) rfl (by decide) (fun K hK => ?_); go_simp; (first | (go_at_call 48; refine (pick8 _ _ _ _ _ _ _ _ _ _ _ _ (Src.alloc (Src.drewS hs3) _) (by exact heap_alloc_new _ _) (by first | omega | (simp only [World.size_drew]; omega) | (show g < W3.heap.size; omega))).mono ?_; rintro e w5 ⟨n, rfl, hs5, hg5⟩; have B5 : Below w.heap.size w w5 := below_row (Below.new (below_drew B3) _) hg5 (by omega); have tb5 := IBox.src (IBox.alloc (IBox.drew tb) _) hg5 (by omega); have rb5 := IBox.grown (IBox.alloc (IBox.drew rb) _) hg5 (by simp; omega); have t0 := tb5.cell (j := 0) rfl; have t1 := tb5.cell (j := 1) rfl; have t2 := tb5.cell (j := 2) rfl; have t3 := tb5.cell (j := 3) rfl; have t4 := tb5.cell (j := 4) rfl; have tf := tb5.fz; have k0 := rb5.cell (j := 0) rfl; have k1 := rb5.cell (j := 1) rfl; have k2 := rb5.cell (j := 2) rfl; have k3 := rb5.cell (j := 3) rfl; have k4 := rb5.cell (j := 4) rfl; have kf := rb5.fz) ); (try go_wp2_with fail); all_goals (refine hK.out _ _ ?_ (fun hHeld => ?_); (focus ((try dsimp only); (refine ⟨?_, ?_, ?_, ?_, ?_⟩ <;> repeat' (first | (with_reducible assumption) | ((with_reducible apply bx_new) <;> first | (simp only [World.size_alloc, World.size_setCell]; done) | rfl) | (with_reducible apply bx_alloc) | (with_reducible apply bx_other; (first | (simp only [World.size_alloc, World.size_setCell]; omega) | omega)) | (with_reducible apply bx_same) | (with_reducible apply bx_drew) | (with_reducible apply bx_drew1) | (with_reducible apply bx_keep; with_reducible assumption) | fail)))); clear hK K; (try simp only [Act.put, List.setIfInBounds_toArray, List.set_cons_zero, List.set_cons_succ]))); (refine runE (i := 4) (by kernel_rfl) rfl (by decide) (fun K hK => ?_); go_simp; (first | (go_at_call 48; refine (pick8 _ _ _ _ _ _ _ _ _ _ _ _ (Src.alloc (Src.drewS hs3) _) (by exact heap_alloc_new _ _) (by first | omega | (simp only [World.size_drew]; omega) | (show g < W3.heap.size; omega))).mono ?_; rintro e w5 ⟨n, rfl, hs5, hg5⟩; have B5 : Below w.heap.size w w5 := below_row (Below.new (below_drew B3) _) hg5 (by omega); have tb5 := IBox.src (IBox.alloc (IBox.drew tb) _) hg5 (by omega); have rb5 := IBox.grown (IBox.alloc (IBox.drew rb) _) hg5 (by simp; omega); have t0 := tb5.cell (j := 0) rfl; have t1 := tb5.cell (j := 1) rfl; have t2 := tb5.cell (j := 2) rfl; have t3 := tb5.cell (j := 3) rfl; have t4 := tb5.cell (j := 4) rfl; have tf := tb5.fz; have k0 := rb5.cell (j := 0) rfl; have k1 := rb5.cell (j := 1) rfl; have k2 := rb5.cell (j := 2) rfl; have k3 := rb5.cell (j := 3) rfl; have k4 := rb5.cell (j := 4) rfl; have kf := rb5.fz) | skip); (try go_wp2_with fail); all_goals (refine hK.out _ _ ?_ (fun hHeld => ?_); (focus ((try dsimp only); (refine ⟨?_, ?_, ?_, ?_, ?_⟩ <;> repeat' (first | (with_reducible assumption) | ((with_reducible apply bx_new) <;> first | (simp only [World.size_alloc, World.size_setCell]; done) | rfl) | (with_reducible apply bx_alloc) | (with_reducible apply bx_other; (first | (simp only [World.size_alloc, World.size_setCell]; omega) | omega)) | (with_reducible apply bx_same) | (with_reducible apply bx_drew) | (with_reducible apply bx_drew1) | (with_reducible apply bx_keep; with_reducible assumption) | fail)))); clear hK K; (try simp only [Act.put, List.setIfInBounds_toArray, List.set_cons_zero, List.set_cons_succ]))); (refine lastE (by kernel_rfl) rfl (by kernel_rfl) (fun K hK => ?_); (go_simp; (try go_wp2_with fail)); refine hK.out _ _ ?_; clear hK K; (try simp only [Act.put, List.setIfInBounds_toArray, List.set_cons_zero, List.set_cons_succ])); refine NoPanic.normal ?_)
  all_goals repeat' (first | fail | go_values | go_skip | go_guarded | go_step | go_upon | (simp only []; go_step) | (go_ite <;> go_prune <;> (try go_simp)))
  all_goals ((try simp only [Exit.inBlock, Exit.then]); refine bodyPost_ret (by simp [results, Try.results8, go_sem, *]; try rfl) rfl ?_)
  all_goals exact ⟨_, _, _, _, _, _, rfl, by repeat' (first | (with_reducible exact Below.refl _ _) | (with_reducible assumption) | (with_reducible refine Below.new ?_ _) | (with_reducible refine Below.alloc ?_ ?_ _) | (with_reducible refine Below.drew ?_) | (with_reducible refine below_drewN ?_ _) | (with_reducible refine Below.setCell ?_ ?_ _) | (refine Below.next ?_ (by with_reducible assumption)) | (refine Below.row ?_ (by with_reducible assumption) (by omega)) | (refine Below.trans ?_ (by with_reducible assumption)) | (refine Below.after ?_ ?_ (by with_reducible assumption)) | go_size)⟩
end Go.Proofs.Ytpanignlpcemnaa
