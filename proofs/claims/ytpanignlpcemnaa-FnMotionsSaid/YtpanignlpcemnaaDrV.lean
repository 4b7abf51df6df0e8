/- The draws of the laws of gates: contracts. Printed by gen_gates.py. -/
import Derived.Test.YtpanignlpcemnaaDrN
import Derived.Test.YtpanignlpcemnaaRegLast
namespace Go.Proofs.Ytpanignlpcemnaa
open Go.RowKit Go.ChangeShapes Go.WideShapes Go.ChangeAt
set_option linter.unusedVariables false
set_option linter.unusedSimpArgs false
theorem OwnS.off1 {α : Type} {cl : α → List Int} {T : TypeId} {k : Nat} {w : World} {lo hi : Nat} {v : Value} {xs : List α} (h : OwnS cl T k w lo hi v xs) {X o : Nat} {u : Value} (hX : X < lo) : OwnS cl T k (w.setCell ⟨X, o, none⟩ u) lo hi v xs :=
  h.kept (row := some X) ⟨rfl, rfl, rfl, by simp [World.setCell], fun i hi hne => Below.heap_setCell w ⟨X, o, none⟩ u i (fun e => hne (by rw [e]))⟩ (by
    cases hv : v.ownBlock with
    | none => simp
    | some q => right; have := (h.lt q hv).1; simp; omega)
theorem below_drew {B : Nat} {a w : World} (h : Below B a w) : Below B a w.drew := ⟨h.os, h.tape, h.output, h.size, h.block⟩
theorem below_row {w W w1 : World} {g : Nat} (h : Below w.heap.size w W) (hg : W.grownBy w1 (some g)) (hB : w.heap.size ≤ g) : Below w.heap.size w w1 :=
  ⟨hg.os.trans h.os, hg.tape.trans h.tape, hg.output.trans h.output, Nat.le_trans h.size hg.size, fun k hk => (hg.block k (Nat.lt_of_lt_of_le hk h.size) (by simp; omega)).trans (h.block k hk)⟩
set_option maxRecDepth 100000 in
set_option maxHeartbeats 1600000 in
theorem spec_DrawContactsIn (A : Option Addr) (c : Nat) (code : List Int) (w : World) (hr : U8 w w.heap.size A code) (hb : ∀ x ∈ code, 0 ≤ x ∧ x ≤ 255) (hl : code.length ≤ 4096) :
    Calls Try.prog 18 #[.slice A code.length c] w fun e w' => ∃ x y p q s v cs, e = .returned (.tuple #[.agg #[.int .i64 x, .int .i64 y, .int .i64 p, .int .i64 q, .int .i64 s], v]) ∧ OwnCt w' w.heap.size w'.heap.size v cs ∧ cs.length ≤ 7 ∧ Below w.heap.size w w' := by
  go_enter Try.func18, Try.ntmps18
  go_wp2_with fail
  refine calls_gen (fun W0 hW0 => ?_)
  have rb : IBox W0 25 (w.heap.size) [0, 0, 0, 0, 0] := by rw [hW0]; exact (IBox.new (w := w) (T := 25) (l := [0, 0, 0, 0, 0]) rfl)
  have B0 : Below w.heap.size w W0 := by rw [hW0]; exact (Below.new (Below.refl _ _) _)
  clear hW0
  have z0 := rb.lt
  refine (spec_l01From _ _ _ _ (Rd.up hr B0) hb hl).mono ?_
  rintro e w1 ⟨g, rfl, hg0, hs1, hb1⟩
  have rb := rb.next hb1
  have B1 : Below w.heap.size w w1 := B0.trans (hb1.mono B0.size)
  clear hb1 B0
  go_wp2_with fail
  refine (spec_l14DrawMotion _ _ _ hs1).mono ?_
  rintro e w2 ⟨x, y, p, q, s, rfl, hs2, hg2⟩
  have rb := rb.grown hg2 (by simp; omega)
  have B2 : Below w.heap.size w w2 := below_row B1 hg2 (by omega)
  have z2 := hs2.lt
  clear hg2 hs1 B1
  go_wp2_with fail
  refine wp_gen (fun W3 hW3 => ?_)
  have tb : IBox W3 25 w2.heap.size [x, y, p, q, s] := by rw [hW3]; exact IBox.new (w := w2) (T := 25) (l := [x, y, p, q, s]) rfl
  have rb := (show IBox W3 _ _ _ by rw [hW3]; exact rb.alloc _)
  have hs3 : Src W3 W0.heap.size g := by rw [hW3]; exact hs2.alloc _
  have B3 : Below w.heap.size w W3 := by rw [hW3]; exact Below.new B2 _
  clear hW3 hs2 B2
  obtain ⟨X, hX⟩ : ∃ X, X = w2.heap.size := ⟨_, rfl⟩
  rw [← hX] at tb z2 ⊢
  have zX := tb.lt
  clear hX
  have t0 := tb.cell (j := 0) rfl
  have t1 := tb.cell (j := 1) rfl
  have t2 := tb.cell (j := 2) rfl
  have t3 := tb.cell (j := 3) rfl
  have t4 := tb.cell (j := 4) rfl
  have tf := tb.fz
  (refine wp_region_noPanic ?_; refine beginE 5 (fun w' => w'.cell? ⟨X, 0, none⟩ = some (.int .i64 x) ∧ w'.cell? ⟨X, 1, none⟩ = some (.int .i64 y) ∧ w'.cell? ⟨X, 2, none⟩ = some (.int .i64 p) ∧ w'.cell? ⟨X, 3, none⟩ = some (.int .i64 q) ∧ w'.cell? ⟨X, 4, none⟩ = some (.int .i64 s)) (by kernel_rfl) ?_ (fun hHeld => ?_); (focus ((try dsimp only); (refine ⟨?_, ?_, ?_, ?_, ?_⟩ <;> repeat' (first | (with_reducible assumption) | ((with_reducible apply bx_new) <;> first | (simp only [World.size_alloc, World.size_setCell]; done) | rfl) | (with_reducible apply bx_alloc) | (with_reducible apply bx_other; (first | (simp only [World.size_alloc, World.size_setCell]; omega) | omega)) | (with_reducible apply bx_same) | (with_reducible apply bx_drew) | (with_reducible apply bx_drew1) | (with_reducible apply bx_keep; with_reducible assumption) | fail)))); (refine takeE (i := 0) (d := 10) rfl rfl (by kernel_rfl) (by decide) (by kernel_rfl) (by kernel_rfl) (by kernel_rfl) (by rfl) (by assumption) (v := ?_) ?_ ?_; rotate_left; (focus (intro wq hSw; (try dsimp only at hSw); go_simp; (try (with_reducible rfl)); done)); (try simp only [Act.put, List.setIfInBounds_toArray, List.set_cons_zero, List.set_cons_succ])); (refine takeE (i := 1) (d := 11) rfl rfl (by kernel_rfl) (by decide) (by kernel_rfl) (by kernel_rfl) (by kernel_rfl) (by rfl) (by assumption) (v := ?_) ?_ ?_; rotate_left; (focus (intro wq hSw; (try dsimp only at hSw); go_simp; (try (with_reducible rfl)); done)); (try simp only [Act.put, List.setIfInBounds_toArray, List.set_cons_zero, List.set_cons_succ])); (refine takeE (i := 2) (d := 12) rfl rfl (by kernel_rfl) (by decide) (by kernel_rfl) (by kernel_rfl) (by kernel_rfl) (by rfl) (by assumption) (v := ?_) ?_ ?_; rotate_left; (focus (intro wq hSw; (try dsimp only at hSw); go_simp; (try (with_reducible rfl)); done)); (try simp only [Act.put, List.setIfInBounds_toArray, List.set_cons_zero, List.set_cons_succ])); (refine runE (i := 3) (by kernel_rfl) rfl (by decide) (fun K hK => ?_); go_simp; (first | (go_at_call 53; refine (spec_l14DrawContacts _ _ _ _ _ _ _ _ (Src.drewS hs3)).mono ?_; rintro e w5 ⟨v, cs, rfl, ho5, hl5, hs5, hg5⟩; have B5 : Below w.heap.size w w5 := below_row (W := W3.drew) (below_drew B3) hg5 (by omega); have tb5 := IBox.src (w := W3.drew) tb hg5 (by omega); have rb5 := IBox.grown (w := W3.drew) rb hg5 (by simp; omega); have t0 := tb5.cell (j := 0) rfl; have t1 := tb5.cell (j := 1) rfl; have t2 := tb5.cell (j := 2) rfl; have t3 := tb5.cell (j := 3) rfl; have t4 := tb5.cell (j := 4) rfl; have tf := tb5.fz; have k00 := rb5.cell (j := 0) rfl; have k01 := rb5.cell (j := 1) rfl; have k02 := rb5.cell (j := 2) rfl; have k03 := rb5.cell (j := 3) rfl; have k04 := rb5.cell (j := 4) rfl; have k0f := rb5.fz; obtain ⟨Av, cv, rfl⟩ := OwnS.form ho5) | skip); (try go_wp2_with fail); all_goals (refine hK.out _ _ ?_ (fun hHeld => ?_); (focus ((try dsimp only); (refine ⟨?_, ?_, ?_, ?_, ?_⟩ <;> repeat' (first | (with_reducible assumption) | ((with_reducible apply bx_new) <;> first | (simp only [World.size_alloc, World.size_setCell]; done) | rfl) | (with_reducible apply bx_alloc) | (with_reducible apply bx_other; (first | (simp only [World.size_alloc, World.size_setCell]; omega) | omega)) | (with_reducible apply bx_same) | (with_reducible apply bx_drew) | (with_reducible apply bx_drew1) | (with_reducible apply bx_keep; with_reducible assumption) | fail)))); clear hK K; (try simp only [Act.put, List.setIfInBounds_toArray, List.set_cons_zero, List.set_cons_succ]))); (refine runE (i := 4) (by kernel_rfl) rfl (by decide) (fun K hK => ?_); go_simp; (first | (go_at_call 53; refine (spec_l14DrawContacts _ _ _ _ _ _ _ _ (Src.drewS hs3)).mono ?_; rintro e w5 ⟨v, cs, rfl, ho5, hl5, hs5, hg5⟩; have B5 : Below w.heap.size w w5 := below_row (W := W3.drew) (below_drew B3) hg5 (by omega); have tb5 := IBox.src (w := W3.drew) tb hg5 (by omega); have rb5 := IBox.grown (w := W3.drew) rb hg5 (by simp; omega); have t0 := tb5.cell (j := 0) rfl; have t1 := tb5.cell (j := 1) rfl; have t2 := tb5.cell (j := 2) rfl; have t3 := tb5.cell (j := 3) rfl; have t4 := tb5.cell (j := 4) rfl; have tf := tb5.fz; have k00 := rb5.cell (j := 0) rfl; have k01 := rb5.cell (j := 1) rfl; have k02 := rb5.cell (j := 2) rfl; have k03 := rb5.cell (j := 3) rfl; have k04 := rb5.cell (j := 4) rfl; have k0f := rb5.fz; obtain ⟨Av, cv, rfl⟩ := OwnS.form ho5) | skip); (try go_wp2_with fail); all_goals (refine hK.out _ _ ?_ (fun hHeld => ?_); (focus ((try dsimp only); (refine ⟨?_, ?_, ?_, ?_, ?_⟩ <;> repeat' (first | (with_reducible assumption) | ((with_reducible apply bx_new) <;> first | (simp only [World.size_alloc, World.size_setCell]; done) | rfl) | (with_reducible apply bx_alloc) | (with_reducible apply bx_other; (first | (simp only [World.size_alloc, World.size_setCell]; omega) | omega)) | (with_reducible apply bx_same) | (with_reducible apply bx_drew) | (with_reducible apply bx_drew1) | (with_reducible apply bx_keep; with_reducible assumption) | fail)))); clear hK K; (try simp only [Act.put, List.setIfInBounds_toArray, List.set_cons_zero, List.set_cons_succ]))); (refine lastE (by kernel_rfl) rfl (by kernel_rfl) (fun K hK => ?_); (go_simp; (try go_wp2_with fail)); refine hK.out _ _ ?_; clear hK K; (try simp only [Act.put, List.setIfInBounds_toArray, List.set_cons_zero, List.set_cons_succ])); refine NoPanic.normal ?_)
  all_goals repeat' (first | fail | go_values | go_skip | go_guarded | go_step | go_upon | (simp only []; go_step) | (go_ite <;> go_prune <;> (try go_simp)))
  all_goals ((try simp only [Exit.inBlock, Exit.then]); refine bodyPost_ret (by simp [results, Try.results18, go_sem, *]; try rfl) rfl ?_)
  all_goals exact ⟨_, _, _, _, _, _, cs, rfl, OwnS.mono (OwnS.top (OwnS.off1 (OwnS.off1 (OwnS.off1 (OwnS.off1 (OwnS.off1 ho5 (by simp only [World.size_drew]; omega)) (by simp only [World.size_drew]; omega)) (by simp only [World.size_drew]; omega)) (by simp only [World.size_drew]; omega)) (by simp only [World.size_drew]; omega))) (by simp only [World.size_drew]; omega) (Nat.le_refl _), hl5, by repeat' (first | (with_reducible exact Below.refl _ _) | (with_reducible assumption) | (with_reducible refine Below.new ?_ _) | (with_reducible refine Below.alloc ?_ ?_ _) | (with_reducible refine Below.drew ?_) | (with_reducible refine below_drewN ?_ _) | (with_reducible refine Below.setCell ?_ ?_ _) | (refine Below.next ?_ (by with_reducible assumption)) | (refine Below.row ?_ (by with_reducible assumption) (by omega)) | (refine Below.trans ?_ (by with_reducible assumption)) | (refine Below.after ?_ ?_ (by with_reducible assumption)) | go_size)⟩
set_option maxRecDepth 100000 in
set_option maxHeartbeats 1600000 in
theorem spec_DrawGateCost (A : Option Addr) (c : Nat) (code : List Int) (w : World) (hr : U8 w w.heap.size A code) (hb : ∀ x ∈ code, 0 ≤ x ∧ x ≤ 255) (hl : code.length ≤ 4096) :
    Calls Try.prog 23 #[.slice A code.length c] w fun e w' => ∃ x y p q s a b, e = .returned (.tuple #[.agg #[.int .i64 x, .int .i64 y, .int .i64 p, .int .i64 q, .int .i64 s], .agg #[.int .i64 a, .int .i64 b]]) ∧ Below w.heap.size w w' := by
  go_enter Try.func23, Try.ntmps23
  go_wp2_with fail
  refine calls_gen (fun W0 hW0 => ?_)
  have rb : IBox W0 25 (w.heap.size) [0, 0, 0, 0, 0] := by rw [hW0]; exact (IBox.new (w := w) (T := 25) (l := [0, 0, 0, 0, 0]) rfl).alloc _
  have cb : IBox W0 45 (w.heap.size + 1) [0, 0] := by rw [hW0]; exact (IBox.new (w := w.alloc _) (T := 45) (l := [0, 0]) (by rw [World.size_alloc]))
  have B0 : Below w.heap.size w W0 := by rw [hW0]; exact (Below.new (Below.new (Below.refl _ _) _) _)
  clear hW0
  have z0 := cb.lt
  refine (spec_l01From _ _ _ _ (Rd.up hr B0) hb hl).mono ?_
  rintro e w1 ⟨g, rfl, hg0, hs1, hb1⟩
  have rb := rb.next hb1
  have cb := cb.next hb1
  have B1 : Below w.heap.size w w1 := B0.trans (hb1.mono B0.size)
  clear hb1 B0
  go_wp2_with fail
  refine (spec_l14DrawMotion _ _ _ hs1).mono ?_
  rintro e w2 ⟨x, y, p, q, s, rfl, hs2, hg2⟩
  have rb := rb.grown hg2 (by simp; omega)
  have cb := cb.grown hg2 (by simp; omega)
  have B2 : Below w.heap.size w w2 := below_row B1 hg2 (by omega)
  have z2 := hs2.lt
  clear hg2 hs1 B1
  go_wp2_with fail
  refine wp_gen (fun W3 hW3 => ?_)
  have tb : IBox W3 25 w2.heap.size [x, y, p, q, s] := by rw [hW3]; exact IBox.new (w := w2) (T := 25) (l := [x, y, p, q, s]) rfl
  have rb := (show IBox W3 _ _ _ by rw [hW3]; exact rb.alloc _)
  have cb := (show IBox W3 _ _ _ by rw [hW3]; exact cb.alloc _)
  have hs3 : Src W3 W0.heap.size g := by rw [hW3]; exact hs2.alloc _
  have B3 : Below w.heap.size w W3 := by rw [hW3]; exact Below.new B2 _
  clear hW3 hs2 B2
  obtain ⟨X, hX⟩ : ∃ X, X = w2.heap.size := ⟨_, rfl⟩
  rw [← hX] at tb z2 ⊢
  have zX := tb.lt
  clear hX
  have t0 := tb.cell (j := 0) rfl
  have t1 := tb.cell (j := 1) rfl
  have t2 := tb.cell (j := 2) rfl
  have t3 := tb.cell (j := 3) rfl
  have t4 := tb.cell (j := 4) rfl
  have tf := tb.fz
  (refine wp_region_noPanic ?_; refine beginE 5 (fun w' => w'.cell? ⟨X, 0, none⟩ = some (.int .i64 x) ∧ w'.cell? ⟨X, 1, none⟩ = some (.int .i64 y) ∧ w'.cell? ⟨X, 2, none⟩ = some (.int .i64 p) ∧ w'.cell? ⟨X, 3, none⟩ = some (.int .i64 q) ∧ w'.cell? ⟨X, 4, none⟩ = some (.int .i64 s)) (by kernel_rfl) ?_ (fun hHeld => ?_); (focus ((try dsimp only); (refine ⟨?_, ?_, ?_, ?_, ?_⟩ <;> repeat' (first | (with_reducible assumption) | ((with_reducible apply bx_new) <;> first | (simp only [World.size_alloc, World.size_setCell]; done) | rfl) | (with_reducible apply bx_alloc) | (with_reducible apply bx_other; (first | (simp only [World.size_alloc, World.size_setCell]; omega) | omega)) | (with_reducible apply bx_same) | (with_reducible apply bx_drew) | (with_reducible apply bx_drew1) | (with_reducible apply bx_keep; with_reducible assumption) | fail)))); (refine takeE (i := 0) (d := 10) rfl rfl (by kernel_rfl) (by decide) (by kernel_rfl) (by kernel_rfl) (by kernel_rfl) (by rfl) (by assumption) (v := ?_) ?_ ?_; rotate_left; (focus (intro wq hSw; (try dsimp only at hSw); go_simp; (try (with_reducible rfl)); done)); (try simp only [Act.put, List.setIfInBounds_toArray, List.set_cons_zero, List.set_cons_succ])); (refine takeE (i := 1) (d := 11) rfl rfl (by kernel_rfl) (by decide) (by kernel_rfl) (by kernel_rfl) (by kernel_rfl) (by rfl) (by assumption) (v := ?_) ?_ ?_; rotate_left; (focus (intro wq hSw; (try dsimp only at hSw); go_simp; (try (with_reducible rfl)); done)); (try simp only [Act.put, List.setIfInBounds_toArray, List.set_cons_zero, List.set_cons_succ])); (refine takeE (i := 2) (d := 12) rfl rfl (by kernel_rfl) (by decide) (by kernel_rfl) (by kernel_rfl) (by kernel_rfl) (by rfl) (by assumption) (v := ?_) ?_ ?_; rotate_left; (focus (intro wq hSw; (try dsimp only at hSw); go_simp; (try (with_reducible rfl)); done)); (try simp only [Act.put, List.setIfInBounds_toArray, List.set_cons_zero, List.set_cons_succ])); (refine runE (i := 3) (by kernel_rfl) rfl (by decide) (fun K hK => ?_); go_simp; (first | (go_at_call 64; refine (spec_l14DrawContact _ _ _ _ _ _ _ _ (Src.drewS hs3)).mono ?_; rintro e w5 ⟨a, b, rfl, hs5, hg5⟩; have B5 : Below w.heap.size w w5 := below_row (W := W3.drew) (below_drew B3) hg5 (by omega); have tb5 := IBox.src (w := W3.drew) tb hg5 (by omega); have rb5 := IBox.grown (w := W3.drew) rb hg5 (by simp; omega); have cb5 := IBox.grown (w := W3.drew) cb hg5 (by simp; omega); have t0 := tb5.cell (j := 0) rfl; have t1 := tb5.cell (j := 1) rfl; have t2 := tb5.cell (j := 2) rfl; have t3 := tb5.cell (j := 3) rfl; have t4 := tb5.cell (j := 4) rfl; have tf := tb5.fz; have k00 := rb5.cell (j := 0) rfl; have k01 := rb5.cell (j := 1) rfl; have k02 := rb5.cell (j := 2) rfl; have k03 := rb5.cell (j := 3) rfl; have k04 := rb5.cell (j := 4) rfl; have k0f := rb5.fz; have k10 := cb5.cell (j := 0) rfl; have k11 := cb5.cell (j := 1) rfl; have k1f := cb5.fz) | skip); (try go_wp2_with fail); all_goals (refine hK.out _ _ ?_ (fun hHeld => ?_); (focus ((try dsimp only); (refine ⟨?_, ?_, ?_, ?_, ?_⟩ <;> repeat' (first | (with_reducible assumption) | ((with_reducible apply bx_new) <;> first | (simp only [World.size_alloc, World.size_setCell]; done) | rfl) | (with_reducible apply bx_alloc) | (with_reducible apply bx_other; (first | (simp only [World.size_alloc, World.size_setCell]; omega) | omega)) | (with_reducible apply bx_same) | (with_reducible apply bx_drew) | (with_reducible apply bx_drew1) | (with_reducible apply bx_keep; with_reducible assumption) | fail)))); clear hK K; (try simp only [Act.put, List.setIfInBounds_toArray, List.set_cons_zero, List.set_cons_succ]))); (refine runE (i := 4) (by kernel_rfl) rfl (by decide) (fun K hK => ?_); go_simp; (first | (go_at_call 64; refine (spec_l14DrawContact _ _ _ _ _ _ _ _ (Src.drewS hs3)).mono ?_; rintro e w5 ⟨a, b, rfl, hs5, hg5⟩; have B5 : Below w.heap.size w w5 := below_row (W := W3.drew) (below_drew B3) hg5 (by omega); have tb5 := IBox.src (w := W3.drew) tb hg5 (by omega); have rb5 := IBox.grown (w := W3.drew) rb hg5 (by simp; omega); have cb5 := IBox.grown (w := W3.drew) cb hg5 (by simp; omega); have t0 := tb5.cell (j := 0) rfl; have t1 := tb5.cell (j := 1) rfl; have t2 := tb5.cell (j := 2) rfl; have t3 := tb5.cell (j := 3) rfl; have t4 := tb5.cell (j := 4) rfl; have tf := tb5.fz; have k00 := rb5.cell (j := 0) rfl; have k01 := rb5.cell (j := 1) rfl; have k02 := rb5.cell (j := 2) rfl; have k03 := rb5.cell (j := 3) rfl; have k04 := rb5.cell (j := 4) rfl; have k0f := rb5.fz; have k10 := cb5.cell (j := 0) rfl; have k11 := cb5.cell (j := 1) rfl; have k1f := cb5.fz) | skip); (try go_wp2_with fail); all_goals (refine hK.out _ _ ?_ (fun hHeld => ?_); (focus ((try dsimp only); (refine ⟨?_, ?_, ?_, ?_, ?_⟩ <;> repeat' (first | (with_reducible assumption) | ((with_reducible apply bx_new) <;> first | (simp only [World.size_alloc, World.size_setCell]; done) | rfl) | (with_reducible apply bx_alloc) | (with_reducible apply bx_other; (first | (simp only [World.size_alloc, World.size_setCell]; omega) | omega)) | (with_reducible apply bx_same) | (with_reducible apply bx_drew) | (with_reducible apply bx_drew1) | (with_reducible apply bx_keep; with_reducible assumption) | fail)))); clear hK K; (try simp only [Act.put, List.setIfInBounds_toArray, List.set_cons_zero, List.set_cons_succ]))); (refine lastE (by kernel_rfl) rfl (by kernel_rfl) (fun K hK => ?_); (go_simp; (try go_wp2_with fail)); refine hK.out _ _ ?_; clear hK K; (try simp only [Act.put, List.setIfInBounds_toArray, List.set_cons_zero, List.set_cons_succ])); refine NoPanic.normal ?_)
  all_goals repeat' (first | fail | go_values | go_skip | go_guarded | go_step | go_upon | (simp only []; go_step) | (go_ite <;> go_prune <;> (try go_simp)))
  all_goals ((try simp only [Exit.inBlock, Exit.then]); refine bodyPost_ret (by simp [results, Try.results23, go_sem, *]; try rfl) rfl ?_)
  all_goals exact ⟨_, _, _, _, _, _, _, rfl, by repeat' (first | (with_reducible exact Below.refl _ _) | (with_reducible assumption) | (with_reducible refine Below.new ?_ _) | (with_reducible refine Below.alloc ?_ ?_ _) | (with_reducible refine Below.drew ?_) | (with_reducible refine below_drewN ?_ _) | (with_reducible refine Below.setCell ?_ ?_ _) | (refine Below.next ?_ (by with_reducible assumption)) | (refine Below.row ?_ (by with_reducible assumption) (by omega)) | (refine Below.trans ?_ (by with_reducible assumption)) | (refine Below.after ?_ ?_ (by with_reducible assumption)) | go_size)⟩
end Go.Proofs.Ytpanignlpcemnaa
