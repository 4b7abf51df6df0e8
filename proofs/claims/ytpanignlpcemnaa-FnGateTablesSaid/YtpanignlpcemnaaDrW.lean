/- The draws of the law of gate tables: contracts. Printed by gen_gtab.py. -/
import Derived.Test.YtpanignlpcemnaaDrV
import Derived.Test.YtpanignlpcemnaaMoS
namespace Go.Proofs.Ytpanignlpcemnaa
open Go.RowKit Go.ChangeShapes Go.WideShapes Go.ChangeAt
set_option linter.unusedVariables false
set_option linter.unusedSimpArgs false
theorem mo_info' : (Try.prog.info? 25).map (fun i => (i.zero, i.size, i.bytes)) = some (some (.agg #[.int .i64 0, .int .i64 0, .int .i64 0, .int .i64 0, .int .i64 0]), 5, 40) := by kernel_rfl
abbrev OwnMt (w : World) (lo hi : Nat) (v : Value) (ms : List Mo) : Prop := OwnS mol 25 5 w lo hi v ms
/-- 'append(list, m)', m a motion in a block of its own -/
theorem push_Mo {ops : Array Oper} {rest : List Oper} {o : Oper} {a : Act} {Q : Exit → Act → World → Prop} {W : World} {x y p q s : Int} {ms : List Mo} {v : Value} {lo hi : Nat} (H : Nat) (hH : W.heap.size = H) (hown : OwnMt W lo hi v ms) (hgd : o.guard = none) (so xo : Operand)
    (ho : o.op = .call { callee := .builtin .append, args := #[so, xo], argTypes := #[53, 53] }) (hs : a.eval so = v) (hx : a.eval xo = .slice (some ⟨H, 0, none⟩) 1 1) (hbase : lo ≤ W.heap.size) (hb : ms.length ≤ 1000000)
    (h : ∀ v' w', OwnMt w' lo w'.heap.size v' (ms ++ [⟨x, y, p, q, s⟩]) → Below lo W w' → W.grownBy w' v.ownBlock → wpList Try.prog ops Q rest (a.put o.dst v') w') : wpList Try.prog ops Q (o :: rest) a (W.alloc (.cells #[.int .i64 x, .int .i64 y, .int .i64 p, .int .i64 q, .int .i64 s] 25)) := by
  subst hH
  refine push_S (cl := mol) (y := (⟨x, y, p, q, s⟩ : Mo)) (t := W.heap.size) mol_len (by omega) Try.underlying53 mo_info' rfl (by omega) (hown.next (Below.new (Below.refl _ _) _)) ?_ hgd so xo ho hs hx (by simp only [World.size_alloc]; omega) (by omega) ?_
  · intro j z hz
    have hj : j < 5 := lt_of_get hz
    have : j = 0 ∨ j = 1 ∨ j = 2 ∨ j = 3 ∨ j = 4 := by omega
    rcases this with rfl | rfl | rfl | rfl | rfl <;> (simp [mol] at hz; subst hz; exact bx_new rfl rfl)
  · intro v' w' h1 h2 h3
    have hB : Below W.heap.size W (W.alloc (.cells #[.int .i64 x, .int .i64 y, .int .i64 p, .int .i64 q, .int .i64 s] 25)) := Below.new (Below.refl _ _) _
    exact h v' w' h1 ((hB.mono hbase).trans h3) ⟨h2.os, h2.tape, h2.output, Nat.le_trans (by simp) h2.size, fun k hk hne => (h2.block k (by simp; omega) hne).trans (Below.heap_alloc W _ k hk)⟩
set_option maxRecDepth 100000 in
set_option maxHeartbeats 3200000 in
theorem spec_DrawGatesMeet (A : Option Addr) (c : Nat) (code : List Int) (w : World) (hr : U8 w w.heap.size A code) (hb : ∀ x ∈ code, 0 ≤ x ∧ x ≤ 255) (hl : code.length ≤ 4096) :
    Calls Try.prog 33 #[.slice A code.length c] w fun e w' => ∃ x y p q s x2 y2 p2 q2 s2, e = .returned (.tuple #[.agg #[.int .i64 x, .int .i64 y, .int .i64 p, .int .i64 q, .int .i64 s], .agg #[.int .i64 x2, .int .i64 y2, .int .i64 p2, .int .i64 q2, .int .i64 s2]]) ∧ Below w.heap.size w w' := by
  go_enter Try.func33, Try.ntmps33
  go_wp2_with fail
  refine calls_gen (fun W0 hW0 => ?_)
  have rb : IBox W0 25 w.heap.size [0, 0, 0, 0, 0] := by rw [hW0]; exact (IBox.new (w := w) (T := 25) (l := [0, 0, 0, 0, 0]) rfl).alloc _
  have cb : IBox W0 25 (w.heap.size + 1) [0, 0, 0, 0, 0] := by rw [hW0]; exact IBox.new (w := w.alloc _) (T := 25) (l := [0, 0, 0, 0, 0]) (by rw [World.size_alloc])
  have B0 : Below w.heap.size w W0 := by rw [hW0]; exact Below.new (Below.new (Below.refl _ _) _) _
  clear hW0
  have z0 := cb.lt
  refine (spec_l01From _ _ _ _ (Rd.up hr B0) hb hl).mono ?_
  rintro e w1 ⟨g, rfl, hg0, hs1, hb1⟩
  have rb := rb.next hb1
  have cb := cb.next hb1
  have B1 : Below w.heap.size w w1 := B0.trans (hb1.mono B0.size)
  clear hb1 B0
  go_wp2_with fail
  refine (spec_l14DrawMotion _ _ _ hs1).mono ?_
  rintro e w2 ⟨x, y, p, q, s, rfl, hs2, hg2⟩
  have rb := rb.grown hg2 (by simp; omega)
  have cb := cb.grown hg2 (by simp; omega)
  have B2 : Below w.heap.size w w2 := below_row B1 hg2 (by omega)
  have z2 := hs2.lt
  clear hg2 hs1 B1
  go_wp2_with fail
  refine calls_gen (fun W3 hW3 => ?_)
  have tb : IBox W3 25 w2.heap.size [x, y, p, q, s] := by rw [hW3]; exact IBox.new (w := w2) (T := 25) (l := [x, y, p, q, s]) rfl
  have rb : IBox W3 25 w.heap.size [0, 0, 0, 0, 0] := by rw [hW3]; exact rb.alloc _
  have cb : IBox W3 25 (w.heap.size + 1) [0, 0, 0, 0, 0] := by rw [hW3]; exact cb.alloc _
  have hs3 : Src W3 W0.heap.size g := by rw [hW3]; exact hs2.alloc _
  have B3 : Below w.heap.size w W3 := by rw [hW3]; exact Below.new B2 _
  clear hW3 hs2 B2
  obtain ⟨X, hX⟩ : ∃ X, X = w2.heap.size := ⟨_, rfl⟩
  rw [← hX] at tb z2 ⊢
  clear hX
  have zX := tb.lt
  refine (spec_l14DrawMotion _ _ _ hs3).mono ?_
  rintro e w4 ⟨x2, y2, p2, q2, s2, rfl, hs4, hg4⟩
  have rb := rb.grown hg4 (by simp; omega)
  have cb := cb.grown hg4 (by simp; omega)
  have tb := tb.grown hg4 (by simp; omega)
  have B4 : Below w.heap.size w w4 := below_row B3 hg4 (by omega)
  have z4 := tb.lt
  clear hg4 hs3 B3
  go_wp2_with fail
  refine calls_gen (fun W5 hW5 => ?_)
  have ub : IBox W5 25 w4.heap.size [x2, y2, p2, q2, s2] := by rw [hW5]; exact IBox.new (w := w4) (T := 25) (l := [x2, y2, p2, q2, s2]) rfl
  have rb : IBox W5 25 w.heap.size [0, 0, 0, 0, 0] := by rw [hW5]; exact rb.alloc _
  have cb : IBox W5 25 (w.heap.size + 1) [0, 0, 0, 0, 0] := by rw [hW5]; exact cb.alloc _
  have tb : IBox W5 25 X [x, y, p, q, s] := by rw [hW5]; exact tb.alloc _
  have hs5 : Src W5 W0.heap.size g := by rw [hW5]; exact hs4.alloc _
  have B5 : Below w.heap.size w W5 := by rw [hW5]; exact Below.new B4 _
  clear hW5 hs4 B4
  obtain ⟨Y, hY⟩ : ∃ Y, Y = w4.heap.size := ⟨_, rfl⟩
  rw [← hY] at ub z4 ⊢
  clear hY
  have zY := ub.lt
  refine (spec_l01Next _ _ _ _ hs5 (by omega)).mono ?_
  rintro e w6 ⟨r6, rfl, ⟨hr6, ht6⟩, hs6, hg6⟩
  have rb := rb.grown hg6 (by simp; omega)
  have cb := cb.grown hg6 (by simp; omega)
  have tb := tb.grown hg6 (by simp; omega)
  have ub := ub.grown hg6 (by simp; omega)
  have B6 : Below w.heap.size w w6 := below_row B5 hg6 (by omega)
  have z6 := ub.lt
  clear hg6 hs5 B5
  have nXY : ¬ X = Y := by omega
  have nYX : ¬ Y = X := by omega
  have t0 := tb.cell (j := 0) rfl
  have t1 := tb.cell (j := 1) rfl
  have t2 := tb.cell (j := 2) rfl
  have t3 := tb.cell (j := 3) rfl
  have t4 := tb.cell (j := 4) rfl
  have tf := tb.fz
  have u0 := ub.cell (j := 0) rfl
  have u1 := ub.cell (j := 1) rfl
  have u2 := ub.cell (j := 2) rfl
  have u3 := ub.cell (j := 3) rfl
  have u4 := ub.cell (j := 4) rfl
  have uf := ub.fz
  have b0 := rb.cell (j := 0) rfl
  have b1 := rb.cell (j := 1) rfl
  have b2 := rb.cell (j := 2) rfl
  have b3 := rb.cell (j := 3) rfl
  have b4 := rb.cell (j := 4) rfl
  have bf := rb.fz
  have k0 := cb.cell (j := 0) rfl
  have k1 := cb.cell (j := 1) rfl
  have k2 := cb.cell (j := 2) rfl
  have k3 := cb.cell (j := 3) rfl
  have k4 := cb.cell (j := 4) rfl
  have kf := cb.fz
  by_cases q6 : r6 = 0
  · subst q6
    go_wp2_with fail
    (refine wp_region_noPanic ?_; refine beginE 9 (fun w' => w'.cell? ⟨X, 0, none⟩ = some (.int .i64 x) ∧ w'.cell? ⟨X, 1, none⟩ = some (.int .i64 y)) (by kernel_rfl) ?_ (fun hHeld => ?_); (focus ((try dsimp only); (refine ⟨?_, ?_⟩ <;> repeat' (first | (with_reducible assumption) | ((with_reducible apply bx_new) <;> first | (simp only [World.size_alloc, World.size_setCell]; done) | rfl) | (with_reducible apply bx_alloc) | (with_reducible apply bx_other; (first | (simp only [World.size_alloc, World.size_setCell]; omega) | omega)) | (with_reducible apply bx_same) | (with_reducible apply bx_drew) | (with_reducible apply bx_drew1) | (with_reducible apply bx_keep; with_reducible assumption) | fail)))); (refine takeE (i := 0) (d := 16) rfl rfl (by kernel_rfl) (by decide) (by kernel_rfl) (by kernel_rfl) (by kernel_rfl) (by rfl) (by assumption) (v := ?_) ?_ ?_; rotate_left; (focus (intro wq hSw; (try dsimp only at hSw); go_simp; (try (with_reducible rfl)); done)); (try simp only [Act.put, List.setIfInBounds_toArray, List.set_cons_zero, List.set_cons_succ])); (refine takeE (i := 1) (d := 17) rfl rfl (by kernel_rfl) (by decide) (by kernel_rfl) (by kernel_rfl) (by kernel_rfl) (by rfl) (by assumption) (v := ?_) ?_ ?_; rotate_left; (focus (intro wq hSw; (try dsimp only at hSw); go_simp; (try (with_reducible rfl)); done)); (try simp only [Act.put, List.setIfInBounds_toArray, List.set_cons_zero, List.set_cons_succ])); (refine takeE (i := 2) (d := 18) rfl rfl (by kernel_rfl) (by decide) (by kernel_rfl) (by kernel_rfl) (by kernel_rfl) (by rfl) (by assumption) (v := ?_) ?_ ?_; rotate_left; (focus (intro wq hSw; (try dsimp only at hSw); go_simp; (try (with_reducible rfl)); done)); (try simp only [Act.put, List.setIfInBounds_toArray, List.set_cons_zero, List.set_cons_succ])); (refine takeE (i := 3) (d := 19) rfl rfl (by kernel_rfl) (by decide) (by kernel_rfl) (by kernel_rfl) (by kernel_rfl) (by rfl) (by assumption) (v := ?_) ?_ ?_; rotate_left; (focus (intro wq hSw; (try dsimp only at hSw); go_simp; (try (with_reducible rfl)); done)); (try simp only [Act.put, List.setIfInBounds_toArray, List.set_cons_zero, List.set_cons_succ])); (refine takeE (i := 4) (d := 20) rfl rfl (by kernel_rfl) (by decide) (by kernel_rfl) (by kernel_rfl) (by kernel_rfl) (by rfl) (by assumption) (v := ?_) ?_ ?_; rotate_left; (focus (intro wq hSw; (try dsimp only at hSw); go_simp; (try (with_reducible rfl)); done)); (try simp only [Act.put, List.setIfInBounds_toArray, List.set_cons_zero, List.set_cons_succ])); (refine takeE (i := 5) (d := 21) rfl rfl (by kernel_rfl) (by decide) (by kernel_rfl) (by kernel_rfl) (by kernel_rfl) (by rfl) (by assumption) (v := ?_) ?_ ?_; rotate_left; (focus (intro wq hSw; (try dsimp only at hSw); go_simp; (try (with_reducible rfl)); done)); (try simp only [Act.put, List.setIfInBounds_toArray, List.set_cons_zero, List.set_cons_succ])); (refine takeE (i := 6) (d := 22) rfl rfl (by kernel_rfl) (by decide) (by kernel_rfl) (by kernel_rfl) (by kernel_rfl) (by rfl) (by assumption) (v := ?_) ?_ ?_; rotate_left; (focus (intro wq hSw; (try dsimp only at hSw); go_simp; (try (with_reducible rfl)); done)); (try simp only [Act.put, List.setIfInBounds_toArray, List.set_cons_zero, List.set_cons_succ])); (refine runE (i := 7) (by kernel_rfl) rfl (by decide) (fun K hK => ?_); go_simp; (first | (go_at_call 67; refine (spec_l01Next _ _ _ _ (Src.drewS hs6) (by omega)).mono ?_; rintro e w7 ⟨r7, rfl, ⟨hr7, ht7⟩, hs7, hg7⟩; have B7 : Below w.heap.size w w7 := below_row (W := w6.drew) (below_drew B6) hg7 (by omega); have z7 : w6.heap.size ≤ w7.heap.size := hg7.size; have tb7 := IBox.grown (w := w6.drew) tb hg7 (by simp; omega); have ub7 := IBox.grown (w := w6.drew) ub hg7 (by simp; omega); have rb7 := IBox.grown (w := w6.drew) rb hg7 (by simp; omega); have cb7 := IBox.grown (w := w6.drew) cb hg7 (by simp; omega); have t0 := tb7.cell (j := 0) rfl; have t1 := tb7.cell (j := 1) rfl; have t2 := tb7.cell (j := 2) rfl; have t3 := tb7.cell (j := 3) rfl; have t4 := tb7.cell (j := 4) rfl; have tf := tb7.fz; have u0 := ub7.cell (j := 0) rfl; have u1 := ub7.cell (j := 1) rfl; have u2 := ub7.cell (j := 2) rfl; have u3 := ub7.cell (j := 3) rfl; have u4 := ub7.cell (j := 4) rfl; have uf := ub7.fz; have b0 := rb7.cell (j := 0) rfl; have b1 := rb7.cell (j := 1) rfl; have b2 := rb7.cell (j := 2) rfl; have b3 := rb7.cell (j := 3) rfl; have b4 := rb7.cell (j := 4) rfl; have bf := rb7.fz; have k0 := cb7.cell (j := 0) rfl; have k1 := cb7.cell (j := 1) rfl; have k2 := cb7.cell (j := 2) rfl; have k3 := cb7.cell (j := 3) rfl; have k4 := cb7.cell (j := 4) rfl; have kf := cb7.fz) | skip); (try go_wp2_with fail); all_goals (refine hK.out _ _ ?_ (fun hHeld => ?_); (focus ((try dsimp only); (refine ⟨?_, ?_⟩ <;> repeat' (first | (with_reducible assumption) | ((with_reducible apply bx_new) <;> first | (simp only [World.size_alloc, World.size_setCell]; done) | rfl) | (with_reducible apply bx_alloc) | (with_reducible apply bx_other; (first | (simp only [World.size_alloc, World.size_setCell]; omega) | omega)) | (with_reducible apply bx_same) | (with_reducible apply bx_drew) | (with_reducible apply bx_drew1) | (with_reducible apply bx_keep; with_reducible assumption) | fail)))); clear hK K; (try simp only [Act.put, List.setIfInBounds_toArray, List.set_cons_zero, List.set_cons_succ]))); (refine takeE (i := 8) (d := 24) rfl rfl (by kernel_rfl) (by decide) (by kernel_rfl) (by kernel_rfl) (by kernel_rfl) (by rfl) (by assumption) (v := ?_) ?_ ?_; rotate_left; (focus (intro wq hSw; (try dsimp only at hSw); go_simp; (try (with_reducible rfl)); done)); (try simp only [Act.put, List.setIfInBounds_toArray, List.set_cons_zero, List.set_cons_succ])); (refine lastE (by kernel_rfl) rfl (by kernel_rfl) (fun K hK => ?_); (go_simp; (try go_wp2_with fail)); refine hK.out _ _ ?_; clear hK K; (try simp only [Act.put, List.setIfInBounds_toArray, List.set_cons_zero, List.set_cons_succ])); refine NoPanic.normal ?_)
    go_wp2_with fail
    refine calls_gen (fun W8 hW8 => ?_)
    have ub8 : ∃ x3 y3 p3 q3 s3, IBox W8 25 Y [x3, y3, p3, q3, s3] := ⟨_, _, _, _, _, by rw [hW8]; exact (((((ub7.set 0 _).set 1 _).set 2 _).set 3 _).set 4 _)⟩
    obtain ⟨x3, y3, p3, q3, s3, ub8⟩ := ub8
    have tb8 : IBox W8 25 X [x, y, p, q, s] := by rw [hW8]; exact ((((tb7.far (by omega)).far (by omega)).far (by omega)).far (by omega)).far (by omega)
    have rb8 : IBox W8 25 w.heap.size [0, 0, 0, 0, 0] := by rw [hW8]; exact ((((rb7.far (by omega)).far (by omega)).far (by omega)).far (by omega)).far (by omega)
    have cb8 : IBox W8 25 (w.heap.size + 1) [0, 0, 0, 0, 0] := by rw [hW8]; exact ((((cb7.far (by omega)).far (by omega)).far (by omega)).far (by omega)).far (by omega)
    have hs8 : Src W8 W0.heap.size g := by rw [hW8]; exact ((((hs7.setX (by omega)).setX (by omega)).setX (by omega)).setX (by omega)).setX (by omega)
    have B8 : Below w.heap.size w W8 := by rw [hW8]; repeat' (first | (with_reducible exact Below.refl _ _) | (with_reducible assumption) | (with_reducible refine Below.new ?_ _) | (with_reducible refine Below.alloc ?_ ?_ _) | (with_reducible refine Below.drew ?_) | (with_reducible refine below_drewN ?_ _) | (with_reducible refine Below.setCell ?_ ?_ _) | (refine Below.next ?_ (by with_reducible assumption)) | (refine Below.row ?_ (by with_reducible assumption) (by omega)) | (refine Below.trans ?_ (by with_reducible assumption)) | (refine Below.after ?_ ?_ (by with_reducible assumption)) | go_size)
    have z8 := ub8.lt
    clear hW8 hs7 B7
    refine (spec_l01Next _ _ _ _ hs8 (by omega)).mono ?_
    rintro e w9 ⟨r9, rfl, ⟨hr9, ht9⟩, hs9, hg9⟩
    have rb9 := rb8.grown hg9 (by simp; omega)
    have cb9 := cb8.grown hg9 (by simp; omega)
    have tb9 := tb8.grown hg9 (by simp; omega)
    have ub9 := ub8.grown hg9 (by simp; omega)
    have B9 : Below w.heap.size w w9 := below_row B8 hg9 (by omega)
    have z9 := ub9.lt
    clear hg9 hs8 B8
    have t0 := tb9.cell (j := 0) rfl
    have t1 := tb9.cell (j := 1) rfl
    have t2 := tb9.cell (j := 2) rfl
    have t3 := tb9.cell (j := 3) rfl
    have t4 := tb9.cell (j := 4) rfl
    have tf := tb9.fz
    have u0 := ub9.cell (j := 0) rfl
    have u1 := ub9.cell (j := 1) rfl
    have u2 := ub9.cell (j := 2) rfl
    have u3 := ub9.cell (j := 3) rfl
    have u4 := ub9.cell (j := 4) rfl
    have uf := ub9.fz
    have b0 := rb9.cell (j := 0) rfl
    have b1 := rb9.cell (j := 1) rfl
    have b2 := rb9.cell (j := 2) rfl
    have b3 := rb9.cell (j := 3) rfl
    have b4 := rb9.cell (j := 4) rfl
    have bf := rb9.fz
    have k0 := cb9.cell (j := 0) rfl
    have k1 := cb9.cell (j := 1) rfl
    have k2 := cb9.cell (j := 2) rfl
    have k3 := cb9.cell (j := 3) rfl
    have k4 := cb9.cell (j := 4) rfl
    have kf := cb9.fz
    go_wp2_with fail
    refine wp_gen (fun W10 hW10 => ?_)
    have tb10 : IBox W10 25 X [x, y, p, q, r9] := by rw [hW10]; exact tb9.set 4 _
    have ub10 : IBox W10 25 Y [x3, y3, p3, q3, s3] := by rw [hW10]; exact ub9.far (by omega)
    have rb10 : IBox W10 25 w.heap.size [0, 0, 0, 0, 0] := by rw [hW10]; exact rb9.far (by omega)
    have cb10 : IBox W10 25 (w.heap.size + 1) [0, 0, 0, 0, 0] := by rw [hW10]; exact cb9.far (by omega)
    have B10 : Below w.heap.size w W10 := by rw [hW10]; repeat' (first | (with_reducible exact Below.refl _ _) | (with_reducible assumption) | (with_reducible refine Below.new ?_ _) | (with_reducible refine Below.alloc ?_ ?_ _) | (with_reducible refine Below.drew ?_) | (with_reducible refine below_drewN ?_ _) | (with_reducible refine Below.setCell ?_ ?_ _) | (refine Below.next ?_ (by with_reducible assumption)) | (refine Below.row ?_ (by with_reducible assumption) (by omega)) | (refine Below.trans ?_ (by with_reducible assumption)) | (refine Below.after ?_ ?_ (by with_reducible assumption)) | go_size)
    clear hW10 t0 t1 t2 t3 t4 tf u0 u1 u2 u3 u4 uf b0 b1 b2 b3 b4 bf k0 k1 k2 k3 k4 kf
    have t0 := tb10.cell (j := 0) rfl
    have t1 := tb10.cell (j := 1) rfl
    have t2 := tb10.cell (j := 2) rfl
    have t3 := tb10.cell (j := 3) rfl
    have t4 := tb10.cell (j := 4) rfl
    have tf := tb10.fz
    have u0 := ub10.cell (j := 0) rfl
    have u1 := ub10.cell (j := 1) rfl
    have u2 := ub10.cell (j := 2) rfl
    have u3 := ub10.cell (j := 3) rfl
    have u4 := ub10.cell (j := 4) rfl
    have uf := ub10.fz
    have b0 := rb10.cell (j := 0) rfl
    have b1 := rb10.cell (j := 1) rfl
    have b2 := rb10.cell (j := 2) rfl
    have b3 := rb10.cell (j := 3) rfl
    have b4 := rb10.cell (j := 4) rfl
    have bf := rb10.fz
    have k0 := cb10.cell (j := 0) rfl
    have k1 := cb10.cell (j := 1) rfl
    have k2 := cb10.cell (j := 2) rfl
    have k3 := cb10.cell (j := 3) rfl
    have k4 := cb10.cell (j := 4) rfl
    have kf := cb10.fz
    (refine wp_region_noPanic ?_; refine beginE 3 (fun w' => w'.cell? ⟨X, 0, none⟩ = some (.int .i64 x) ∧ w'.cell? ⟨X, 1, none⟩ = some (.int .i64 y) ∧ w'.cell? ⟨X, 2, none⟩ = some (.int .i64 p) ∧ w'.cell? ⟨X, 3, none⟩ = some (.int .i64 q) ∧ w'.cell? ⟨X, 4, none⟩ = some (.int .i64 r9) ∧ w'.cell? ⟨Y, 0, none⟩ = some (.int .i64 x3) ∧ w'.cell? ⟨Y, 1, none⟩ = some (.int .i64 y3) ∧ w'.cell? ⟨Y, 2, none⟩ = some (.int .i64 p3) ∧ w'.cell? ⟨Y, 3, none⟩ = some (.int .i64 q3) ∧ w'.cell? ⟨Y, 4, none⟩ = some (.int .i64 s3)) (by kernel_rfl) ?_ (fun hHeld => ?_); (focus ((try dsimp only); (refine ⟨?_, ?_, ?_, ?_, ?_, ?_, ?_, ?_, ?_, ?_⟩ <;> repeat' (first | (with_reducible assumption) | ((with_reducible apply bx_new) <;> first | (simp only [World.size_alloc, World.size_setCell]; done) | rfl) | (with_reducible apply bx_alloc) | (with_reducible apply bx_other; (first | (simp only [World.size_alloc, World.size_setCell]; omega) | omega)) | (with_reducible apply bx_same) | (with_reducible apply bx_drew) | (with_reducible apply bx_drew1) | (with_reducible apply bx_keep; with_reducible assumption) | fail)))); (refine takeE (i := 0) (d := 28) rfl rfl (by kernel_rfl) (by decide) (by kernel_rfl) (by kernel_rfl) (by kernel_rfl) (by rfl) (by assumption) (v := ?_) ?_ ?_; rotate_left; (focus (intro wq hSw; (try dsimp only at hSw); go_simp; (try (with_reducible rfl)); done)); (try simp only [Act.put, List.setIfInBounds_toArray, List.set_cons_zero, List.set_cons_succ])); (refine takeE (i := 1) (d := 29) rfl rfl (by kernel_rfl) (by decide) (by kernel_rfl) (by kernel_rfl) (by kernel_rfl) (by rfl) (by assumption) (v := ?_) ?_ ?_; rotate_left; (focus (intro wq hSw; (try dsimp only at hSw); go_simp; (try (with_reducible rfl)); done)); (try simp only [Act.put, List.setIfInBounds_toArray, List.set_cons_zero, List.set_cons_succ])); (refine runE (i := 2) (by kernel_rfl) rfl (by decide) (fun K hK => ?_); go_simp; (first  | skip); (try go_wp2_with fail); all_goals (refine hK.out _ _ ?_ (fun hHeld => ?_); (focus ((try dsimp only); (refine ⟨?_, ?_, ?_, ?_, ?_, ?_, ?_, ?_, ?_, ?_⟩ <;> repeat' (first | (with_reducible assumption) | ((with_reducible apply bx_new) <;> first | (simp only [World.size_alloc, World.size_setCell]; done) | rfl) | (with_reducible apply bx_alloc) | (with_reducible apply bx_other; (first | (simp only [World.size_alloc, World.size_setCell]; omega) | omega)) | (with_reducible apply bx_same) | (with_reducible apply bx_drew) | (with_reducible apply bx_drew1) | (with_reducible apply bx_keep; with_reducible assumption) | fail)))); clear hK K; (try simp only [Act.put, List.setIfInBounds_toArray, List.set_cons_zero, List.set_cons_succ]))); (refine lastE (by kernel_rfl) rfl (by kernel_rfl) (fun K hK => ?_); (go_simp; (try go_wp2_with fail)); refine hK.out _ _ ?_; clear hK K; (try simp only [Act.put, List.setIfInBounds_toArray, List.set_cons_zero, List.set_cons_succ])); refine NoPanic.normal ?_)
    all_goals repeat' (first | fail | go_values | go_skip | go_guarded | go_step | go_upon | (simp only []; go_step) | (go_ite <;> go_prune <;> (try go_simp)))
    all_goals ((try simp only [Exit.inBlock, Exit.then]); refine bodyPost_ret (by simp [results, Try.results33, go_sem, *]; try rfl) rfl ?_)
    all_goals exact ⟨_, _, _, _, _, _, _, _, _, _, rfl, by repeat' (first | (with_reducible exact Below.refl _ _) | (with_reducible assumption) | (with_reducible refine Below.new ?_ _) | (with_reducible refine Below.alloc ?_ ?_ _) | (with_reducible refine Below.drew ?_) | (with_reducible refine below_drewN ?_ _) | (with_reducible refine Below.setCell ?_ ?_ _) | (refine Below.next ?_ (by with_reducible assumption)) | (refine Below.row ?_ (by with_reducible assumption) (by omega)) | (refine Below.trans ?_ (by with_reducible assumption)) | (refine Below.after ?_ ?_ (by with_reducible assumption)) | go_size)⟩
  · have e6 : (r6 == 0) = false := by simpa using q6
    go_wp2_with fail
    (refine wp_region_noPanic ?_; refine beginE 3 (fun w' => w'.cell? ⟨X, 0, none⟩ = some (.int .i64 x) ∧ w'.cell? ⟨X, 1, none⟩ = some (.int .i64 y) ∧ w'.cell? ⟨X, 2, none⟩ = some (.int .i64 p) ∧ w'.cell? ⟨X, 3, none⟩ = some (.int .i64 q) ∧ w'.cell? ⟨X, 4, none⟩ = some (.int .i64 s) ∧ w'.cell? ⟨Y, 0, none⟩ = some (.int .i64 x2) ∧ w'.cell? ⟨Y, 1, none⟩ = some (.int .i64 y2) ∧ w'.cell? ⟨Y, 2, none⟩ = some (.int .i64 p2) ∧ w'.cell? ⟨Y, 3, none⟩ = some (.int .i64 q2) ∧ w'.cell? ⟨Y, 4, none⟩ = some (.int .i64 s2)) (by kernel_rfl) ?_ (fun hHeld => ?_); (focus ((try dsimp only); (refine ⟨?_, ?_, ?_, ?_, ?_, ?_, ?_, ?_, ?_, ?_⟩ <;> repeat' (first | (with_reducible assumption) | ((with_reducible apply bx_new) <;> first | (simp only [World.size_alloc, World.size_setCell]; done) | rfl) | (with_reducible apply bx_alloc) | (with_reducible apply bx_other; (first | (simp only [World.size_alloc, World.size_setCell]; omega) | omega)) | (with_reducible apply bx_same) | (with_reducible apply bx_drew) | (with_reducible apply bx_drew1) | (with_reducible apply bx_keep; with_reducible assumption) | fail)))); (refine takeE (i := 0) (d := 28) rfl rfl (by kernel_rfl) (by decide) (by kernel_rfl) (by kernel_rfl) (by kernel_rfl) (by rfl) (by assumption) (v := ?_) ?_ ?_; rotate_left; (focus (intro wq hSw; (try dsimp only at hSw); go_simp; (try (with_reducible rfl)); done)); (try simp only [Act.put, List.setIfInBounds_toArray, List.set_cons_zero, List.set_cons_succ])); (refine takeE (i := 1) (d := 29) rfl rfl (by kernel_rfl) (by decide) (by kernel_rfl) (by kernel_rfl) (by kernel_rfl) (by rfl) (by assumption) (v := ?_) ?_ ?_; rotate_left; (focus (intro wq hSw; (try dsimp only at hSw); go_simp; (try (with_reducible rfl)); done)); (try simp only [Act.put, List.setIfInBounds_toArray, List.set_cons_zero, List.set_cons_succ])); (refine runE (i := 2) (by kernel_rfl) rfl (by decide) (fun K hK => ?_); go_simp; (first  | skip); (try go_wp2_with fail); all_goals (refine hK.out _ _ ?_ (fun hHeld => ?_); (focus ((try dsimp only); (refine ⟨?_, ?_, ?_, ?_, ?_, ?_, ?_, ?_, ?_, ?_⟩ <;> repeat' (first | (with_reducible assumption) | ((with_reducible apply bx_new) <;> first | (simp only [World.size_alloc, World.size_setCell]; done) | rfl) | (with_reducible apply bx_alloc) | (with_reducible apply bx_other; (first | (simp only [World.size_alloc, World.size_setCell]; omega) | omega)) | (with_reducible apply bx_same) | (with_reducible apply bx_drew) | (with_reducible apply bx_drew1) | (with_reducible apply bx_keep; with_reducible assumption) | fail)))); clear hK K; (try simp only [Act.put, List.setIfInBounds_toArray, List.set_cons_zero, List.set_cons_succ]))); (refine lastE (by kernel_rfl) rfl (by kernel_rfl) (fun K hK => ?_); (go_simp; (try go_wp2_with fail)); refine hK.out _ _ ?_; clear hK K; (try simp only [Act.put, List.setIfInBounds_toArray, List.set_cons_zero, List.set_cons_succ])); refine NoPanic.normal ?_)
    all_goals repeat' (first | fail | go_values | go_skip | go_guarded | go_step | go_upon | (simp only []; go_step) | (go_ite <;> go_prune <;> (try go_simp)))
    all_goals ((try simp only [Exit.inBlock, Exit.then]); refine bodyPost_ret (by simp [results, Try.results33, go_sem, *]; try rfl) rfl ?_)
    all_goals exact ⟨_, _, _, _, _, _, _, _, _, _, rfl, by repeat' (first | (with_reducible exact Below.refl _ _) | (with_reducible assumption) | (with_reducible refine Below.new ?_ _) | (with_reducible refine Below.alloc ?_ ?_ _) | (with_reducible refine Below.drew ?_) | (with_reducible refine below_drewN ?_ _) | (with_reducible refine Below.setCell ?_ ?_ _) | (refine Below.next ?_ (by with_reducible assumption)) | (refine Below.row ?_ (by with_reducible assumption) (by omega)) | (refine Below.trans ?_ (by with_reducible assumption)) | (refine Below.after ?_ ?_ (by with_reducible assumption)) | go_size)⟩

set_option maxRecDepth 100000 in
set_option maxHeartbeats 6400000 in
theorem spec_DrawGateCosts (A : Option Addr) (c : Nat) (code : List Int) (w : World) (hr : U8 w w.heap.size A code) (hb : ∀ x ∈ code, 0 ≤ x ∧ x ≤ 255) (hl : code.length ≤ 4096) :
    Calls Try.prog 30 #[.slice A code.length c] w fun e w' => ∃ A1 c1 A2 c2 ms cs, e = .returned (.tuple #[.slice A1 ms.length c1, .slice A2 cs.length c2]) ∧ M64 w' w'.heap.size A1 ms ∧ C64 w' w'.heap.size A2 cs ∧ ms.length ≤ 7 ∧ cs.length ≤ 7 ∧ Below w.heap.size w w' := by
  go_enter Try.func30, Try.ntmps30
  go_wp2_with fail
  refine (spec_l01From _ _ _ _ hr hb hl).mono ?_
  rintro e w1 ⟨g, rfl, hg0, hs1, hb1⟩
  go_wp2_with fail
  obtain ⟨lo, hlo⟩ : ∃ lo, lo = w1.heap.size := ⟨_, rfl⟩
  have hglo : g < lo := by have := hs1.lt; omega
  have zlo : w.heap.size ≤ lo := by have := hb1.size; omega
  refine calls_gen (fun W2 hW2 => ?_)
  have ho : OwnMt W2 lo W2.heap.size (.slice (some ⟨w1.heap.size, 0, none⟩) 0 0) [] := by
    rw [hW2]
    exact OwnS.top (OwnS.lit0 (cl := mol) (T := 25) (k := 5) (W := w1) (lo := lo) (by omega))
  have hs2 : Src W2 w.heap.size g := by rw [hW2]; exact hs1.alloc _
  have B2 : Below w.heap.size w W2 := by rw [hW2]; exact Below.new hb1 _
  have zW2 : lo ≤ W2.heap.size := by rw [hW2, hlo]; simp
  clear hW2 hs1 hb1
  refine (spec_l01Next _ _ _ _ hs2 (by omega)).mono ?_
  rintro e w3 ⟨r3, rfl, ⟨hr3, ht3⟩, hs3, hg3⟩
  have ho := OwnS.top (OwnS.src ho hg3 hglo)
  have B3 : Below w.heap.size w w3 := below_row B2 hg3 (by omega)
  have zW3 : lo ≤ w3.heap.size := by have := hg3.size; omega
  clear hg3 hs2 B2 hlo
  go_wp2_with fail
  go_loopw [5, 6] (fun x9 n9 wr => ∃ (v : Value) (ms : List Mo) (k : Int), v = x9 ∧ n9 = .int .i64 k ∧ 0 ≤ k ∧ k + ms.length ≤ 3 ∧ lo ≤ wr.heap.size ∧ OwnMt wr lo wr.heap.size v ms ∧ Src wr w.heap.size g ∧ Below w.heap.size w wr) (fun _ n9 _ => (intOf n9).toNat)
  case atStart => exact ⟨_, [], r3, rfl, rfl, hr3, by simp; omega, zW3, ho, hs3, B3⟩
  case round =>
    clear ho hs3 B3 ht3 hr3
    obtain ⟨v, ms, k, rfl, rfl, k0, k1, zr, ho, hsr, B⟩ := hrel
    obtain ⟨Av, cv, rfl⟩ := OwnS.form ho
    by_cases hk : 0 < k
    · go_wp2_with fail
      refine (spec_l14DrawMotion _ _ _ hsr).mono ?_
      rintro e w4 ⟨x, y, p, q, s, rfl, hs4, hg4⟩
      have ho4 := OwnS.top (OwnS.src ho hg4 hglo)
      have B4 : Below w.heap.size w w4 := below_row B hg4 (by omega)
      have z4 : lo ≤ w4.heap.size := by have := hg4.size; omega
      clear ho hsr B hg4
      go_wp2_with (at_builtin; refine push_Mo w4.heap.size (by simp) ho4 rfl _ _ (by rfl) (by rfl) (by rfl) (by omega) (by omega) ?_; intro v6 w6 ho6 hb6 hg6)
      have hs6 := Src.push hs4 ho4 hg6 hglo
      have B6 : Below w.heap.size w w6 := B4.trans (hb6.mono zlo)
      have z6 := hg6.size
      go_roundw
      case rel => exact ⟨_, _, k - 1, rfl, rfl, by omega, by simp; omega, by omega, ho6, hs6, B6⟩
      case measure => simp [intOf]; omega
    · go_wp2_with fail
      refine (spec_l01Next _ _ _ _ hsr (by omega)).mono ?_
      rintro e w5 ⟨r5, rfl, ⟨hr5, ht5⟩, hs5, hg5⟩
      have ho := OwnS.top (OwnS.src ho hg5 hglo)
      have B5 : Below w.heap.size w w5 := below_row B hg5 (by omega)
      have z5 : lo ≤ w5.heap.size := by have := hg5.size; omega
      clear hsr B hg5
      by_cases q0 : r5 = 0
      · subst q0
        go_wp2_with fail
        go_loopw [5] (fun x9 wr => ∃ (v : Value) (ms : List Mo), v = x9 ∧ ms.length ≤ 7 ∧ lo ≤ wr.heap.size ∧ OwnMt wr lo wr.heap.size v ms ∧ Src wr w.heap.size g ∧ Below w.heap.size w wr) (fun x9 _ => 8 - vlen x9)
        case atStart => exact ⟨_, ms, rfl, by omega, z5, ho, hs5, B5⟩
        case round =>
          clear ho hs5 B5 z5 k0 k1 hk
          obtain ⟨v, ms, rfl, hl7, zr, ho, hsr, B⟩ := hrel
          obtain ⟨Av, cv, rfl⟩ := OwnS.form ho
          go_wp2_with fail
          refine (spec_l01Next _ _ _ _ hsr (by omega)).mono ?_
          rintro e w5 ⟨r4, rfl, ⟨hr4, ht4⟩, hs5, hg4⟩
          have ho := OwnS.top (OwnS.src ho hg4 hglo)
          have B5 : Below w.heap.size w w5 := below_row B hg4 (by omega)
          have z5 : lo ≤ w5.heap.size := by have := hg4.size; omega
          clear hsr B hg4
          by_cases hc : (ms.length : Int) < 6 + r4
          · go_wp2_with (at_builtin; refine push_Mo w5.heap.size (by simp) ho rfl _ _ (by rfl) (by rfl) (by rfl) (by omega) (by omega) ?_; intro v6 w6 ho6 hb6 hg6)
            have hs6 := Src.push hs5 ho hg6 hglo
            have B6 : Below w.heap.size w w6 := B5.trans (hb6.mono zlo)
            have z6 := hg6.size
            obtain ⟨A6, c6, rfl⟩ := OwnS.form ho6
            go_roundw
            case rel => exact ⟨_, _, rfl, by simp; omega, by omega, ho6, hs6, B6⟩
            case measure => simp [vlen]; omega
          · skip
            by_cases hm0 : 0 < ms.length
            · obtain ⟨⟨ma, mb, mc, md, me⟩, hx0⟩ := get_of_lt (xs := ms) (k := 0) hm0
              obtain ⟨bm, om, rfl, hbm, d0, d1, d2, d3, d4⟩ := M64.at_ (OwnS.rd ho) hx0
              simp only [Nat.zero_mul, Nat.add_zero] at d0 d1 d2 d3 d4
              have hm0I : (0 : Int) < (ms.length : Int) := by omega
              clear hx0
              go_wp2_with fail
              refine calls_gen (fun W7 hW7 => ?_)
              have hs7 : Src W7 w.heap.size g := by rw [hW7]; exact (by repeat' (first | (with_reducible assumption) | (with_reducible refine Src.setX ?_ (by omega)) | (with_reducible refine Src.alloc ?_ _)))
              have B7 : Below w.heap.size w W7 := by rw [hW7]; repeat' (first | (with_reducible exact Below.refl _ _) | (with_reducible assumption) | (with_reducible refine Below.new ?_ _) | (with_reducible refine Below.alloc ?_ ?_ _) | (with_reducible refine Below.drew ?_) | (with_reducible refine below_drewN ?_ _) | (with_reducible refine Below.setCell ?_ ?_ _) | (refine Below.next ?_ (by with_reducible assumption)) | (refine Below.row ?_ (by with_reducible assumption) (by omega)) | (refine Below.trans ?_ (by with_reducible assumption)) | (refine Below.after ?_ ?_ (by with_reducible assumption)) | go_size)
              have ho7 : Below w5.heap.size w5 W7 := by rw [hW7]; repeat' (first | (with_reducible exact Below.refl _ _) | (with_reducible assumption) | (with_reducible refine Below.new ?_ _) | (with_reducible refine Below.alloc ?_ ?_ _) | (with_reducible refine Below.drew ?_) | (with_reducible refine below_drewN ?_ _) | (with_reducible refine Below.setCell ?_ ?_ _) | (refine Below.next ?_ (by with_reducible assumption)) | (refine Below.row ?_ (by with_reducible assumption) (by omega)) | (refine Below.trans ?_ (by with_reducible assumption)) | (refine Below.after ?_ ?_ (by with_reducible assumption)) | go_size)
              have ho := OwnS.next ho ho7
              clear hW7
              refine (spec_l14DrawContacts _ _ _ _ _ _ _ _ hs7).mono ?_
              rintro e w8 ⟨v2, cs, rfl, oc, hc7, hs8, hg8⟩
              have ho := OwnS.src ho hg8 hglo
              have B8 : Below w.heap.size w w8 := below_row B7 hg8 (by omega)
              obtain ⟨A2, c2, rfl⟩ := OwnS.form oc
              go_wp2_with fail
              go_returns
              exact ⟨_, _, _, _, _, _, rfl, OwnS.rd ho, OwnS.rd oc, by omega, hc7, B8⟩
            · exfalso; omega
      · have e0 : (r5 == 0) = false := by simpa using q0
        by_cases hm0 : 0 < ms.length
        · obtain ⟨⟨ma, mb, mc, md, me⟩, hx0⟩ := get_of_lt (xs := ms) (k := 0) hm0
          obtain ⟨bm, om, rfl, hbm, d0, d1, d2, d3, d4⟩ := M64.at_ (OwnS.rd ho) hx0
          simp only [Nat.zero_mul, Nat.add_zero] at d0 d1 d2 d3 d4
          have hm0I : (0 : Int) < (ms.length : Int) := by omega
          clear hx0
          go_wp2_with fail
          refine calls_gen (fun W7 hW7 => ?_)
          have hs7 : Src W7 w.heap.size g := by rw [hW7]; exact (by repeat' (first | (with_reducible assumption) | (with_reducible refine Src.setX ?_ (by omega)) | (with_reducible refine Src.alloc ?_ _)))
          have B7 : Below w.heap.size w W7 := by rw [hW7]; repeat' (first | (with_reducible exact Below.refl _ _) | (with_reducible assumption) | (with_reducible refine Below.new ?_ _) | (with_reducible refine Below.alloc ?_ ?_ _) | (with_reducible refine Below.drew ?_) | (with_reducible refine below_drewN ?_ _) | (with_reducible refine Below.setCell ?_ ?_ _) | (refine Below.next ?_ (by with_reducible assumption)) | (refine Below.row ?_ (by with_reducible assumption) (by omega)) | (refine Below.trans ?_ (by with_reducible assumption)) | (refine Below.after ?_ ?_ (by with_reducible assumption)) | go_size)
          have ho7 : Below w5.heap.size w5 W7 := by rw [hW7]; repeat' (first | (with_reducible exact Below.refl _ _) | (with_reducible assumption) | (with_reducible refine Below.new ?_ _) | (with_reducible refine Below.alloc ?_ ?_ _) | (with_reducible refine Below.drew ?_) | (with_reducible refine below_drewN ?_ _) | (with_reducible refine Below.setCell ?_ ?_ _) | (refine Below.next ?_ (by with_reducible assumption)) | (refine Below.row ?_ (by with_reducible assumption) (by omega)) | (refine Below.trans ?_ (by with_reducible assumption)) | (refine Below.after ?_ ?_ (by with_reducible assumption)) | go_size)
          have ho := OwnS.next ho ho7
          clear hW7
          refine (spec_l14DrawContacts _ _ _ _ _ _ _ _ hs7).mono ?_
          rintro e w8 ⟨v2, cs, rfl, oc, hc7, hs8, hg8⟩
          have ho := OwnS.src ho hg8 hglo
          have B8 : Below w.heap.size w w8 := below_row B7 hg8 (by omega)
          obtain ⟨A2, c2, rfl⟩ := OwnS.form oc
          go_wp2_with fail
          go_returns
          exact ⟨_, _, _, _, _, _, rfl, OwnS.rd ho, OwnS.rd oc, by omega, hc7, B8⟩
        · have hm0I : ¬ (0 : Int) < (ms.length : Int) := by omega
          go_wp2_with fail
          refine calls_gen (fun W7 hW7 => ?_)
          have hs7 : Src W7 w.heap.size g := by rw [hW7]; exact (by repeat' (first | (with_reducible assumption) | (with_reducible refine Src.setX ?_ (by omega)) | (with_reducible refine Src.alloc ?_ _)))
          have B7 : Below w.heap.size w W7 := by rw [hW7]; repeat' (first | (with_reducible exact Below.refl _ _) | (with_reducible assumption) | (with_reducible refine Below.new ?_ _) | (with_reducible refine Below.alloc ?_ ?_ _) | (with_reducible refine Below.drew ?_) | (with_reducible refine below_drewN ?_ _) | (with_reducible refine Below.setCell ?_ ?_ _) | (refine Below.next ?_ (by with_reducible assumption)) | (refine Below.row ?_ (by with_reducible assumption) (by omega)) | (refine Below.trans ?_ (by with_reducible assumption)) | (refine Below.after ?_ ?_ (by with_reducible assumption)) | go_size)
          have ho7 : Below w5.heap.size w5 W7 := by rw [hW7]; repeat' (first | (with_reducible exact Below.refl _ _) | (with_reducible assumption) | (with_reducible refine Below.new ?_ _) | (with_reducible refine Below.alloc ?_ ?_ _) | (with_reducible refine Below.drew ?_) | (with_reducible refine below_drewN ?_ _) | (with_reducible refine Below.setCell ?_ ?_ _) | (refine Below.next ?_ (by with_reducible assumption)) | (refine Below.row ?_ (by with_reducible assumption) (by omega)) | (refine Below.trans ?_ (by with_reducible assumption)) | (refine Below.after ?_ ?_ (by with_reducible assumption)) | go_size)
          have ho := OwnS.next ho ho7
          clear hW7
          refine (spec_l14DrawContacts _ _ _ _ _ _ _ _ hs7).mono ?_
          rintro e w8 ⟨v2, cs, rfl, oc, hc7, hs8, hg8⟩
          have ho := OwnS.src ho hg8 hglo
          have B8 : Below w.heap.size w w8 := below_row B7 hg8 (by omega)
          obtain ⟨A2, c2, rfl⟩ := OwnS.form oc
          go_wp2_with fail
          go_returns
          exact ⟨_, _, _, _, _, _, rfl, OwnS.rd ho, OwnS.rd oc, by omega, hc7, B8⟩
end Go.Proofs.Ytpanignlpcemnaa
