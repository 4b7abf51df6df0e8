/- A picture stays valid, and every contact is given to a trail, begins one or is dropped; no condition. Several texts in one: LPictures, RPictures, SPictures. No condition of its own. Printed by mergeclaim.py. -/
import Derived.Test.YtinpfmbilibgfaaMDrZ
import Derived.Test.YtinpfmbilibgfaaMPc
import Derived.Test.YtinpfmbilibgfaaStP
import Derived.Test.YtinpfmbilibgfaaPaP
import Derived.Test.YtinpfmbilibgfaaNiC
import Derived.Test.YtinpfmbilibgfaaLike
import Derived.Test.YtinpfmbilibgfaaBig
import Derived.Deep.CutRange
import Derived.Deep.DeepCutAuto
namespace Go.Proofs.Ytinpfmbilibgfaa
open Go.RowKit Go.ChangeShapes Go.WideShapes Go.ChangeAt
set_option linter.unusedVariables false
set_option linter.unusedSimpArgs false
set_option maxHeartbeats 6400000 in
set_option maxRecDepth 100000 in
theorem walk_Pictures (A : Option Addr) (c : Nat) (code : List Int) (w : World) (hr : U8 w w.heap.size A code) (hb : ∀ x ∈ code, 0 ≤ x ∧ x ≤ 255) :
    Calls Try.prog 3 #[.slice A code.length c] w fun e w' => e = .returned (.bool true) ∧ Below w.heap.size w w' := by
  by_cases hl : ¬ code.length ≤ 4096
  · have hl2 : (4096 : Int) < (code.length : Int) := by omega
    go_enter Try.func3, Try.ntmps3
    go_wp2_with (first | (go_at_call 4; refine (laws_big _ _ _ _).mono ?_; rintro e w' ⟨rfl, rfl⟩) | fail)
    all_goals go_returns
    all_goals exact ⟨rfl, Below.refl _ _⟩
  have hl : code.length ≤ 4096 := by omega
  have hl2 : ¬ (4096 : Int) < (code.length : Int) := by omega
  have B : Below w.heap.size w w := Below.refl _ _
  have hrH := Lib.hid hr
  have hbH := Lib.hid hb
  clear hr hb
  go_enter Try.func3, Try.ntmps3
  go_wp2_with (first | (go_at_call 4; refine (laws_big _ _ _ _).mono ?_; rintro e w' ⟨rfl, rfl⟩) | fail)
  refine (spec_DrawStepPicture _ _ _ _ hrH.out hbH.out hl).mono ?_
  rintro e w1 ⟨A1, c1, ts, s, d, A2, c2, cs, rfl, rT, rC, lT, lC, hb1⟩
  have B : Below w.heap.size w w1 := B.trans hb1
  clear hb1
  go_wp2_with fail
  refine calls_gen (fun W1 hW1 => ?_)
  have b3 : VBox W1 26 (w1.heap.size) [.slice A1 ts.length c1, .int .i64 s, .int .i64 d] := by rw [hW1]; exact VBox.new rfl
  have rT : T64 W1 W1.heap.size A1 ts := by rw [hW1]; exact T64.up rT (Below.new (Below.refl _ _) _)
  have rC : C64 W1 W1.heap.size A2 cs := by rw [hW1]; exact C64.up rC (Below.new (Below.refl _ _) _)
  have B : Below w.heap.size w W1 := by rw [hW1]; exact Below.new B _
  clear hW1
  obtain ⟨qt, hqt⟩ : ∃ z, z = fStT ts s d cs := ⟨_, rfl⟩
  obtain ⟨qs, hqs⟩ : ∃ z, z = fStS ts s d cs := ⟨_, rfl⟩
  obtain ⟨qd, hqd⟩ : ∃ z, z = fStD ts s d cs := ⟨_, rfl⟩
  obtain ⟨k0, hk0⟩ : ∃ z, z = spCode ts s d cs := ⟨_, rfl⟩
  obtain ⟨ps, hps⟩ : ∃ z, z = fPn ts s d cs := ⟨_, rfl⟩
  obtain ⟨ns, hns⟩ : ∃ z, z = fNw ts s d cs := ⟨_, rfl⟩
  obtain ⟨pk, hpk⟩ : ∃ z, z = pnCode ts s d cs := ⟨_, rfl⟩
  obtain ⟨pb, hpb⟩ : ∃ z, z = pcB ts s d := ⟨_, rfl⟩
  have hSI := fun w h1 h2 => impl_StepPicture A1 A2 c1 c2 ts s d cs w h1 h2 (by omega) (by omega)
  have hSS := fun w h1 h2 => spec_StepPicture A1 A2 c1 c2 ts s d cs w h1 h2 (by omega) (by omega)
  have hPI := fun w h1 h2 => impl_PairsIn A1 A2 c1 c2 ts s d cs w h1 h2 (by omega) (by omega)
  have hPS := fun w h1 h2 => spec_PairsIn A1 A2 c1 c2 ts s d cs w h1 h2 (by omega) (by omega)
  have hNI := fun w h1 h2 => impl_NewIn A1 A2 c1 c2 ts s d cs w h1 h2 (by omega) (by omega)
  have hNS := fun w h1 h2 => spec_NewIn A1 A2 c1 c2 ts s d cs w h1 h2 (by omega) (by omega)
  have hVI := fun w h1 => impl_IsPicture A1 c1 ts s d w h1 (by omega)
  have hVS := fun w h1 => spec_IsPicture A1 c1 ts s d w h1 (by omega)
  have lq := fStT_len (ts := ts) (s := s) (d := d) (cs := cs)
  have lp := fPn_len (ts := ts) (s := s) (d := d) (cs := cs)
  have ln := fNw_len (ts := ts) (s := s) (d := d) (cs := cs)
  have hsum : spCode ts s d cs = 0 → (qd = 360 ∨ (gvn ps : Int) + (ns.length : Int) + (qd - d) = (cs.length : Int)) := fun h => by rw [hqd, hps, hns]; exact scan_sum h
  have hval : spCode ts s d cs = 0 → pcB qt qs qd = true ∧ qs = s + 1 ∧ pcB ts s d = true := fun h => by
    obtain ⟨h1, h2⟩ := sp_ok h
    obtain ⟨h3, h4, h5⟩ := pn_ok h1
    obtain ⟨e1, e2, e3⟩ := sp_good h
    rw [hqt, hqs, hqd, e1, e2, e3]
    exact ⟨st_ok h3 h4 h2, rfl, h3⟩
  have hinj : spCode ts s d cs = 0 → ∀ (i k : Nat) (z : Int), k < i → ps[k]? = some z → ps[i]? = some z → z < 0 := fun h i k z hki h1 h2 => by
    obtain ⟨h3, h4⟩ := sp_ok h
    have e : ps = fPs (mvs ts) cs := by rw [hps, fPn, if_pos h3]
    rw [e] at h1 h2
    exact fPs_inj hki h1 h2
  rw [← hqt, ← hqs, ← hqd, ← hk0] at hSI hSS
  rw [← hps, ← hpk] at hPI hPS
  rw [← hns, ← hpk] at hNI hNS
  rw [← hpb] at hVI hVS
  rw [← hqt] at lq
  rw [← hps] at lp
  rw [← hns] at ln
  rw [← hk0] at hsum hval hinj
  have hSIH := Lib.hid hSI
  have hSSH := Lib.hid hSS
  have hPIH := Lib.hid hPI
  have hPSH := Lib.hid hPS
  have hNIH := Lib.hid hNI
  have hNSH := Lib.hid hNS
  have hVIH := Lib.hid hVI
  have hVSH := Lib.hid hVS
  have hsumH := Lib.hid hsum
  have hvalH := Lib.hid hval
  have hinjH := Lib.hid hinj
  clear hSI hSS hPI hPS hNI hNS hVI hVS hsum hval hinj hqt hqs hqd hk0 hps hns hpk hpb
  refine (hSIH.out _ rT rC).mono ?_
  rintro e w2 ⟨v5, rfl, o5, hw2⟩
  obtain ⟨A5, c5, rfl⟩ := OwnS.form o5
  have r5 := OwnS.rdT o5
  clear o5
  have b3 := b3.next hw2
  have rT : T64 w2 w2.heap.size A1 ts := T64.up rT hw2
  have rC : C64 w2 w2.heap.size A2 cs := C64.up rC hw2
  have B : Below w.heap.size w w2 := B.trans (hw2.mono B.size)
  clear hw2
  have cb30 := b3.cell (j := 0) rfl
  have cb31 := b3.cell (j := 1) rfl
  have cb32 := b3.cell (j := 2) rfl
  have cb3f := b3.fz
  have abb30 : ∀ ob, (w2.alloc ob).cell? ⟨w1.heap.size, 0, none⟩ = some (.slice A1 ts.length c1) := fun ob => bx_alloc cb30
  have abb31 : ∀ ob, (w2.alloc ob).cell? ⟨w1.heap.size, 1, none⟩ = some (.int .i64 s) := fun ob => bx_alloc cb31
  have abb32 : ∀ ob, (w2.alloc ob).cell? ⟨w1.heap.size, 2, none⟩ = some (.int .i64 d) := fun ob => bx_alloc cb32
  go_wp2_with fail
  clear abb30 abb31 abb32
  clear cb30 cb31 cb32 cb3f
  refine calls_gen (fun W2 hW2 => ?_)
  have b5 : VBox W2 26 (w2.heap.size) [.slice A5 qt.length c5, .int .i64 qs, .int .i64 qd] := by rw [hW2]; exact VBox.new rfl
  have b3 : VBox W2 26 (w1.heap.size) [.slice A1 ts.length c1, .int .i64 s, .int .i64 d] := by rw [hW2]; exact b3.alloc _
  have rT : T64 W2 W2.heap.size A1 ts := by rw [hW2]; exact T64.up rT (Below.new (Below.refl _ _) _)
  have rC : C64 W2 W2.heap.size A2 cs := by rw [hW2]; exact C64.up rC (Below.new (Below.refl _ _) _)
  have r5 : T64 W2 W2.heap.size A5 qt := by rw [hW2]; exact T64.up r5 (Below.new (Below.refl _ _) _)
  have B : Below w.heap.size w W2 := by rw [hW2]; exact Below.new B _
  clear hW2
  refine (hSSH.out _ rT rC).mono ?_
  rintro e w3 ⟨v7, rfl, o7, hw3⟩
  obtain ⟨A7, c7, rfl⟩ := OwnS.form o7
  have r7 := OwnS.rdT o7
  clear o7
  have b3 := b3.next hw3
  have b5 := b5.next hw3
  have rT : T64 w3 w3.heap.size A1 ts := T64.up rT hw3
  have rC : C64 w3 w3.heap.size A2 cs := C64.up rC hw3
  have r5 : T64 w3 w3.heap.size A5 qt := T64.up r5 hw3
  have B : Below w.heap.size w w3 := B.trans (hw3.mono B.size)
  clear hw3
  have cb30 := b3.cell (j := 0) rfl
  have cb31 := b3.cell (j := 1) rfl
  have cb32 := b3.cell (j := 2) rfl
  have cb3f := b3.fz
  have cb50 := b5.cell (j := 0) rfl
  have cb51 := b5.cell (j := 1) rfl
  have cb52 := b5.cell (j := 2) rfl
  have cb5f := b5.fz
  have abb30 : ∀ ob, (w3.alloc ob).cell? ⟨w1.heap.size, 0, none⟩ = some (.slice A1 ts.length c1) := fun ob => bx_alloc cb30
  have abb31 : ∀ ob, (w3.alloc ob).cell? ⟨w1.heap.size, 1, none⟩ = some (.int .i64 s) := fun ob => bx_alloc cb31
  have abb32 : ∀ ob, (w3.alloc ob).cell? ⟨w1.heap.size, 2, none⟩ = some (.int .i64 d) := fun ob => bx_alloc cb32
  have abb50 : ∀ ob, (w3.alloc ob).cell? ⟨w2.heap.size, 0, none⟩ = some (.slice A5 qt.length c5) := fun ob => bx_alloc cb50
  have abb51 : ∀ ob, (w3.alloc ob).cell? ⟨w2.heap.size, 1, none⟩ = some (.int .i64 qs) := fun ob => bx_alloc cb51
  have abb52 : ∀ ob, (w3.alloc ob).cell? ⟨w2.heap.size, 2, none⟩ = some (.int .i64 qd) := fun ob => bx_alloc cb52
  go_wp2_with fail
  clear abb30 abb31 abb32 abb50 abb51 abb52
  clear cb30 cb31 cb32 cb3f
  clear cb50 cb51 cb52 cb5f
  refine calls_gen (fun W3 hW3 => ?_)
  have b7 : VBox W3 26 (w3.heap.size) [.slice A7 qt.length c7, .int .i64 qs, .int .i64 qd] := by rw [hW3]; exact VBox.new rfl
  have b3 : VBox W3 26 (w1.heap.size) [.slice A1 ts.length c1, .int .i64 s, .int .i64 d] := by rw [hW3]; exact b3.alloc _
  have b5 : VBox W3 26 (w2.heap.size) [.slice A5 qt.length c5, .int .i64 qs, .int .i64 qd] := by rw [hW3]; exact b5.alloc _
  have rT : T64 W3 W3.heap.size A1 ts := by rw [hW3]; exact T64.up rT (Below.new (Below.refl _ _) _)
  have rC : C64 W3 W3.heap.size A2 cs := by rw [hW3]; exact C64.up rC (Below.new (Below.refl _ _) _)
  have r5 : T64 W3 W3.heap.size A5 qt := by rw [hW3]; exact T64.up r5 (Below.new (Below.refl _ _) _)
  have r7 : T64 W3 W3.heap.size A7 qt := by rw [hW3]; exact T64.up r7 (Below.new (Below.refl _ _) _)
  have B : Below w.heap.size w W3 := by rw [hW3]; exact Below.new B _
  clear hW3
  refine (hPIH.out _ rT rC).mono ?_
  rintro e w4 ⟨v9, rfl, o9, hw4⟩
  obtain ⟨A9, c9, rfl, _⟩ := id o9
  have r9 := (OwnI.reads o9).2
  clear o9
  have b3 := b3.next hw4
  have b5 := b5.next hw4
  have b7 := b7.next hw4
  have rT : T64 w4 w4.heap.size A1 ts := T64.up rT hw4
  have rC : C64 w4 w4.heap.size A2 cs := C64.up rC hw4
  have r5 : T64 w4 w4.heap.size A5 qt := T64.up r5 hw4
  have r7 : T64 w4 w4.heap.size A7 qt := T64.up r7 hw4
  have B : Below w.heap.size w w4 := B.trans (hw4.mono B.size)
  clear hw4
  have cb30 := b3.cell (j := 0) rfl
  have cb31 := b3.cell (j := 1) rfl
  have cb32 := b3.cell (j := 2) rfl
  have cb3f := b3.fz
  have cb50 := b5.cell (j := 0) rfl
  have cb51 := b5.cell (j := 1) rfl
  have cb52 := b5.cell (j := 2) rfl
  have cb5f := b5.fz
  have cb70 := b7.cell (j := 0) rfl
  have cb71 := b7.cell (j := 1) rfl
  have cb72 := b7.cell (j := 2) rfl
  have cb7f := b7.fz
  go_wp2_with fail
  clear cb30 cb31 cb32 cb3f
  clear cb50 cb51 cb52 cb5f
  clear cb70 cb71 cb72 cb7f
  refine (hPSH.out _ rT rC).mono ?_
  rintro e w5 ⟨v11, rfl, o11, hw5⟩
  obtain ⟨A11, c11, rfl, _⟩ := id o11
  have r11 := (OwnI.reads o11).2
  clear o11
  have b3 := b3.next hw5
  have b5 := b5.next hw5
  have b7 := b7.next hw5
  have rT : T64 w5 w5.heap.size A1 ts := T64.up rT hw5
  have rC : C64 w5 w5.heap.size A2 cs := C64.up rC hw5
  have r5 : T64 w5 w5.heap.size A5 qt := T64.up r5 hw5
  have r7 : T64 w5 w5.heap.size A7 qt := T64.up r7 hw5
  have r9 : I64 w5 w5.heap.size A9 ps := I64.up r9 hw5
  have B : Below w.heap.size w w5 := B.trans (hw5.mono B.size)
  clear hw5
  have cb30 := b3.cell (j := 0) rfl
  have cb31 := b3.cell (j := 1) rfl
  have cb32 := b3.cell (j := 2) rfl
  have cb3f := b3.fz
  have cb50 := b5.cell (j := 0) rfl
  have cb51 := b5.cell (j := 1) rfl
  have cb52 := b5.cell (j := 2) rfl
  have cb5f := b5.fz
  have cb70 := b7.cell (j := 0) rfl
  have cb71 := b7.cell (j := 1) rfl
  have cb72 := b7.cell (j := 2) rfl
  have cb7f := b7.fz
  go_wp2_with fail
  clear cb30 cb31 cb32 cb3f
  clear cb50 cb51 cb52 cb5f
  clear cb70 cb71 cb72 cb7f
  refine (hNIH.out _ rT rC).mono ?_
  rintro e w6 ⟨v13, rfl, o13, hw6⟩
  obtain ⟨A13, c13, rfl, _⟩ := id o13
  have r13 := (OwnI.reads o13).2
  clear o13
  have b3 := b3.next hw6
  have b5 := b5.next hw6
  have b7 := b7.next hw6
  have rT : T64 w6 w6.heap.size A1 ts := T64.up rT hw6
  have rC : C64 w6 w6.heap.size A2 cs := C64.up rC hw6
  have r5 : T64 w6 w6.heap.size A5 qt := T64.up r5 hw6
  have r7 : T64 w6 w6.heap.size A7 qt := T64.up r7 hw6
  have r9 : I64 w6 w6.heap.size A9 ps := I64.up r9 hw6
  have r11 : I64 w6 w6.heap.size A11 ps := I64.up r11 hw6
  have B : Below w.heap.size w w6 := B.trans (hw6.mono B.size)
  clear hw6
  have cb30 := b3.cell (j := 0) rfl
  have cb31 := b3.cell (j := 1) rfl
  have cb32 := b3.cell (j := 2) rfl
  have cb3f := b3.fz
  have cb50 := b5.cell (j := 0) rfl
  have cb51 := b5.cell (j := 1) rfl
  have cb52 := b5.cell (j := 2) rfl
  have cb5f := b5.fz
  have cb70 := b7.cell (j := 0) rfl
  have cb71 := b7.cell (j := 1) rfl
  have cb72 := b7.cell (j := 2) rfl
  have cb7f := b7.fz
  go_wp2_with fail
  clear cb30 cb31 cb32 cb3f
  clear cb50 cb51 cb52 cb5f
  clear cb70 cb71 cb72 cb7f
  refine (hNSH.out _ rT rC).mono ?_
  rintro e w7 ⟨v15, rfl, o15, hw7⟩
  obtain ⟨A15, c15, rfl, _⟩ := id o15
  have r15 := (OwnI.reads o15).2
  clear o15
  have b3 := b3.next hw7
  have b5 := b5.next hw7
  have b7 := b7.next hw7
  have rT : T64 w7 w7.heap.size A1 ts := T64.up rT hw7
  have rC : C64 w7 w7.heap.size A2 cs := C64.up rC hw7
  have r5 : T64 w7 w7.heap.size A5 qt := T64.up r5 hw7
  have r7 : T64 w7 w7.heap.size A7 qt := T64.up r7 hw7
  have r9 : I64 w7 w7.heap.size A9 ps := I64.up r9 hw7
  have r11 : I64 w7 w7.heap.size A11 ps := I64.up r11 hw7
  have r13 : I64 w7 w7.heap.size A13 ns := I64.up r13 hw7
  have B : Below w.heap.size w w7 := B.trans (hw7.mono B.size)
  clear hw7
  have cb30 := b3.cell (j := 0) rfl
  have cb31 := b3.cell (j := 1) rfl
  have cb32 := b3.cell (j := 2) rfl
  have cb3f := b3.fz
  have cb50 := b5.cell (j := 0) rfl
  have cb51 := b5.cell (j := 1) rfl
  have cb52 := b5.cell (j := 2) rfl
  have cb5f := b5.fz
  have cb70 := b7.cell (j := 0) rfl
  have cb71 := b7.cell (j := 1) rfl
  have cb72 := b7.cell (j := 2) rfl
  have cb7f := b7.fz
  have n1 : (k0 != k0) = false := by simp
  have n2 : (pk != pk) = false := by simp
  have n3 : (pb != pb) = false := by simp
  go_upto_region 10 with fail
  (refine wp_region_noPanic ?_; refine wp_region_held_drew (S := (fun w' => w'.cell? ⟨w1.heap.size, 0, none⟩ = some (.slice A1 ts.length c1) ∧ w'.cell? ⟨w1.heap.size, 1, none⟩ = some (.int .i64 s) ∧ w'.cell? ⟨w1.heap.size, 2, none⟩ = some (.int .i64 d) ∧ w'.cell? ⟨w2.heap.size, 0, none⟩ = some (.slice A5 qt.length c5) ∧ w'.cell? ⟨w2.heap.size, 1, none⟩ = some (.int .i64 qs) ∧ w'.cell? ⟨w2.heap.size, 2, none⟩ = some (.int .i64 qd) ∧ w'.cell? ⟨w3.heap.size, 0, none⟩ = some (.slice A7 qt.length c7) ∧ w'.cell? ⟨w3.heap.size, 1, none⟩ = some (.int .i64 qs) ∧ w'.cell? ⟨w3.heap.size, 2, none⟩ = some (.int .i64 qd))) (by kernel_rfl) ?_ (fun hHeld => ?_); (focus ((try dsimp only); (refine ⟨?_, ?_, ?_, ?_, ?_, ?_, ?_, ?_, ?_⟩ <;> exact bxc))); (refine takeT (i := 0) (d := 64) rfl rfl (by kernel_rfl) (by kernel_rfl) (by kernel_rfl) (by rfl) (by assumption) (v := ?_) ?_ ?_; rotate_left; (focus (intro wq hSw; (try dsimp only at hSw); go_simp; (try (with_reducible rfl)); done)); (try simp only [Act.put, List.setIfInBounds_toArray, List.set_cons_zero, List.set_cons_succ])); (refine takeT (i := 1) (d := 65) rfl rfl (by kernel_rfl) (by kernel_rfl) (by kernel_rfl) (by rfl) (by assumption) (v := ?_) ?_ ?_; rotate_left; (focus (intro wq hSw; (try dsimp only at hSw); go_simp; (try (with_reducible rfl)); done)); (try simp only [Act.put, List.setIfInBounds_toArray, List.set_cons_zero, List.set_cons_succ])); (refine takeT (i := 2) (d := 66) rfl rfl (by kernel_rfl) (by kernel_rfl) (by kernel_rfl) (by rfl) (by assumption) (v := ?_) ?_ ?_; rotate_left; (focus (intro wq hSw; (try dsimp only at hSw); go_simp; (try (with_reducible rfl)); done)); (try simp only [Act.put, List.setIfInBounds_toArray, List.set_cons_zero, List.set_cons_succ])); (refine takeT (i := 3) (d := 67) rfl rfl (by kernel_rfl) (by kernel_rfl) (by kernel_rfl) (by rfl) (by assumption) (v := ?_) ?_ ?_; rotate_left; (focus (intro wq hSw; (try dsimp only at hSw); go_simp; (try (with_reducible rfl)); done)); (try simp only [Act.put, List.setIfInBounds_toArray, List.set_cons_zero, List.set_cons_succ])); (refine takeT (i := 4) (d := 68) rfl rfl (by kernel_rfl) (by kernel_rfl) (by kernel_rfl) (by rfl) (by assumption) (v := ?_) ?_ ?_; rotate_left; (focus (intro wq hSw; (try dsimp only at hSw); go_simp; (try (with_reducible rfl)); done)); (try simp only [Act.put, List.setIfInBounds_toArray, List.set_cons_zero, List.set_cons_succ])); (refine takeT (i := 5) (d := 69) rfl rfl (by kernel_rfl) (by kernel_rfl) (by kernel_rfl) (by rfl) (by assumption) (v := ?_) ?_ ?_; rotate_left; (focus (intro wq hSw; (try dsimp only at hSw); go_simp; (try (with_reducible rfl)); done)); (try simp only [Act.put, List.setIfInBounds_toArray, List.set_cons_zero, List.set_cons_succ])); (refine wpAnyH_ready (rs := [6]) (by kernel_rfl) (by simp) ?_; refine AllReadyH.cons rfl (fun K hK => ?_) AllReadyH.nil; go_simp; (first | (go_at_call 12; refine (laws_likePic _ _ _ _ qt qs qd _ (r5.up (by exact bgr)) (r7.up (by exact bgr)) (by omega)).mono ?_; rintro e w8 ⟨rfl, hb8⟩) | (go_at_call 13; (first | ((with_reducible refine (likeT A9 A11 c9 c11 ps _ (I64.up r9 (by exact bgr)) (I64.up r11 (by exact bgr)) (by omega)).mono ?_); rintro e w9 ⟨rfl, hb9⟩) | ((with_reducible refine (likeT A13 A15 c13 c15 ns _ (I64.up r13 (by exact bgr)) (I64.up r15 (by exact bgr)) (by omega)).mono ?_); rintro e w10 ⟨rfl, hb10⟩))) | (go_at_call 14; refine (hVIH.out _ (rT.up (by exact bgr))).mono ?_; rintro e w11 ⟨rfl, hb11⟩) | (go_at_call 15; refine (hVSH.out _ (rT.up (by exact bgr))).mono ?_; rintro e w12 ⟨rfl, hb12⟩) | skip); (try go_wp2_with fail); refine hK.out _ _ ?_ (fun hHeld => ?_); (focus ((try dsimp only); (refine ⟨?_, ?_, ?_, ?_, ?_, ?_, ?_, ?_, ?_⟩ <;> exact bxc))); clear hK K; (try simp only [Act.put, List.setIfInBounds_toArray, List.set_cons_zero, List.set_cons_succ])); (refine takeT (i := 7) (d := 71) rfl rfl (by kernel_rfl) (by kernel_rfl) (by kernel_rfl) (by rfl) (by assumption) (v := ?_) ?_ ?_; rotate_left; (focus (intro wq hSw; (try dsimp only at hSw); go_simp; (try (with_reducible rfl)); done)); (try simp only [Act.put, List.setIfInBounds_toArray, List.set_cons_zero, List.set_cons_succ])); (refine takeT (i := 8) (d := 72) rfl rfl (by kernel_rfl) (by kernel_rfl) (by kernel_rfl) (by rfl) (by assumption) (v := ?_) ?_ ?_; rotate_left; (focus (intro wq hSw; (try dsimp only at hSw); go_simp; (try (with_reducible rfl)); done)); (try simp only [Act.put, List.setIfInBounds_toArray, List.set_cons_zero, List.set_cons_succ])); (refine takeT (i := 9) (d := 73) rfl rfl (by kernel_rfl) (by kernel_rfl) (by kernel_rfl) (by rfl) (by assumption) (v := ?_) ?_ ?_; rotate_left; (focus (intro wq hSw; (try dsimp only at hSw); go_simp; (try (with_reducible rfl)); done)); (try simp only [Act.put, List.setIfInBounds_toArray, List.set_cons_zero, List.set_cons_succ])); (refine takeT (i := 10) (d := 74) rfl rfl (by kernel_rfl) (by kernel_rfl) (by kernel_rfl) (by rfl) (by assumption) (v := ?_) ?_ ?_; rotate_left; (focus (intro wq hSw; (try dsimp only at hSw); go_simp; (try (with_reducible rfl)); done)); (try simp only [Act.put, List.setIfInBounds_toArray, List.set_cons_zero, List.set_cons_succ])); (refine takeT (i := 11) (d := 75) rfl rfl (by kernel_rfl) (by kernel_rfl) (by kernel_rfl) (by rfl) (by assumption) (v := ?_) ?_ ?_; rotate_left; (focus (intro wq hSw; (try dsimp only at hSw); go_simp; (try (with_reducible rfl)); done)); (try simp only [Act.put, List.setIfInBounds_toArray, List.set_cons_zero, List.set_cons_succ])); (refine takeT (i := 12) (d := 76) rfl rfl (by kernel_rfl) (by kernel_rfl) (by kernel_rfl) (by rfl) (by assumption) (v := ?_) ?_ ?_; rotate_left; (focus (intro wq hSw; (try dsimp only at hSw); go_simp; (try (with_reducible rfl)); done)); (try simp only [Act.put, List.setIfInBounds_toArray, List.set_cons_zero, List.set_cons_succ])); (refine takeT (i := 13) (d := 77) rfl rfl (by kernel_rfl) (by kernel_rfl) (by kernel_rfl) (by rfl) (by assumption) (v := ?_) ?_ ?_; rotate_left; (focus (intro wq hSw; (try dsimp only at hSw); go_simp; (try (with_reducible rfl)); done)); (try simp only [Act.put, List.setIfInBounds_toArray, List.set_cons_zero, List.set_cons_succ])); (refine takeT (i := 14) (d := 78) rfl rfl (by kernel_rfl) (by kernel_rfl) (by kernel_rfl) (by rfl) (by assumption) (v := ?_) ?_ ?_; rotate_left; (focus (intro wq hSw; (try dsimp only at hSw); go_simp; (try (with_reducible rfl)); done)); (try simp only [Act.put, List.setIfInBounds_toArray, List.set_cons_zero, List.set_cons_succ])); (refine takeT (i := 15) (d := 79) rfl rfl (by kernel_rfl) (by kernel_rfl) (by kernel_rfl) (by rfl) (by assumption) (v := ?_) ?_ ?_; rotate_left; (focus (intro wq hSw; (try dsimp only at hSw); go_simp; (try (with_reducible rfl)); done)); (try simp only [Act.put, List.setIfInBounds_toArray, List.set_cons_zero, List.set_cons_succ])); (refine takeT (i := 16) (d := 80) rfl rfl (by kernel_rfl) (by kernel_rfl) (by kernel_rfl) (by rfl) (by assumption) (v := ?_) ?_ ?_; rotate_left; (focus (intro wq hSw; (try dsimp only at hSw); go_simp; (try (with_reducible rfl)); done)); (try simp only [Act.put, List.setIfInBounds_toArray, List.set_cons_zero, List.set_cons_succ])); (refine wpAnyH_ready (rs := [17]) (by kernel_rfl) (by simp) ?_; refine AllReadyH.cons rfl (fun K hK => ?_) AllReadyH.nil; go_simp; (first | (go_at_call 12; refine (laws_likePic _ _ _ _ qt qs qd _ (r5.up (by exact bgr)) (r7.up (by exact bgr)) (by omega)).mono ?_; rintro e w8 ⟨rfl, hb8⟩) | (go_at_call 13; (first | ((with_reducible refine (likeT A9 A11 c9 c11 ps _ (I64.up r9 (by exact bgr)) (I64.up r11 (by exact bgr)) (by omega)).mono ?_); rintro e w9 ⟨rfl, hb9⟩) | ((with_reducible refine (likeT A13 A15 c13 c15 ns _ (I64.up r13 (by exact bgr)) (I64.up r15 (by exact bgr)) (by omega)).mono ?_); rintro e w10 ⟨rfl, hb10⟩))) | (go_at_call 14; refine (hVIH.out _ (rT.up (by exact bgr))).mono ?_; rintro e w11 ⟨rfl, hb11⟩) | (go_at_call 15; refine (hVSH.out _ (rT.up (by exact bgr))).mono ?_; rintro e w12 ⟨rfl, hb12⟩) | skip); (try go_wp2_with fail); refine hK.out _ _ ?_ (fun hHeld => ?_); (focus ((try dsimp only); (refine ⟨?_, ?_, ?_, ?_, ?_, ?_, ?_, ?_, ?_⟩ <;> exact bxc))); clear hK K; (try simp only [Act.put, List.setIfInBounds_toArray, List.set_cons_zero, List.set_cons_succ])); (refine takeT (i := 18) (d := 82) rfl rfl (by kernel_rfl) (by kernel_rfl) (by kernel_rfl) (by rfl) (by assumption) (v := ?_) ?_ ?_; rotate_left; (focus (intro wq hSw; (try dsimp only at hSw); go_simp; (try (with_reducible rfl)); done)); (try simp only [Act.put, List.setIfInBounds_toArray, List.set_cons_zero, List.set_cons_succ])); (refine takeT (i := 19) (d := 83) rfl rfl (by kernel_rfl) (by kernel_rfl) (by kernel_rfl) (by rfl) (by assumption) (v := ?_) ?_ ?_; rotate_left; (focus (intro wq hSw; (try dsimp only at hSw); go_simp; (try (with_reducible rfl)); done)); (try simp only [Act.put, List.setIfInBounds_toArray, List.set_cons_zero, List.set_cons_succ])); (refine takeT (i := 20) (d := 84) rfl rfl (by kernel_rfl) (by kernel_rfl) (by kernel_rfl) (by rfl) (by assumption) (v := ?_) ?_ ?_; rotate_left; (focus (intro wq hSw; (try dsimp only at hSw); go_simp; (try (with_reducible rfl)); done)); (try simp only [Act.put, List.setIfInBounds_toArray, List.set_cons_zero, List.set_cons_succ])); (refine takeT (i := 21) (d := 85) rfl rfl (by kernel_rfl) (by kernel_rfl) (by kernel_rfl) (by rfl) (by assumption) (v := ?_) ?_ ?_; rotate_left; (focus (intro wq hSw; (try dsimp only at hSw); go_simp; (try (with_reducible rfl)); done)); (try simp only [Act.put, List.setIfInBounds_toArray, List.set_cons_zero, List.set_cons_succ])); (refine takeT (i := 22) (d := 86) rfl rfl (by kernel_rfl) (by kernel_rfl) (by kernel_rfl) (by rfl) (by assumption) (v := ?_) ?_ ?_; rotate_left; (focus (intro wq hSw; (try dsimp only at hSw); go_simp; (try (with_reducible rfl)); done)); (try simp only [Act.put, List.setIfInBounds_toArray, List.set_cons_zero, List.set_cons_succ])); (refine takeT (i := 23) (d := 87) rfl rfl (by kernel_rfl) (by kernel_rfl) (by kernel_rfl) (by rfl) (by assumption) (v := ?_) ?_ ?_; rotate_left; (focus (intro wq hSw; (try dsimp only at hSw); go_simp; (try (with_reducible rfl)); done)); (try simp only [Act.put, List.setIfInBounds_toArray, List.set_cons_zero, List.set_cons_succ])); (refine takeT (i := 24) (d := 88) rfl rfl (by kernel_rfl) (by kernel_rfl) (by kernel_rfl) (by rfl) (by assumption) (v := ?_) ?_ ?_; rotate_left; (focus (intro wq hSw; (try dsimp only at hSw); go_simp; (try (with_reducible rfl)); done)); (try simp only [Act.put, List.setIfInBounds_toArray, List.set_cons_zero, List.set_cons_succ])); (refine takeT (i := 25) (d := 89) rfl rfl (by kernel_rfl) (by kernel_rfl) (by kernel_rfl) (by rfl) (by assumption) (v := ?_) ?_ ?_; rotate_left; (focus (intro wq hSw; (try dsimp only at hSw); go_simp; (try (with_reducible rfl)); done)); (try simp only [Act.put, List.setIfInBounds_toArray, List.set_cons_zero, List.set_cons_succ])); (refine takeT (i := 26) (d := 90) rfl rfl (by kernel_rfl) (by kernel_rfl) (by kernel_rfl) (by rfl) (by assumption) (v := ?_) ?_ ?_; rotate_left; (focus (intro wq hSw; (try dsimp only at hSw); go_simp; (try (with_reducible rfl)); done)); (try simp only [Act.put, List.setIfInBounds_toArray, List.set_cons_zero, List.set_cons_succ])); (refine takeT (i := 27) (d := 91) rfl rfl (by kernel_rfl) (by kernel_rfl) (by kernel_rfl) (by rfl) (by assumption) (v := ?_) ?_ ?_; rotate_left; (focus (intro wq hSw; (try dsimp only at hSw); go_simp; (try (with_reducible rfl)); done)); (try simp only [Act.put, List.setIfInBounds_toArray, List.set_cons_zero, List.set_cons_succ])); (refine wpAnyH_ready (rs := [28]) (by kernel_rfl) (by simp) ?_; refine AllReadyH.cons rfl (fun K hK => ?_) AllReadyH.nil; go_simp; (first | (go_at_call 12; refine (laws_likePic _ _ _ _ qt qs qd _ (r5.up (by exact bgr)) (r7.up (by exact bgr)) (by omega)).mono ?_; rintro e w8 ⟨rfl, hb8⟩) | (go_at_call 13; (first | ((with_reducible refine (likeT A9 A11 c9 c11 ps _ (I64.up r9 (by exact bgr)) (I64.up r11 (by exact bgr)) (by omega)).mono ?_); rintro e w9 ⟨rfl, hb9⟩) | ((with_reducible refine (likeT A13 A15 c13 c15 ns _ (I64.up r13 (by exact bgr)) (I64.up r15 (by exact bgr)) (by omega)).mono ?_); rintro e w10 ⟨rfl, hb10⟩))) | (go_at_call 14; refine (hVIH.out _ (rT.up (by exact bgr))).mono ?_; rintro e w11 ⟨rfl, hb11⟩) | (go_at_call 15; refine (hVSH.out _ (rT.up (by exact bgr))).mono ?_; rintro e w12 ⟨rfl, hb12⟩) | skip); (try go_wp2_with fail); refine hK.out _ _ ?_ (fun hHeld => ?_); (focus ((try dsimp only); (refine ⟨?_, ?_, ?_, ?_, ?_, ?_, ?_, ?_, ?_⟩ <;> exact bxc))); clear hK K; (try simp only [Act.put, List.setIfInBounds_toArray, List.set_cons_zero, List.set_cons_succ])); (refine takeT (i := 29) (d := 93) rfl rfl (by kernel_rfl) (by kernel_rfl) (by kernel_rfl) (by rfl) (by assumption) (v := ?_) ?_ ?_; rotate_left; (focus (intro wq hSw; (try dsimp only at hSw); go_simp; (try (with_reducible rfl)); done)); (try simp only [Act.put, List.setIfInBounds_toArray, List.set_cons_zero, List.set_cons_succ])); (refine takeT (i := 30) (d := 94) rfl rfl (by kernel_rfl) (by kernel_rfl) (by kernel_rfl) (by rfl) (by assumption) (v := ?_) ?_ ?_; rotate_left; (focus (intro wq hSw; (try dsimp only at hSw); go_simp; (try (with_reducible rfl)); done)); (try simp only [Act.put, List.setIfInBounds_toArray, List.set_cons_zero, List.set_cons_succ])); (refine takeT (i := 31) (d := 95) rfl rfl (by kernel_rfl) (by kernel_rfl) (by kernel_rfl) (by rfl) (by assumption) (v := ?_) ?_ ?_; rotate_left; (focus (intro wq hSw; (try dsimp only at hSw); go_simp; (try (with_reducible rfl)); done)); (try simp only [Act.put, List.setIfInBounds_toArray, List.set_cons_zero, List.set_cons_succ])); (refine takeT (i := 32) (d := 96) rfl rfl (by kernel_rfl) (by kernel_rfl) (by kernel_rfl) (by rfl) (by assumption) (v := ?_) ?_ ?_; rotate_left; (focus (intro wq hSw; (try dsimp only at hSw); go_simp; (try (with_reducible rfl)); done)); (try simp only [Act.put, List.setIfInBounds_toArray, List.set_cons_zero, List.set_cons_succ])); (refine takeT (i := 34) (d := 98) rfl rfl (by kernel_rfl) (by kernel_rfl) (by kernel_rfl) (by rfl) (by assumption) (v := ?_) ?_ ?_; rotate_left; (focus (intro wq hSw; (try dsimp only at hSw); go_simp; (try (with_reducible rfl)); done)); (try simp only [Act.put, List.setIfInBounds_toArray, List.set_cons_zero, List.set_cons_succ])); (refine wpAnyH_ready (rs := [33]) (by kernel_rfl) (by simp) ?_; refine AllReadyH.cons rfl (fun K hK => ?_) AllReadyH.nil; go_simp; (first | (go_at_call 12; refine (laws_likePic _ _ _ _ qt qs qd _ (r5.up (by exact bgr)) (r7.up (by exact bgr)) (by omega)).mono ?_; rintro e w8 ⟨rfl, hb8⟩) | (go_at_call 13; (first | ((with_reducible refine (likeT A9 A11 c9 c11 ps _ (I64.up r9 (by exact bgr)) (I64.up r11 (by exact bgr)) (by omega)).mono ?_); rintro e w9 ⟨rfl, hb9⟩) | ((with_reducible refine (likeT A13 A15 c13 c15 ns _ (I64.up r13 (by exact bgr)) (I64.up r15 (by exact bgr)) (by omega)).mono ?_); rintro e w10 ⟨rfl, hb10⟩))) | (go_at_call 14; refine (hVIH.out _ (rT.up (by exact bgr))).mono ?_; rintro e w11 ⟨rfl, hb11⟩) | (go_at_call 15; refine (hVSH.out _ (rT.up (by exact bgr))).mono ?_; rintro e w12 ⟨rfl, hb12⟩) | skip); (try go_wp2_with fail); refine hK.out _ _ ?_ (fun hHeld => ?_); (focus ((try dsimp only); (refine ⟨?_, ?_, ?_, ?_, ?_, ?_, ?_, ?_, ?_⟩ <;> exact bxc))); clear hK K; (try simp only [Act.put, List.setIfInBounds_toArray, List.set_cons_zero, List.set_cons_succ])); (refine wpAnyH_ready (rs := [35]) (by kernel_rfl) (by simp) ?_; refine AllReadyH.cons rfl (fun K hK => ?_) AllReadyH.nil; go_simp; (first | (go_at_call 12; refine (laws_likePic _ _ _ _ qt qs qd _ (r5.up (by exact bgr)) (r7.up (by exact bgr)) (by omega)).mono ?_; rintro e w8 ⟨rfl, hb8⟩) | (go_at_call 13; (first | ((with_reducible refine (likeT A9 A11 c9 c11 ps _ (I64.up r9 (by exact bgr)) (I64.up r11 (by exact bgr)) (by omega)).mono ?_); rintro e w9 ⟨rfl, hb9⟩) | ((with_reducible refine (likeT A13 A15 c13 c15 ns _ (I64.up r13 (by exact bgr)) (I64.up r15 (by exact bgr)) (by omega)).mono ?_); rintro e w10 ⟨rfl, hb10⟩))) | (go_at_call 14; refine (hVIH.out _ (rT.up (by exact bgr))).mono ?_; rintro e w11 ⟨rfl, hb11⟩) | (go_at_call 15; refine (hVSH.out _ (rT.up (by exact bgr))).mono ?_; rintro e w12 ⟨rfl, hb12⟩) | skip); (try go_wp2_with fail); refine hK.out _ _ ?_ (fun hHeld => ?_); (focus ((try dsimp only); (refine ⟨?_, ?_, ?_, ?_, ?_, ?_, ?_, ?_, ?_⟩ <;> exact bxc))); clear hK K; (try simp only [Act.put, List.setIfInBounds_toArray, List.set_cons_zero, List.set_cons_succ])); (refine takeT (i := 36) (d := 100) rfl rfl (by kernel_rfl) (by kernel_rfl) (by kernel_rfl) (by rfl) (by assumption) (v := ?_) ?_ ?_; rotate_left; (focus (intro wq hSw; (try dsimp only at hSw); go_simp; (try (with_reducible rfl)); done)); (try simp only [Act.put, List.setIfInBounds_toArray, List.set_cons_zero, List.set_cons_succ])); (refine takeT (i := 37) (d := 101) rfl rfl (by kernel_rfl) (by kernel_rfl) (by kernel_rfl) (by rfl) (by assumption) (v := ?_) ?_ ?_; rotate_left; (focus (intro wq hSw; (try dsimp only at hSw); go_simp; (try (with_reducible rfl)); done)); (try simp only [Act.put, List.setIfInBounds_toArray, List.set_cons_zero, List.set_cons_succ])); refine wpAnyH_done (by kernel_rfl) ?_ _; refine NoPanic.normal ?_)
  have hB8 : Below w7.heap.size w7 w12 := by exact bgr
  have b3 := b3.next hB8
  have b5 := b5.next hB8
  have r11 : I64 w12 w12.heap.size A11 ps := I64.up r11 hB8
  have r5 : T64 w12 w12.heap.size A5 qt := T64.up r5 hB8
  have B : Below w.heap.size w w12 := B.trans (hB8.mono B.size)
  clear hHeld hB8 hb8 hb9 hb10 hb11 hb12 b7 r7 r9 r13 r15 rT rC n1 n2 n3 hSIH hSSH hPIH hPSH hNIH hNSH hVIH hVSH hrH hbH
  clear cb30 cb31 cb32 cb3f
  clear cb50 cb51 cb52 cb5f
  clear cb70 cb71 cb72 cb7f
  by_cases hk0 : k0 = 0
  · subst hk0
    obtain ⟨hq1, hq2, hp1⟩ := hvalH.out rfl
    have hinj := hinjH.out rfl
    have hsum := hsumH.out rfl
    obtain ⟨_, qsb, qdb, _⟩ := pc_facts hq1
    obtain ⟨_, sb, db, _⟩ := pc_facts hp1
    have hIq := fun w h => impl_IsPicture A5 c5 qt qs qd w h (by omega)
    rw [hq1] at hIq
    have hIqH := Lib.hid hIq
    have hq2H := Lib.hid hq2
    have hinH := Lib.hid hinj
    have hsuH := Lib.hid hsum
    have hgp := gvn_le (ps := ps)
    clear hIq hq1 hq2 hp1 hinj hsum hvalH hinjH hsumH
    go_wp2_with fail
    go_loopw [17, 18] (fun g i wr => ∃ k : Nat, k ≤ ps.length ∧ i = .int .i64 k ∧ g = .int .i64 (gvn (ps.take k) : Int) ∧ Below w12.heap.size w12 wr) (fun _ i _ => ps.length - (intOf i).toNat)
    case atStart => exact ⟨0, Nat.zero_le _, rfl, by simp [gvn], Below.refl _ _⟩
    case round =>
      obtain ⟨k, hk, rfl, rfl, hbr⟩ := hrel
      by_cases hlt : k < ps.length
      · obtain ⟨z, hz⟩ := get_of_lt hlt
        obtain ⟨b, o, rfl, hbB, hc⟩ := I64.at_ (I64.up r11 hbr) hz
        have p0 : (0 : Int) ≤ (k : Int) := by omega
        have p1 : (k : Int) < (ps.length : Int) := by omega
        by_cases hz0 : z < 0
        · have e1 := Lib.hid (gvn_no hz hz0)
          clear hz
          go_wp2_with fail
          go_roundw
          case rel => exact ⟨k + 1, by omega, by go_num, by rw [e1.out], hbr⟩
          case measure => simp [intOf]; omega
        · have e1 := Lib.hid (gvn_yes hz (by omega))
          have hg6 : gvn (ps.take k) ≤ 6 := Nat.le_trans gvn_le (by rw [List.length_take]; omega)
          have hzH := Lib.hid hz
          clear hz
          go_wp2_with fail
          go_loopw [19] (fun j wq => ∃ i : Nat, i ≤ k ∧ j = .int .i64 i ∧ Below w12.heap.size w12 wq) (fun j _ => k - (intOf j).toNat)
          case atStart => exact ⟨0, Nat.zero_le _, rfl, hbr⟩
          case round =>
            obtain ⟨i, hi, rfl, hbq⟩ := hrel
            by_cases hik : i < k
            · obtain ⟨y, hy⟩ := get_of_lt (xs := ps) (k := i) (by omega)
              obtain ⟨b1, o1, e', _, hcy⟩ := I64.at_ (I64.up r11 hbq) hy
              obtain ⟨rfl, rfl⟩ : b = b1 ∧ o = o1 := by simpa using e'
              obtain ⟨b1, o1, e'', _, hcz⟩ := I64.at_ (I64.up r11 hbq) hzH.out
              obtain ⟨rfl, rfl⟩ : b = b1 ∧ o = o1 := by simpa using e''
              have hyz : (y == z) = false := by
                rw [beq_eq_false_iff_ne]
                intro e
                subst e
                have := hinH.out k i y hik hy hzH.out
                omega
              have q0 : (0 : Int) ≤ (i : Int) := by omega
              have q1 : (i : Int) < (ps.length : Int) := by omega
              have q2 : (i : Int) < (k : Int) := by omega
              clear hy e' e''
              go_wp2_with fail
              go_quiet (fail)
              go_wp2_with fail
              go_roundw
              case rel => exact ⟨i + 1, by omega, by go_num, by exact bgr⟩
              case measure => simp [intOf]; omega
            · obtain rfl : i = k := by omega
              go_wp2_with fail
              go_roundw
              case rel => exact ⟨i + 1, by omega, by go_num, by rw [e1.out]; go_num, hbq⟩
              case measure => simp [intOf]; omega
      · obtain rfl : k = ps.length := by omega
        have b3 := b3.next hbr
        have b5 := b5.next hbr
        have r5 := T64.up r5 hbr
        have B : Below w.heap.size w wr := B.trans (hbr.mono B.size)
        have e2 : (qs == s + 1) = true := by rw [hq2H.out]; simp
        clear hbr
        have cb30 := b3.cell (j := 0) rfl
        have cb31 := b3.cell (j := 1) rfl
        have cb32 := b3.cell (j := 2) rfl
        have cb3f := b3.fz
        have cb50 := b5.cell (j := 0) rfl
        have cb51 := b5.cell (j := 1) rfl
        have cb52 := b5.cell (j := 2) rfl
        have cb5f := b5.fz
        have eg : gvn (ps.take ps.length) = gvn ps := by rw [List.take_length]
        rw [eg]
        have egH := Lib.hid hsuH.out
        clear eg hsuH hq2H hinH
        have sw : IntKind.i64.wrap (s + 1) = s + 1 := IntWalk.i64_in _ (by omega)
        by_cases hqd : qd = 360
        · have e3 : (qd == 360) = true := by simp [hqd]
          clear hqd
          go_wp2_with (go_at_call 14; ((with_reducible refine (hIqH.out _ (T64.up r5 (by exact bgr))).mono ?_); rintro e w13 ⟨rfl, hb13⟩; have b3 := b3.next hb13; have b5 := b5.next hb13; have cb31 := b3.cell (j := 1) rfl; have cb51 := b5.cell (j := 1) rfl; have cb52 := b5.cell (j := 2) rfl))
          go_returns
          exact ⟨rfl, by exact bgr⟩
        · have e3 : (qd == 360) = false := by simp [hqd]
          have e4 : (((gvn ps : Nat) : Int) + (ns.length : Int) + (qd - d) == (cs.length : Int)) = true := by
            rcases egH.out with h | h
            · exact absurd h hqd
            · rw [h]; simp
          clear hqd
          go_wp2_with (go_at_call 14; ((with_reducible refine (hIqH.out _ (T64.up r5 (by exact bgr))).mono ?_); rintro e w13 ⟨rfl, hb13⟩; have b3 := b3.next hb13; have b5 := b5.next hb13; have cb31 := b3.cell (j := 1) rfl; have cb51 := b5.cell (j := 1) rfl; have cb52 := b5.cell (j := 2) rfl))
          go_returns
          exact ⟨rfl, by exact bgr⟩
  · have e0 : (k0 != 0) = true := by simp [hk0]
    go_wp2_with fail
    go_returns
    exact ⟨rfl, B⟩
end Go.Proofs.Ytinpfmbilibgfaa
namespace Go.Proofs.Ytinpfmbilibgfaa.fnPictures
open Go.ChangeShapes Go.WideShapes Go.ChangeAt Go.RowKit
open Go.ChangeMaps (open_string)
set_option linter.unusedVariables false
set_option maxRecDepth 100000 in
theorem lifted (os : Os) (started : os.Started) (H : Type) (enc : TypeId × Value → H) :
    ReturnsInHanded {} Try.checked os 3 .any (Rows.fnPicturesSpec.pre6 enc Try.prog Try.f3 Rows.fnPicturesRow.domain false) (Rows.fnPicturesSpec.post enc Try.prog Try.f3 false true false false) := by
  refine returnsInHanded_of_change (C := Try.checked) own started (by kernel_rfl) Try.func3
    (ChangeSpec.witness6 (enc := enc) (C := Try.checked) false ⟨#[], #[.slice none 0 0], []⟩ 8 (by kernel_rfl) (by kernel_rfl) (by kernel_rfl) (by kernel_rfl)) ?_
  intro W base args ds gs before hval0 hW hcnd _
  have hval := hval0
  clear hval0
  obtain ⟨p, q, hA, hV, hbf, hfz, hnd⟩ := id hW
  rw [Try.params3] at hA hval
  obtain ⟨v0, vs0, d0, ds0, p0, q0, hargs, rfl, rfl, h0, r0⟩ := trodAll_cons hA
  obtain ⟨rfl, rfl, rfl⟩ := trodAll_nil r0
  obtain rfl : args = #[v0] := by cases args; simp_all
  obtain ⟨rfl, rfl⟩ := trodVars_none hV
  clear hV hnd hbf hcnd
  obtain ⟨A0, k0, x0, rfl, z0, f0, l0⟩ := open_U8 Try.underlying22 Try.underlying5 (by kernel_rfl) (hval 0 22 v0 rfl rfl) h0
  refine (walk_Pictures _ _ _ W z0 f0).mono fun e W' ⟨he, hb⟩ => ?_
  subst he
  exact ⟨_, rfl, law_post laidOut (by kernel_rfl) rfl Try.underlying4 rfl rfl hW hb⟩
end Go.Proofs.Ytinpfmbilibgfaa.fnPictures
namespace Go.Proofs.Ytinpfmbilibgfaa.fnPictures
theorem over : Rows.fnPicturesRow.holds Try.pinned (OpenSpec.ofChange Rows.fnPicturesSpec) :=
  OpenClaim.holds_of_wide 3 Try.f3 rfl rfl rfl rfl rfl rfl rfl ⟨rfl, rfl, rfl, rfl, rfl⟩ rfl rfl rfl rfl rfl (by kernel_rfl) Try.func3 (by kernel_rfl)
    (of_decide_eq_true (by kernel_rfl)) (by unfold Func.isWrapper; first | (rw [if_pos (by decide +kernel)]; kernel_rfl) | (rw [if_neg (by decide +kernel)]; exact ⟨rfl, rfl⟩))
    (fun os started H enc _ => lifted os started H enc)

/-- The given statement. -/
theorem proved : Rows.FnPicturesSaid := over
#print axioms proved
end Go.Proofs.Ytinpfmbilibgfaa.fnPictures
