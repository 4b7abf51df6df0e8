/- Shrinking by 1 changes nothing, and no value of a shrunk mosaic lies outside of those of the mosaic: the law's walk. Printed by gen_shlaw.py. -/
import Derived.Test.YtdedmiennpbfcaaDrSi
import Derived.Test.YtdedmiennpbfcaaShP
import Derived.Test.YtdedmiennpbfcaaLike
import Derived.Test.YtdedmiennpbfcaaBig
import Derived.Deep.CutRange
import Derived.Deep.DeepCutAuto
namespace Go.Proofs.Ytdedmiennpbfcaa
open Go.RowKit Go.ChangeShapes Go.WideShapes Go.ChangeAt
set_option linter.unusedVariables false
set_option linter.unusedSimpArgs false
set_option maxRecDepth 100000 in
set_option maxHeartbeats 1600000 in
theorem laws_likeMos (p q : Int) (A1 A2 B1 B2 : Option Addr) (c1 c2 d1 d2 : Nat) (xs ys : List Int) (w : World) (h1 : I64 w w.heap.size A1 xs) (h2 : I64 w w.heap.size A2 ys) (h3 : I64 w w.heap.size B1 xs) (h4 : I64 w w.heap.size B2 ys) (hl : xs.length ≤ 9223372036854775807) (hm : ys.length ≤ 9223372036854775807) :
    Calls Try.prog 11 #[.agg #[.int .i64 p, .int .i64 q, .slice A1 xs.length c1, .slice A2 ys.length c2], .agg #[.int .i64 p, .int .i64 q, .slice B1 xs.length d1, .slice B2 ys.length d2]] w fun e w' => e = .returned (.bool true) ∧ Below w.heap.size w w' := by
  have l1 := fun w (a : I64 w w.heap.size A1 xs) (b : I64 w w.heap.size B1 xs) => laws_likeInts A1 B1 c1 d1 xs xs w a b hl hl
  have l2 := fun w (a : I64 w w.heap.size A2 ys) (b : I64 w w.heap.size B2 ys) => laws_likeInts A2 B2 c2 d2 ys ys w a b hm hm
  rw [show decide (xs = xs) = true by simp] at l1
  rw [show decide (ys = ys) = true by simp] at l2
  have l1H := Lib.hid l1
  have l2H := Lib.hid l2
  clear l1 l2
  go_enter Try.func11, Try.ntmps11
  go_wp2_with fail
  refine calls_gen (fun W0 hW0 => ?_)
  have a : VBox W0 26 w.heap.size [.int .i64 p, .int .i64 q, .slice A1 xs.length c1, .slice A2 ys.length c2] := by rw [hW0]; exact VBox.alloc (VBox.new (w := w) rfl) _
  have b : VBox W0 26 (w.heap.size + 1) [.int .i64 p, .int .i64 q, .slice B1 xs.length d1, .slice B2 ys.length d2] := by rw [hW0]; exact VBox.new (w := w.alloc _) (by simp)
  have B : Below w.heap.size w W0 := by rw [hW0]; exact Below.new (Below.new (Below.refl _ _) _) _
  clear hW0
  refine (l1H.out _ (Rd.up h1 B) (Rd.up h3 B)).mono ?_
  rintro e w1 ⟨rfl, hb1⟩
  have a := a.next hb1
  have b := b.next hb1
  have B : Below w.heap.size w w1 := B.trans (hb1.mono B.size)
  clear hb1
  have a0 := a.cell (j := 0) rfl
  have b0 := b.cell (j := 0) rfl
  have a1 := a.cell (j := 1) rfl
  have b1 := b.cell (j := 1) rfl
  have a2 := a.cell (j := 2) rfl
  have b2 := b.cell (j := 2) rfl
  have a3 := a.cell (j := 3) rfl
  have b3 := b.cell (j := 3) rfl
  go_wp2_with fail
  refine (l2H.out _ (Rd.up h2 B) (Rd.up h4 B)).mono ?_
  rintro e w2 ⟨rfl, hb2⟩
  have B : Below w.heap.size w w2 := B.trans (hb2.mono B.size)
  go_wp2_with fail
  all_goals go_returns
  all_goals exact ⟨rfl, B⟩
set_option maxHeartbeats 6400000 in
set_option maxRecDepth 100000 in
theorem walk_Shrunk (A : Option Addr) (c : Nat) (code : List Int) (w : World) (hr : U8 w w.heap.size A code) (hb : ∀ x ∈ code, 0 ≤ x ∧ x ≤ 255) :
    Calls Try.prog 3 #[.slice A code.length c] w fun e w' => e = .returned (.bool true) ∧ Below w.heap.size w w' := by
  by_cases hl : ¬ code.length ≤ 4096
  · have hl2 : (4096 : Int) < (code.length : Int) := by omega
    go_enter Try.func3, Try.ntmps3
    go_wp2_with (first | (go_at_call 4; refine (laws_big _ _ _ _).mono ?_; rintro e w' ⟨rfl, rfl⟩) | fail)
    all_goals go_returns
    all_goals exact ⟨rfl, Below.refl _ _⟩
  have hl : code.length ≤ 4096 := by omega
  have hl2 : ¬ (4096 : Int) < (code.length : Int) := by omega
  have B : Below w.heap.size w w := Below.refl _ _
  have hrH := Lib.hid hr
  have hbH := Lib.hid hb
  clear hr hb
  go_enter Try.func3, Try.ntmps3
  go_wp2_with (first | (go_at_call 4; refine (laws_big _ _ _ _).mono ?_; rintro e w' ⟨rfl, rfl⟩) | fail)
  refine (spec_DrawShrinkMosaic _ _ _ _ hrH.out hbH.out hl).mono ?_
  rintro e w1 ⟨p, q, A1, c1, A2, c2, xs, ys, k, rfl, rx, ry, lx, ly, hb1⟩
  have B : Below w.heap.size w w1 := B.trans hb1
  clear hb1
  go_wp2_with fail
  refine calls_gen (fun W1 hW1 => ?_)
  have b3 : VBox W1 26 (w1.heap.size) [.int .i64 (p), .int .i64 (q), .slice A1 (xs).length c1, .slice A2 (ys).length c2] := by rw [hW1]; exact VBox.new rfl
  have rx : I64 W1 W1.heap.size A1 xs := by rw [hW1]; exact Rd.up rx (Below.new (Below.refl _ _) _)
  have ry : I64 W1 W1.heap.size A2 ys := by rw [hW1]; exact Rd.up ry (Below.new (Below.refl _ _) _)
  have B : Below w.heap.size w W1 := by rw [hW1]; exact Below.new B _
  clear hW1
  obtain ⟨vs, hvs⟩ : ∃ z, z = vSh p q k xs ys := ⟨_, rfl⟩
  obtain ⟨gs, hgs⟩ : ∃ z, z = gSh p q k xs ys := ⟨_, rfl⟩
  obtain ⟨ap, hap⟩ : ∃ z, z = aSh p q k xs ys p := ⟨_, rfl⟩
  obtain ⟨aq, haq⟩ : ∃ z, z = aSh p q k xs ys q := ⟨_, rfl⟩
  obtain ⟨cd, hcd⟩ : ∃ z, z = cSh p q k xs ys := ⟨_, rfl⟩
  have hI := fun w h1 h2 => impl_Shrink_all p q k A1 A2 c1 c2 xs ys w h1 h2 (by omega) (by omega)
  have hS := fun w h1 h2 => spec_Shrink_all p q k A1 A2 c1 c2 xs ys w h1 h2 (by omega) (by omega)
  have hln := sh_len (p := p) (q := q) (k := k) (xs := xs) (ys := ys)
  rw [← hvs, ← hgs] at hln
  obtain ⟨lv, lg⟩ := hln
  rw [← hvs, ← hgs, ← hap, ← haq, ← hcd] at hI hS
  have hIH := Lib.hid hI
  have hSH := Lib.hid hS
  have hvsH := Lib.hid hvs
  have hgsH := Lib.hid hgs
  have hapH := Lib.hid hap
  have haqH := Lib.hid haq
  have hcdH := Lib.hid hcd
  clear hI hS hvs hgs hap haq hcd
  refine (hIH.out _ rx ry).mono ?_
  rintro e w2 ⟨v5, u5, rfl, ov5, ou5, _, hb2⟩
  obtain ⟨Av5, cv5, rfl, _⟩ := id ov5
  obtain ⟨Au5, cu5, rfl, _⟩ := id ou5
  have rv5 := ov5.reads.2
  have ru5 := ou5.reads.2
  clear ov5 ou5
  have b3 := b3.next hb2
  have rx : I64 w2 w2.heap.size A1 xs := Rd.up rx hb2
  have ry : I64 w2 w2.heap.size A2 ys := Rd.up ry hb2
  have B : Below w.heap.size w w2 := B.trans (hb2.mono B.size)
  clear hb2
  have cb30 := b3.cell (j := 0) rfl
  have cb31 := b3.cell (j := 1) rfl
  have cb32 := b3.cell (j := 2) rfl
  have cb33 := b3.cell (j := 3) rfl
  have cb3f := b3.fz
  have abb30 : ∀ ob, (w2.alloc ob).cell? ⟨w1.heap.size, 0, none⟩ = some (.int .i64 (p)) := fun ob => bx_alloc cb30
  have abb31 : ∀ ob, (w2.alloc ob).cell? ⟨w1.heap.size, 1, none⟩ = some (.int .i64 (q)) := fun ob => bx_alloc cb31
  have abb32 : ∀ ob, (w2.alloc ob).cell? ⟨w1.heap.size, 2, none⟩ = some (.slice A1 (xs).length c1) := fun ob => bx_alloc cb32
  have abb33 : ∀ ob, (w2.alloc ob).cell? ⟨w1.heap.size, 3, none⟩ = some (.slice A2 (ys).length c2) := fun ob => bx_alloc cb33
  go_wp2_with fail
  clear abb30 abb31 abb32 abb33
  clear cb30 cb31 cb32 cb33 cb3f
  refine calls_gen (fun W2 hW2 => ?_)
  have b5 : VBox W2 26 (w2.heap.size) [.int .i64 (ap), .int .i64 (aq), .slice Av5 (vs).length cv5, .slice Au5 (gs).length cu5] := by rw [hW2]; exact VBox.new rfl
  have b3 : VBox W2 26 (w1.heap.size) [.int .i64 (p), .int .i64 (q), .slice A1 (xs).length c1, .slice A2 (ys).length c2] := by rw [hW2]; exact b3.alloc _
  have rx : I64 W2 W2.heap.size A1 xs := by rw [hW2]; exact Rd.up rx (Below.new (Below.refl _ _) _)
  have ry : I64 W2 W2.heap.size A2 ys := by rw [hW2]; exact Rd.up ry (Below.new (Below.refl _ _) _)
  have rv5 : I64 W2 W2.heap.size Av5 vs := by rw [hW2]; exact Rd.up rv5 (Below.new (Below.refl _ _) _)
  have ru5 : I64 W2 W2.heap.size Au5 gs := by rw [hW2]; exact Rd.up ru5 (Below.new (Below.refl _ _) _)
  have B : Below w.heap.size w W2 := by rw [hW2]; exact Below.new B _
  clear hW2
  refine (hSH.out _ rx ry).mono ?_
  rintro e w3 ⟨v7, u7, rfl, ov7, ou7, hb3⟩
  obtain ⟨Av7, cv7, rfl, _⟩ := id ov7
  obtain ⟨Au7, cu7, rfl, _⟩ := id ou7
  have rv7 := ov7.reads.2
  have ru7 := ou7.reads.2
  clear ov7 ou7
  have b3 := b3.next hb3
  have b5 := b5.next hb3
  have rx : I64 w3 w3.heap.size A1 xs := Rd.up rx hb3
  have ry : I64 w3 w3.heap.size A2 ys := Rd.up ry hb3
  have rv5 : I64 w3 w3.heap.size Av5 vs := Rd.up rv5 hb3
  have ru5 : I64 w3 w3.heap.size Au5 gs := Rd.up ru5 hb3
  have B : Below w.heap.size w w3 := B.trans (hb3.mono B.size)
  clear hb3
  go_wp2_with fail
  refine calls_gen (fun W3 hW3 => ?_)
  have b7 : VBox W3 26 (w3.heap.size) [.int .i64 (ap), .int .i64 (aq), .slice Av7 (vs).length cv7, .slice Au7 (gs).length cu7] := by rw [hW3]; exact VBox.new rfl
  have b3 : VBox W3 26 (w1.heap.size) [.int .i64 (p), .int .i64 (q), .slice A1 (xs).length c1, .slice A2 (ys).length c2] := by rw [hW3]; exact b3.alloc _
  have b5 : VBox W3 26 (w2.heap.size) [.int .i64 (ap), .int .i64 (aq), .slice Av5 (vs).length cv5, .slice Au5 (gs).length cu5] := by rw [hW3]; exact b5.alloc _
  have rx : I64 W3 W3.heap.size A1 xs := by rw [hW3]; exact Rd.up rx (Below.new (Below.refl _ _) _)
  have ry : I64 W3 W3.heap.size A2 ys := by rw [hW3]; exact Rd.up ry (Below.new (Below.refl _ _) _)
  have rv5 : I64 W3 W3.heap.size Av5 vs := by rw [hW3]; exact Rd.up rv5 (Below.new (Below.refl _ _) _)
  have ru5 : I64 W3 W3.heap.size Au5 gs := by rw [hW3]; exact Rd.up ru5 (Below.new (Below.refl _ _) _)
  have rv7 : I64 W3 W3.heap.size Av7 vs := by rw [hW3]; exact Rd.up rv7 (Below.new (Below.refl _ _) _)
  have ru7 : I64 W3 W3.heap.size Au7 gs := by rw [hW3]; exact Rd.up ru7 (Below.new (Below.refl _ _) _)
  have B : Below w.heap.size w W3 := by rw [hW3]; exact Below.new B _
  clear hW3
  refine (spec_DrawCountKnown _ _ _ _ (Rd.up hrH.out B) hbH.out hl).mono ?_
  rintro e w4 ⟨p9, q9, A9, c9, E9, d9, xe, ye, rfl, re, se, le, me, hb4⟩
  have b3 := b3.next hb4
  have b5 := b5.next hb4
  have b7 := b7.next hb4
  have rx : I64 w4 w4.heap.size A1 xs := Rd.up rx hb4
  have ry : I64 w4 w4.heap.size A2 ys := Rd.up ry hb4
  have rv5 : I64 w4 w4.heap.size Av5 vs := Rd.up rv5 hb4
  have ru5 : I64 w4 w4.heap.size Au5 gs := Rd.up ru5 hb4
  have rv7 : I64 w4 w4.heap.size Av7 vs := Rd.up rv7 hb4
  have ru7 : I64 w4 w4.heap.size Au7 gs := Rd.up ru7 hb4
  have B : Below w.heap.size w w4 := B.trans (hb4.mono B.size)
  clear hb4
  go_wp2_with fail
  refine calls_gen (fun W4 hW4 => ?_)
  have b9 : VBox W4 26 (w4.heap.size) [.int .i64 (p9), .int .i64 (q9), .slice A9 (xe).length c9, .slice E9 (ye).length d9] := by rw [hW4]; exact VBox.new rfl
  have b3 : VBox W4 26 (w1.heap.size) [.int .i64 (p), .int .i64 (q), .slice A1 (xs).length c1, .slice A2 (ys).length c2] := by rw [hW4]; exact b3.alloc _
  have b5 : VBox W4 26 (w2.heap.size) [.int .i64 (ap), .int .i64 (aq), .slice Av5 (vs).length cv5, .slice Au5 (gs).length cu5] := by rw [hW4]; exact b5.alloc _
  have b7 : VBox W4 26 (w3.heap.size) [.int .i64 (ap), .int .i64 (aq), .slice Av7 (vs).length cv7, .slice Au7 (gs).length cu7] := by rw [hW4]; exact b7.alloc _
  have rx : I64 W4 W4.heap.size A1 xs := by rw [hW4]; exact Rd.up rx (Below.new (Below.refl _ _) _)
  have ry : I64 W4 W4.heap.size A2 ys := by rw [hW4]; exact Rd.up ry (Below.new (Below.refl _ _) _)
  have rv5 : I64 W4 W4.heap.size Av5 vs := by rw [hW4]; exact Rd.up rv5 (Below.new (Below.refl _ _) _)
  have ru5 : I64 W4 W4.heap.size Au5 gs := by rw [hW4]; exact Rd.up ru5 (Below.new (Below.refl _ _) _)
  have rv7 : I64 W4 W4.heap.size Av7 vs := by rw [hW4]; exact Rd.up rv7 (Below.new (Below.refl _ _) _)
  have ru7 : I64 W4 W4.heap.size Au7 gs := by rw [hW4]; exact Rd.up ru7 (Below.new (Below.refl _ _) _)
  have re : I64 W4 W4.heap.size A9 xe := by rw [hW4]; exact Rd.up re (Below.new (Below.refl _ _) _)
  have se : I64 W4 W4.heap.size E9 ye := by rw [hW4]; exact Rd.up se (Below.new (Below.refl _ _) _)
  have B : Below w.heap.size w W4 := by rw [hW4]; exact Below.new B _
  clear hW4
  obtain ⟨kn, hkn⟩ : ∃ z, z = (fKnown p9 q9 xe ye).1 := ⟨_, rfl⟩
  obtain ⟨kc, hkc⟩ : ∃ z, z = (fKnown p9 q9 xe ye).2 := ⟨_, rfl⟩
  have hI := fun w h1 h2 => impl_CountKnown p9 q9 A9 E9 c9 d9 xe ye w h1 h2 (by omega) (by omega)
  have hS := fun w h1 h2 => spec_CountKnown p9 q9 A9 E9 c9 d9 xe ye w h1 h2 (by omega) (by omega)
  rw [← hkn, ← hkc] at hI hS
  have hKI := Lib.hid hI
  have hKS := Lib.hid hS
  clear hI hS hkn hkc
  refine (hKI.out _ re se).mono ?_
  rintro e w5 ⟨rfl, hb5⟩
  have b3 := b3.next hb5
  have b5 := b5.next hb5
  have b7 := b7.next hb5
  have b9 := b9.next hb5
  have rx : I64 w5 w5.heap.size A1 xs := Rd.up rx hb5
  have ry : I64 w5 w5.heap.size A2 ys := Rd.up ry hb5
  have rv5 : I64 w5 w5.heap.size Av5 vs := Rd.up rv5 hb5
  have ru5 : I64 w5 w5.heap.size Au5 gs := Rd.up ru5 hb5
  have rv7 : I64 w5 w5.heap.size Av7 vs := Rd.up rv7 hb5
  have ru7 : I64 w5 w5.heap.size Au7 gs := Rd.up ru7 hb5
  have re : I64 w5 w5.heap.size A9 xe := Rd.up re hb5
  have se : I64 w5 w5.heap.size E9 ye := Rd.up se hb5
  have B : Below w.heap.size w w5 := B.trans (hb5.mono B.size)
  clear hb5
  have cb90 := b9.cell (j := 0) rfl
  have cb91 := b9.cell (j := 1) rfl
  have cb92 := b9.cell (j := 2) rfl
  have cb93 := b9.cell (j := 3) rfl
  have cb9f := b9.fz
  go_wp2_with fail
  clear cb90 cb91 cb92 cb93 cb9f
  refine (hKS.out _ re se).mono ?_
  rintro e w6 ⟨rfl, hb6⟩
  have b3 := b3.next hb6
  have b5 := b5.next hb6
  have b7 := b7.next hb6
  have b9 := b9.next hb6
  have rx : I64 w6 w6.heap.size A1 xs := Rd.up rx hb6
  have ry : I64 w6 w6.heap.size A2 ys := Rd.up ry hb6
  have rv5 : I64 w6 w6.heap.size Av5 vs := Rd.up rv5 hb6
  have ru5 : I64 w6 w6.heap.size Au5 gs := Rd.up ru5 hb6
  have rv7 : I64 w6 w6.heap.size Av7 vs := Rd.up rv7 hb6
  have ru7 : I64 w6 w6.heap.size Au7 gs := Rd.up ru7 hb6
  have re : I64 w6 w6.heap.size A9 xe := Rd.up re hb6
  have se : I64 w6 w6.heap.size E9 ye := Rd.up se hb6
  have B : Below w.heap.size w w6 := B.trans (hb6.mono B.size)
  clear hb6
  have n1 : (cd != cd) = false := by simp
  have n2 : (kc != kc) = false := by simp
  have n3 : (kn != kn) = false := by simp
  have cb50 := b5.cell (j := 0) rfl
  have cb51 := b5.cell (j := 1) rfl
  have cb52 := b5.cell (j := 2) rfl
  have cb53 := b5.cell (j := 3) rfl
  have cb5f := b5.fz
  have cb70 := b7.cell (j := 0) rfl
  have cb71 := b7.cell (j := 1) rfl
  have cb72 := b7.cell (j := 2) rfl
  have cb73 := b7.cell (j := 3) rfl
  have cb7f := b7.fz
  go_wp2_with fail
  refine (laws_likeMos ap aq Av5 Au5 Av7 Au7 cv5 cu5 cv7 cu7 vs gs _ rv5 ru5 rv7 ru7 (by omega) (by omega)).mono ?_
  rintro e w7 ⟨rfl, hb7⟩
  have b3 := b3.next hb7
  have b5 := b5.next hb7
  have b7 := b7.next hb7
  have b9 := b9.next hb7
  have rx : I64 w7 w7.heap.size A1 xs := Rd.up rx hb7
  have ry : I64 w7 w7.heap.size A2 ys := Rd.up ry hb7
  have rv5 : I64 w7 w7.heap.size Av5 vs := Rd.up rv5 hb7
  have ru5 : I64 w7 w7.heap.size Au5 gs := Rd.up ru5 hb7
  have rv7 : I64 w7 w7.heap.size Av7 vs := Rd.up rv7 hb7
  have ru7 : I64 w7 w7.heap.size Au7 gs := Rd.up ru7 hb7
  have re : I64 w7 w7.heap.size A9 xe := Rd.up re hb7
  have se : I64 w7 w7.heap.size E9 ye := Rd.up se hb7
  have B : Below w.heap.size w w7 := B.trans (hb7.mono B.size)
  clear hb7
  clear cb50 cb51 cb52 cb53 cb5f
  clear cb70 cb71 cb72 cb73 cb7f
  by_cases h0 : cd = 0
  · have hok : okSh p q k xs ys = true := by
      have h := hcdH.out
      rw [h0] at h
      unfold cSh at h
      unfold okSh
      split at h
      · rename_i hm
        split at h
        · rename_i hk; rw [hm, hk]; rfl
        · omega
      · omega
    have hm := (ok_parts hok).1
    have hokH := Lib.hid hok
    have hmH := Lib.hid hm
    have hsame := sh_same hm
    obtain ⟨s1, s2, s3, s4, s5⟩ := hsame
    have hI := fun w h1 h2 => impl_Shrink_all p q 1 A1 A2 c1 c2 xs ys w h1 h2 (by omega) (by omega)
    rw [s1, s2, s3, s4, s5] at hI
    have hI1 := Lib.hid hI
    have hlxy : ys.length = xs.length := (mos_facts hm).2.2.2.1
    have hlxyH := Lib.hid hlxy
    subst h0
    clear hI s1 s2 s3 s4 s5 hok hm hlxy hIH hSH hKI hKS rv7 ru7 re se b7 b9 n1 n2 n3
    have cb30 := b3.cell (j := 0) rfl
    have cb31 := b3.cell (j := 1) rfl
    have cb32 := b3.cell (j := 2) rfl
    have cb33 := b3.cell (j := 3) rfl
    have cb3f := b3.fz
    go_wp2_with fail
    refine (hI1.out _ rx ry).mono ?_
    rintro e w8 ⟨v14, u14, rfl, ov14, ou14, _, hb8⟩
    obtain ⟨Av14, cv14, rfl, _⟩ := id ov14
    obtain ⟨Au14, cu14, rfl, _⟩ := id ou14
    have rv14 := ov14.reads.2
    have ru14 := ou14.reads.2
    clear ov14 ou14
    have b3 := b3.next hb8
    have b5 := b5.next hb8
    have rx : I64 w8 w8.heap.size A1 xs := Rd.up rx hb8
    have ry : I64 w8 w8.heap.size A2 ys := Rd.up ry hb8
    have rv5 : I64 w8 w8.heap.size Av5 vs := Rd.up rv5 hb8
    have ru5 : I64 w8 w8.heap.size Au5 gs := Rd.up ru5 hb8
    have B : Below w.heap.size w w8 := B.trans (hb8.mono B.size)
    clear hb8
    clear cb30 cb31 cb32 cb33 cb3f
    go_wp2_with fail
    refine wp_gen (fun W8 hW8 => ?_)
    have b14 : VBox W8 26 (w8.heap.size) [.int .i64 (p), .int .i64 (q), .slice Av14 (xs).length cv14, .slice Au14 (ys).length cu14] := by rw [hW8]; exact VBox.new rfl
    have b3 : VBox W8 26 (w1.heap.size) [.int .i64 (p), .int .i64 (q), .slice A1 (xs).length c1, .slice A2 (ys).length c2] := by rw [hW8]; exact b3.alloc _
    have b5 : VBox W8 26 (w2.heap.size) [.int .i64 (ap), .int .i64 (aq), .slice Av5 (vs).length cv5, .slice Au5 (gs).length cu5] := by rw [hW8]; exact b5.alloc _
    have rx : I64 W8 W8.heap.size A1 xs := by rw [hW8]; exact Rd.up rx (Below.new (Below.refl _ _) _)
    have ry : I64 W8 W8.heap.size A2 ys := by rw [hW8]; exact Rd.up ry (Below.new (Below.refl _ _) _)
    have rv5 : I64 W8 W8.heap.size Av5 vs := by rw [hW8]; exact Rd.up rv5 (Below.new (Below.refl _ _) _)
    have ru5 : I64 W8 W8.heap.size Au5 gs := by rw [hW8]; exact Rd.up ru5 (Below.new (Below.refl _ _) _)
    have rv14 : I64 W8 W8.heap.size Av14 xs := by rw [hW8]; exact Rd.up rv14 (Below.new (Below.refl _ _) _)
    have ru14 : I64 W8 W8.heap.size Au14 ys := by rw [hW8]; exact Rd.up ru14 (Below.new (Below.refl _ _) _)
    have B : Below w.heap.size w W8 := by rw [hW8]; exact Below.new B _
    clear hW8
    have hloS : ∀ (i : Nat) (x y : Int), xs[i]? = some x → ys[i]? = some y → loK xs ys (i + 1) = (if 0 < y then min (loK xs ys i) x else loK xs ys i) ∧ hiK xs ys (i + 1) = (if 0 < y then max (hiK xs ys i) x else hiK xs ys i) := fun i x y hx hy => by
      rw [loK, hiK, show xs.getD i 0 = x by simp [List.getD, hx], show ys.getD i 0 = y by simp [List.getD, hy]]
      exact ⟨rfl, rfl⟩
    have hloH := Lib.hid hloS
    clear hloS
    have cb30 := b3.cell (j := 0) rfl
    have cb31 := b3.cell (j := 1) rfl
    have cb32 := b3.cell (j := 2) rfl
    have cb33 := b3.cell (j := 3) rfl
    have cb3f := b3.fz
    go_loop [16, 17, 18] (fun l9 h9 i9 => ∃ i : Nat, l9 = .int .i64 (loK xs ys i) ∧ h9 = .int .i64 (hiK xs ys i) ∧ i9 = .int .i64 i ∧ i ≤ xs.length) (fun _ _ i9 => xs.length - (intOf i9).toNat)
    case atStart => exact ⟨0, rfl, rfl, rfl, Nat.zero_le _⟩
    case round =>
      obtain ⟨i, rfl, rfl, rfl, hi⟩ := hrel
      by_cases hlt : i < xs.length
      · obtain ⟨x, hx⟩ := get_of_lt (xs := xs) (k := i) hlt
        obtain ⟨y, hy⟩ := get_of_lt (xs := ys) (k := i) (by have := hlxyH.out; omega)
        obtain ⟨b, o, rfl, hbx, hcx⟩ := I64.at_ rx hx
        obtain ⟨b2, o2, rfl, hby, hcy⟩ := I64.at_ ry hy
        have hst := hloH.out i x y hx hy
        obtain ⟨lo, hlo⟩ : ∃ z, z = loK xs ys i := ⟨_, rfl⟩
        obtain ⟨hh, hhh⟩ : ∃ z, z = hiK xs ys i := ⟨_, rfl⟩
        rw [← hlo, ← hhh] at hst ⊢
        obtain ⟨st1, st2⟩ := hst
        have st1H := Lib.hid st1
        have st2H := Lib.hid st2
        have p0 : (0 : Int) ≤ (i : Int) := by omega
        have p1 : (i : Int) < (xs.length : Int) := by omega
        have p2 : (i : Int) < (ys.length : Int) := by have := hlxyH.out; omega
        clear hx hy st1 st2 hlo hhh
        by_cases h0 : 0 < y
        · go_wp2_with fail
          all_goals (go_round; (case rel => exact ⟨i + 1, by rw [st1H.out, if_pos h0]; congr 1; omega, by rw [st2H.out, if_pos h0]; congr 1; omega, by go_num, by omega⟩); (case measure => simp [intOf]; omega))
        · go_wp2_with fail
          all_goals (go_round; (case rel => exact ⟨i + 1, by rw [st1H.out, if_neg h0], by rw [st2H.out, if_neg h0], by go_num, by omega⟩); (case measure => simp [intOf]; omega))
      · have hie : i = xs.length := by omega
        subst hie
        have hatS := fun (j : Nat) (v g : Int) (a : vs[j]? = some v) (b : gs[j]? = some g) => sh_at hokH.out (i := j) (v := v) (g := g) (by rw [← hvsH.out]; exact a) (by rw [← hgsH.out]; exact b)
        obtain ⟨lo, hlo⟩ : ∃ z, z = loK xs ys xs.length := ⟨_, rfl⟩
        obtain ⟨hh, hhh⟩ : ∃ z, z = hiK xs ys xs.length := ⟨_, rfl⟩
        rw [← hlo, ← hhh] at hatS ⊢
        have hatH := Lib.hid hatS
        have hlvg : gs.length = vs.length := by
          have := sh_mos hokH.out
          rw [← hvsH.out, ← hgsH.out] at this
          exact (mos_facts this).2.2.2.1
        have hlvgH := Lib.hid hlvg
        clear hatS hlo hhh hlvg hi hlt
        have cb50 := b5.cell (j := 0) rfl
        have cb51 := b5.cell (j := 1) rfl
        have cb52 := b5.cell (j := 2) rfl
        have cb53 := b5.cell (j := 3) rfl
        have cb5f := b5.fz
        go_wp2_with fail
        go_loop [19] (fun i9 => ∃ i : Nat, i9 = .int .i64 i ∧ i ≤ vs.length) (fun i9 => vs.length - (intOf i9).toNat)
        case atStart => exact ⟨0, rfl, Nat.zero_le _⟩
        case round =>
          obtain ⟨i, rfl, hi⟩ := hrel
          by_cases hlt : i < vs.length
          · obtain ⟨v, hv⟩ := get_of_lt (xs := vs) (k := i) hlt
            obtain ⟨g, hg⟩ := get_of_lt (xs := gs) (k := i) (by have := hlvgH.out; omega)
            obtain ⟨b, o, rfl, hbx, hcx⟩ := I64.at_ rv5 hv
            obtain ⟨b2, o2, rfl, hby, hcy⟩ := I64.at_ ru5 hg
            have hat := hatH.out i v g hv hg
            have p0 : (0 : Int) ≤ (i : Int) := by omega
            have p1 : (i : Int) < (vs.length : Int) := by omega
            have p2 : (i : Int) < (gs.length : Int) := by have := hlvgH.out; omega
            clear hv hg
            by_cases h0 : 0 < g
            · have q1 : ¬ v < lo := by omega
              have q2 : ¬ hh < v := by omega
              clear hat
              go_wp2_with fail
              all_goals (go_round; (case rel => exact ⟨i + 1, by go_num, by omega⟩); (case measure => simp [intOf]; omega))
            · clear hat
              go_wp2_with fail
              all_goals (go_round; (case rel => exact ⟨i + 1, by go_num, by omega⟩); (case measure => simp [intOf]; omega))
          · have hMx : mosB ap aq vs gs = true := by
              have := sh_mos hokH.out
              rw [← hvsH.out, ← hgsH.out, ← hapH.out, ← haqH.out] at this
              exact this
            have hMxH := Lib.hid hMx
            clear hMx hi
            have cb140 := b14.cell (j := 0) rfl
            have cb141 := b14.cell (j := 1) rfl
            have cb142 := b14.cell (j := 2) rfl
            have cb143 := b14.cell (j := 3) rfl
            have cb14f := b14.fz
            go_wp2_with fail
            refine (laws_likeMos p q Av14 Au14 A1 A2 cv14 cu14 c1 c2 xs ys _ rv14 ru14 rx ry (by omega) (by omega)).mono ?_
            rintro e w9 ⟨rfl, hb9⟩
            have b5 := b5.next hb9
            have rv5 := Rd.up rv5 hb9
            have ru5 := Rd.up ru5 hb9
            have B : Below w.heap.size w w9 := B.trans (hb9.mono B.size)
            clear hb9 cb50 cb51 cb52 cb53 cb5f
            have cb50 := b5.cell (j := 0) rfl
            have cb51 := b5.cell (j := 1) rfl
            have cb52 := b5.cell (j := 2) rfl
            have cb53 := b5.cell (j := 3) rfl
            have cb5f := b5.fz
            go_wp2_with fail
            refine (impl_IsMosaic ap aq Av5 Au5 cv5 cu5 vs gs _ rv5 ru5 (by omega) (by omega)).mono ?_
            rintro e w10 ⟨rfl, hb10⟩
            rw [hMxH.out]
            have B : Below w.heap.size w w10 := B.trans (hb10.mono B.size)
            go_wp2_with fail
            all_goals go_returns
            all_goals exact ⟨rfl, B⟩
  · have e0 : (cd != 0) = true := by simpa using h0
    go_wp2_with fail
    all_goals go_returns
    all_goals exact ⟨rfl, B⟩
end Go.Proofs.Ytdedmiennpbfcaa
