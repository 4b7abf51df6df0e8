/- Running scans in order is stepping through them, and trails have texts; the library's table of powers of ten lies as its initialiser lays it (tied to the program's text). Several texts in one: LScans, RScans, SScans. Printed by mergeclaim.py. -/
import Derived.Test.YthbljfanoaibkaaGreatDoorMDr
import Derived.Test.YthbljfanoaibkaaGreatDoorMLk
import Derived.Test.YthbljfanoaibkaaGreatDoorMSt
import Derived.Test.YthbljfanoaibkaaGreatDoorMTt
import Derived.Test.YthbljfanoaibkaaGreatDoorMStr
import Derived.LaidMore
import Derived.Stop.Joined
import Derived.Test.YthbljfanoaibkaaGreatDoorCards
import Derived.Test.YthbljfanoaibkaaGreatDoorTie
import Derived.SevenTiedAt
namespace Go.Proofs.YthbljfanoaibkaaGreatDoor
open Go.RowKit Go.ChangeShapes Go.WideShapes Go.ChangeAt
set_option linter.unusedVariables false
set_option linter.unusedSimpArgs false
theorem bne_selfS (T : ByteArray) : (T != T) = false := by
  rcases T with ⟨d⟩
  show (!(d == d)) = false
  simp
/-- a scan of a run that is allowed may be stepped through -/
theorem step_code {css : List Cts} {k : Nat} {cs : Cts} (h : scCode 60 css = 0) (hx : css[k]? = some cs) : spCode (rpk css k).1 (k : Int) (rpk css k).2 cs = 0 := by
  obtain ⟨h1, h2, h3⟩ := scCode_ok h
  have hk := lt_of_get hx
  have hp := rpk_ok h1 (by omega) k (by omega)
  have hc := cssB_of h1 hx
  have h6 : cs.length ≤ 6 := manyB_of h2 hx
  have h4 : pnCode (rpk css k).1 (k : Int) (rpk css k).2 cs = 0 := by unfold pnCode; rw [hp, hc]; simp; omega
  unfold spCode
  rw [if_pos h4, if_neg (by omega)]
/-- behind a step: the box of the picture, the box of the next one, and the next one's trails -/
def Nx (wr : World) (X : Nat) (l : List Value) (Y : Nat) (l' : List Value) (v : Value) (tn : List Tr) (W : World) : Prop :=
  VBox W 28 X l ∧ VBox W 28 Y l' ∧ OwnT W wr.heap.size W.heap.size v tn ∧ Below wr.heap.size wr W ∧ X < Y
theorem Nx.one {wr w14 : World} {X : Nat} {l l' : List Value} {v : Value} {tn : List Tr} (vb : VBox wr 28 X l) (hb : Below wr.heap.size wr w14) (o5 : OwnT w14 wr.heap.size w14.heap.size v tn) : Nx wr X l w14.heap.size l' v tn (w14.alloc (.cells l'.toArray 28)) :=
  ⟨(vb.next hb).alloc _, VBox.new rfl, OwnS.top (OwnS.next o5 (Below.new (Below.refl _ _) _)), hb.trans (Below.mono (Below.new (Below.refl w14.heap.size w14) _) hb.size), (vb.next hb).lt⟩
theorem Nx.two {wr w14 : World} {X : Nat} {l : List Value} {v a b c z0 z1 z2 : Value} {tn : List Tr} (vb : VBox wr 28 X l) (hb : Below (wr.alloc (.cells #[z0, z1, z2] 28)).heap.size (wr.alloc (.cells #[z0, z1, z2] 28)) w14) (o5 : OwnT w14 (wr.alloc (.cells #[z0, z1, z2] 28)).heap.size w14.heap.size v tn) : Nx wr X l wr.heap.size [a, b, c] v tn (((w14.setCell ⟨wr.heap.size, 0, none⟩ a).setCell ⟨wr.heap.size, 1, none⟩ b).setCell ⟨wr.heap.size, 2, none⟩ c) := by
  have hX := vb.lt
  have hn : wr.heap.size ≠ X := by omega
  have hs : (wr.alloc (.cells #[z0, z1, z2] 28)).heap.size = wr.heap.size + 1 := by simp
  have nb : VBox (wr.alloc (.cells [z0, z1, z2].toArray 28)) 28 wr.heap.size [z0, z1, z2] := VBox.new rfl
  have nb2 := nb.next hb
  have o6 := OwnS.mono (lo' := wr.heap.size + 1) (hi' := w14.heap.size) o5 (by omega) (Nat.le_refl _)
  refine ⟨((((vb.alloc _).next hb).far hn).far hn).far hn, ((nb2.set 0 a).set 1 b).set 2 c, OwnS.top (OwnS.mono (hi' := w14.heap.size) (OwnS.off1 (OwnS.off1 (OwnS.off1 o6 (by omega)) (by omega)) (by omega)) (by omega) (Nat.le_refl _)), ?_, hX⟩
  have b1 : Below wr.heap.size wr w14 := (Below.new (Below.refl wr.heap.size wr) _).trans (hb.mono (by omega))
  exact ((b1.setCell (Nat.le_refl _) a).setCell (Nat.le_refl _) b).setCell (Nat.le_refl _) c
set_option maxHeartbeats 6400000 in
set_option maxRecDepth 100000 in
theorem walk_Scans (A : Option Addr) (c : Nat) (code : List Int) (w : World) (hr : U8 w w.heap.size A code) (hb : ∀ x ∈ code, 0 ≤ x ∧ x ≤ 255) (ht : Pow w) :
    Calls Tryz.prog 3 #[.slice A code.length c] w fun e w' => e = .returned (.bool true) ∧ Below w.heap.size w w' := by
  by_cases hl : ¬ code.length ≤ 4096
  · have hl2 : (4096 : Int) < (code.length : Int) := by omega
    go_enter Tryz.func3, Tryz.ntmps3
    go_wp2_with (first | (go_at_call 4; refine (laws_big _ _ _ _).mono ?_; rintro e w' ⟨rfl, rfl⟩) | fail)
    all_goals go_returns
    all_goals exact ⟨rfl, Below.refl _ _⟩
  have hl : code.length ≤ 4096 := by omega
  have hl2 : ¬ (4096 : Int) < (code.length : Int) := by omega
  have B : Below w.heap.size w w := Below.refl _ _
  have hrH := Lib.hid hr
  have hbH := Lib.hid hb
  have htH := Lib.hid ht
  clear hr hb ht
  go_enter Tryz.func3, Tryz.ntmps3
  go_wp2_with (first | (go_at_call 4; refine (laws_big _ _ _ _).mono ?_; rintro e w' ⟨rfl, rfl⟩) | fail)
  refine (spec_DrawRunPicture _ _ _ _ hrH.out hbH.out hl).mono ?_
  rintro e w1 ⟨A1, c1, css, rfl, rL, lL, hL, hb1⟩
  have B : Below w.heap.size w w1 := B.trans hb1
  clear hb1
  go_wp2_with fail
  obtain ⟨qt, hqt⟩ : ∃ z, z = rpT css := ⟨_, rfl⟩
  obtain ⟨qs, hqs⟩ : ∃ z, z = rpS css := ⟨_, rfl⟩
  obtain ⟨qd, hqd⟩ : ∃ z, z = rpD css := ⟨_, rfl⟩
  obtain ⟨k0, hk0⟩ : ∃ z, z = scCode 60 css := ⟨_, rfl⟩
  have lq := rpT_len (css := css)
  have hRI := fun w h1 => impl_RunPicture A1 c1 css w h1 (by omega) (fun i cs h => by have := hL i cs h; omega)
  have hRS := fun w h1 => spec_RunPicture A1 c1 css w h1 (by omega) (fun i cs h => by have := hL i cs h; omega)
  rw [← hqt, ← hqs, ← hqd, ← hk0] at hRI hRS
  rw [← hqt] at lq
  have hRIH := Lib.hid hRI
  have hRSH := Lib.hid hRS
  have hLH := Lib.hid hL
  have hqtH := Lib.hid hqt
  have hqsH := Lib.hid hqs
  have hqdH := Lib.hid hqd
  have hk0H := Lib.hid hk0
  clear hRI hRS hL hqt hqs hqd hk0
  refine (hRIH.out _ rL).mono ?_
  rintro e w2 ⟨v4, rfl, o4, hw2⟩
  obtain ⟨A4, c4, rfl⟩ := OwnS.form o4
  have r4 := OwnS.rdT o4
  clear o4
  have rL : CC64 w2 w2.heap.size A1 css := CC64.up rL hw2
  have B : Below w.heap.size w w2 := B.trans (hw2.mono B.size)
  clear hw2
  go_wp2_with fail
  refine calls_gen (fun W2 hW2 => ?_)
  have b4 : VBox W2 28 (w2.heap.size) [.slice A4 qt.length c4, .int .i64 qs, .int .i64 qd] := by rw [hW2]; exact VBox.new rfl
  have rL : CC64 W2 W2.heap.size A1 css := by rw [hW2]; exact CC64.up rL (Below.new (Below.refl _ _) _)
  have r4 : T64 W2 W2.heap.size A4 qt := by rw [hW2]; exact T64.up r4 (Below.new (Below.refl _ _) _)
  have B : Below w.heap.size w W2 := by rw [hW2]; exact Below.new B _
  clear hW2
  refine (hRSH.out _ rL).mono ?_
  rintro e w3 ⟨v6, rfl, o6, hw3⟩
  obtain ⟨A6, c6, rfl⟩ := OwnS.form o6
  have r6 := OwnS.rdT o6
  clear o6
  have b4 := b4.next hw3
  have rL : CC64 w3 w3.heap.size A1 css := CC64.up rL hw3
  have r4 : T64 w3 w3.heap.size A4 qt := T64.up r4 hw3
  have B : Below w.heap.size w w3 := B.trans (hw3.mono B.size)
  clear hw3
  have cb40 := b4.cell (j := 0) rfl
  have cb41 := b4.cell (j := 1) rfl
  have cb42 := b4.cell (j := 2) rfl
  have cb4f := b4.fz
  have abb40 : ∀ ob, (w3.alloc ob).cell? ⟨w2.heap.size, 0, none⟩ = some (.slice A4 qt.length c4) := fun ob => bx_alloc cb40
  have abb41 : ∀ ob, (w3.alloc ob).cell? ⟨w2.heap.size, 1, none⟩ = some (.int .i64 qs) := fun ob => bx_alloc cb41
  have abb42 : ∀ ob, (w3.alloc ob).cell? ⟨w2.heap.size, 2, none⟩ = some (.int .i64 qd) := fun ob => bx_alloc cb42
  go_wp2_with fail
  clear abb40 abb41 abb42
  clear cb40 cb41 cb42 cb4f
  refine calls_gen (fun W3 hW3 => ?_)
  have b6 : VBox W3 28 (w3.heap.size) [.slice A6 qt.length c6, .int .i64 qs, .int .i64 qd] := by rw [hW3]; exact VBox.new rfl
  have b4 : VBox W3 28 (w2.heap.size) [.slice A4 qt.length c4, .int .i64 qs, .int .i64 qd] := by rw [hW3]; exact b4.alloc _
  have rL : CC64 W3 W3.heap.size A1 css := by rw [hW3]; exact CC64.up rL (Below.new (Below.refl _ _) _)
  have r4 : T64 W3 W3.heap.size A4 qt := by rw [hW3]; exact T64.up r4 (Below.new (Below.refl _ _) _)
  have r6 : T64 W3 W3.heap.size A6 qt := by rw [hW3]; exact T64.up r6 (Below.new (Below.refl _ _) _)
  have B : Below w.heap.size w W3 := by rw [hW3]; exact Below.new B _
  clear hW3
  refine (spec_DrawPictureText _ _ _ _ (Rd.up hrH.out B) hbH.out hl).mono ?_
  rintro e w4 ⟨A8, c8, xt, xs, xd, rfl, r8, l8, _, hw4⟩
  have b4 := b4.next hw4
  have b6 := b6.next hw4
  have rL : CC64 w4 w4.heap.size A1 css := CC64.up rL hw4
  have r4 : T64 w4 w4.heap.size A4 qt := T64.up r4 hw4
  have r6 : T64 w4 w4.heap.size A6 qt := T64.up r6 hw4
  have B : Below w.heap.size w w4 := B.trans (hw4.mono B.size)
  clear hw4
  have cb40 := b4.cell (j := 0) rfl
  have cb41 := b4.cell (j := 1) rfl
  have cb42 := b4.cell (j := 2) rfl
  have cb4f := b4.fz
  have cb60 := b6.cell (j := 0) rfl
  have cb61 := b6.cell (j := 1) rfl
  have cb62 := b6.cell (j := 2) rfl
  have cb6f := b6.fz
  have abb40 : ∀ ob, (w4.alloc ob).cell? ⟨w2.heap.size, 0, none⟩ = some (.slice A4 qt.length c4) := fun ob => bx_alloc cb40
  have abb41 : ∀ ob, (w4.alloc ob).cell? ⟨w2.heap.size, 1, none⟩ = some (.int .i64 qs) := fun ob => bx_alloc cb41
  have abb42 : ∀ ob, (w4.alloc ob).cell? ⟨w2.heap.size, 2, none⟩ = some (.int .i64 qd) := fun ob => bx_alloc cb42
  have abb60 : ∀ ob, (w4.alloc ob).cell? ⟨w3.heap.size, 0, none⟩ = some (.slice A6 qt.length c6) := fun ob => bx_alloc cb60
  have abb61 : ∀ ob, (w4.alloc ob).cell? ⟨w3.heap.size, 1, none⟩ = some (.int .i64 qs) := fun ob => bx_alloc cb61
  have abb62 : ∀ ob, (w4.alloc ob).cell? ⟨w3.heap.size, 2, none⟩ = some (.int .i64 qd) := fun ob => bx_alloc cb62
  go_wp2_with fail
  clear abb40 abb41 abb42
  clear abb60 abb61 abb62
  clear cb40 cb41 cb42 cb4f
  clear cb60 cb61 cb62 cb6f
  refine calls_gen (fun W4 hW4 => ?_)
  have b8 : VBox W4 28 (w4.heap.size) [.slice A8 xt.length c8, .int .i64 xs, .int .i64 xd] := by rw [hW4]; exact VBox.new rfl
  have b4 : VBox W4 28 (w2.heap.size) [.slice A4 qt.length c4, .int .i64 qs, .int .i64 qd] := by rw [hW4]; exact b4.alloc _
  have b6 : VBox W4 28 (w3.heap.size) [.slice A6 qt.length c6, .int .i64 qs, .int .i64 qd] := by rw [hW4]; exact b6.alloc _
  have rL : CC64 W4 W4.heap.size A1 css := by rw [hW4]; exact CC64.up rL (Below.new (Below.refl _ _) _)
  have r4 : T64 W4 W4.heap.size A4 qt := by rw [hW4]; exact T64.up r4 (Below.new (Below.refl _ _) _)
  have r6 : T64 W4 W4.heap.size A6 qt := by rw [hW4]; exact T64.up r6 (Below.new (Below.refl _ _) _)
  have r8 : T64 W4 W4.heap.size A8 xt := by rw [hW4]; exact T64.up r8 (Below.new (Below.refl _ _) _)
  have B : Below w.heap.size w W4 := by rw [hW4]; exact Below.new B _
  clear hW4
  obtain ⟨T1, hT1⟩ : ∃ T : ByteArray, T = mkT (ptT xt xs xd) := ⟨_, rfl⟩
  obtain ⟨C1, hC1⟩ : ∃ C, C = ptC xt xs xd := ⟨_, rfl⟩
  obtain ⟨cf, hcf⟩ : ∃ z, z = fConf xt xs xd := ⟨_, rfl⟩
  obtain ⟨ck, hck⟩ : ∃ z, z = pcCode xt xs xd := ⟨_, rfl⟩
  have hTI := fun w h hp => impl_PictureText A8 c8 xt xs xd w h (by omega) hp
  have hTS := fun w h => spec_PictureText A8 c8 xt xs xd w h (by omega)
  have hCI := fun w h => impl_ConfirmedIn A8 c8 xt xs xd w h (by omega)
  have hCS := fun w h => spec_ConfirmedIn A8 c8 xt xs xd w h (by omega)
  have lcf := fConf_len (ts := xt) (s := xs) (d := xd)
  rw [← hT1, ← hC1] at hTI hTS
  rw [← hcf, ← hck] at hCI hCS
  rw [← hcf] at lcf
  have hTIH := Lib.hid hTI
  have hTSH := Lib.hid hTS
  have hCIH := Lib.hid hCI
  have hCSH := Lib.hid hCS
  clear hTI hTS hCI hCS hT1 hC1 hcf hck
  refine (hTIH.out _ r8 (htH.out.up B)).mono ?_
  rintro e w5 ⟨rfl, hw5⟩
  have b4 := b4.next hw5
  have b6 := b6.next hw5
  have b8 := b8.next hw5
  have rL : CC64 w5 w5.heap.size A1 css := CC64.up rL hw5
  have r4 : T64 w5 w5.heap.size A4 qt := T64.up r4 hw5
  have r6 : T64 w5 w5.heap.size A6 qt := T64.up r6 hw5
  have r8 : T64 w5 w5.heap.size A8 xt := T64.up r8 hw5
  have B : Below w.heap.size w w5 := B.trans (hw5.mono B.size)
  clear hw5
  have cb40 := b4.cell (j := 0) rfl
  have cb41 := b4.cell (j := 1) rfl
  have cb42 := b4.cell (j := 2) rfl
  have cb4f := b4.fz
  have cb60 := b6.cell (j := 0) rfl
  have cb61 := b6.cell (j := 1) rfl
  have cb62 := b6.cell (j := 2) rfl
  have cb6f := b6.fz
  have cb80 := b8.cell (j := 0) rfl
  have cb81 := b8.cell (j := 1) rfl
  have cb82 := b8.cell (j := 2) rfl
  have cb8f := b8.fz
  go_wp2_with fail
  clear cb40 cb41 cb42 cb4f
  clear cb60 cb61 cb62 cb6f
  clear cb80 cb81 cb82 cb8f
  refine (hTSH.out _ r8).mono ?_
  rintro e w6 ⟨rfl, hw6⟩
  have b4 := b4.next hw6
  have b6 := b6.next hw6
  have b8 := b8.next hw6
  have rL : CC64 w6 w6.heap.size A1 css := CC64.up rL hw6
  have r4 : T64 w6 w6.heap.size A4 qt := T64.up r4 hw6
  have r6 : T64 w6 w6.heap.size A6 qt := T64.up r6 hw6
  have r8 : T64 w6 w6.heap.size A8 xt := T64.up r8 hw6
  have B : Below w.heap.size w w6 := B.trans (hw6.mono B.size)
  clear hw6
  have cb40 := b4.cell (j := 0) rfl
  have cb41 := b4.cell (j := 1) rfl
  have cb42 := b4.cell (j := 2) rfl
  have cb4f := b4.fz
  have cb60 := b6.cell (j := 0) rfl
  have cb61 := b6.cell (j := 1) rfl
  have cb62 := b6.cell (j := 2) rfl
  have cb6f := b6.fz
  have cb80 := b8.cell (j := 0) rfl
  have cb81 := b8.cell (j := 1) rfl
  have cb82 := b8.cell (j := 2) rfl
  have cb8f := b8.fz
  go_wp2_with fail
  clear cb40 cb41 cb42 cb4f
  clear cb60 cb61 cb62 cb6f
  clear cb80 cb81 cb82 cb8f
  refine (hCIH.out _ r8).mono ?_
  rintro e w7 ⟨v13, rfl, o13, hw7⟩
  obtain ⟨A13, c13, rfl, _⟩ := id o13
  have r13 := (OwnI.reads o13).2
  clear o13
  have b4 := b4.next hw7
  have b6 := b6.next hw7
  have b8 := b8.next hw7
  have rL : CC64 w7 w7.heap.size A1 css := CC64.up rL hw7
  have r4 : T64 w7 w7.heap.size A4 qt := T64.up r4 hw7
  have r6 : T64 w7 w7.heap.size A6 qt := T64.up r6 hw7
  have r8 : T64 w7 w7.heap.size A8 xt := T64.up r8 hw7
  have B : Below w.heap.size w w7 := B.trans (hw7.mono B.size)
  clear hw7
  have cb40 := b4.cell (j := 0) rfl
  have cb41 := b4.cell (j := 1) rfl
  have cb42 := b4.cell (j := 2) rfl
  have cb4f := b4.fz
  have cb60 := b6.cell (j := 0) rfl
  have cb61 := b6.cell (j := 1) rfl
  have cb62 := b6.cell (j := 2) rfl
  have cb6f := b6.fz
  have cb80 := b8.cell (j := 0) rfl
  have cb81 := b8.cell (j := 1) rfl
  have cb82 := b8.cell (j := 2) rfl
  have cb8f := b8.fz
  go_wp2_with fail
  clear cb40 cb41 cb42 cb4f
  clear cb60 cb61 cb62 cb6f
  clear cb80 cb81 cb82 cb8f
  refine (hCSH.out _ r8).mono ?_
  rintro e w8 ⟨v15, rfl, o15, hw8⟩
  obtain ⟨A15, c15, rfl, _⟩ := id o15
  have r15 := (OwnI.reads o15).2
  clear o15
  have b4 := b4.next hw8
  have b6 := b6.next hw8
  have b8 := b8.next hw8
  have rL : CC64 w8 w8.heap.size A1 css := CC64.up rL hw8
  have r4 : T64 w8 w8.heap.size A4 qt := T64.up r4 hw8
  have r6 : T64 w8 w8.heap.size A6 qt := T64.up r6 hw8
  have r8 : T64 w8 w8.heap.size A8 xt := T64.up r8 hw8
  have r13 : I64 w8 w8.heap.size A13 cf := I64.up r13 hw8
  have B : Below w.heap.size w w8 := B.trans (hw8.mono B.size)
  clear hw8
  have cb40 := b4.cell (j := 0) rfl
  have cb41 := b4.cell (j := 1) rfl
  have cb42 := b4.cell (j := 2) rfl
  have cb4f := b4.fz
  have cb60 := b6.cell (j := 0) rfl
  have cb61 := b6.cell (j := 1) rfl
  have cb62 := b6.cell (j := 2) rfl
  have cb6f := b6.fz
  have cb80 := b8.cell (j := 0) rfl
  have cb81 := b8.cell (j := 1) rfl
  have cb82 := b8.cell (j := 2) rfl
  have cb8f := b8.fz
  go_wp2_with fail
  clear cb40 cb41 cb42 cb4f
  clear cb60 cb61 cb62 cb6f
  clear cb80 cb81 cb82 cb8f
  refine (spec_DrawTrailText _ _ _ _ (Rd.up hrH.out B) hbH.out hl).mono ?_
  rintro e w9 ⟨x, y, p, q, s, t, h, m, rfl, hw9⟩
  have b4 := b4.next hw9
  have b6 := b6.next hw9
  have b8 := b8.next hw9
  have rL : CC64 w9 w9.heap.size A1 css := CC64.up rL hw9
  have r4 : T64 w9 w9.heap.size A4 qt := T64.up r4 hw9
  have r6 : T64 w9 w9.heap.size A6 qt := T64.up r6 hw9
  have r8 : T64 w9 w9.heap.size A8 xt := T64.up r8 hw9
  have r13 : I64 w9 w9.heap.size A13 cf := I64.up r13 hw9
  have r15 : I64 w9 w9.heap.size A15 cf := I64.up r15 hw9
  have B : Below w.heap.size w w9 := B.trans (hw9.mono B.size)
  clear hw9
  have cb40 := b4.cell (j := 0) rfl
  have cb41 := b4.cell (j := 1) rfl
  have cb42 := b4.cell (j := 2) rfl
  have cb4f := b4.fz
  have cb60 := b6.cell (j := 0) rfl
  have cb61 := b6.cell (j := 1) rfl
  have cb62 := b6.cell (j := 2) rfl
  have cb6f := b6.fz
  have cb80 := b8.cell (j := 0) rfl
  have cb81 := b8.cell (j := 1) rfl
  have cb82 := b8.cell (j := 2) rfl
  have cb8f := b8.fz
  have abb40 : ∀ ob, (w9.alloc ob).cell? ⟨w2.heap.size, 0, none⟩ = some (.slice A4 qt.length c4) := fun ob => bx_alloc cb40
  have abb41 : ∀ ob, (w9.alloc ob).cell? ⟨w2.heap.size, 1, none⟩ = some (.int .i64 qs) := fun ob => bx_alloc cb41
  have abb42 : ∀ ob, (w9.alloc ob).cell? ⟨w2.heap.size, 2, none⟩ = some (.int .i64 qd) := fun ob => bx_alloc cb42
  have abb60 : ∀ ob, (w9.alloc ob).cell? ⟨w3.heap.size, 0, none⟩ = some (.slice A6 qt.length c6) := fun ob => bx_alloc cb60
  have abb61 : ∀ ob, (w9.alloc ob).cell? ⟨w3.heap.size, 1, none⟩ = some (.int .i64 qs) := fun ob => bx_alloc cb61
  have abb62 : ∀ ob, (w9.alloc ob).cell? ⟨w3.heap.size, 2, none⟩ = some (.int .i64 qd) := fun ob => bx_alloc cb62
  have abb80 : ∀ ob, (w9.alloc ob).cell? ⟨w4.heap.size, 0, none⟩ = some (.slice A8 xt.length c8) := fun ob => bx_alloc cb80
  have abb81 : ∀ ob, (w9.alloc ob).cell? ⟨w4.heap.size, 1, none⟩ = some (.int .i64 xs) := fun ob => bx_alloc cb81
  have abb82 : ∀ ob, (w9.alloc ob).cell? ⟨w4.heap.size, 2, none⟩ = some (.int .i64 xd) := fun ob => bx_alloc cb82
  go_wp2_with fail
  clear abb40 abb41 abb42
  clear abb60 abb61 abb62
  clear abb80 abb81 abb82
  clear cb40 cb41 cb42 cb4f
  clear cb60 cb61 cb62 cb6f
  clear cb80 cb81 cb82 cb8f
  refine calls_gen (fun W9 hW9 => ?_)
  have b17 : VBox W9 40 (w9.heap.size) [.int .i64 x, .int .i64 y, .int .i64 p, .int .i64 q, .int .i64 s, .int .i64 t, .int .i64 h, .int .i64 m] := by rw [hW9]; exact VBox.new rfl
  have b4 : VBox W9 28 (w2.heap.size) [.slice A4 qt.length c4, .int .i64 qs, .int .i64 qd] := by rw [hW9]; exact b4.alloc _
  have b6 : VBox W9 28 (w3.heap.size) [.slice A6 qt.length c6, .int .i64 qs, .int .i64 qd] := by rw [hW9]; exact b6.alloc _
  have b8 : VBox W9 28 (w4.heap.size) [.slice A8 xt.length c8, .int .i64 xs, .int .i64 xd] := by rw [hW9]; exact b8.alloc _
  have rL : CC64 W9 W9.heap.size A1 css := by rw [hW9]; exact CC64.up rL (Below.new (Below.refl _ _) _)
  have r4 : T64 W9 W9.heap.size A4 qt := by rw [hW9]; exact T64.up r4 (Below.new (Below.refl _ _) _)
  have r6 : T64 W9 W9.heap.size A6 qt := by rw [hW9]; exact T64.up r6 (Below.new (Below.refl _ _) _)
  have r8 : T64 W9 W9.heap.size A8 xt := by rw [hW9]; exact T64.up r8 (Below.new (Below.refl _ _) _)
  have r13 : I64 W9 W9.heap.size A13 cf := by rw [hW9]; exact I64.up r13 (Below.new (Below.refl _ _) _)
  have r15 : I64 W9 W9.heap.size A15 cf := by rw [hW9]; exact I64.up r15 (Below.new (Below.refl _ _) _)
  have B : Below w.heap.size w W9 := by rw [hW9]; exact Below.new B _
  clear hW9
  obtain ⟨T2, hT2⟩ : ∃ T : ByteArray, T = mkT (ttT x y p q s t h m) := ⟨_, rfl⟩
  obtain ⟨C2, hC2⟩ : ∃ C, C = ttC x y p q s t h m := ⟨_, rfl⟩
  have hUI := fun w hp => impl_TrailText x y p q s t h m w hp
  have hUS := fun w => spec_TrailText x y p q s t h m w
  rw [← hT2, ← hC2] at hUI hUS
  have hUIH := Lib.hid hUI
  have hUSH := Lib.hid hUS
  clear hUI hUS hT2 hC2
  refine (hUIH.out _ (htH.out.up B)).mono ?_
  rintro e w10 ⟨rfl, hw10⟩
  have b4 := b4.next hw10
  have b6 := b6.next hw10
  have b8 := b8.next hw10
  have b17 := b17.next hw10
  have rL : CC64 w10 w10.heap.size A1 css := CC64.up rL hw10
  have r4 : T64 w10 w10.heap.size A4 qt := T64.up r4 hw10
  have r6 : T64 w10 w10.heap.size A6 qt := T64.up r6 hw10
  have r8 : T64 w10 w10.heap.size A8 xt := T64.up r8 hw10
  have r13 : I64 w10 w10.heap.size A13 cf := I64.up r13 hw10
  have r15 : I64 w10 w10.heap.size A15 cf := I64.up r15 hw10
  have B : Below w.heap.size w w10 := B.trans (hw10.mono B.size)
  clear hw10
  have cb40 := b4.cell (j := 0) rfl
  have cb41 := b4.cell (j := 1) rfl
  have cb42 := b4.cell (j := 2) rfl
  have cb4f := b4.fz
  have cb60 := b6.cell (j := 0) rfl
  have cb61 := b6.cell (j := 1) rfl
  have cb62 := b6.cell (j := 2) rfl
  have cb6f := b6.fz
  have cb80 := b8.cell (j := 0) rfl
  have cb81 := b8.cell (j := 1) rfl
  have cb82 := b8.cell (j := 2) rfl
  have cb8f := b8.fz
  have cb170 := b17.cell (j := 0) rfl
  have cb171 := b17.cell (j := 1) rfl
  have cb172 := b17.cell (j := 2) rfl
  have cb173 := b17.cell (j := 3) rfl
  have cb174 := b17.cell (j := 4) rfl
  have cb175 := b17.cell (j := 5) rfl
  have cb176 := b17.cell (j := 6) rfl
  have cb177 := b17.cell (j := 7) rfl
  have cb17f := b17.fz
  go_wp2_with fail
  clear cb40 cb41 cb42 cb4f
  clear cb60 cb61 cb62 cb6f
  clear cb80 cb81 cb82 cb8f
  clear cb170 cb171 cb172 cb173 cb174 cb175 cb176 cb177 cb17f
  refine (hUSH.out _).mono ?_
  rintro e w11 ⟨rfl, hw11⟩
  have b4 := b4.next hw11
  have b6 := b6.next hw11
  have b8 := b8.next hw11
  have b17 := b17.next hw11
  have rL : CC64 w11 w11.heap.size A1 css := CC64.up rL hw11
  have r4 : T64 w11 w11.heap.size A4 qt := T64.up r4 hw11
  have r6 : T64 w11 w11.heap.size A6 qt := T64.up r6 hw11
  have r8 : T64 w11 w11.heap.size A8 xt := T64.up r8 hw11
  have r13 : I64 w11 w11.heap.size A13 cf := I64.up r13 hw11
  have r15 : I64 w11 w11.heap.size A15 cf := I64.up r15 hw11
  have B : Below w.heap.size w w11 := B.trans (hw11.mono B.size)
  clear hw11
  have n1 : (k0 != k0) = false := by simp
  have n2 : (C1 != C1) = false := by simp
  have n3 : (T1 != T1) = false := bne_selfS T1
  have n4 : (ck != ck) = false := by simp
  have n5 : (C2 != C2) = false := by simp
  have n6 : (T2 != T2) = false := bne_selfS T2
  clear hRIH hRSH hTIH hTSH hCIH hCSH hUIH hUSH hrH hbH htH b8 b17 r8
  have cb40 := b4.cell (j := 0) rfl
  have cb41 := b4.cell (j := 1) rfl
  have cb42 := b4.cell (j := 2) rfl
  have cb4f := b4.fz
  have cb60 := b6.cell (j := 0) rfl
  have cb61 := b6.cell (j := 1) rfl
  have cb62 := b6.cell (j := 2) rfl
  have cb6f := b6.fz
  by_cases q0 : k0 = 0
  · subst q0
    go_wp2_with (first | (go_at_call 16; refine (laws_likePic _ _ _ _ qt qs qd _ r4 r6 (by omega)).mono ?_; rintro e w12 ⟨rfl, hb12⟩) | (go_at_call 17; refine (likeT A13 A15 c13 c15 cf _ (I64.up r13 hb12) (I64.up r15 hb12) (by omega)).mono ?_; rintro e w13 ⟨rfl, hb13⟩))
    have hB13 : Below w11.heap.size w11 w13 := by exact bgr
    have b4 := b4.next hB13
    have rL := CC64.up rL hB13
    have r4 := T64.up r4 hB13
    have B : Below w.heap.size w w13 := B.trans (hB13.mono B.size)
    clear n1 n2 n3 n4 n5 n6 hB13 hb12 hb13 b6 r6 r13 r15
    clear cb40 cb41 cb42 cb4f
    clear cb60 cb61 cb62 cb6f
    go_loopw [23] (fun i wr => ∃ (k : Nat) (A' : Option Addr) (c' : Nat), k ≤ css.length ∧ i = .int .i64 k ∧ VBox wr 28 w13.heap.size [.slice A' (rpk css k).1.length c', .int .i64 (k : Int), .int .i64 (rpk css k).2] ∧ T64 wr wr.heap.size A' (rpk css k).1 ∧ Hid (∀ b q, A' = some ⟨b, q, none⟩ → w13.heap.size < b) ∧ Below w13.heap.size w13 wr) (fun i _ => css.length - (intOf i).toNat)
    case atStart => exact ⟨0, none, 0, Nat.zero_le _, rfl, VBox.new rfl, T64.nil, Lib.hid (fun b q h => by cases h), Below.new (Below.refl _ _) _⟩
    case round =>
      obtain ⟨k, A', c', hk, rfl, vb, rT, hA, hbr⟩ := hrel
      have zr := vb.lt
      by_cases hlt : k < css.length
      · obtain ⟨cs, hx⟩ := get_of_lt hlt
        have hsp := step_code hk0H.out.symm hx
        obtain ⟨e1, e2, e3⟩ := sp_good hsp
        have ers := rpk_succ hx
        obtain ⟨b, o, A2, c2, rfl, hbB, hc, rC⟩ := CC64.at_ (rL.below hbr) hx
        have lc := hLH.out k cs hx
        have lt6 : (rpk css k).1.length ≤ 6 := by
          obtain ⟨h1, h2, h3⟩ := scCode_ok hk0H.out.symm
          exact (pc_facts (rpk_ok h1 (by omega) k hk)).1
        have hST := fun w h1 h2 => impl_StepPicture A' A2 c' c2 (rpk css k).1 (k : Int) (rpk css k).2 cs w h1 h2 (by omega) (by omega)
        rw [hsp, e1, e2, e3] at hST
        obtain ⟨tn, htn⟩ : ∃ z, z = stT (rpk css k).1 cs := ⟨_, rfl⟩
        obtain ⟨dn, hdn⟩ : ∃ z, z = stD (rpk css k).1 (rpk css k).2 cs := ⟨_, rfl⟩
        rw [← htn, ← hdn] at hST ers
        obtain ⟨tk, htk⟩ : ∃ z, z = (rpk css k).1 := ⟨_, rfl⟩
        obtain ⟨dk, hdk⟩ : ∃ z, z = (rpk css k).2 := ⟨_, rfl⟩
        rw [← htk, ← hdk] at vb
        rw [← htk] at rT
        rw [← htk, ← hdk] at hST
        have hSTH := Lib.hid hST
        have ersH := Lib.hid ers
        have rC : C64 wr wr.heap.size A2 cs := C64.more rC hbr.size
        have p0 : (0 : Int) ≤ (k : Int) := by omega
        have p1 : (k : Int) < (css.length : Int) := by omega
        have k61 : (k : Int) ≤ 61 := by omega
        clear hx hsp e1 e2 e3 ers hST htn hdn htk hdk lt6
        have v0 := vb.cell (j := 0) rfl
        have v1 := vb.cell (j := 1) rfl
        have v2 := vb.cell (j := 2) rfl
        have vf := vb.fz
        go_wp2_with fail
        (refine wp_region_noPanic ?_; refine wp_region_held_drew (S := (fun w' => w'.cell? ⟨w13.heap.size, 0, none⟩ = some (.slice A' tk.length c') ∧ w'.cell? ⟨w13.heap.size, 1, none⟩ = some (.int .i64 (k : Int)) ∧ w'.cell? ⟨w13.heap.size, 2, none⟩ = some (.int .i64 dk) ∧ w'.cell? ⟨b, o + k, none⟩ = some (.slice A2 cs.length c2))) (by kernel_rfl) ?_ (fun hHeld => ?_); (focus ((try dsimp only); (refine ⟨?_, ?_, ?_, ?_⟩ <;> exact bxc))); (refine takeT (i := 0) (d := 124) rfl rfl (by kernel_rfl) (by kernel_rfl) (by kernel_rfl) (by rfl) (by assumption) (v := ?_) ?_ ?_; rotate_left; (focus (intro wq hSw; (try dsimp only at hSw); go_simp; (try (with_reducible rfl)); done)); (try simp only [Act.put, List.setIfInBounds_toArray, List.set_cons_zero, List.set_cons_succ])); (refine takeT (i := 1) (d := 125) rfl rfl (by kernel_rfl) (by kernel_rfl) (by kernel_rfl) (by rfl) (by assumption) (v := ?_) ?_ ?_; rotate_left; (focus (intro wq hSw; (try dsimp only at hSw); go_simp; (try (with_reducible rfl)); done)); (try simp only [Act.put, List.setIfInBounds_toArray, List.set_cons_zero, List.set_cons_succ])); (refine takeT (i := 2) (d := 126) rfl rfl (by kernel_rfl) (by kernel_rfl) (by kernel_rfl) (by rfl) (by assumption) (v := ?_) ?_ ?_; rotate_left; (focus (intro wq hSw; (try dsimp only at hSw); go_simp; (try (with_reducible rfl)); done)); (try simp only [Act.put, List.setIfInBounds_toArray, List.set_cons_zero, List.set_cons_succ])); (refine takeT (i := 3) (d := 127) rfl rfl (by kernel_rfl) (by kernel_rfl) (by kernel_rfl) (by rfl) (by assumption) (v := ?_) ?_ ?_; rotate_left; (focus (intro wq hSw; (try dsimp only at hSw); go_simp; (try (with_reducible rfl)); done)); (try simp only [Act.put, List.setIfInBounds_toArray, List.set_cons_zero, List.set_cons_succ])); (refine takeT (i := 4) (d := 128) rfl rfl (by kernel_rfl) (by kernel_rfl) (by kernel_rfl) (by rfl) (by assumption) (v := ?_) ?_ ?_; rotate_left; (focus (intro wq hSw; (try dsimp only at hSw); go_simp; (try (with_reducible rfl)); done)); (try simp only [Act.put, List.setIfInBounds_toArray, List.set_cons_zero, List.set_cons_succ])); (refine wpAnyH_ready (rs := [5, 9]) (by kernel_rfl) (by simp) ?_; refine (AllReadyH.cons rfl (fun K hK => ?_) (AllReadyH.cons rfl (fun K hK => ?_) AllReadyH.nil))); (focus (go_simp; (first | (go_at_call 18; refine (hSTH.out _ (T64.up rT (by exact bgr)) (C64.up rC (by exact bgr))).mono ?_; rintro e w14 ⟨v5, rfl, o5, hb14⟩; obtain ⟨A5, c5, rfl⟩ := OwnS.form o5; (try (have nbq : VBox w14 28 wr.heap.size [.slice none 0 0, .int .i64 0, .int .i64 0] := (by first | exact VBox.next (VBox.new rfl) hb14 | exact VBox.next (VBox.drew (VBox.new rfl)) hb14 | exact VBox.next (VBox.alloc (VBox.new rfl) _) hb14); have q0 := nbq.cell (j := 0) rfl; have q1 := nbq.cell (j := 1) rfl; have q2 := nbq.cell (j := 2) rfl; have qf := nbq.fz))) | skip); (try go_wp2_with fail); refine hK.out _ _ ?_ (fun hHeld => ?_); (focus ((try dsimp only); (refine ⟨?_, ?_, ?_, ?_⟩ <;> exact bxc))); clear hK K; (try simp only [Act.put, List.setIfInBounds_toArray, List.set_cons_zero, List.set_cons_succ]); (refine takeT (i := 6) (d := 123) rfl rfl (by kernel_rfl) (by kernel_rfl) (by kernel_rfl) (by rfl) (by assumption) (v := ?_) ?_ ?_; rotate_left; (focus (intro wq hSw; (try dsimp only at hSw); go_simp; (try (with_reducible rfl)); done)); (try simp only [Act.put, List.setIfInBounds_toArray, List.set_cons_zero, List.set_cons_succ])); (refine takeT (i := 7) (d := 130) rfl rfl (by kernel_rfl) (by kernel_rfl) (by kernel_rfl) (by rfl) (by assumption) (v := ?_) ?_ ?_; rotate_left; (focus (intro wq hSw; (try dsimp only at hSw); go_simp; (try (with_reducible rfl)); done)); (try simp only [Act.put, List.setIfInBounds_toArray, List.set_cons_zero, List.set_cons_succ])); (refine takeT (i := 8) (d := 131) rfl rfl (by kernel_rfl) (by kernel_rfl) (by kernel_rfl) (by rfl) (by assumption) (v := ?_) ?_ ?_; rotate_left; (focus (intro wq hSw; (try dsimp only at hSw); go_simp; (try (with_reducible rfl)); done)); (try simp only [Act.put, List.setIfInBounds_toArray, List.set_cons_zero, List.set_cons_succ])); (refine wpAnyH_ready (rs := [9]) (by kernel_rfl) (by simp) ?_; refine AllReadyH.cons rfl (fun K hK => ?_) AllReadyH.nil; go_simp; (first | (go_at_call 18; refine (hSTH.out _ (T64.up rT (by exact bgr)) (C64.up rC (by exact bgr))).mono ?_; rintro e w14 ⟨v5, rfl, o5, hb14⟩; obtain ⟨A5, c5, rfl⟩ := OwnS.form o5; (try (have nbq : VBox w14 28 wr.heap.size [.slice none 0 0, .int .i64 0, .int .i64 0] := (by first | exact VBox.next (VBox.new rfl) hb14 | exact VBox.next (VBox.drew (VBox.new rfl)) hb14 | exact VBox.next (VBox.alloc (VBox.new rfl) _) hb14); have q0 := nbq.cell (j := 0) rfl; have q1 := nbq.cell (j := 1) rfl; have q2 := nbq.cell (j := 2) rfl; have qf := nbq.fz))) | skip); (try go_wp2_with fail); refine hK.out _ _ ?_ (fun hHeld => ?_); (focus ((try dsimp only); (refine ⟨?_, ?_, ?_, ?_⟩ <;> exact bxc))); clear hK K; (try simp only [Act.put, List.setIfInBounds_toArray, List.set_cons_zero, List.set_cons_succ])); (refine wpAnyH_ready (rs := [10]) (by kernel_rfl) (by simp) ?_; refine AllReadyH.cons rfl (fun K hK => ?_) AllReadyH.nil; go_simp; (first | (go_at_call 18; refine (hSTH.out _ (T64.up rT (by exact bgr)) (C64.up rC (by exact bgr))).mono ?_; rintro e w14 ⟨v5, rfl, o5, hb14⟩; obtain ⟨A5, c5, rfl⟩ := OwnS.form o5; (try (have nbq : VBox w14 28 wr.heap.size [.slice none 0 0, .int .i64 0, .int .i64 0] := (by first | exact VBox.next (VBox.new rfl) hb14 | exact VBox.next (VBox.drew (VBox.new rfl)) hb14 | exact VBox.next (VBox.alloc (VBox.new rfl) _) hb14); have q0 := nbq.cell (j := 0) rfl; have q1 := nbq.cell (j := 1) rfl; have q2 := nbq.cell (j := 2) rfl; have qf := nbq.fz))) | skip); (try go_wp2_with fail); refine hK.out _ _ ?_ (fun hHeld => ?_); (focus ((try dsimp only); (refine ⟨?_, ?_, ?_, ?_⟩ <;> exact bxc))); clear hK K; (try simp only [Act.put, List.setIfInBounds_toArray, List.set_cons_zero, List.set_cons_succ])); (refine takeT (i := 11) (d := 25) rfl rfl (by kernel_rfl) (by kernel_rfl) (by kernel_rfl) (by rfl) (by assumption) (v := ?_) ?_ ?_; rotate_left; (focus (intro wq hSw; (try dsimp only at hSw); go_simp; (try (with_reducible rfl)); done)); (try simp only [Act.put, List.setIfInBounds_toArray, List.set_cons_zero, List.set_cons_succ])); refine wpAnyH_done (by kernel_rfl) ?_ _; refine NoPanic.normal ?_; (((first | (have hN : Nx wr w13.heap.size [.slice A' tk.length c', .int .i64 (k : Int), .int .i64 dk] wr.heap.size [.slice A5 tn.length c5, .int .i64 ((k : Int) + 1), .int .i64 dn] (.slice A5 tn.length c5) tn (((w14.setCell ⟨wr.heap.size, 0, none⟩ (.slice A5 tn.length c5)).setCell ⟨wr.heap.size, 1, none⟩ (.int .i64 ((k : Int) + 1))).setCell ⟨wr.heap.size, 2, none⟩ (.int .i64 dn)) := Nx.two vb (by first | exact hb14 | exact bgr) o5; revert hN; generalize (((w14.setCell ⟨wr.heap.size, 0, none⟩ (.slice A5 tn.length c5)).setCell ⟨wr.heap.size, 1, none⟩ (.int .i64 ((k : Int) + 1))).setCell ⟨wr.heap.size, 2, none⟩ (.int .i64 dn)) = W; intro hN) | (have hN : Nx wr w13.heap.size [.slice A' tk.length c', .int .i64 (k : Int), .int .i64 dk] w14.heap.size [.slice A5 tn.length c5, .int .i64 ((k : Int) + 1), .int .i64 dn] (.slice A5 tn.length c5) tn (w14.alloc (.cells #[.slice A5 tn.length c5, .int .i64 ((k : Int) + 1), .int .i64 dn] 28)) := Nx.one vb (by exact bgr) o5; revert hN; generalize w14.alloc (.cells #[.slice A5 tn.length c5, .int .i64 ((k : Int) + 1), .int .i64 dn] 28) = W; intro hN)); obtain ⟨vbW, nbW, oW, BW, hXY⟩ := hN; have oWt := OwnS.rdT oW; have oWl := Lib.hid (OwnS.lt oW); clear hb14 o5 v0 v1 v2 vf; have v0 := vbW.cell (j := 0) rfl; have v1 := vbW.cell (j := 1) rfl; have v2 := vbW.cell (j := 2) rfl; have vf := vbW.fz; have n0 := nbW.cell (j := 0) rfl; have n1 := nbW.cell (j := 1) rfl; have n2 := nbW.cell (j := 2) rfl; go_wp2_with fail; refine ⟨⟨k + 1, A5, c5, by omega, rfl, ?_, ?_, ?_, ?_⟩, ?_⟩; (focus (rw [ersH.out]; exact ((vbW.set 0 _).set 1 _).set 2 _)); (focus (rw [ersH.out]; exact Rd.more (rd_setS (rd_setS (rd_setS oWt (fun b q h => by have := oWl.out b (by rw [h]; rfl); omega)) (fun b q h => by have := oWl.out b (by rw [h]; rfl); omega)) (fun b q h => by have := oWl.out b (by rw [h]; rfl); omega)) (by simp))); (focus (exact Lib.hid (fun b q h => by have := oWl.out b (by rw [h]; rfl); omega))); (focus (exact (((hbr.trans (BW.mono (by omega))).setCell (Nat.le_refl _) _).setCell (Nat.le_refl _) _).setCell (Nat.le_refl _) _)); (focus (simp only [intOf]; omega)))))); (focus (go_simp; (first | (go_at_call 18; refine (hSTH.out _ (T64.up rT (by exact bgr)) (C64.up rC (by exact bgr))).mono ?_; rintro e w14 ⟨v5, rfl, o5, hb14⟩; obtain ⟨A5, c5, rfl⟩ := OwnS.form o5; (try (have nbq : VBox w14 28 wr.heap.size [.slice none 0 0, .int .i64 0, .int .i64 0] := (by first | exact VBox.next (VBox.new rfl) hb14 | exact VBox.next (VBox.drew (VBox.new rfl)) hb14 | exact VBox.next (VBox.alloc (VBox.new rfl) _) hb14); have q0 := nbq.cell (j := 0) rfl; have q1 := nbq.cell (j := 1) rfl; have q2 := nbq.cell (j := 2) rfl; have qf := nbq.fz))) | skip); (try go_wp2_with fail); refine hK.out _ _ ?_ (fun hHeld => ?_); (focus ((try dsimp only); (refine ⟨?_, ?_, ?_, ?_⟩ <;> exact bxc))); clear hK K; (try simp only [Act.put, List.setIfInBounds_toArray, List.set_cons_zero, List.set_cons_succ]); (refine wpAnyH_ready (rs := [5]) (by kernel_rfl) (by simp) ?_; refine AllReadyH.cons rfl (fun K hK => ?_) AllReadyH.nil; go_simp; (first | (go_at_call 18; refine (hSTH.out _ (T64.up rT (by exact bgr)) (C64.up rC (by exact bgr))).mono ?_; rintro e w14 ⟨v5, rfl, o5, hb14⟩; obtain ⟨A5, c5, rfl⟩ := OwnS.form o5; (try (have nbq : VBox w14 28 wr.heap.size [.slice none 0 0, .int .i64 0, .int .i64 0] := (by first | exact VBox.next (VBox.new rfl) hb14 | exact VBox.next (VBox.drew (VBox.new rfl)) hb14 | exact VBox.next (VBox.alloc (VBox.new rfl) _) hb14); have q0 := nbq.cell (j := 0) rfl; have q1 := nbq.cell (j := 1) rfl; have q2 := nbq.cell (j := 2) rfl; have qf := nbq.fz))) | skip); (try go_wp2_with fail); refine hK.out _ _ ?_ (fun hHeld => ?_); (focus ((try dsimp only); (refine ⟨?_, ?_, ?_, ?_⟩ <;> exact bxc))); clear hK K; (try simp only [Act.put, List.setIfInBounds_toArray, List.set_cons_zero, List.set_cons_succ])); (refine takeT (i := 6) (d := 123) rfl rfl (by kernel_rfl) (by kernel_rfl) (by kernel_rfl) (by rfl) (by assumption) (v := ?_) ?_ ?_; rotate_left; (focus (intro wq hSw; (try dsimp only at hSw); go_simp; (try (with_reducible rfl)); done)); (try simp only [Act.put, List.setIfInBounds_toArray, List.set_cons_zero, List.set_cons_succ])); (refine takeT (i := 7) (d := 130) rfl rfl (by kernel_rfl) (by kernel_rfl) (by kernel_rfl) (by rfl) (by assumption) (v := ?_) ?_ ?_; rotate_left; (focus (intro wq hSw; (try dsimp only at hSw); go_simp; (try (with_reducible rfl)); done)); (try simp only [Act.put, List.setIfInBounds_toArray, List.set_cons_zero, List.set_cons_succ])); (refine takeT (i := 8) (d := 131) rfl rfl (by kernel_rfl) (by kernel_rfl) (by kernel_rfl) (by rfl) (by assumption) (v := ?_) ?_ ?_; rotate_left; (focus (intro wq hSw; (try dsimp only at hSw); go_simp; (try (with_reducible rfl)); done)); (try simp only [Act.put, List.setIfInBounds_toArray, List.set_cons_zero, List.set_cons_succ])); (refine wpAnyH_ready (rs := [10]) (by kernel_rfl) (by simp) ?_; refine AllReadyH.cons rfl (fun K hK => ?_) AllReadyH.nil; go_simp; (first | (go_at_call 18; refine (hSTH.out _ (T64.up rT (by exact bgr)) (C64.up rC (by exact bgr))).mono ?_; rintro e w14 ⟨v5, rfl, o5, hb14⟩; obtain ⟨A5, c5, rfl⟩ := OwnS.form o5; (try (have nbq : VBox w14 28 wr.heap.size [.slice none 0 0, .int .i64 0, .int .i64 0] := (by first | exact VBox.next (VBox.new rfl) hb14 | exact VBox.next (VBox.drew (VBox.new rfl)) hb14 | exact VBox.next (VBox.alloc (VBox.new rfl) _) hb14); have q0 := nbq.cell (j := 0) rfl; have q1 := nbq.cell (j := 1) rfl; have q2 := nbq.cell (j := 2) rfl; have qf := nbq.fz))) | skip); (try go_wp2_with fail); refine hK.out _ _ ?_ (fun hHeld => ?_); (focus ((try dsimp only); (refine ⟨?_, ?_, ?_, ?_⟩ <;> exact bxc))); clear hK K; (try simp only [Act.put, List.setIfInBounds_toArray, List.set_cons_zero, List.set_cons_succ])); (refine takeT (i := 11) (d := 25) rfl rfl (by kernel_rfl) (by kernel_rfl) (by kernel_rfl) (by rfl) (by assumption) (v := ?_) ?_ ?_; rotate_left; (focus (intro wq hSw; (try dsimp only at hSw); go_simp; (try (with_reducible rfl)); done)); (try simp only [Act.put, List.setIfInBounds_toArray, List.set_cons_zero, List.set_cons_succ])); refine wpAnyH_done (by kernel_rfl) ?_ _; refine NoPanic.normal ?_; (((first | (have hN : Nx wr w13.heap.size [.slice A' tk.length c', .int .i64 (k : Int), .int .i64 dk] wr.heap.size [.slice A5 tn.length c5, .int .i64 ((k : Int) + 1), .int .i64 dn] (.slice A5 tn.length c5) tn (((w14.setCell ⟨wr.heap.size, 0, none⟩ (.slice A5 tn.length c5)).setCell ⟨wr.heap.size, 1, none⟩ (.int .i64 ((k : Int) + 1))).setCell ⟨wr.heap.size, 2, none⟩ (.int .i64 dn)) := Nx.two vb (by first | exact hb14 | exact bgr) o5; revert hN; generalize (((w14.setCell ⟨wr.heap.size, 0, none⟩ (.slice A5 tn.length c5)).setCell ⟨wr.heap.size, 1, none⟩ (.int .i64 ((k : Int) + 1))).setCell ⟨wr.heap.size, 2, none⟩ (.int .i64 dn)) = W; intro hN) | (have hN : Nx wr w13.heap.size [.slice A' tk.length c', .int .i64 (k : Int), .int .i64 dk] w14.heap.size [.slice A5 tn.length c5, .int .i64 ((k : Int) + 1), .int .i64 dn] (.slice A5 tn.length c5) tn (w14.alloc (.cells #[.slice A5 tn.length c5, .int .i64 ((k : Int) + 1), .int .i64 dn] 28)) := Nx.one vb (by exact bgr) o5; revert hN; generalize w14.alloc (.cells #[.slice A5 tn.length c5, .int .i64 ((k : Int) + 1), .int .i64 dn] 28) = W; intro hN)); obtain ⟨vbW, nbW, oW, BW, hXY⟩ := hN; have oWt := OwnS.rdT oW; have oWl := Lib.hid (OwnS.lt oW); clear hb14 o5 v0 v1 v2 vf; have v0 := vbW.cell (j := 0) rfl; have v1 := vbW.cell (j := 1) rfl; have v2 := vbW.cell (j := 2) rfl; have vf := vbW.fz; have n0 := nbW.cell (j := 0) rfl; have n1 := nbW.cell (j := 1) rfl; have n2 := nbW.cell (j := 2) rfl; go_wp2_with fail; refine ⟨⟨k + 1, A5, c5, by omega, rfl, ?_, ?_, ?_, ?_⟩, ?_⟩; (focus (rw [ersH.out]; exact ((vbW.set 0 _).set 1 _).set 2 _)); (focus (rw [ersH.out]; exact Rd.more (rd_setS (rd_setS (rd_setS oWt (fun b q h => by have := oWl.out b (by rw [h]; rfl); omega)) (fun b q h => by have := oWl.out b (by rw [h]; rfl); omega)) (fun b q h => by have := oWl.out b (by rw [h]; rfl); omega)) (by simp))); (focus (exact Lib.hid (fun b q h => by have := oWl.out b (by rw [h]; rfl); omega))); (focus (exact (((hbr.trans (BW.mono (by omega))).setCell (Nat.le_refl _) _).setCell (Nat.le_refl _) _).setCell (Nat.le_refl _) _)); (focus (simp only [intOf]; omega)))))))
      · have hkl : k = css.length := by omega
        subst hkl
        obtain ⟨f1, f2, f3⟩ := rp_good hk0H.out.symm
        rw [← hqtH.out] at f1
        rw [← hqsH.out] at f2
        rw [← hqdH.out] at f3
        rw [← f1, ← f3] at vb
        rw [← f1] at rT
        have lq2 : qt.length ≤ 1099511627776 := by omega
        have b4 := b4.below hbr b4.lt
        have r4 : T64 wr wr.heap.size A4 qt := T64.more (T64.below r4 hbr) hbr.size
        have p1 : ¬ (css.length : Int) < (css.length : Int) := by omega
        have v0 := vb.cell (j := 0) rfl
        have v1 := vb.cell (j := 1) rfl
        have v2 := vb.cell (j := 2) rfl
        have cb40 := b4.cell (j := 0) rfl
        have cb41 := b4.cell (j := 1) rfl
        have cb42 := b4.cell (j := 2) rfl
        have f2' : (css.length : Int) = qs := f2.symm
        rw [f2'] at v1
        have f4 : (qs == (css.length : Int)) = true := by rw [f2]; simp
        clear f1 f2 f2' f3
        go_wp2_with fail
        refine (laws_likePic _ _ _ _ qt qs qd _ rT r4 lq2).mono ?_
        rintro e w15 ⟨rfl, hb15⟩
        have b4 := b4.next hb15
        clear cb40 cb41 cb42 v0 v1 v2
        have cb40 := b4.cell (j := 0) rfl
        have cb41 := b4.cell (j := 1) rfl
        have cb42 := b4.cell (j := 2) rfl
        go_wp2_with fail
        all_goals go_returns
        all_goals exact ⟨rfl, B.trans ((hbr.trans (hb15.mono hbr.size)).mono B.size)⟩
  · have e0 : (k0 != 0) = true := by simp [q0]
    go_wp2_with (first | (go_at_call 16; refine (laws_likePic _ _ _ _ qt qs qd _ r4 r6 (by omega)).mono ?_; rintro e w12 ⟨rfl, hb12⟩) | (go_at_call 17; refine (likeT A13 A15 c13 c15 cf _ (I64.up r13 hb12) (I64.up r15 hb12) (by omega)).mono ?_; rintro e w13 ⟨rfl, hb13⟩))
    go_returns
    exact ⟨rfl, by exact bgr⟩
end Go.Proofs.YthbljfanoaibkaaGreatDoor
namespace Go.Proofs.YthbljfanoaibkaaGreatDoor.fnScans
open Go.ChangeShapes Go.WideShapes Go.ChangeAt Go.RowKit
open Go.ChangeMaps (open_string)
set_option linter.unusedVariables false
theorem row_pow {W : World} (h : laidMetH Tryz.prog Rows.fnScansRow.laid W) : Pow W := by
  rw [MakeChecks.laidMetH_plain _ _ _ (by kernel_rfl)] at h
  exact laid_pow h
theorem door_met (os : Os) (args : Array Value) : laidMetH Tryz.prog Rows.fnScansRow.laid ((World.doorLaid Tryz.prog 24 os).forCall (fun _ _ => 0) ⟨#[], args, []⟩).memory :=
  laidMetH_of_parts3 (fuel := 8) (laidMet_of_run' 8 (by kernel_rfl) (by kernel_rfl)) (by kernel_rfl) (by kernel_rfl)
set_option maxRecDepth 100000 in
theorem lifted (os : Os) (started : os.Started) (H : Type) (enc : TypeId × Value → H) :
    ReturnsInHanded {} Tryz.checked os 3 .any (fun w args => (Rows.fnScansSpec.pre enc Tryz.prog Tryz.f3 [] false w args ∧ laidMetH Tryz.prog Rows.fnScansRow.laid w) ∧ sizedMet enc Tryz.prog Tryz.f3 (OpenSpec.ofChange Rows.fnScansSpec) false w args)
      (Rows.fnScansSpec.post enc Tryz.prog Tryz.f3 false true false false) := by
  refine returnsInHanded_of_change_and (C := Tryz.checked) (X := fun w _ => laidMetH Tryz.prog Rows.fnScansRow.laid w) (fun _ _ _ hh h => h.of_heap hh) own started (by kernel_rfl) Tryz.func3
    (ChangeSpec.witness_shaped (enc := enc) (C := Tryz.checked) (os := os) (X := fun w _ => laidMetH Tryz.prog Rows.fnScansRow.laid w) false (World.doorLaid Tryz.prog 24 os) #[.slice none 0 0] 8 rfl (World.shaped_of_RefB (by kernel_rfl) (by kernel_rfl)) (by kernel_rfl) (by kernel_rfl) (by kernel_rfl) (door_met os _)) ?_
  intro W base args ds gs before hval0 hW _ _ hL _
  have hp : Pow W := row_pow hL
  clear hL
  have hval : ∀ (j : Nat) t v, Tryz.f3.params[j]? = some t → args[j]? = some v → Value.okWide Tryz.prog W .any base t v := hval0
  clear hval0
  obtain ⟨p, q, hA0, hV, hbf, hfz, hnd⟩ := id hW
  have hA : DataW.TrodAll enc Tryz.prog W 0 (fun _ => true) true Tryz.f3.params.toList args.toList ds p := hA0
  clear hA0
  rw [Tryz.params3] at hA hval
  obtain ⟨v0, vs0, d0, ds0, p0, q0, hargs, rfl, rfl, h0, r0⟩ := trodAll_cons hA
  obtain ⟨rfl, rfl, rfl⟩ := trodAll_nil r0
  obtain rfl : args = #[v0] := by cases args; simp_all
  obtain ⟨rfl, rfl⟩ := trodVars_none hV
  clear hV hnd hbf
  obtain ⟨A0, k0, x0, rfl, z0, f0, l0⟩ := open_U8 Tryz.underlying22 Tryz.underlying5 (by kernel_rfl) (hval 0 22 v0 rfl rfl) h0
  refine (walk_Scans _ _ _ W z0 f0 hp).mono fun e W' ⟨he, hb⟩ => ?_
  subst he
  exact ⟨_, rfl, law_post laidOut (by kernel_rfl) rfl Tryz.underlying4 rfl rfl hW hb⟩
end Go.Proofs.YthbljfanoaibkaaGreatDoor.fnScans
namespace Go.Proofs.YthbljfanoaibkaaGreatDoor.fnScans
open Go
theorem over : Rows.fnScansRow.holds Tryz.pinned (OpenSpec.ofChange Rows.fnScansSpec) :=
  OpenClaim.holds_of_wide 3 Tryz.f3 rfl rfl rfl rfl rfl rfl rfl ⟨rfl, rfl, rfl, rfl, rfl⟩ rfl rfl rfl rfl rfl (by kernel_rfl) Tryz.func3 (by kernel_rfl)
    (of_decide_eq_true (by kernel_rfl)) (by unfold Func.isWrapper; first | (rw [if_pos (by decide +kernel)]; kernel_rfl) | (rw [if_neg (by decide +kernel)]; exact ⟨rfl, rfl⟩))
    (fun os started H enc _ => lifted os started H enc)

/-- The given statement: the row, its listed variables tied to the program's text. -/
theorem proved : Rows.FnScansCardSaid :=
  Claim7.holds_tied_plain_at .later [] [.data, .data, .data] true Rows.fnScansCard.stood.harness Rows.fnScansCard.stood.looks
    over (fun _ h => by cases h) (by kernel_rfl) (fun _ h => by cases h) fnScans_row_tie rfl ⟨rfl, rfl⟩ (by kernel_rfl) rfl
    (fun f fn hf hfn => by
      obtain rfl : f = 3 := Option.some.inj ((show Tryz.prog.funcNamed Rows.fnScansRow.func = some 3 by kernel_rfl).symm.trans hf) |>.symm
      obtain rfl : fn = Tryz.f3 := (Option.some.inj (Tryz.func3.symm.trans hfn)).symm
      exact ⟨by kernel_rfl, fun j t ht => by
        rw [Tryz.params3] at ht
        have hm : t ∈ [22] := by simpa using Array.mem_of_getElem? ht
        have hall : ([22].all fun u => !Tryz.prog.wantsStandIn u) = true := by kernel_rfl
        exact (show Tryz.prog.wantsStandIn t = false by simpa using List.all_eq_true.1 hall t hm)⟩)
    (by kernel_rfl)
#print axioms proved
end Go.Proofs.YthbljfanoaibkaaGreatDoor.fnScans
