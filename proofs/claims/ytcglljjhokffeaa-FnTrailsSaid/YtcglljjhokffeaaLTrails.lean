/- A trail stays valid, and a confirmed one is lost only after enough misses or when it leaves its range: the law's walk. Printed by gen_trails.py. -/
import Derived.Test.YtcglljjhokffeaaTrF
import Derived.Test.YtcglljjhokffeaaBig
import Derived.Deep.CutRange
import Derived.Deep.DeepCutAuto
namespace Go.Proofs.Ytcglljjhokffeaa
open Go.RowKit Go.ChangeShapes Go.WideShapes Go.ChangeAt
set_option linter.unusedVariables false
set_option linter.unusedSimpArgs false
theorem coN_end {k N : Nat} {a : Tr} (h : k + coN (5 - k) a = N) (hk : k ≤ 5) (hm : a.t = 2 ∨ (k : Int) ≤ a.m) (hT : trT a = true) (hN : ¬ k < N) : a.t = 2 := by
  rcases Nat.lt_or_ge k 5 with h5 | h5
  · obtain ⟨j, hj⟩ : ∃ j, 5 - k = j + 1 := ⟨4 - k, by omega⟩
    rw [hj, coN] at h
    by_cases ht : a.t = 2
    · exact ht
    · rw [if_neg ht] at h; omega
  · rcases hm with hm | hm
    · exact hm
    · obtain ⟨x, y, p, q, s, t, hh, m⟩ := a
      have := (tr_facts (show trB x y p q s t hh m = true from hT)).2.2.2.2.2.2
      have hm : (k : Int) ≤ m := hm
      show t = 2
      omega
theorem coN_live {k N : Nat} {a : Tr} (h : k + coN (5 - k) a = N) (hN : k < N) : ¬ a.t = 2 := fun ht => by rw [coN_lost ht] at h; omega
theorem coN_lt {k N : Nat} {a : Tr} (h : k + coN (5 - k) a = N) (hk : k ≤ 5) (hN : k < N) : k ≤ 4 := by
  rcases Nat.lt_or_ge k 5 with h5 | h5
  · omega
  · have : 5 - k = 0 := by omega
    rw [this, coN] at h; omega
set_option maxHeartbeats 12800000 in
set_option maxRecDepth 100000 in
theorem walk_Trails (A : Option Addr) (c : Nat) (code : List Int) (w : World) (hr : U8 w w.heap.size A code) (hb : ∀ x ∈ code, 0 ≤ x ∧ x ≤ 255) :
    Calls Try.prog 4 #[.slice A code.length c] w fun e w' => e = .returned (.bool true) ∧ Below w.heap.size w w' := by
  by_cases hl : ¬ code.length ≤ 4096
  · have hl2 : (4096 : Int) < (code.length : Int) := by omega
    go_enter Try.func4, Try.ntmps4
    go_wp2_with (first | (go_at_call 6; refine (laws_big _ _ _ _).mono ?_; rintro e w' ⟨rfl, rfl⟩) | fail)
    all_goals go_returns
    all_goals exact ⟨rfl, Below.refl _ _⟩
  have hl : code.length ≤ 4096 := by omega
  have hl2 : ¬ (4096 : Int) < (code.length : Int) := by omega
  have B : Below w.heap.size w w := Below.refl _ _
  have hneq : ∀ (x y p q s t h m : Int) (w : World), (binOp .neq 41 (.agg #[.int .i64 x, .int .i64 y, .int .i64 p, .int .i64 q, .int .i64 s, .int .i64 t, .int .i64 h, .int .i64 m]) (.agg #[.int .i64 x, .int .i64 y, .int .i64 p, .int .i64 q, .int .i64 s, .int .i64 t, .int .i64 h, .int .i64 m])).run Try.prog w = .ok (.bool false) w := neqT
  have hrH := Lib.hid hr
  have hbH := Lib.hid hb
  clear hr hb
  go_enter Try.func4, Try.ntmps4
  go_wp2_with (first | (go_at_call 6; refine (laws_big _ _ _ _).mono ?_; rintro e w' ⟨rfl, rfl⟩) | fail)
  refine (spec_DrawHitTrail _ _ _ _ hrH.out hbH.out hl).mono ?_
  rintro e w1 ⟨x, y, p, q, s, t, h, m, a, b, rfl, hb1⟩
  have B : Below w.heap.size w w1 := B.trans hb1
  clear hb1
  go_wp2_with fail
  refine calls_gen (fun W1 hW1 => ?_)
  have b3 : IBox W1 41 (w1.heap.size) [x, y, p, q, s, t, h, m] := by rw [hW1]; exact ((IBox.new (w := w1) (T := 41) (l := [x, y, p, q, s, t, h, m]) rfl).alloc _)
  have b4 : IBox W1 43 (w1.heap.size + 1) [a, b] := by rw [hW1]; exact (IBox.new (w := w1.alloc _) (T := 43) (l := [a, b]) (by rw [World.size_alloc]))
  have B : Below w.heap.size w W1 := by rw [hW1]; exact (Below.new (Below.new B _) _)
  clear hW1
  rcases hf1 : fHT ⟨x, y, p, q, s, t, h, m⟩ a b with ⟨⟨xh, yh, ph, qh, sh, th, hh, mh⟩, hc⟩
  have hf1H := Lib.hid hf1
  clear hf1
  refine (impl_HitTrailF x y p q s t h m a b xh yh ph qh sh th hh mh hc _ hf1H.out).mono ?_
  rintro e w2 ⟨rfl, hb2⟩
  have b3 := b3.next hb2
  have b4 := b4.next hb2
  have B : Below w.heap.size w w2 := B.trans (hb2.mono B.size)
  clear hb2
  have cb30 := b3.cell (j := 0) rfl
  have cb31 := b3.cell (j := 1) rfl
  have cb32 := b3.cell (j := 2) rfl
  have cb33 := b3.cell (j := 3) rfl
  have cb34 := b3.cell (j := 4) rfl
  have cb35 := b3.cell (j := 5) rfl
  have cb36 := b3.cell (j := 6) rfl
  have cb37 := b3.cell (j := 7) rfl
  have cb3f := b3.fz
  have cb40 := b4.cell (j := 0) rfl
  have cb41 := b4.cell (j := 1) rfl
  have cb4f := b4.fz
  have abb30 : ∀ ob, (w2.alloc ob).cell? ⟨w1.heap.size, 0, none⟩ = some (.int .i64 x) := fun ob => bx_alloc cb30
  have abb31 : ∀ ob, (w2.alloc ob).cell? ⟨w1.heap.size, 1, none⟩ = some (.int .i64 y) := fun ob => bx_alloc cb31
  have abb32 : ∀ ob, (w2.alloc ob).cell? ⟨w1.heap.size, 2, none⟩ = some (.int .i64 p) := fun ob => bx_alloc cb32
  have abb33 : ∀ ob, (w2.alloc ob).cell? ⟨w1.heap.size, 3, none⟩ = some (.int .i64 q) := fun ob => bx_alloc cb33
  have abb34 : ∀ ob, (w2.alloc ob).cell? ⟨w1.heap.size, 4, none⟩ = some (.int .i64 s) := fun ob => bx_alloc cb34
  have abb35 : ∀ ob, (w2.alloc ob).cell? ⟨w1.heap.size, 5, none⟩ = some (.int .i64 t) := fun ob => bx_alloc cb35
  have abb36 : ∀ ob, (w2.alloc ob).cell? ⟨w1.heap.size, 6, none⟩ = some (.int .i64 h) := fun ob => bx_alloc cb36
  have abb37 : ∀ ob, (w2.alloc ob).cell? ⟨w1.heap.size, 7, none⟩ = some (.int .i64 m) := fun ob => bx_alloc cb37
  have abb40 : ∀ ob, (w2.alloc ob).cell? ⟨w1.heap.size + 1, 0, none⟩ = some (.int .i64 a) := fun ob => bx_alloc cb40
  have abb41 : ∀ ob, (w2.alloc ob).cell? ⟨w1.heap.size + 1, 1, none⟩ = some (.int .i64 b) := fun ob => bx_alloc cb41
  go_wp2_with fail
  clear abb30 abb31 abb32 abb33 abb34 abb35 abb36 abb37 abb40 abb41
  clear cb30 cb31 cb32 cb33 cb34 cb35 cb36 cb37 cb3f
  clear cb40 cb41 cb4f
  refine calls_gen (fun W2 hW2 => ?_)
  have b5 : IBox W2 41 (w2.heap.size) [xh, yh, ph, qh, sh, th, hh, mh] := by rw [hW2]; exact (IBox.new (w := w2) (T := 41) (l := [xh, yh, ph, qh, sh, th, hh, mh]) rfl)
  have b3 : IBox W2 41 (w1.heap.size) [x, y, p, q, s, t, h, m] := by rw [hW2]; exact (b3.alloc _)
  have b4 : IBox W2 43 (w1.heap.size + 1) [a, b] := by rw [hW2]; exact (b4.alloc _)
  have B : Below w.heap.size w W2 := by rw [hW2]; exact (Below.new B _)
  clear hW2
  refine (spec_HitTrailF x y p q s t h m a b xh yh ph qh sh th hh mh hc _ hf1H.out).mono ?_
  rintro e w3 ⟨rfl, hb3⟩
  have b3 := b3.next hb3
  have b4 := b4.next hb3
  have b5 := b5.next hb3
  have B : Below w.heap.size w w3 := B.trans (hb3.mono B.size)
  clear hb3
  go_wp2_with fail
  refine calls_gen (fun W3 hW3 => ?_)
  have b7 : IBox W3 41 (w3.heap.size) [xh, yh, ph, qh, sh, th, hh, mh] := by rw [hW3]; exact (IBox.new (w := w3) (T := 41) (l := [xh, yh, ph, qh, sh, th, hh, mh]) rfl)
  have b3 : IBox W3 41 (w1.heap.size) [x, y, p, q, s, t, h, m] := by rw [hW3]; exact (b3.alloc _)
  have b4 : IBox W3 43 (w1.heap.size + 1) [a, b] := by rw [hW3]; exact (b4.alloc _)
  have b5 : IBox W3 41 (w2.heap.size) [xh, yh, ph, qh, sh, th, hh, mh] := by rw [hW3]; exact (b5.alloc _)
  have B : Below w.heap.size w W3 := by rw [hW3]; exact (Below.new B _)
  clear hW3
  refine (spec_DrawMissTrail _ _ _ _ (Rd.up hrH.out B) hbH.out hl).mono ?_
  rintro e w4 ⟨xx, yx, px, qx, sx, tx, hx, mx, rfl, hb4⟩
  have b3 := b3.next hb4
  have b4 := b4.next hb4
  have b5 := b5.next hb4
  have b7 := b7.next hb4
  have B : Below w.heap.size w w4 := B.trans (hb4.mono B.size)
  clear hb4
  go_wp2_with fail
  refine calls_gen (fun W4 hW4 => ?_)
  have b9 : IBox W4 41 (w4.heap.size) [xx, yx, px, qx, sx, tx, hx, mx] := by rw [hW4]; exact (IBox.new (w := w4) (T := 41) (l := [xx, yx, px, qx, sx, tx, hx, mx]) rfl)
  have b3 : IBox W4 41 (w1.heap.size) [x, y, p, q, s, t, h, m] := by rw [hW4]; exact (b3.alloc _)
  have b4 : IBox W4 43 (w1.heap.size + 1) [a, b] := by rw [hW4]; exact (b4.alloc _)
  have b5 : IBox W4 41 (w2.heap.size) [xh, yh, ph, qh, sh, th, hh, mh] := by rw [hW4]; exact (b5.alloc _)
  have b7 : IBox W4 41 (w3.heap.size) [xh, yh, ph, qh, sh, th, hh, mh] := by rw [hW4]; exact (b7.alloc _)
  have B : Below w.heap.size w W4 := by rw [hW4]; exact (Below.new B _)
  clear hW4
  rcases hf2 : fMT ⟨xx, yx, px, qx, sx, tx, hx, mx⟩ with ⟨⟨xm, ym, pm, qm, sm, tm, hm, mm⟩, mc⟩
  have hf2H := Lib.hid hf2
  clear hf2
  refine (impl_MissTrailF xx yx px qx sx tx hx mx xm ym pm qm sm tm hm mm mc _ hf2H.out).mono ?_
  rintro e w5 ⟨rfl, hb5⟩
  have b3 := b3.next hb5
  have b4 := b4.next hb5
  have b5 := b5.next hb5
  have b7 := b7.next hb5
  have b9 := b9.next hb5
  have B : Below w.heap.size w w5 := B.trans (hb5.mono B.size)
  clear hb5
  have cb90 := b9.cell (j := 0) rfl
  have cb91 := b9.cell (j := 1) rfl
  have cb92 := b9.cell (j := 2) rfl
  have cb93 := b9.cell (j := 3) rfl
  have cb94 := b9.cell (j := 4) rfl
  have cb95 := b9.cell (j := 5) rfl
  have cb96 := b9.cell (j := 6) rfl
  have cb97 := b9.cell (j := 7) rfl
  have cb9f := b9.fz
  have abb90 : ∀ ob, (w5.alloc ob).cell? ⟨w4.heap.size, 0, none⟩ = some (.int .i64 xx) := fun ob => bx_alloc cb90
  have abb91 : ∀ ob, (w5.alloc ob).cell? ⟨w4.heap.size, 1, none⟩ = some (.int .i64 yx) := fun ob => bx_alloc cb91
  have abb92 : ∀ ob, (w5.alloc ob).cell? ⟨w4.heap.size, 2, none⟩ = some (.int .i64 px) := fun ob => bx_alloc cb92
  have abb93 : ∀ ob, (w5.alloc ob).cell? ⟨w4.heap.size, 3, none⟩ = some (.int .i64 qx) := fun ob => bx_alloc cb93
  have abb94 : ∀ ob, (w5.alloc ob).cell? ⟨w4.heap.size, 4, none⟩ = some (.int .i64 sx) := fun ob => bx_alloc cb94
  have abb95 : ∀ ob, (w5.alloc ob).cell? ⟨w4.heap.size, 5, none⟩ = some (.int .i64 tx) := fun ob => bx_alloc cb95
  have abb96 : ∀ ob, (w5.alloc ob).cell? ⟨w4.heap.size, 6, none⟩ = some (.int .i64 hx) := fun ob => bx_alloc cb96
  have abb97 : ∀ ob, (w5.alloc ob).cell? ⟨w4.heap.size, 7, none⟩ = some (.int .i64 mx) := fun ob => bx_alloc cb97
  go_wp2_with fail
  clear abb90 abb91 abb92 abb93 abb94 abb95 abb96 abb97
  clear cb90 cb91 cb92 cb93 cb94 cb95 cb96 cb97 cb9f
  refine calls_gen (fun W5 hW5 => ?_)
  have b10 : IBox W5 41 (w5.heap.size) [xm, ym, pm, qm, sm, tm, hm, mm] := by rw [hW5]; exact (IBox.new (w := w5) (T := 41) (l := [xm, ym, pm, qm, sm, tm, hm, mm]) rfl)
  have b3 : IBox W5 41 (w1.heap.size) [x, y, p, q, s, t, h, m] := by rw [hW5]; exact (b3.alloc _)
  have b4 : IBox W5 43 (w1.heap.size + 1) [a, b] := by rw [hW5]; exact (b4.alloc _)
  have b5 : IBox W5 41 (w2.heap.size) [xh, yh, ph, qh, sh, th, hh, mh] := by rw [hW5]; exact (b5.alloc _)
  have b7 : IBox W5 41 (w3.heap.size) [xh, yh, ph, qh, sh, th, hh, mh] := by rw [hW5]; exact (b7.alloc _)
  have b9 : IBox W5 41 (w4.heap.size) [xx, yx, px, qx, sx, tx, hx, mx] := by rw [hW5]; exact (b9.alloc _)
  have B : Below w.heap.size w W5 := by rw [hW5]; exact (Below.new B _)
  clear hW5
  refine (spec_MissTrailF xx yx px qx sx tx hx mx xm ym pm qm sm tm hm mm mc _ hf2H.out).mono ?_
  rintro e w6 ⟨rfl, hb6⟩
  have b3 := b3.next hb6
  have b4 := b4.next hb6
  have b5 := b5.next hb6
  have b7 := b7.next hb6
  have b9 := b9.next hb6
  have b10 := b10.next hb6
  have B : Below w.heap.size w w6 := B.trans (hb6.mono B.size)
  clear hb6
  go_wp2_with fail
  refine calls_gen (fun W6 hW6 => ?_)
  have b12 : IBox W6 41 (w6.heap.size) [xm, ym, pm, qm, sm, tm, hm, mm] := by rw [hW6]; exact (IBox.new (w := w6) (T := 41) (l := [xm, ym, pm, qm, sm, tm, hm, mm]) rfl)
  have b3 : IBox W6 41 (w1.heap.size) [x, y, p, q, s, t, h, m] := by rw [hW6]; exact (b3.alloc _)
  have b4 : IBox W6 43 (w1.heap.size + 1) [a, b] := by rw [hW6]; exact (b4.alloc _)
  have b5 : IBox W6 41 (w2.heap.size) [xh, yh, ph, qh, sh, th, hh, mh] := by rw [hW6]; exact (b5.alloc _)
  have b7 : IBox W6 41 (w3.heap.size) [xh, yh, ph, qh, sh, th, hh, mh] := by rw [hW6]; exact (b7.alloc _)
  have b9 : IBox W6 41 (w4.heap.size) [xx, yx, px, qx, sx, tx, hx, mx] := by rw [hW6]; exact (b9.alloc _)
  have b10 : IBox W6 41 (w5.heap.size) [xm, ym, pm, qm, sm, tm, hm, mm] := by rw [hW6]; exact (b10.alloc _)
  have B : Below w.heap.size w W6 := by rw [hW6]; exact (Below.new B _)
  clear hW6
  refine (spec_DrawCoastsFor _ _ _ _ (Rd.up hrH.out B) hbH.out hl).mono ?_
  rintro e w7 ⟨xy, yy, py, qy, sy, ty, hy, my, rfl, hb7⟩
  have b3 := b3.next hb7
  have b4 := b4.next hb7
  have b5 := b5.next hb7
  have b7 := b7.next hb7
  have b9 := b9.next hb7
  have b10 := b10.next hb7
  have b12 := b12.next hb7
  have B : Below w.heap.size w w7 := B.trans (hb7.mono B.size)
  clear hb7
  go_wp2_with fail
  refine calls_gen (fun W7 hW7 => ?_)
  have b14 : IBox W7 41 (w7.heap.size) [xy, yy, py, qy, sy, ty, hy, my] := by rw [hW7]; exact (IBox.new (w := w7) (T := 41) (l := [xy, yy, py, qy, sy, ty, hy, my]) rfl)
  have b3 : IBox W7 41 (w1.heap.size) [x, y, p, q, s, t, h, m] := by rw [hW7]; exact (b3.alloc _)
  have b4 : IBox W7 43 (w1.heap.size + 1) [a, b] := by rw [hW7]; exact (b4.alloc _)
  have b5 : IBox W7 41 (w2.heap.size) [xh, yh, ph, qh, sh, th, hh, mh] := by rw [hW7]; exact (b5.alloc _)
  have b7 : IBox W7 41 (w3.heap.size) [xh, yh, ph, qh, sh, th, hh, mh] := by rw [hW7]; exact (b7.alloc _)
  have b9 : IBox W7 41 (w4.heap.size) [xx, yx, px, qx, sx, tx, hx, mx] := by rw [hW7]; exact (b9.alloc _)
  have b10 : IBox W7 41 (w5.heap.size) [xm, ym, pm, qm, sm, tm, hm, mm] := by rw [hW7]; exact (b10.alloc _)
  have b12 : IBox W7 41 (w6.heap.size) [xm, ym, pm, qm, sm, tm, hm, mm] := by rw [hW7]; exact (b12.alloc _)
  have B : Below w.heap.size w W7 := by rw [hW7]; exact (Below.new B _)
  clear hW7
  obtain ⟨nn, hnn⟩ : ∃ n, n = (fCoasts ⟨xy, yy, py, qy, sy, ty, hy, my⟩).1 := ⟨_, rfl⟩
  obtain ⟨nc, hnc⟩ : ∃ n, n = (fCoasts ⟨xy, yy, py, qy, sy, ty, hy, my⟩).2 := ⟨_, rfl⟩
  have hI := fun w => impl_CoastsFor xy yy py qy sy ty hy my w
  have hS := fun w => spec_CoastsFor xy yy py qy sy ty hy my w
  rw [← hnn, ← hnc] at hI hS
  have hIH := Lib.hid hI
  have hSH := Lib.hid hS
  have hnnH := Lib.hid hnn
  have hncH := Lib.hid hnc
  clear hI hS hnn hnc
  refine (hIH.out _).mono ?_
  rintro e w8 ⟨rfl, hb8⟩
  have b3 := b3.next hb8
  have b4 := b4.next hb8
  have b5 := b5.next hb8
  have b7 := b7.next hb8
  have b9 := b9.next hb8
  have b10 := b10.next hb8
  have b12 := b12.next hb8
  have b14 := b14.next hb8
  have B : Below w.heap.size w w8 := B.trans (hb8.mono B.size)
  clear hb8
  have cb140 := b14.cell (j := 0) rfl
  have cb141 := b14.cell (j := 1) rfl
  have cb142 := b14.cell (j := 2) rfl
  have cb143 := b14.cell (j := 3) rfl
  have cb144 := b14.cell (j := 4) rfl
  have cb145 := b14.cell (j := 5) rfl
  have cb146 := b14.cell (j := 6) rfl
  have cb147 := b14.cell (j := 7) rfl
  have cb14f := b14.fz
  go_wp2_with fail
  clear cb140 cb141 cb142 cb143 cb144 cb145 cb146 cb147 cb14f
  refine (hSH.out _).mono ?_
  rintro e w9 ⟨rfl, hb9⟩
  have b3 := b3.next hb9
  have b4 := b4.next hb9
  have b5 := b5.next hb9
  have b7 := b7.next hb9
  have b9 := b9.next hb9
  have b10 := b10.next hb9
  have b12 := b12.next hb9
  have b14 := b14.next hb9
  have B : Below w.heap.size w w9 := B.trans (hb9.mono B.size)
  clear hb9
  have n1 : (hc != hc) = false := by simp
  have n2 : (mc != mc) = false := by simp
  have n3 : (nc != nc) = false := by simp
  have n4 : (nn != nn) = false := by simp
  have n5 : (trB x y p q s t h m != trB x y p q s t h m) = false := by simp
  have cb30 := b3.cell (j := 0) rfl
  have cb31 := b3.cell (j := 1) rfl
  have cb32 := b3.cell (j := 2) rfl
  have cb33 := b3.cell (j := 3) rfl
  have cb34 := b3.cell (j := 4) rfl
  have cb35 := b3.cell (j := 5) rfl
  have cb36 := b3.cell (j := 6) rfl
  have cb37 := b3.cell (j := 7) rfl
  have cb3f := b3.fz
  have cb50 := b5.cell (j := 0) rfl
  have cb51 := b5.cell (j := 1) rfl
  have cb52 := b5.cell (j := 2) rfl
  have cb53 := b5.cell (j := 3) rfl
  have cb54 := b5.cell (j := 4) rfl
  have cb55 := b5.cell (j := 5) rfl
  have cb56 := b5.cell (j := 6) rfl
  have cb57 := b5.cell (j := 7) rfl
  have cb5f := b5.fz
  have cb70 := b7.cell (j := 0) rfl
  have cb71 := b7.cell (j := 1) rfl
  have cb72 := b7.cell (j := 2) rfl
  have cb73 := b7.cell (j := 3) rfl
  have cb74 := b7.cell (j := 4) rfl
  have cb75 := b7.cell (j := 5) rfl
  have cb76 := b7.cell (j := 6) rfl
  have cb77 := b7.cell (j := 7) rfl
  have cb7f := b7.fz
  have cb100 := b10.cell (j := 0) rfl
  have cb101 := b10.cell (j := 1) rfl
  have cb102 := b10.cell (j := 2) rfl
  have cb103 := b10.cell (j := 3) rfl
  have cb104 := b10.cell (j := 4) rfl
  have cb105 := b10.cell (j := 5) rfl
  have cb106 := b10.cell (j := 6) rfl
  have cb107 := b10.cell (j := 7) rfl
  have cb10f := b10.fz
  have cb120 := b12.cell (j := 0) rfl
  have cb121 := b12.cell (j := 1) rfl
  have cb122 := b12.cell (j := 2) rfl
  have cb123 := b12.cell (j := 3) rfl
  have cb124 := b12.cell (j := 4) rfl
  have cb125 := b12.cell (j := 5) rfl
  have cb126 := b12.cell (j := 6) rfl
  have cb127 := b12.cell (j := 7) rfl
  have cb12f := b12.fz
  go_wp2_with fail
  (refine wp_region_noPanic ?_; refine wp_region_held_drew (S := (fun w' => w'.cell? ⟨w1.heap.size, 0, none⟩ = some (.int .i64 x) ∧ w'.cell? ⟨w1.heap.size, 1, none⟩ = some (.int .i64 y) ∧ w'.cell? ⟨w1.heap.size, 2, none⟩ = some (.int .i64 p) ∧ w'.cell? ⟨w1.heap.size, 3, none⟩ = some (.int .i64 q) ∧ w'.cell? ⟨w1.heap.size, 4, none⟩ = some (.int .i64 s) ∧ w'.cell? ⟨w1.heap.size, 5, none⟩ = some (.int .i64 t) ∧ w'.cell? ⟨w1.heap.size, 6, none⟩ = some (.int .i64 h) ∧ w'.cell? ⟨w1.heap.size, 7, none⟩ = some (.int .i64 m) ∧ w'.cell? ⟨w2.heap.size, 0, none⟩ = some (.int .i64 xh) ∧ w'.cell? ⟨w2.heap.size, 1, none⟩ = some (.int .i64 yh) ∧ w'.cell? ⟨w2.heap.size, 2, none⟩ = some (.int .i64 ph) ∧ w'.cell? ⟨w2.heap.size, 3, none⟩ = some (.int .i64 qh) ∧ w'.cell? ⟨w2.heap.size, 4, none⟩ = some (.int .i64 sh) ∧ w'.cell? ⟨w2.heap.size, 5, none⟩ = some (.int .i64 th) ∧ w'.cell? ⟨w2.heap.size, 6, none⟩ = some (.int .i64 hh) ∧ w'.cell? ⟨w2.heap.size, 7, none⟩ = some (.int .i64 mh) ∧ w'.cell? ⟨w3.heap.size, 0, none⟩ = some (.int .i64 xh) ∧ w'.cell? ⟨w3.heap.size, 1, none⟩ = some (.int .i64 yh) ∧ w'.cell? ⟨w3.heap.size, 2, none⟩ = some (.int .i64 ph) ∧ w'.cell? ⟨w3.heap.size, 3, none⟩ = some (.int .i64 qh) ∧ w'.cell? ⟨w3.heap.size, 4, none⟩ = some (.int .i64 sh) ∧ w'.cell? ⟨w3.heap.size, 5, none⟩ = some (.int .i64 th) ∧ w'.cell? ⟨w3.heap.size, 6, none⟩ = some (.int .i64 hh) ∧ w'.cell? ⟨w3.heap.size, 7, none⟩ = some (.int .i64 mh) ∧ w'.cell? ⟨w5.heap.size, 0, none⟩ = some (.int .i64 xm) ∧ w'.cell? ⟨w5.heap.size, 1, none⟩ = some (.int .i64 ym) ∧ w'.cell? ⟨w5.heap.size, 2, none⟩ = some (.int .i64 pm) ∧ w'.cell? ⟨w5.heap.size, 3, none⟩ = some (.int .i64 qm) ∧ w'.cell? ⟨w5.heap.size, 4, none⟩ = some (.int .i64 sm) ∧ w'.cell? ⟨w5.heap.size, 5, none⟩ = some (.int .i64 tm) ∧ w'.cell? ⟨w5.heap.size, 6, none⟩ = some (.int .i64 hm) ∧ w'.cell? ⟨w5.heap.size, 7, none⟩ = some (.int .i64 mm) ∧ w'.cell? ⟨w6.heap.size, 0, none⟩ = some (.int .i64 xm) ∧ w'.cell? ⟨w6.heap.size, 1, none⟩ = some (.int .i64 ym) ∧ w'.cell? ⟨w6.heap.size, 2, none⟩ = some (.int .i64 pm) ∧ w'.cell? ⟨w6.heap.size, 3, none⟩ = some (.int .i64 qm) ∧ w'.cell? ⟨w6.heap.size, 4, none⟩ = some (.int .i64 sm) ∧ w'.cell? ⟨w6.heap.size, 5, none⟩ = some (.int .i64 tm) ∧ w'.cell? ⟨w6.heap.size, 6, none⟩ = some (.int .i64 hm) ∧ w'.cell? ⟨w6.heap.size, 7, none⟩ = some (.int .i64 mm))) (by kernel_rfl) ?_ (fun hHeld => ?_); (focus ((try dsimp only); (refine ⟨?_, ?_, ?_, ?_, ?_, ?_, ?_, ?_, ?_, ?_, ?_, ?_, ?_, ?_, ?_, ?_, ?_, ?_, ?_, ?_, ?_, ?_, ?_, ?_, ?_, ?_, ?_, ?_, ?_, ?_, ?_, ?_, ?_, ?_, ?_, ?_, ?_, ?_, ?_, ?_⟩ <;> exact bxc))); (refine takeT (i := 0) (d := 66) rfl rfl (by kernel_rfl) (by kernel_rfl) (by kernel_rfl) (by rfl) (by assumption) (v := ?_) ?_ ?_; rotate_left; (focus (intro wq hSw; (try dsimp only at hSw); go_simp; (try (with_reducible rfl)); done)); (try simp only [Act.put, List.setIfInBounds_toArray, List.set_cons_zero, List.set_cons_succ])); (refine takeT (i := 1) (d := 67) rfl rfl (by kernel_rfl) (by kernel_rfl) (by kernel_rfl) (by rfl) (by assumption) (v := ?_) ?_ ?_; rotate_left; (focus (intro wq hSw; (try dsimp only at hSw); go_simp; (try (with_reducible rfl)); done)); (try simp only [Act.put, List.setIfInBounds_toArray, List.set_cons_zero, List.set_cons_succ])); (refine takeT (i := 2) (d := 68) rfl rfl (by kernel_rfl) (by kernel_rfl) (by kernel_rfl) (by rfl) (by assumption) (v := ?_) ?_ ?_; rotate_left; (focus (intro wq hSw; (try dsimp only at hSw); go_simp; (try (with_reducible rfl)); done)); (try simp only [Act.put, List.setIfInBounds_toArray, List.set_cons_zero, List.set_cons_succ])); (refine takeT (i := 3) (d := 69) rfl rfl (by kernel_rfl) (by kernel_rfl) (by kernel_rfl) (by rfl) (by assumption) (v := ?_) ?_ ?_; rotate_left; (focus (intro wq hSw; (try dsimp only at hSw); go_simp; (try (with_reducible rfl)); done)); (try simp only [Act.put, List.setIfInBounds_toArray, List.set_cons_zero, List.set_cons_succ])); (refine takeT (i := 4) (d := 70) rfl rfl (by kernel_rfl) (by kernel_rfl) (by kernel_rfl) (by rfl) (by assumption) (v := ?_) ?_ ?_; rotate_left; (focus (intro wq hSw; (try dsimp only at hSw); go_simp; (try (with_reducible rfl)); done)); (try simp only [Act.put, List.setIfInBounds_toArray, List.set_cons_zero, List.set_cons_succ])); (refine takeT (i := 5) (d := 71) rfl rfl (by kernel_rfl) (by kernel_rfl) (by kernel_rfl) (by rfl) (by assumption) (v := ?_) ?_ ?_; rotate_left; (focus (intro wq hSw; (try dsimp only at hSw); go_simp; (try (with_reducible rfl)); done)); (try simp only [Act.put, List.setIfInBounds_toArray, List.set_cons_zero, List.set_cons_succ])); (refine takeT (i := 6) (d := 72) rfl rfl (by kernel_rfl) (by kernel_rfl) (by kernel_rfl) (by rfl) (by assumption) (v := ?_) ?_ ?_; rotate_left; (focus (intro wq hSw; (try dsimp only at hSw); go_simp; (try (with_reducible rfl)); done)); (try simp only [Act.put, List.setIfInBounds_toArray, List.set_cons_zero, List.set_cons_succ])); (refine takeT (i := 7) (d := 73) rfl rfl (by kernel_rfl) (by kernel_rfl) (by kernel_rfl) (by rfl) (by assumption) (v := ?_) ?_ ?_; rotate_left; (focus (intro wq hSw; (try dsimp only at hSw); go_simp; (try (with_reducible rfl)); done)); (try simp only [Act.put, List.setIfInBounds_toArray, List.set_cons_zero, List.set_cons_succ])); (refine takeT (i := 8) (d := 74) rfl rfl (by kernel_rfl) (by kernel_rfl) (by kernel_rfl) (by rfl) (by assumption) (v := ?_) ?_ ?_; rotate_left; (focus (intro wq hSw; (try dsimp only at hSw); go_simp; (try (with_reducible rfl)); done)); (try simp only [Act.put, List.setIfInBounds_toArray, List.set_cons_zero, List.set_cons_succ])); (refine takeT (i := 9) (d := 75) rfl rfl (by kernel_rfl) (by kernel_rfl) (by kernel_rfl) (by rfl) (by assumption) (v := ?_) ?_ ?_; rotate_left; (focus (intro wq hSw; (try dsimp only at hSw); go_simp; (try (with_reducible rfl)); done)); (try simp only [Act.put, List.setIfInBounds_toArray, List.set_cons_zero, List.set_cons_succ])); (refine takeT (i := 10) (d := 76) rfl rfl (by kernel_rfl) (by kernel_rfl) (by kernel_rfl) (by rfl) (by assumption) (v := ?_) ?_ ?_; rotate_left; (focus (intro wq hSw; (try dsimp only at hSw); go_simp; (try (with_reducible rfl)); done)); (try simp only [Act.put, List.setIfInBounds_toArray, List.set_cons_zero, List.set_cons_succ])); (refine takeT (i := 11) (d := 77) rfl rfl (by kernel_rfl) (by kernel_rfl) (by kernel_rfl) (by rfl) (by assumption) (v := ?_) ?_ ?_; rotate_left; (focus (intro wq hSw; (try dsimp only at hSw); go_simp; (try (with_reducible rfl)); done)); (try simp only [Act.put, List.setIfInBounds_toArray, List.set_cons_zero, List.set_cons_succ])); (refine takeT (i := 12) (d := 78) rfl rfl (by kernel_rfl) (by kernel_rfl) (by kernel_rfl) (by rfl) (by assumption) (v := ?_) ?_ ?_; rotate_left; (focus (intro wq hSw; (try dsimp only at hSw); go_simp; (try (with_reducible rfl)); done)); (try simp only [Act.put, List.setIfInBounds_toArray, List.set_cons_zero, List.set_cons_succ])); (refine takeT (i := 13) (d := 79) rfl rfl (by kernel_rfl) (by kernel_rfl) (by kernel_rfl) (by rfl) (by assumption) (v := ?_) ?_ ?_; rotate_left; (focus (intro wq hSw; (try dsimp only at hSw); go_simp; (try (with_reducible rfl)); done)); (try simp only [Act.put, List.setIfInBounds_toArray, List.set_cons_zero, List.set_cons_succ])); (refine takeT (i := 14) (d := 80) rfl rfl (by kernel_rfl) (by kernel_rfl) (by kernel_rfl) (by rfl) (by assumption) (v := ?_) ?_ ?_; rotate_left; (focus (intro wq hSw; (try dsimp only at hSw); go_simp; (try (with_reducible rfl)); done)); (try simp only [Act.put, List.setIfInBounds_toArray, List.set_cons_zero, List.set_cons_succ])); (refine takeT (i := 15) (d := 81) rfl rfl (by kernel_rfl) (by kernel_rfl) (by kernel_rfl) (by rfl) (by assumption) (v := ?_) ?_ ?_; rotate_left; (focus (intro wq hSw; (try dsimp only at hSw); go_simp; (try (with_reducible rfl)); done)); (try simp only [Act.put, List.setIfInBounds_toArray, List.set_cons_zero, List.set_cons_succ])); (refine takeT (i := 16) (d := 82) rfl rfl (by kernel_rfl) (by kernel_rfl) (by kernel_rfl) (by rfl) (by assumption) (v := ?_) ?_ ?_; rotate_left; (focus (intro wq hSw; (try dsimp only at hSw); go_simp; (try (with_reducible rfl)); done)); (try simp only [Act.put, List.setIfInBounds_toArray, List.set_cons_zero, List.set_cons_succ])); (refine takeT (i := 17) (d := 83) rfl rfl (by kernel_rfl) (by kernel_rfl) (by kernel_rfl) (by rfl) (by assumption) (v := ?_) ?_ ?_; rotate_left; (focus (intro wq hSw; (try dsimp only at hSw); go_simp; (try (with_reducible rfl)); done)); (try simp only [Act.put, List.setIfInBounds_toArray, List.set_cons_zero, List.set_cons_succ])); (refine takeT (i := 18) (d := 84) rfl rfl (by kernel_rfl) (by kernel_rfl) (by kernel_rfl) (by rfl) (by assumption) (v := ?_) ?_ ?_; rotate_left; (focus (intro wq hSw; (try dsimp only at hSw); go_simp; (try (with_reducible rfl)); done)); (try simp only [Act.put, List.setIfInBounds_toArray, List.set_cons_zero, List.set_cons_succ])); (refine takeT (i := 19) (d := 85) rfl rfl (by kernel_rfl) (by kernel_rfl) (by kernel_rfl) (by rfl) (by assumption) (v := ?_) ?_ ?_; rotate_left; (focus (intro wq hSw; (try dsimp only at hSw); go_simp; (try (with_reducible rfl)); done)); (try simp only [Act.put, List.setIfInBounds_toArray, List.set_cons_zero, List.set_cons_succ])); (refine takeT (i := 20) (d := 86) rfl rfl (by kernel_rfl) (by kernel_rfl) (by kernel_rfl) (by rfl) (by assumption) (v := ?_) ?_ ?_; rotate_left; (focus (intro wq hSw; (try dsimp only at hSw); go_simp; (try (with_reducible rfl)); done)); (try simp only [Act.put, List.setIfInBounds_toArray, List.set_cons_zero, List.set_cons_succ])); (refine takeT (i := 21) (d := 87) rfl rfl (by kernel_rfl) (by kernel_rfl) (by kernel_rfl) (by rfl) (by assumption) (v := ?_) ?_ ?_; rotate_left; (focus (intro wq hSw; (try dsimp only at hSw); go_simp; (try (with_reducible rfl)); done)); (try simp only [Act.put, List.setIfInBounds_toArray, List.set_cons_zero, List.set_cons_succ])); (refine takeT (i := 22) (d := 88) rfl rfl (by kernel_rfl) (by kernel_rfl) (by kernel_rfl) (by rfl) (by assumption) (v := ?_) ?_ ?_; rotate_left; (focus (intro wq hSw; (try dsimp only at hSw); go_simp; (try (with_reducible rfl)); done)); (try simp only [Act.put, List.setIfInBounds_toArray, List.set_cons_zero, List.set_cons_succ])); (refine takeT (i := 23) (d := 89) rfl rfl (by kernel_rfl) (by kernel_rfl) (by kernel_rfl) (by rfl) (by assumption) (v := ?_) ?_ ?_; rotate_left; (focus (intro wq hSw; (try dsimp only at hSw); go_simp; (try (with_reducible rfl)); done)); (try simp only [Act.put, List.setIfInBounds_toArray, List.set_cons_zero, List.set_cons_succ])); (refine takeT (i := 24) (d := 90) rfl rfl (by kernel_rfl) (by kernel_rfl) (by kernel_rfl) (by rfl) (by assumption) (v := ?_) ?_ ?_; rotate_left; (focus (intro wq hSw; (try dsimp only at hSw); go_simp; (try (with_reducible rfl)); done)); (try simp only [Act.put, List.setIfInBounds_toArray, List.set_cons_zero, List.set_cons_succ])); (refine takeT (i := 25) (d := 91) rfl rfl (by kernel_rfl) (by kernel_rfl) (by kernel_rfl) (by rfl) (by assumption) (v := ?_) ?_ ?_; rotate_left; (focus (intro wq hSw; (try dsimp only at hSw); go_simp; (try (with_reducible rfl)); done)); (try simp only [Act.put, List.setIfInBounds_toArray, List.set_cons_zero, List.set_cons_succ])); (refine takeT (i := 26) (d := 92) rfl rfl (by kernel_rfl) (by kernel_rfl) (by kernel_rfl) (by rfl) (by assumption) (v := ?_) ?_ ?_; rotate_left; (focus (intro wq hSw; (try dsimp only at hSw); go_simp; (try (with_reducible rfl)); done)); (try simp only [Act.put, List.setIfInBounds_toArray, List.set_cons_zero, List.set_cons_succ])); (refine takeT (i := 27) (d := 93) rfl rfl (by kernel_rfl) (by kernel_rfl) (by kernel_rfl) (by rfl) (by assumption) (v := ?_) ?_ ?_; rotate_left; (focus (intro wq hSw; (try dsimp only at hSw); go_simp; (try (with_reducible rfl)); done)); (try simp only [Act.put, List.setIfInBounds_toArray, List.set_cons_zero, List.set_cons_succ])); (refine takeT (i := 28) (d := 94) rfl rfl (by kernel_rfl) (by kernel_rfl) (by kernel_rfl) (by rfl) (by assumption) (v := ?_) ?_ ?_; rotate_left; (focus (intro wq hSw; (try dsimp only at hSw); go_simp; (try (with_reducible rfl)); done)); (try simp only [Act.put, List.setIfInBounds_toArray, List.set_cons_zero, List.set_cons_succ])); (refine takeT (i := 29) (d := 95) rfl rfl (by kernel_rfl) (by kernel_rfl) (by kernel_rfl) (by rfl) (by assumption) (v := ?_) ?_ ?_; rotate_left; (focus (intro wq hSw; (try dsimp only at hSw); go_simp; (try (with_reducible rfl)); done)); (try simp only [Act.put, List.setIfInBounds_toArray, List.set_cons_zero, List.set_cons_succ])); (refine takeT (i := 31) (d := 97) rfl rfl (by kernel_rfl) (by kernel_rfl) (by kernel_rfl) (by rfl) (by assumption) (v := ?_) ?_ ?_; rotate_left; (focus (intro wq hSw; (try dsimp only at hSw); go_simp; (try (with_reducible rfl)); done)); (try simp only [Act.put, List.setIfInBounds_toArray, List.set_cons_zero, List.set_cons_succ])); (refine wpAnyH_ready (rs := [30]) (by kernel_rfl) (by simp) ?_; refine AllReadyH.cons rfl (fun K hK => ?_) AllReadyH.nil; go_simp; (first | (go_at_call 27; refine (impl_IsTrail x y p q s t h m _).mono ?_; rintro e w10 ⟨rfl, hb10⟩; have b3 := IBox.next (w := w9.drew) b3 hb10; have b4 := IBox.next (w := w9.drew) b4 hb10; have b5 := IBox.next (w := w9.drew) b5 hb10; have b7 := IBox.next (w := w9.drew) b7 hb10; have b9 := IBox.next (w := w9.drew) b9 hb10; have b10 := IBox.next (w := w9.drew) b10 hb10; have b12 := IBox.next (w := w9.drew) b12 hb10; have b14 := IBox.next (w := w9.drew) b14 hb10; have B : Below w.heap.size w w10 := Below.trans (show Below w.heap.size w w9.drew from below_drew B) (Below.mono hb10 (by have := B.size; exact this)); have cb30 := b3.cell (j := 0) rfl; have cb31 := b3.cell (j := 1) rfl; have cb32 := b3.cell (j := 2) rfl; have cb33 := b3.cell (j := 3) rfl; have cb34 := b3.cell (j := 4) rfl; have cb35 := b3.cell (j := 5) rfl; have cb36 := b3.cell (j := 6) rfl; have cb37 := b3.cell (j := 7) rfl; have cb3f := b3.fz; have cb50 := b5.cell (j := 0) rfl; have cb51 := b5.cell (j := 1) rfl; have cb52 := b5.cell (j := 2) rfl; have cb53 := b5.cell (j := 3) rfl; have cb54 := b5.cell (j := 4) rfl; have cb55 := b5.cell (j := 5) rfl; have cb56 := b5.cell (j := 6) rfl; have cb57 := b5.cell (j := 7) rfl; have cb5f := b5.fz; have cb70 := b7.cell (j := 0) rfl; have cb71 := b7.cell (j := 1) rfl; have cb72 := b7.cell (j := 2) rfl; have cb73 := b7.cell (j := 3) rfl; have cb74 := b7.cell (j := 4) rfl; have cb75 := b7.cell (j := 5) rfl; have cb76 := b7.cell (j := 6) rfl; have cb77 := b7.cell (j := 7) rfl; have cb7f := b7.fz; have cb100 := b10.cell (j := 0) rfl; have cb101 := b10.cell (j := 1) rfl; have cb102 := b10.cell (j := 2) rfl; have cb103 := b10.cell (j := 3) rfl; have cb104 := b10.cell (j := 4) rfl; have cb105 := b10.cell (j := 5) rfl; have cb106 := b10.cell (j := 6) rfl; have cb107 := b10.cell (j := 7) rfl; have cb10f := b10.fz; have cb120 := b12.cell (j := 0) rfl; have cb121 := b12.cell (j := 1) rfl; have cb122 := b12.cell (j := 2) rfl; have cb123 := b12.cell (j := 3) rfl; have cb124 := b12.cell (j := 4) rfl; have cb125 := b12.cell (j := 5) rfl; have cb126 := b12.cell (j := 6) rfl; have cb127 := b12.cell (j := 7) rfl; have cb12f := b12.fz) | (go_at_call 28; refine (spec_IsTrail x y p q s t h m _).mono ?_; rintro e w11 ⟨rfl, hb11⟩; have b3 := IBox.next b3 hb11; have b4 := IBox.next b4 hb11; have b5 := IBox.next b5 hb11; have b7 := IBox.next b7 hb11; have b9 := IBox.next b9 hb11; have b10 := IBox.next b10 hb11; have b12 := IBox.next b12 hb11; have b14 := IBox.next b14 hb11; have B : Below w.heap.size w w11 := Below.trans B (Below.mono hb11 (Below.size B)); have cb30 := b3.cell (j := 0) rfl; have cb31 := b3.cell (j := 1) rfl; have cb32 := b3.cell (j := 2) rfl; have cb33 := b3.cell (j := 3) rfl; have cb34 := b3.cell (j := 4) rfl; have cb35 := b3.cell (j := 5) rfl; have cb36 := b3.cell (j := 6) rfl; have cb37 := b3.cell (j := 7) rfl; have cb3f := b3.fz; have cb50 := b5.cell (j := 0) rfl; have cb51 := b5.cell (j := 1) rfl; have cb52 := b5.cell (j := 2) rfl; have cb53 := b5.cell (j := 3) rfl; have cb54 := b5.cell (j := 4) rfl; have cb55 := b5.cell (j := 5) rfl; have cb56 := b5.cell (j := 6) rfl; have cb57 := b5.cell (j := 7) rfl; have cb5f := b5.fz; have cb70 := b7.cell (j := 0) rfl; have cb71 := b7.cell (j := 1) rfl; have cb72 := b7.cell (j := 2) rfl; have cb73 := b7.cell (j := 3) rfl; have cb74 := b7.cell (j := 4) rfl; have cb75 := b7.cell (j := 5) rfl; have cb76 := b7.cell (j := 6) rfl; have cb77 := b7.cell (j := 7) rfl; have cb7f := b7.fz; have cb100 := b10.cell (j := 0) rfl; have cb101 := b10.cell (j := 1) rfl; have cb102 := b10.cell (j := 2) rfl; have cb103 := b10.cell (j := 3) rfl; have cb104 := b10.cell (j := 4) rfl; have cb105 := b10.cell (j := 5) rfl; have cb106 := b10.cell (j := 6) rfl; have cb107 := b10.cell (j := 7) rfl; have cb10f := b10.fz; have cb120 := b12.cell (j := 0) rfl; have cb121 := b12.cell (j := 1) rfl; have cb122 := b12.cell (j := 2) rfl; have cb123 := b12.cell (j := 3) rfl; have cb124 := b12.cell (j := 4) rfl; have cb125 := b12.cell (j := 5) rfl; have cb126 := b12.cell (j := 6) rfl; have cb127 := b12.cell (j := 7) rfl; have cb12f := b12.fz) | skip); (try go_wp2_with fail); refine hK.out _ _ ?_ (fun hHeld => ?_); (focus ((try dsimp only); (refine ⟨?_, ?_, ?_, ?_, ?_, ?_, ?_, ?_, ?_, ?_, ?_, ?_, ?_, ?_, ?_, ?_, ?_, ?_, ?_, ?_, ?_, ?_, ?_, ?_, ?_, ?_, ?_, ?_, ?_, ?_, ?_, ?_, ?_, ?_, ?_, ?_, ?_, ?_, ?_, ?_⟩ <;> exact bxc))); clear hK K; (try simp only [Act.put, List.setIfInBounds_toArray, List.set_cons_zero, List.set_cons_succ])); (refine wpAnyH_ready (rs := [32]) (by kernel_rfl) (by simp) ?_; refine AllReadyH.cons rfl (fun K hK => ?_) AllReadyH.nil; go_simp; (first | (go_at_call 27; refine (impl_IsTrail x y p q s t h m _).mono ?_; rintro e w10 ⟨rfl, hb10⟩; have b3 := IBox.next (w := w9.drew) b3 hb10; have b4 := IBox.next (w := w9.drew) b4 hb10; have b5 := IBox.next (w := w9.drew) b5 hb10; have b7 := IBox.next (w := w9.drew) b7 hb10; have b9 := IBox.next (w := w9.drew) b9 hb10; have b10 := IBox.next (w := w9.drew) b10 hb10; have b12 := IBox.next (w := w9.drew) b12 hb10; have b14 := IBox.next (w := w9.drew) b14 hb10; have B : Below w.heap.size w w10 := Below.trans (show Below w.heap.size w w9.drew from below_drew B) (Below.mono hb10 (by have := B.size; exact this)); have cb30 := b3.cell (j := 0) rfl; have cb31 := b3.cell (j := 1) rfl; have cb32 := b3.cell (j := 2) rfl; have cb33 := b3.cell (j := 3) rfl; have cb34 := b3.cell (j := 4) rfl; have cb35 := b3.cell (j := 5) rfl; have cb36 := b3.cell (j := 6) rfl; have cb37 := b3.cell (j := 7) rfl; have cb3f := b3.fz; have cb50 := b5.cell (j := 0) rfl; have cb51 := b5.cell (j := 1) rfl; have cb52 := b5.cell (j := 2) rfl; have cb53 := b5.cell (j := 3) rfl; have cb54 := b5.cell (j := 4) rfl; have cb55 := b5.cell (j := 5) rfl; have cb56 := b5.cell (j := 6) rfl; have cb57 := b5.cell (j := 7) rfl; have cb5f := b5.fz; have cb70 := b7.cell (j := 0) rfl; have cb71 := b7.cell (j := 1) rfl; have cb72 := b7.cell (j := 2) rfl; have cb73 := b7.cell (j := 3) rfl; have cb74 := b7.cell (j := 4) rfl; have cb75 := b7.cell (j := 5) rfl; have cb76 := b7.cell (j := 6) rfl; have cb77 := b7.cell (j := 7) rfl; have cb7f := b7.fz; have cb100 := b10.cell (j := 0) rfl; have cb101 := b10.cell (j := 1) rfl; have cb102 := b10.cell (j := 2) rfl; have cb103 := b10.cell (j := 3) rfl; have cb104 := b10.cell (j := 4) rfl; have cb105 := b10.cell (j := 5) rfl; have cb106 := b10.cell (j := 6) rfl; have cb107 := b10.cell (j := 7) rfl; have cb10f := b10.fz; have cb120 := b12.cell (j := 0) rfl; have cb121 := b12.cell (j := 1) rfl; have cb122 := b12.cell (j := 2) rfl; have cb123 := b12.cell (j := 3) rfl; have cb124 := b12.cell (j := 4) rfl; have cb125 := b12.cell (j := 5) rfl; have cb126 := b12.cell (j := 6) rfl; have cb127 := b12.cell (j := 7) rfl; have cb12f := b12.fz) | (go_at_call 28; refine (spec_IsTrail x y p q s t h m _).mono ?_; rintro e w11 ⟨rfl, hb11⟩; have b3 := IBox.next b3 hb11; have b4 := IBox.next b4 hb11; have b5 := IBox.next b5 hb11; have b7 := IBox.next b7 hb11; have b9 := IBox.next b9 hb11; have b10 := IBox.next b10 hb11; have b12 := IBox.next b12 hb11; have b14 := IBox.next b14 hb11; have B : Below w.heap.size w w11 := Below.trans B (Below.mono hb11 (Below.size B)); have cb30 := b3.cell (j := 0) rfl; have cb31 := b3.cell (j := 1) rfl; have cb32 := b3.cell (j := 2) rfl; have cb33 := b3.cell (j := 3) rfl; have cb34 := b3.cell (j := 4) rfl; have cb35 := b3.cell (j := 5) rfl; have cb36 := b3.cell (j := 6) rfl; have cb37 := b3.cell (j := 7) rfl; have cb3f := b3.fz; have cb50 := b5.cell (j := 0) rfl; have cb51 := b5.cell (j := 1) rfl; have cb52 := b5.cell (j := 2) rfl; have cb53 := b5.cell (j := 3) rfl; have cb54 := b5.cell (j := 4) rfl; have cb55 := b5.cell (j := 5) rfl; have cb56 := b5.cell (j := 6) rfl; have cb57 := b5.cell (j := 7) rfl; have cb5f := b5.fz; have cb70 := b7.cell (j := 0) rfl; have cb71 := b7.cell (j := 1) rfl; have cb72 := b7.cell (j := 2) rfl; have cb73 := b7.cell (j := 3) rfl; have cb74 := b7.cell (j := 4) rfl; have cb75 := b7.cell (j := 5) rfl; have cb76 := b7.cell (j := 6) rfl; have cb77 := b7.cell (j := 7) rfl; have cb7f := b7.fz; have cb100 := b10.cell (j := 0) rfl; have cb101 := b10.cell (j := 1) rfl; have cb102 := b10.cell (j := 2) rfl; have cb103 := b10.cell (j := 3) rfl; have cb104 := b10.cell (j := 4) rfl; have cb105 := b10.cell (j := 5) rfl; have cb106 := b10.cell (j := 6) rfl; have cb107 := b10.cell (j := 7) rfl; have cb10f := b10.fz; have cb120 := b12.cell (j := 0) rfl; have cb121 := b12.cell (j := 1) rfl; have cb122 := b12.cell (j := 2) rfl; have cb123 := b12.cell (j := 3) rfl; have cb124 := b12.cell (j := 4) rfl; have cb125 := b12.cell (j := 5) rfl; have cb126 := b12.cell (j := 6) rfl; have cb127 := b12.cell (j := 7) rfl; have cb12f := b12.fz) | skip); (try go_wp2_with fail); refine hK.out _ _ ?_ (fun hHeld => ?_); (focus ((try dsimp only); (refine ⟨?_, ?_, ?_, ?_, ?_, ?_, ?_, ?_, ?_, ?_, ?_, ?_, ?_, ?_, ?_, ?_, ?_, ?_, ?_, ?_, ?_, ?_, ?_, ?_, ?_, ?_, ?_, ?_, ?_, ?_, ?_, ?_, ?_, ?_, ?_, ?_, ?_, ?_, ?_, ?_⟩ <;> exact bxc))); clear hK K; (try simp only [Act.put, List.setIfInBounds_toArray, List.set_cons_zero, List.set_cons_succ])); (refine takeT (i := 33) (d := 99) rfl rfl (by kernel_rfl) (by kernel_rfl) (by kernel_rfl) (by rfl) (by assumption) (v := ?_) ?_ ?_; rotate_left; (focus (intro wq hSw; (try dsimp only at hSw); go_simp; (try (with_reducible rfl)); done)); (try simp only [Act.put, List.setIfInBounds_toArray, List.set_cons_zero, List.set_cons_succ])); (refine takeT (i := 34) (d := 100) rfl rfl (by kernel_rfl) (by kernel_rfl) (by kernel_rfl) (by rfl) (by assumption) (v := ?_) ?_ ?_; rotate_left; (focus (intro wq hSw; (try dsimp only at hSw); go_simp; (try (with_reducible rfl)); done)); (try simp only [Act.put, List.setIfInBounds_toArray, List.set_cons_zero, List.set_cons_succ])); refine wpAnyH_done (by kernel_rfl) ?_ _; refine NoPanic.normal ?_)
  clear cb30 cb31 cb32 cb33 cb34 cb35 cb36 cb37 cb3f cb50 cb51 cb52 cb53 cb54 cb55 cb56 cb57 cb5f cb70 cb71 cb72 cb73 cb74 cb75 cb76 cb77 cb7f cb100 cb101 cb102 cb103 cb104 cb105 cb106 cb107 cb10f cb120 cb121 cb122 cb123 cb124 cb125 cb126 cb127 cb12f n1 n2 n3 n4 n5
  go_upto_region 14 with fail
  go_cut [117] (fun c9 wx => c9 = .bool false ∧ IBox wx 41 (w1.heap.size) [x, y, p, q, s, t, h, m] ∧ IBox wx 41 (w2.heap.size) [xh, yh, ph, qh, sh, th, hh, mh] ∧ IBox wx 41 (w7.heap.size) [xy, yy, py, qy, sy, ty, hy, my] ∧ Below w.heap.size w wx)
  case first =>
    by_cases h1 : mc = 0
    · subst h1
      obtain ⟨mT, mS⟩ := miss_stays hf2H.out
      have mT : trB xm ym pm qm sm tm hm mm = true := mT
      have mTH := Lib.hid mT
      have h9 : tx ≠ 2 ∨ (xm = xx ∧ ym = yx ∧ pm = px ∧ qm = qx ∧ sm = sx ∧ tm = tx ∧ hm = hx ∧ mm = mx) := by
        rcases mS with h | h
        · exact .inl h
        · exact .inr (by simpa using h)
      clear mT mS
      clear hf2H
      have cb100 := b10.cell (j := 0) rfl
      have cb101 := b10.cell (j := 1) rfl
      have cb102 := b10.cell (j := 2) rfl
      have cb103 := b10.cell (j := 3) rfl
      have cb104 := b10.cell (j := 4) rfl
      have cb105 := b10.cell (j := 5) rfl
      have cb106 := b10.cell (j := 6) rfl
      have cb107 := b10.cell (j := 7) rfl
      have cb10f := b10.fz
      have cb90 := b9.cell (j := 0) rfl
      have cb91 := b9.cell (j := 1) rfl
      have cb92 := b9.cell (j := 2) rfl
      have cb93 := b9.cell (j := 3) rfl
      have cb94 := b9.cell (j := 4) rfl
      have cb95 := b9.cell (j := 5) rfl
      have cb96 := b9.cell (j := 6) rfl
      have cb97 := b9.cell (j := 7) rfl
      have cb9f := b9.fz
      go_wp2_with fail
      refine (impl_IsTrail xm ym pm qm sm tm hm mm _).mono ?_
      rintro e w12 ⟨rfl, hb12⟩
      rw [mTH.out]
      have b3 := b3.next hb12
      have b5 := b5.next hb12
      have b14 := b14.next hb12
      have b9 := b9.next hb12
      have b10 := b10.next hb12
      have B : Below w.heap.size w w12 := B.trans (hb12.mono B.size)
      clear hb12
      clear cb100 cb101 cb102 cb103 cb104 cb105 cb106 cb107 cb10f
      clear cb90 cb91 cb92 cb93 cb94 cb95 cb96 cb97 cb9f
      by_cases t2 : tx = 2
      · rcases h9 with h | ⟨rfl, rfl, rfl, rfl, rfl, rfl, rfl, rfl⟩
        · exact absurd t2 h
        have tb : (tm == 2) = true := by simp [t2]
        have cb100 := b10.cell (j := 0) rfl
        have cb101 := b10.cell (j := 1) rfl
        have cb102 := b10.cell (j := 2) rfl
        have cb103 := b10.cell (j := 3) rfl
        have cb104 := b10.cell (j := 4) rfl
        have cb105 := b10.cell (j := 5) rfl
        have cb106 := b10.cell (j := 6) rfl
        have cb107 := b10.cell (j := 7) rfl
        have cb10f := b10.fz
        have cb90 := b9.cell (j := 0) rfl
        have cb91 := b9.cell (j := 1) rfl
        have cb92 := b9.cell (j := 2) rfl
        have cb93 := b9.cell (j := 3) rfl
        have cb94 := b9.cell (j := 4) rfl
        have cb95 := b9.cell (j := 5) rfl
        have cb96 := b9.cell (j := 6) rfl
        have cb97 := b9.cell (j := 7) rfl
        have cb9f := b9.fz
        go_wp2_with fail
        go_meet
        case rel => exact ⟨rfl, b3, b5, b14, B⟩
      · have tb : (tx == 2) = false := by simpa using t2
        have cb100 := b10.cell (j := 0) rfl
        have cb101 := b10.cell (j := 1) rfl
        have cb102 := b10.cell (j := 2) rfl
        have cb103 := b10.cell (j := 3) rfl
        have cb104 := b10.cell (j := 4) rfl
        have cb105 := b10.cell (j := 5) rfl
        have cb106 := b10.cell (j := 6) rfl
        have cb107 := b10.cell (j := 7) rfl
        have cb10f := b10.fz
        have cb90 := b9.cell (j := 0) rfl
        have cb91 := b9.cell (j := 1) rfl
        have cb92 := b9.cell (j := 2) rfl
        have cb93 := b9.cell (j := 3) rfl
        have cb94 := b9.cell (j := 4) rfl
        have cb95 := b9.cell (j := 5) rfl
        have cb96 := b9.cell (j := 6) rfl
        have cb97 := b9.cell (j := 7) rfl
        have cb9f := b9.fz
        go_wp2_with fail
        go_meet
        case rel => exact ⟨rfl, b3, b5, b14, B⟩
    · have tb : (mc == 0) = false := by simpa using h1
      go_wp2_with fail
      go_meet
      case rel => exact ⟨rfl, b3, b5, b14, B⟩
  case rest =>
    clear b3 b5 b7 b9 b10 b12 b14 B hIH hSH hf2H
    obtain ⟨rfl, b3, b5, b14, B⟩ := hcut
    go_upto_if 119 with fail
    go_cut [] (fun wx => IBox wx 41 (w1.heap.size) [x, y, p, q, s, t, h, m] ∧ IBox wx 41 (w2.heap.size) [xh, yh, ph, qh, sh, th, hh, mh] ∧ Below w.heap.size w wx)
    case first =>
      by_cases h1 : nc = 0
      · have yT : trT ⟨xy, yy, py, qy, sy, ty, hy, my⟩ = true := by
          cases h : trT ⟨xy, yy, py, qy, sy, ty, hy, my⟩
          · have e : fCoasts ⟨xy, yy, py, qy, sy, ty, hy, my⟩ = (0, 1) := by
              have h' : trB xy yy py qy sy ty hy my = false := h
              simp [fCoasts, h']
            have := hncH.out; rw [e] at this; omega
          · rfl
        obtain ⟨N, hN⟩ : ∃ N : Nat, N = coN 5 ⟨xy, yy, py, qy, sy, ty, hy, my⟩ := ⟨_, rfl⟩
        have hnN : nn = (N : Int) := by
          have h' : trB xy yy py qy sy ty hy my = true := yT
          have e : fCoasts ⟨xy, yy, py, qy, sy, ty, hy, my⟩ = ((coN 5 ⟨xy, yy, py, qy, sy, ty, hy, my⟩ : Int), 0) := by simp [fCoasts, h']
          rw [hnnH.out, e, hN]
        subst h1
        subst hnN
        have yTH := Lib.hid yT
        have hNH := Lib.hid hN
        clear yT hN hnnH hncH
        have cb140 := b14.cell (j := 0) rfl
        have cb141 := b14.cell (j := 1) rfl
        have cb142 := b14.cell (j := 2) rfl
        have cb143 := b14.cell (j := 3) rfl
        have cb144 := b14.cell (j := 4) rfl
        have cb145 := b14.cell (j := 5) rfl
        have cb146 := b14.cell (j := 6) rfl
        have cb147 := b14.cell (j := 7) rfl
        have cb14f := b14.fz
        have l3 := b3.lt
        have l5 := b5.lt
        have lw := B.size
        go_wp2_with fail
        refine wp_gen (fun W12 hW12 => ?_)
        have b19 : IBox W12 41 wc.heap.size [xy, yy, py, qy, sy, ty, hy, my] := by rw [hW12]; exact IBox.new (w := wc) (T := 41) (l := [xy, yy, py, qy, sy, ty, hy, my]) rfl
        have b3 : IBox W12 41 (w1.heap.size) [x, y, p, q, s, t, h, m] := by rw [hW12]; exact b3.alloc _
        have b5 : IBox W12 41 (w2.heap.size) [xh, yh, ph, qh, sh, th, hh, mh] := by rw [hW12]; exact b5.alloc _
        have B : Below w.heap.size w W12 := by rw [hW12]; exact Below.new B _
        clear hW12
        clear cb140 cb141 cb142 cb143 cb144 cb145 cb146 cb147 cb14f
        obtain ⟨Z, hZ⟩ : ∃ Z, Z = wc.heap.size := ⟨_, rfl⟩
        rw [← hZ] at b19 l3 l5 lw ⊢
        clear hZ b14
        go_loopw [20] (fun i9 wr => ∃ (k : Nat) (xa ya pa qa sa ta ha ma : Int), i9 = .int .i64 k ∧ k ≤ N ∧ k ≤ 5 ∧ trB xa ya pa qa sa ta ha ma = true ∧ (ta = 2 ∨ (k : Int) ≤ ma) ∧ Hid (k + coN (5 - k) ⟨xa, ya, pa, qa, sa, ta, ha, ma⟩ = N) ∧ IBox wr 41 Z [xa, ya, pa, qa, sa, ta, ha, ma] ∧ IBox wr 41 (w1.heap.size) [x, y, p, q, s, t, h, m] ∧ IBox wr 41 (w2.heap.size) [xh, yh, ph, qh, sh, th, hh, mh] ∧ Below w.heap.size w wr) (fun i9 _ => N - (intOf i9).toNat)
        case atStart => exact ⟨0, _, _, _, _, _, _, _, _, rfl, Nat.zero_le _, by omega, yTH.out, by have := (tr_facts (show trB xy yy py qy sy ty hy my = true from yTH.out)).2.2.2.2.2.2; show ty = 2 ∨ ((0 : Nat) : Int) ≤ my; omega, by show 0 + coN (5 - 0) _ = N; rw [hNH.out]; simp, b19, b3, b5, B⟩
        case round =>
          clear b19 b3 b5 B
          obtain ⟨k, xa, ya, pa, qa, sa, ta, ha, ma, rfl, kN, k5, hT, hm, hk, b19, b3, b5, B⟩ := hrel
          have hTH := Lib.hid hT
          by_cases hlt : k < N
          · have t2 := coN_live hk.out hlt
            have t2 : ¬ ta = 2 := t2
            have k4 := coN_lt hk.out k5 hlt
            have tb : (ta == 2) = false := by simpa using t2
            rcases hf : fCoast ⟨xa, ya, pa, qa, sa, ta, ha, ma⟩ with ⟨xv, yv, pv, qv, sv, tv, hv, mv⟩
            have hco := coast_ok hT t2 hf
            have hfm : fMT ⟨xa, ya, pa, qa, sa, ta, ha, ma⟩ = (⟨xv, yv, pv, qv, sv, tv, hv, mv⟩, 0) := by
              unfold fMT
              rw [if_pos (show trT ⟨xa, ya, pa, qa, sa, ta, ha, ma⟩ = true from hT), hf]
            have hst := coN_step (a := ⟨xa, ya, pa, qa, sa, ta, ha, ma⟩) t2 k4 hf hk.out
            have hcoH := Lib.hid hco.1
            have hco2 := hco.2
            have hfmH := Lib.hid hfm
            have hstH := Lib.hid hst
            clear hco hfm hst hf hk hT
            have cb190 := b19.cell (j := 0) rfl
            have cb191 := b19.cell (j := 1) rfl
            have cb192 := b19.cell (j := 2) rfl
            have cb193 := b19.cell (j := 3) rfl
            have cb194 := b19.cell (j := 4) rfl
            have cb195 := b19.cell (j := 5) rfl
            have cb196 := b19.cell (j := 6) rfl
            have cb197 := b19.cell (j := 7) rfl
            have cb19f := b19.fz
            go_wp2_with fail
            refine (impl_MissTrailF xa ya pa qa sa ta ha ma xv yv pv qv sv tv hv mv 0 _ hfmH.out).mono ?_
            rintro e w13 ⟨rfl, hb13⟩
            have b19 := b19.next hb13
            have b3 := b3.next hb13
            have b5 := b5.next hb13
            have B : Below w.heap.size w w13 := B.trans (hb13.mono B.size)
            have l19 := b19.lt
            clear hb13 cb190 cb191 cb192 cb193 cb194 cb195 cb196 cb197 cb19f
            have k1 := b19.cell (j := 5) rfl
            have ak1 : ∀ ob, (w13.alloc ob).cell? ⟨Z, 5, none⟩ = some (.int .i64 ta) := fun ob => bx_alloc k1
            go_upto_region 24 with fail
            clear ak1 k1
            refine wp_gen (fun W14 hW14 => ?_)
            have nb : IBox W14 41 w13.heap.size [xv, yv, pv, qv, sv, tv, hv, mv] := by rw [hW14]; exact IBox.new (w := w13) (T := 41) (l := [xv, yv, pv, qv, sv, tv, hv, mv]) rfl
            have b19 : IBox W14 41 Z [xa, ya, pa, qa, sa, ta, ha, ma] := by rw [hW14]; exact b19.alloc _
            have b3 : IBox W14 41 (w1.heap.size) [x, y, p, q, s, t, h, m] := by rw [hW14]; exact b3.alloc _
            have b5 : IBox W14 41 (w2.heap.size) [xh, yh, ph, qh, sh, th, hh, mh] := by rw [hW14]; exact b5.alloc _
            have B : Below w.heap.size w W14 := by rw [hW14]; exact Below.new B _
            obtain ⟨Y9, hY9⟩ : ∃ Y, Y = w13.heap.size := ⟨_, rfl⟩
            rw [← hY9] at nb l19 ⊢
            have nZY : ¬ Z = Y9 := by omega
            have nYZ : ¬ Y9 = Z := by omega
            clear hW14 hY9
            have nb0 := nb.cell (j := 0) rfl
            have nb1 := nb.cell (j := 1) rfl
            have nb2 := nb.cell (j := 2) rfl
            have nb3 := nb.cell (j := 3) rfl
            have nb4 := nb.cell (j := 4) rfl
            have nb5 := nb.cell (j := 5) rfl
            have nb6 := nb.cell (j := 6) rfl
            have nb7 := nb.cell (j := 7) rfl
            have nbf := nb.fz
            have cb190 := b19.cell (j := 0) rfl
            have cb191 := b19.cell (j := 1) rfl
            have cb192 := b19.cell (j := 2) rfl
            have cb193 := b19.cell (j := 3) rfl
            have cb194 := b19.cell (j := 4) rfl
            have cb195 := b19.cell (j := 5) rfl
            have cb196 := b19.cell (j := 6) rfl
            have cb197 := b19.cell (j := 7) rfl
            have cb19f := b19.fz
            repeat' (first | fail | go_values | go_skip | go_guarded | go_step | go_upon | (simp only []; go_step) | (go_ite <;> go_prune <;> (try go_simp)))
            all_goals (refine ⟨?_, by simp [intOf]; omega⟩; (repeat apply Exists.intro); refine ⟨?_, rfl⟩; exact ⟨k + 1, _, _, _, _, _, _, _, _, rfl, by omega, by omega, hcoH.out, by omega, hstH.out, ((((((((b19.set 0 _).set 1 _).set 2 _).set 3 _).set 4 _).set 5 _).set 6 _).set 7 _), (IBox.far (IBox.far (IBox.far (IBox.far (IBox.far (IBox.far (IBox.far (IBox.far b3 (by omega)) (by omega)) (by omega)) (by omega)) (by omega)) (by omega)) (by omega)) (by omega)), (IBox.far (IBox.far (IBox.far (IBox.far (IBox.far (IBox.far (IBox.far (IBox.far b5 (by omega)) (by omega)) (by omega)) (by omega)) (by omega)) (by omega)) (by omega)) (by omega)), by exact bgr⟩)
          · have t2 := coN_end (a := ⟨xa, ya, pa, qa, sa, ta, ha, ma⟩) hk.out k5 hm hT hlt
            have t2 : ta = 2 := t2
            have tb : (ta != 2) = false := by simp [t2]
            clear hk hm hT
            have cb190 := b19.cell (j := 0) rfl
            have cb191 := b19.cell (j := 1) rfl
            have cb192 := b19.cell (j := 2) rfl
            have cb193 := b19.cell (j := 3) rfl
            have cb194 := b19.cell (j := 4) rfl
            have cb195 := b19.cell (j := 5) rfl
            have cb196 := b19.cell (j := 6) rfl
            have cb197 := b19.cell (j := 7) rfl
            have cb19f := b19.fz
            go_wp2_with fail
            go_meet
            case rel => exact ⟨b3, b5, B⟩
      · have tb : (nc == 0) = false := by simpa using h1
        go_wp2_with fail
        go_meet
        case rel => exact ⟨b3, b5, B⟩
    case rest =>
      clear b3 b5 B b14
      obtain ⟨b3, b5, B⟩ := hcut
      by_cases h1 : hc = 0
      · subst h1
        obtain ⟨hT, hS⟩ := hit_stays hf1H.out
        have hT : trB xh yh ph qh sh th hh mh = true := hT
        have hTH := Lib.hid hT
        have hS : t ≠ 1 ∨ th = 1 ∨ th = 2 ∧ xh = x ∧ yh = y ∧ ph = p ∧ qh = q ∧ sh = s := hS
        clear hT hf1H
        have cb50 := b5.cell (j := 0) rfl
        have cb51 := b5.cell (j := 1) rfl
        have cb52 := b5.cell (j := 2) rfl
        have cb53 := b5.cell (j := 3) rfl
        have cb54 := b5.cell (j := 4) rfl
        have cb55 := b5.cell (j := 5) rfl
        have cb56 := b5.cell (j := 6) rfl
        have cb57 := b5.cell (j := 7) rfl
        have cb5f := b5.fz
        go_wp2_with fail
        refine (impl_IsTrail xh yh ph qh sh th hh mh _).mono ?_
        rintro e w14 ⟨rfl, hb14⟩
        rw [hTH.out]
        have b3 := b3.next hb14
        have b5 := b5.next hb14
        have B : Below w.heap.size w w14 := B.trans (hb14.mono B.size)
        clear hb14
        clear cb50 cb51 cb52 cb53 cb54 cb55 cb56 cb57 cb5f
        by_cases t1 : t = 1
        · by_cases th1 : th = 1
          · have tb1 : (t != 1) = false := by simp [t1]
            have tb2 : (th == 1) = true := by simp [th1]
            clear hS t1 th1
            have cb30 := b3.cell (j := 0) rfl
            have cb31 := b3.cell (j := 1) rfl
            have cb32 := b3.cell (j := 2) rfl
            have cb33 := b3.cell (j := 3) rfl
            have cb34 := b3.cell (j := 4) rfl
            have cb35 := b3.cell (j := 5) rfl
            have cb36 := b3.cell (j := 6) rfl
            have cb37 := b3.cell (j := 7) rfl
            have cb3f := b3.fz
            have cb50 := b5.cell (j := 0) rfl
            have cb51 := b5.cell (j := 1) rfl
            have cb52 := b5.cell (j := 2) rfl
            have cb53 := b5.cell (j := 3) rfl
            have cb54 := b5.cell (j := 4) rfl
            have cb55 := b5.cell (j := 5) rfl
            have cb56 := b5.cell (j := 6) rfl
            have cb57 := b5.cell (j := 7) rfl
            have cb5f := b5.fz
            go_wp2_with fail
            all_goals go_returns
            all_goals exact ⟨rfl, B⟩
          · rcases hS with h | h | ⟨t2, rfl, rfl, rfl, rfl, rfl⟩
            · exact absurd t1 h
            · exact absurd h th1
            have tb1 : (t != 1) = false := by simp [t1]
            have tb2 : (th == 1) = false := by simp [th1]
            have tb3 : (th == 2) = true := by simp [t2]
            have heq := eqlM
            clear t1 th1 t2
            have cb30 := b3.cell (j := 0) rfl
            have cb31 := b3.cell (j := 1) rfl
            have cb32 := b3.cell (j := 2) rfl
            have cb33 := b3.cell (j := 3) rfl
            have cb34 := b3.cell (j := 4) rfl
            have cb35 := b3.cell (j := 5) rfl
            have cb36 := b3.cell (j := 6) rfl
            have cb37 := b3.cell (j := 7) rfl
            have cb3f := b3.fz
            have cb50 := b5.cell (j := 0) rfl
            have cb51 := b5.cell (j := 1) rfl
            have cb52 := b5.cell (j := 2) rfl
            have cb53 := b5.cell (j := 3) rfl
            have cb54 := b5.cell (j := 4) rfl
            have cb55 := b5.cell (j := 5) rfl
            have cb56 := b5.cell (j := 6) rfl
            have cb57 := b5.cell (j := 7) rfl
            have cb5f := b5.fz
            go_wp2_with fail
            all_goals go_returns
            all_goals exact ⟨rfl, B⟩
        · have tb1 : (t != 1) = true := by simpa using t1
          clear hS t1
          have cb30 := b3.cell (j := 0) rfl
          have cb31 := b3.cell (j := 1) rfl
          have cb32 := b3.cell (j := 2) rfl
          have cb33 := b3.cell (j := 3) rfl
          have cb34 := b3.cell (j := 4) rfl
          have cb35 := b3.cell (j := 5) rfl
          have cb36 := b3.cell (j := 6) rfl
          have cb37 := b3.cell (j := 7) rfl
          have cb3f := b3.fz
          have cb50 := b5.cell (j := 0) rfl
          have cb51 := b5.cell (j := 1) rfl
          have cb52 := b5.cell (j := 2) rfl
          have cb53 := b5.cell (j := 3) rfl
          have cb54 := b5.cell (j := 4) rfl
          have cb55 := b5.cell (j := 5) rfl
          have cb56 := b5.cell (j := 6) rfl
          have cb57 := b5.cell (j := 7) rfl
          have cb5f := b5.fz
          go_wp2_with fail
          all_goals go_returns
          all_goals exact ⟨rfl, B⟩
      · have tb : (hc != 0) = true := by simpa using h1
        go_wp2_with fail
        all_goals go_returns
        all_goals exact ⟨rfl, B⟩
end Go.Proofs.Ytcglljjhokffeaa
