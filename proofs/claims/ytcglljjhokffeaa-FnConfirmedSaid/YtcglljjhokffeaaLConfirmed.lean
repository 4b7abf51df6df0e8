/- A new trail is confirmed by exactly as many hits as it needs, if it does not leave its range: the law's walk. Printed by gen_conf.py. -/
import Derived.Test.YtcglljjhokffeaaTrF
import Derived.Test.YtcglljjhokffeaaDrX
import Derived.Test.YtcglljjhokffeaaTrLaw
import Derived.Test.YtcglljjhokffeaaTrFirstL
import Derived.Test.YtcglljjhokffeaaRtD
import Derived.Test.YtcglljjhokffeaaRtC
import Derived.Test.YtcglljjhokffeaaBig
import Derived.Deep.CutRange
import Derived.Deep.DeepCutAuto
namespace Go.Proofs.Ytcglljjhokffeaa
open Go.RowKit Go.ChangeShapes Go.WideShapes Go.ChangeAt
set_option linter.unusedVariables false
set_option linter.unusedSimpArgs false
theorem tr_co {x y p q s t h m : Int} (hb : trB x y p q s t h m = true) : coB x y = true := by
  obtain ⟨h1, h2, _⟩ := tr_facts hb
  rw [coB, inB_t h1, inB_t h2]; rfl
/-- a new trail that gets a contact where it is: one hit more, or it is lost -/
theorem cf_step {x y p q s h m : Int} {V : Tr} (hb : trB x y p q s 0 h m = true) (hV : fHit (fMoved ⟨x, y, p, q, s, 0, h, m⟩) x y = V) : trT V = true ∧ (V.t = 2 ∨ V.t = 0 ∧ V.h = h + 1 ∨ V.t = 1 ∧ h + 1 = 3) := by
  have h1 : trT (⟨x, y, p, q, s, 0, h, m⟩ : Tr) = true := hb
  have h9 := (tr_facts hb).2.2.2.2.2.2
  have h6 := (tr_facts hb).2.2.2.2.2.1
  have hT : trT V = true := by rw [← hV]; exact hitT (movedT h1) (tr_co hb)
  refine ⟨hT, ?_⟩
  have ht2 : ¬ (0 : Int) = 2 := by omega
  cases hc : coB (x + p) (y + q)
  · left
    rw [moved_out ht2 hc] at hV
    have : fHit ⟨x, y, p, q, s, 2, h, m⟩ x y = ⟨x, y, p, q, s, 2, h, m⟩ := by simp [fHit]
    rw [← hV, this]
  · right
    rw [moved_on ht2 hc] at hV
    have e1 : (fHit ⟨x + p, y + q, p, q, min (s + 50) 10000, 0, h, m⟩ x y).t = if 3 ≤ min (h + 1) 1000 then 1 else 0 := by simp only [fHit, if_neg ht2]; try simp
    have e2 : (fHit ⟨x + p, y + q, p, q, min (s + 50) 10000, 0, h, m⟩ x y).h = min (h + 1) 1000 := by simp only [fHit, if_neg ht2]
    rw [hV] at e1 e2
    split at e1 <;> omega
theorem runTr {T : Tr} {css : List Cts} {xv yv pv qv sv tv hv mv : Int} (h : fRunTrail T css = (⟨xv, yv, pv, qv, sv, tv, hv, mv⟩, 0)) : trB xv yv pv qv sv tv hv mv = true := by
  rcases run_cases h with ⟨_, _, h3⟩ | ⟨_, h2, _, h4⟩ | ⟨h1, h2, h3, _⟩
  · omega
  · exact absurd h4.symm h2
  · have := runT h1 (scCode_ok h2).1 css.length (Nat.le_refl _)
    rw [← h3] at this
    exact this
set_option maxHeartbeats 12800000 in
set_option maxRecDepth 100000 in
theorem walk_Confirmed (A : Option Addr) (c : Nat) (code : List Int) (w : World) (hr : U8 w w.heap.size A code) (hb : ∀ x ∈ code, 0 ≤ x ∧ x ≤ 255) :
    Calls Try.prog 5 #[.slice A code.length c] w fun e w' => e = .returned (.bool true) ∧ Below w.heap.size w w' := by
  by_cases hl : ¬ code.length ≤ 4096
  · have hl2 : (4096 : Int) < (code.length : Int) := by omega
    go_enter Try.func5, Try.ntmps5
    go_wp2_with (first | (go_at_call 6; refine (laws_big _ _ _ _).mono ?_; rintro e w' ⟨rfl, rfl⟩) | fail)
    all_goals go_returns
    all_goals exact ⟨rfl, Below.refl _ _⟩
  have hl : code.length ≤ 4096 := by omega
  have hl2 : ¬ (4096 : Int) < (code.length : Int) := by omega
  have B : Below w.heap.size w w := Below.refl _ _
  have hneq : ∀ (x y p q s t h m : Int) (w : World), (binOp .neq 41 (.agg #[.int .i64 x, .int .i64 y, .int .i64 p, .int .i64 q, .int .i64 s, .int .i64 t, .int .i64 h, .int .i64 m]) (.agg #[.int .i64 x, .int .i64 y, .int .i64 p, .int .i64 q, .int .i64 s, .int .i64 t, .int .i64 h, .int .i64 m])).run Try.prog w = .ok (.bool false) w := neqT
  have hrH := Lib.hid hr
  have hbH := Lib.hid hb
  clear hr hb
  go_enter Try.func5, Try.ntmps5
  go_wp2_with (first | (go_at_call 6; refine (laws_big _ _ _ _).mono ?_; rintro e w' ⟨rfl, rfl⟩) | fail)
  refine (spec_DrawHitsMissing _ _ _ _ hrH.out hbH.out hl).mono ?_
  rintro e w1 ⟨x, y, p, q, s, t, h, m, rfl, hb1⟩
  have B : Below w.heap.size w w1 := B.trans hb1
  clear hb1
  go_wp2_with fail
  refine calls_gen (fun W1 hW1 => ?_)
  have b3 : IBox W1 41 (w1.heap.size) [x, y, p, q, s, t, h, m] := by rw [hW1]; exact (IBox.new (w := w1) (T := 41) (l := [x, y, p, q, s, t, h, m]) rfl)
  have B : Below w.heap.size w W1 := by rw [hW1]; exact (Below.new B _)
  clear hW1
  obtain ⟨nn, hnn⟩ : ∃ n, n = (hitsF t h (trB x y p q s t h m)).1 := ⟨_, rfl⟩
  obtain ⟨nc, hnc⟩ : ∃ n, n = (hitsF t h (trB x y p q s t h m)).2 := ⟨_, rfl⟩
  have hI := fun w => impl_HitsMissing x y p q s t h m w
  have hS := fun w => spec_HitsMissing x y p q s t h m w
  rw [← hnn, ← hnc] at hI hS
  have hIH := Lib.hid hI
  have hSH := Lib.hid hS
  have hnnH := Lib.hid hnn
  have hncH := Lib.hid hnc
  clear hI hS hnn hnc
  refine (hIH.out _).mono ?_
  rintro e w2 ⟨rfl, hb2⟩
  have b3 := b3.next hb2
  have B : Below w.heap.size w w2 := B.trans (hb2.mono B.size)
  clear hb2
  have cb30 := b3.cell (j := 0) rfl
  have cb31 := b3.cell (j := 1) rfl
  have cb32 := b3.cell (j := 2) rfl
  have cb33 := b3.cell (j := 3) rfl
  have cb34 := b3.cell (j := 4) rfl
  have cb35 := b3.cell (j := 5) rfl
  have cb36 := b3.cell (j := 6) rfl
  have cb37 := b3.cell (j := 7) rfl
  have cb3f := b3.fz
  go_wp2_with fail
  clear cb30 cb31 cb32 cb33 cb34 cb35 cb36 cb37 cb3f
  refine (hSH.out _).mono ?_
  rintro e w3 ⟨rfl, hb3⟩
  have b3 := b3.next hb3
  have B : Below w.heap.size w w3 := B.trans (hb3.mono B.size)
  clear hb3
  go_wp2_with fail
  refine (spec_DrawFirstTrail _ _ _ _ (Rd.up hrH.out B) hbH.out hl).mono ?_
  rintro e w4 ⟨a, b, rfl, hb4⟩
  have b3 := b3.next hb4
  have B : Below w.heap.size w w4 := B.trans (hb4.mono B.size)
  clear hb4
  go_wp2_with fail
  refine calls_gen (fun W4 hW4 => ?_)
  have b8 : IBox W4 43 (w4.heap.size) [a, b] := by rw [hW4]; exact (IBox.new (w := w4) (T := 43) (l := [a, b]) rfl)
  have b3 : IBox W4 41 (w1.heap.size) [x, y, p, q, s, t, h, m] := by rw [hW4]; exact (b3.alloc _)
  have B : Below w.heap.size w W4 := by rw [hW4]; exact (Below.new B _)
  clear hW4
  obtain ⟨xf, hxf⟩ : ∃ z, z = fsel (coB a b) a 0 := ⟨_, rfl⟩
  obtain ⟨yf, hyf⟩ : ∃ z, z = fsel (coB a b) b 0 := ⟨_, rfl⟩
  obtain ⟨sf, hsf⟩ : ∃ z, z = fsel (coB a b) 400 0 := ⟨_, rfl⟩
  obtain ⟨hf, hhf⟩ : ∃ z, z = fsel (coB a b) 1 0 := ⟨_, rfl⟩
  obtain ⟨cf, hcf⟩ : ∃ z, z = fsel (coB a b) 0 1 := ⟨_, rfl⟩
  have hI := fun w => impl_FirstTrail a b w
  have hS := fun w => spec_FirstTrail a b w
  rw [← hxf, ← hyf, ← hsf, ← hhf, ← hcf] at hI hS
  have hFI := Lib.hid hI
  have hFS := Lib.hid hS
  clear hI hS hxf hyf hsf hhf hcf
  refine (hFI.out _).mono ?_
  rintro e w5 ⟨rfl, hb5⟩
  have b3 := b3.next hb5
  have b8 := b8.next hb5
  have B : Below w.heap.size w w5 := B.trans (hb5.mono B.size)
  clear hb5
  have cb80 := b8.cell (j := 0) rfl
  have cb81 := b8.cell (j := 1) rfl
  have cb8f := b8.fz
  have abb80 : ∀ ob, (w5.alloc ob).cell? ⟨w4.heap.size, 0, none⟩ = some (.int .i64 a) := fun ob => bx_alloc cb80
  have abb81 : ∀ ob, (w5.alloc ob).cell? ⟨w4.heap.size, 1, none⟩ = some (.int .i64 b) := fun ob => bx_alloc cb81
  go_wp2_with fail
  clear abb80 abb81
  clear cb80 cb81 cb8f
  refine calls_gen (fun W5 hW5 => ?_)
  have b9 : IBox W5 41 (w5.heap.size) [xf, yf, 0, 0, sf, 0, hf, 0] := by rw [hW5]; exact (IBox.new (w := w5) (T := 41) (l := [xf, yf, 0, 0, sf, 0, hf, 0]) rfl)
  have b3 : IBox W5 41 (w1.heap.size) [x, y, p, q, s, t, h, m] := by rw [hW5]; exact (b3.alloc _)
  have b8 : IBox W5 43 (w4.heap.size) [a, b] := by rw [hW5]; exact (b8.alloc _)
  have B : Below w.heap.size w W5 := by rw [hW5]; exact (Below.new B _)
  clear hW5
  refine (hFS.out _).mono ?_
  rintro e w6 ⟨rfl, hb6⟩
  have b3 := b3.next hb6
  have b8 := b8.next hb6
  have b9 := b9.next hb6
  have B : Below w.heap.size w w6 := B.trans (hb6.mono B.size)
  clear hb6
  go_wp2_with fail
  refine calls_gen (fun W6 hW6 => ?_)
  have b11 : IBox W6 41 (w6.heap.size) [xf, yf, 0, 0, sf, 0, hf, 0] := by rw [hW6]; exact (IBox.new (w := w6) (T := 41) (l := [xf, yf, 0, 0, sf, 0, hf, 0]) rfl)
  have b3 : IBox W6 41 (w1.heap.size) [x, y, p, q, s, t, h, m] := by rw [hW6]; exact (b3.alloc _)
  have b8 : IBox W6 43 (w4.heap.size) [a, b] := by rw [hW6]; exact (b8.alloc _)
  have b9 : IBox W6 41 (w5.heap.size) [xf, yf, 0, 0, sf, 0, hf, 0] := by rw [hW6]; exact (b9.alloc _)
  have B : Below w.heap.size w W6 := by rw [hW6]; exact (Below.new B _)
  clear hW6
  refine (spec_DrawRunTrail _ _ _ _ (Rd.up hrH.out B) hbH.out hl).mono ?_
  rintro e w7 ⟨xx, yx, px, qx, sx, tx, hx, mx, Ac, kc, css, rfl, rc, hc7, hc8, hb7⟩
  have b3 := b3.next hb7
  have b8 := b8.next hb7
  have b9 := b9.next hb7
  have b11 := b11.next hb7
  have B : Below w.heap.size w w7 := B.trans (hb7.mono B.size)
  clear hb7
  have hm8 : Hid (∀ (i : Nat) (cs : Cts), css[i]? = some cs → cs.length ≤ 1099511627776) := fun i cs h => by have := hc8 i cs h; omega
  clear hc8
  go_wp2_with fail
  refine calls_gen (fun W7 hW7 => ?_)
  have b13 : IBox W7 41 (w7.heap.size) [xx, yx, px, qx, sx, tx, hx, mx] := by rw [hW7]; exact (IBox.new (w := w7) (T := 41) (l := [xx, yx, px, qx, sx, tx, hx, mx]) rfl)
  have b3 : IBox W7 41 (w1.heap.size) [x, y, p, q, s, t, h, m] := by rw [hW7]; exact (b3.alloc _)
  have b8 : IBox W7 43 (w4.heap.size) [a, b] := by rw [hW7]; exact (b8.alloc _)
  have b9 : IBox W7 41 (w5.heap.size) [xf, yf, 0, 0, sf, 0, hf, 0] := by rw [hW7]; exact (b9.alloc _)
  have b11 : IBox W7 41 (w6.heap.size) [xf, yf, 0, 0, sf, 0, hf, 0] := by rw [hW7]; exact (b11.alloc _)
  have rc : CC64 W7 W7.heap.size Ac css := by rw [hW7]; exact CC64.up rc (Below.new (Below.refl _ _) _)
  have B : Below w.heap.size w W7 := by rw [hW7]; exact (Below.new B _)
  clear hW7
  rcases hfr : fRunTrail ⟨xx, yx, px, qx, sx, tx, hx, mx⟩ css with ⟨⟨xr, yr, pr, qr, sr, tr, hr_, mr⟩, rcd⟩
  have hfrH := Lib.hid hfr
  clear hfr
  refine (impl_RunTrail xx yx px qx sx tx hx mx Ac kc css _ rc (by omega) hm8.out xr yr pr qr sr tr hr_ mr rcd hfrH.out).mono ?_
  rintro e w8 ⟨rfl, hb8⟩
  have b3 := b3.next hb8
  have b8 := b8.next hb8
  have b9 := b9.next hb8
  have b11 := b11.next hb8
  have b13 := b13.next hb8
  have rc : CC64 w8 w8.heap.size Ac css := CC64.up rc hb8
  have B : Below w.heap.size w w8 := B.trans (hb8.mono B.size)
  clear hb8
  have cb130 := b13.cell (j := 0) rfl
  have cb131 := b13.cell (j := 1) rfl
  have cb132 := b13.cell (j := 2) rfl
  have cb133 := b13.cell (j := 3) rfl
  have cb134 := b13.cell (j := 4) rfl
  have cb135 := b13.cell (j := 5) rfl
  have cb136 := b13.cell (j := 6) rfl
  have cb137 := b13.cell (j := 7) rfl
  have cb13f := b13.fz
  have abb130 : ∀ ob, (w8.alloc ob).cell? ⟨w7.heap.size, 0, none⟩ = some (.int .i64 xx) := fun ob => bx_alloc cb130
  have abb131 : ∀ ob, (w8.alloc ob).cell? ⟨w7.heap.size, 1, none⟩ = some (.int .i64 yx) := fun ob => bx_alloc cb131
  have abb132 : ∀ ob, (w8.alloc ob).cell? ⟨w7.heap.size, 2, none⟩ = some (.int .i64 px) := fun ob => bx_alloc cb132
  have abb133 : ∀ ob, (w8.alloc ob).cell? ⟨w7.heap.size, 3, none⟩ = some (.int .i64 qx) := fun ob => bx_alloc cb133
  have abb134 : ∀ ob, (w8.alloc ob).cell? ⟨w7.heap.size, 4, none⟩ = some (.int .i64 sx) := fun ob => bx_alloc cb134
  have abb135 : ∀ ob, (w8.alloc ob).cell? ⟨w7.heap.size, 5, none⟩ = some (.int .i64 tx) := fun ob => bx_alloc cb135
  have abb136 : ∀ ob, (w8.alloc ob).cell? ⟨w7.heap.size, 6, none⟩ = some (.int .i64 hx) := fun ob => bx_alloc cb136
  have abb137 : ∀ ob, (w8.alloc ob).cell? ⟨w7.heap.size, 7, none⟩ = some (.int .i64 mx) := fun ob => bx_alloc cb137
  go_wp2_with fail
  clear abb130 abb131 abb132 abb133 abb134 abb135 abb136 abb137
  clear cb130 cb131 cb132 cb133 cb134 cb135 cb136 cb137 cb13f
  refine calls_gen (fun W8 hW8 => ?_)
  have b15 : IBox W8 41 (w8.heap.size) [xr, yr, pr, qr, sr, tr, hr_, mr] := by rw [hW8]; exact (IBox.new (w := w8) (T := 41) (l := [xr, yr, pr, qr, sr, tr, hr_, mr]) rfl)
  have b3 : IBox W8 41 (w1.heap.size) [x, y, p, q, s, t, h, m] := by rw [hW8]; exact (b3.alloc _)
  have b8 : IBox W8 43 (w4.heap.size) [a, b] := by rw [hW8]; exact (b8.alloc _)
  have b9 : IBox W8 41 (w5.heap.size) [xf, yf, 0, 0, sf, 0, hf, 0] := by rw [hW8]; exact (b9.alloc _)
  have b11 : IBox W8 41 (w6.heap.size) [xf, yf, 0, 0, sf, 0, hf, 0] := by rw [hW8]; exact (b11.alloc _)
  have b13 : IBox W8 41 (w7.heap.size) [xx, yx, px, qx, sx, tx, hx, mx] := by rw [hW8]; exact (b13.alloc _)
  have rc : CC64 W8 W8.heap.size Ac css := by rw [hW8]; exact CC64.up rc (Below.new (Below.refl _ _) _)
  have B : Below w.heap.size w W8 := by rw [hW8]; exact (Below.new B _)
  clear hW8
  refine (spec_RunTrail xx yx px qx sx tx hx mx Ac kc css _ rc (by omega) hm8.out xr yr pr qr sr tr hr_ mr rcd hfrH.out).mono ?_
  rintro e w9 ⟨rfl, hb9⟩
  have b3 := b3.next hb9
  have b8 := b8.next hb9
  have b9 := b9.next hb9
  have b11 := b11.next hb9
  have b13 := b13.next hb9
  have b15 := b15.next hb9
  have rc : CC64 w9 w9.heap.size Ac css := CC64.up rc hb9
  have B : Below w.heap.size w w9 := B.trans (hb9.mono B.size)
  clear hb9
  go_upto_region 12 with fail
  refine wp_gen (fun W9 hW9 => ?_)
  have b17 : IBox W9 41 (w9.heap.size) [xr, yr, pr, qr, sr, tr, hr_, mr] := by rw [hW9]; exact (IBox.new (w := w9) (T := 41) (l := [xr, yr, pr, qr, sr, tr, hr_, mr]) rfl)
  have b3 : IBox W9 41 (w1.heap.size) [x, y, p, q, s, t, h, m] := by rw [hW9]; exact (b3.alloc _)
  have b8 : IBox W9 43 (w4.heap.size) [a, b] := by rw [hW9]; exact (b8.alloc _)
  have b9 : IBox W9 41 (w5.heap.size) [xf, yf, 0, 0, sf, 0, hf, 0] := by rw [hW9]; exact (b9.alloc _)
  have b11 : IBox W9 41 (w6.heap.size) [xf, yf, 0, 0, sf, 0, hf, 0] := by rw [hW9]; exact (b11.alloc _)
  have b13 : IBox W9 41 (w7.heap.size) [xx, yx, px, qx, sx, tx, hx, mx] := by rw [hW9]; exact (b13.alloc _)
  have b15 : IBox W9 41 (w8.heap.size) [xr, yr, pr, qr, sr, tr, hr_, mr] := by rw [hW9]; exact (b15.alloc _)
  have rc : CC64 W9 W9.heap.size Ac css := by rw [hW9]; exact CC64.up rc (Below.new (Below.refl _ _) _)
  have B : Below w.heap.size w W9 := by rw [hW9]; exact (Below.new B _)
  clear hW9
  clear rc
  have n1 : (nc != nc) = false := by simp
  have n2 : (nn != nn) = false := by simp
  have n3 : (cf != cf) = false := by simp
  have n4 : (rcd != rcd) = false := by simp
  go_cut [102] (fun c9 wx => c9 = .bool false ∧ IBox wx 41 (w1.heap.size) [x, y, p, q, s, t, h, m] ∧ Below w.heap.size w wx)
  case first =>
    by_cases h1 : rcd = 0
    · subst h1
      have hRT := runTr hfrH.out
      have hRTH := Lib.hid hRT
      clear hRT hfrH
      have cb90 := b9.cell (j := 0) rfl
      have cb91 := b9.cell (j := 1) rfl
      have cb92 := b9.cell (j := 2) rfl
      have cb93 := b9.cell (j := 3) rfl
      have cb94 := b9.cell (j := 4) rfl
      have cb95 := b9.cell (j := 5) rfl
      have cb96 := b9.cell (j := 6) rfl
      have cb97 := b9.cell (j := 7) rfl
      have cb9f := b9.fz
      have cb110 := b11.cell (j := 0) rfl
      have cb111 := b11.cell (j := 1) rfl
      have cb112 := b11.cell (j := 2) rfl
      have cb113 := b11.cell (j := 3) rfl
      have cb114 := b11.cell (j := 4) rfl
      have cb115 := b11.cell (j := 5) rfl
      have cb116 := b11.cell (j := 6) rfl
      have cb117 := b11.cell (j := 7) rfl
      have cb11f := b11.fz
      have cb150 := b15.cell (j := 0) rfl
      have cb151 := b15.cell (j := 1) rfl
      have cb152 := b15.cell (j := 2) rfl
      have cb153 := b15.cell (j := 3) rfl
      have cb154 := b15.cell (j := 4) rfl
      have cb155 := b15.cell (j := 5) rfl
      have cb156 := b15.cell (j := 6) rfl
      have cb157 := b15.cell (j := 7) rfl
      have cb15f := b15.fz
      have cb170 := b17.cell (j := 0) rfl
      have cb171 := b17.cell (j := 1) rfl
      have cb172 := b17.cell (j := 2) rfl
      have cb173 := b17.cell (j := 3) rfl
      have cb174 := b17.cell (j := 4) rfl
      have cb175 := b17.cell (j := 5) rfl
      have cb176 := b17.cell (j := 6) rfl
      have cb177 := b17.cell (j := 7) rfl
      have cb17f := b17.fz
      go_wp2_with fail
      refine (impl_IsTrail xr yr pr qr sr tr hr_ mr _).mono ?_
      rintro e w12 ⟨rfl, hb12⟩
      rw [hRTH.out]
      have b3 := b3.next hb12
      have B : Below w.heap.size w w12 := B.trans (hb12.mono B.size)
      go_wp2_with fail
      go_meet
      case rel => exact ⟨rfl, b3, B⟩
    · have tb : (rcd == 0) = false := by simpa using h1
      have cb90 := b9.cell (j := 0) rfl
      have cb91 := b9.cell (j := 1) rfl
      have cb92 := b9.cell (j := 2) rfl
      have cb93 := b9.cell (j := 3) rfl
      have cb94 := b9.cell (j := 4) rfl
      have cb95 := b9.cell (j := 5) rfl
      have cb96 := b9.cell (j := 6) rfl
      have cb97 := b9.cell (j := 7) rfl
      have cb9f := b9.fz
      have cb110 := b11.cell (j := 0) rfl
      have cb111 := b11.cell (j := 1) rfl
      have cb112 := b11.cell (j := 2) rfl
      have cb113 := b11.cell (j := 3) rfl
      have cb114 := b11.cell (j := 4) rfl
      have cb115 := b11.cell (j := 5) rfl
      have cb116 := b11.cell (j := 6) rfl
      have cb117 := b11.cell (j := 7) rfl
      have cb11f := b11.fz
      have cb150 := b15.cell (j := 0) rfl
      have cb151 := b15.cell (j := 1) rfl
      have cb152 := b15.cell (j := 2) rfl
      have cb153 := b15.cell (j := 3) rfl
      have cb154 := b15.cell (j := 4) rfl
      have cb155 := b15.cell (j := 5) rfl
      have cb156 := b15.cell (j := 6) rfl
      have cb157 := b15.cell (j := 7) rfl
      have cb15f := b15.fz
      have cb170 := b17.cell (j := 0) rfl
      have cb171 := b17.cell (j := 1) rfl
      have cb172 := b17.cell (j := 2) rfl
      have cb173 := b17.cell (j := 3) rfl
      have cb174 := b17.cell (j := 4) rfl
      have cb175 := b17.cell (j := 5) rfl
      have cb176 := b17.cell (j := 6) rfl
      have cb177 := b17.cell (j := 7) rfl
      have cb17f := b17.fz
      go_wp2_with fail
      go_meet
      case rel => exact ⟨rfl, b3, B⟩
  case rest =>
    clear b3 b8 b9 b11 b13 b15 b17 B hIH hSH hFI hFS hfrH n1 n2 n3 n4
    obtain ⟨rfl, b3, B⟩ := hcut
    cases hT : trB x y p q s t h m
    · have e1 : nc = 1 := by rw [hncH.out, hT]; rfl
      subst e1
      clear hnnH hncH
      go_wp2_with fail
      all_goals go_returns
      all_goals exact ⟨rfl, B⟩
    have hTH := Lib.hid hT
    have e1 : nc = 0 := by rw [hncH.out, hT]; by_cases h0 : t = 0 <;> simp [hitsF, h0]
    subst e1
    by_cases t0 : t = 0
    · have e2 : nn = 3 - h := by rw [hnnH.out, hT]; simp [hitsF, t0]
      subst e2
      have h9 := (tr_facts hT).2.2.2.2.2.2
      have h6 := (tr_facts hT).2.2.2.2.2.1
      subst t0
      have hh : h < 3 := by omega
      obtain ⟨h61, h62⟩ := h6
      have tb : (3 - h == 0) = false := by simp; omega
      clear hnnH hncH hT h9
      have cb30 := b3.cell (j := 0) rfl
      have cb31 := b3.cell (j := 1) rfl
      have cb32 := b3.cell (j := 2) rfl
      have cb33 := b3.cell (j := 3) rfl
      have cb34 := b3.cell (j := 4) rfl
      have cb35 := b3.cell (j := 5) rfl
      have cb36 := b3.cell (j := 6) rfl
      have cb37 := b3.cell (j := 7) rfl
      have cb3f := b3.fz
      go_wp2_with fail
      refine wp_gen (fun W12 hW12 => ?_)
      have b19 : IBox W12 41 wc.heap.size [x, y, p, q, s, 0, h, m] := by rw [hW12]; exact IBox.new (w := wc) (T := 41) (l := [x, y, p, q, s, 0, h, m]) rfl
      have B : Below w.heap.size w W12 := by rw [hW12]; exact Below.new B _
      have zw : w.heap.size ≤ wc.heap.size := by have := b3.lt; have := ‹Below w.heap.size w wc›.size; omega
      obtain ⟨Z, hZ⟩ : ∃ Z, Z = wc.heap.size := ⟨_, rfl⟩
      rw [← hZ] at b19 zw ⊢
      clear hW12 hZ b3 cb30 cb31 cb32 cb33 cb34 cb35 cb36 cb37 cb3f
      go_loopw [20] (fun i9 wr => ∃ (k : Nat) (xa ya pa qa sa ta ha ma : Int), i9 = .int .i64 k ∧ (k : Int) ≤ 3 - h ∧ trB xa ya pa qa sa ta ha ma = true ∧ (ta = 2 ∨ ta = 0 ∧ ha = h + k ∨ ta = 1 ∧ (k : Int) = 3 - h) ∧ IBox wr 41 Z [xa, ya, pa, qa, sa, ta, ha, ma] ∧ Below w.heap.size w wr) (fun i9 _ => (3 - h - intOf i9).toNat)
      case atStart => exact ⟨0, _, _, _, _, _, _, _, _, rfl, by omega, hTH.out, .inr (.inl ⟨rfl, by omega⟩), b19, B⟩
      case round =>
        clear b19 B
        obtain ⟨k, xa, ya, pa, qa, sa, ta, ha, ma, rfl, kN, hT, hm, b19, B⟩ := hrel
        have zr := b19.lt
        have cb0 := b19.cell (j := 0) rfl
        have cb1 := b19.cell (j := 1) rfl
        have cb2 := b19.cell (j := 2) rfl
        have cb3 := b19.cell (j := 3) rfl
        have cb4 := b19.cell (j := 4) rfl
        have cb5 := b19.cell (j := 5) rfl
        have cb6 := b19.cell (j := 6) rfl
        have cb7 := b19.cell (j := 7) rfl
        have cbf := b19.fz
        by_cases hlt : (k : Int) < 3 - h
        · by_cases t0 : ta = 0
          · subst t0
            have hakH : Hid (ha = h + k) := by have : ha = h + k := (by omega); exact this
            have hco := tr_co hT
            rcases hf : fHit (fMoved ⟨xa, ya, pa, qa, sa, 0, ha, ma⟩) xa ya with ⟨xv, yv, pv, qv, sv, tv, hv, mv⟩
            have hst := cf_step hT hf
            have hft : fHT ⟨xa, ya, pa, qa, sa, 0, ha, ma⟩ xa ya = (⟨xv, yv, pv, qv, sv, tv, hv, mv⟩, 0) := by
              unfold fHT
              rw [if_pos (show trT ⟨xa, ya, pa, qa, sa, 0, ha, ma⟩ = true from hT), if_pos hco, hf]
            obtain ⟨hs1, hs2⟩ := hst
            have hs2H : Hid (tv = 2 ∨ tv = 0 ∧ hv = ha + 1 ∨ tv = 1 ∧ ha + 1 = 3) := hs2
            have hs1H : Hid (trB xv yv pv qv sv tv hv mv = true) := hs1
            have hftH := Lib.hid hft
            clear hs1 hs2 hft hf hT hm hco
            go_wp2_with fail
            refine (impl_HitTrailF xa ya pa qa sa 0 ha ma xa ya xv yv pv qv sv tv hv mv 0 _ hftH.out).mono ?_
            rintro e w13 ⟨rfl, hb13⟩
            have b19 := b19.next hb13
            have B : Below w.heap.size w w13 := B.trans (hb13.mono B.size)
            have l19 := b19.lt
            clear hb13 cb0 cb1 cb2 cb3 cb4 cb5 cb6 cb7 cbf
            go_upto_region 25 with fail
            refine wp_gen (fun W14 hW14 => ?_)
            have nb : IBox W14 41 w13.heap.size [xv, yv, pv, qv, sv, tv, hv, mv] := by rw [hW14]; exact IBox.new (w := w13) (T := 41) (l := [xv, yv, pv, qv, sv, tv, hv, mv]) rfl
            have b19 : IBox W14 41 Z [xa, ya, pa, qa, sa, 0, ha, ma] := by rw [hW14]; exact b19.alloc _
            have B : Below w.heap.size w W14 := by rw [hW14]; exact Below.new B _
            obtain ⟨Y, hY⟩ : ∃ Y, Y = w13.heap.size := ⟨_, rfl⟩
            rw [← hY] at nb l19 ⊢
            have nZY : ¬ Z = Y := by omega
            have nYZ : ¬ Y = Z := by omega
            clear hW14 hY
            have nb0 := nb.cell (j := 0) rfl
            have nb1 := nb.cell (j := 1) rfl
            have nb2 := nb.cell (j := 2) rfl
            have nb3 := nb.cell (j := 3) rfl
            have nb4 := nb.cell (j := 4) rfl
            have nb5 := nb.cell (j := 5) rfl
            have nb6 := nb.cell (j := 6) rfl
            have nb7 := nb.cell (j := 7) rfl
            have nbf := nb.fz
            have cb0 := b19.cell (j := 0) rfl
            have cb1 := b19.cell (j := 1) rfl
            have cb2 := b19.cell (j := 2) rfl
            have cb3 := b19.cell (j := 3) rfl
            have cb4 := b19.cell (j := 4) rfl
            have cb5 := b19.cell (j := 5) rfl
            have cb6 := b19.cell (j := 6) rfl
            have cb7 := b19.cell (j := 7) rfl
            have cbf := b19.fz
            repeat' (first | fail | go_values | go_skip | go_guarded | go_step | go_upon | (simp only []; go_step) | (go_ite <;> go_prune <;> (try go_simp)))
            all_goals exact ⟨⟨k + 1, _, _, _, _, _, _, _, _, rfl, by omega, hs1H.out, by have := hakH.out; have := hs2H.out; omega, ((((((((b19.set 0 _).set 1 _).set 2 _).set 3 _).set 4 _).set 5 _).set 6 _).set 7 _), by exact bgr⟩, by simp [intOf]; omega⟩
          · have t2 : ta = 2 := by omega
            subst t2
            clear hm hT
            go_wp2_with fail
            all_goals go_returns
            all_goals exact ⟨rfl, B⟩
        · have hk : (k : Int) = 3 - h := by omega
          have h9 := (tr_facts hT).2.2.2.2.2.2
          by_cases t1 : ta = 1
          · subst t1
            clear hm hT h9
            go_wp2_with fail
            all_goals go_returns
            all_goals exact ⟨rfl, B⟩
          · have t2 : ta = 2 := by omega
            subst t2
            clear hm hT h9
            go_wp2_with fail
            all_goals go_returns
            all_goals exact ⟨rfl, B⟩
    · have e2 : nn = 0 := by rw [hnnH.out, hT]; simp [hitsF, t0]
      subst e2
      have tb : (t != 0) = true := by simpa using t0
      clear hnnH hncH hT
      have cb30 := b3.cell (j := 0) rfl
      have cb31 := b3.cell (j := 1) rfl
      have cb32 := b3.cell (j := 2) rfl
      have cb33 := b3.cell (j := 3) rfl
      have cb34 := b3.cell (j := 4) rfl
      have cb35 := b3.cell (j := 5) rfl
      have cb36 := b3.cell (j := 6) rfl
      have cb37 := b3.cell (j := 7) rfl
      have cb3f := b3.fz
      go_wp2_with fail
      all_goals go_returns
      all_goals exact ⟨rfl, B⟩
end Go.Proofs.Ytcglljjhokffeaa
