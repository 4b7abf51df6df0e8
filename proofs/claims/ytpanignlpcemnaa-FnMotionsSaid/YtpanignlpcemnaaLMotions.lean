/- Moving on in two parts is moving on at once, and gates only grow: the law's walk. Printed by gen_mtlaw.py. -/
import Derived.Test.YtpanignlpcemnaaMtB
import Derived.Test.YtpanignlpcemnaaMtC
import Derived.Test.YtpanignlpcemnaaBig
import Derived.Laws.StructEq
namespace Go.Proofs.Ytpanignlpcemnaa
open Go.RowKit Go.ChangeShapes Go.WideShapes Go.ChangeAt
set_option linter.unusedVariables false
set_option linter.unusedSimpArgs false
theorem mid_in {x p n k : Int} (hx : -100000 ≤ x ∧ x ≤ 100000) (hn : -100000 ≤ x + n * p ∧ x + n * p ≤ 100000) (h0 : 0 ≤ k) (h1 : k ≤ n) : -100000 ≤ x + k * p ∧ x + k * p ≤ 100000 := by
  rcases Int.le_total 0 p with hp | hp
  · have a1 := Int.mul_nonneg h0 hp
    have a2 := Int.mul_le_mul_of_nonneg_right h1 hp
    omega
  · have a1 := Int.mul_nonneg h0 (show 0 ≤ -p by omega)
    have a2 := Int.mul_le_mul_of_nonneg_right h1 (show 0 ≤ -p by omega)
    rw [Int.mul_neg] at a1
    rw [Int.mul_neg, Int.mul_neg] at a2
    omega
theorem mo_law {x y p q s n xv yv pv qv sv : Int} (h : fMO x y p q s n = (⟨xv, yv, pv, qv, sv⟩, 0)) : (0 ≤ n ∧ n ≤ 100) ∧ s ≤ sv ∧ moB xv yv pv qv sv = true ∧ ∀ k, 0 ≤ k → k ≤ n → ∃ xa ya pa qa sa, fMO x y p q s k = (⟨xa, ya, pa, qa, sa⟩, 0) ∧ fMO xa ya pa qa sa (n - k) = (⟨xv, yv, pv, qv, sv⟩, 0) := by
  have hm : moB x y p q s = true := by
    cases hm : moB x y p q s
    · rw [fMO, hm] at h; simp at h
    · rfl
  have hn : inB n 0 100 = true := by
    cases hn : inB n 0 100
    · rw [fMO, hm, hn] at h; simp at h
    · rfl
  have hc : coB (x + n * p) (y + n * q) = true := by
    cases hc : coB (x + n * p) (y + n * q)
    · rw [fMO, hm, hn, hc] at h; simp at h
    · rfl
  have hnb := of_inB hn
  obtain ⟨m1, m2, m3, m4, m5⟩ := mo_parts hm
  have hcb := hc
  simp only [coB, Bool.and_eq_true] at hcb
  have c1 := of_inB hcb.1
  have c2 := of_inB hcb.2
  rw [fMO, hm, hn, hc] at h
  simp only [if_true, Prod.mk.injEq, Mo.mk.injEq, and_true] at h
  obtain ⟨rfl, rfl, rfl, rfl, rfl⟩ := h
  refine ⟨hnb, by omega, by rw [mo_moved hm hnb]; exact hc, fun k h0 h1 => ?_⟩
  have d1 := mid_in m1 c1 h0 h1
  have d2 := mid_in m2 c2 h0 h1
  have hk : inB k 0 100 = true := inB_t (by omega)
  have hck : coB (x + k * p) (y + k * q) = true := by rw [coB, inB_t d1, inB_t d2]; rfl
  refine ⟨x + k * p, y + k * q, p, q, min (s + k * 50) 10000, by rw [fMO, hm, hk, hck]; rfl, ?_⟩
  have e1 : x + k * p + (n - k) * p = x + n * p := by rw [Int.sub_mul]; omega
  have e2 : y + k * q + (n - k) * q = y + n * q := by rw [Int.sub_mul]; omega
  rw [fMO, mo_moved hm (by omega), hck, inB_t (show 0 ≤ n - k ∧ n - k ≤ 100 by omega), e1, e2, hc]
  simp only [if_true, Prod.mk.injEq, Mo.mk.injEq, true_and, and_true]
  omega
set_option maxRecDepth 100000 in
theorem neqMo (x y p q s : Int) (w : World) : (binOp .neq 25 (.agg #[.int .i64 x, .int .i64 y, .int .i64 p, .int .i64 q, .int .i64 s]) (.agg #[.int .i64 x, .int .i64 y, .int .i64 p, .int .i64 q, .int .i64 s])).run Try.prog w = .ok (.bool false) w := by
  go_simp
set_option maxRecDepth 100000 in
theorem eqlMo (x y p q s : Int) (w : World) : (binOp .eql 25 (.agg #[.int .i64 x, .int .i64 y, .int .i64 p, .int .i64 q, .int .i64 s]) (.agg #[.int .i64 x, .int .i64 y, .int .i64 p, .int .i64 q, .int .i64 s])).run Try.prog w = .ok (.bool true) w := by
  go_simp
set_option maxHeartbeats 6400000 in
set_option maxRecDepth 100000 in
theorem walk_Motions (A : Option Addr) (c : Nat) (code : List Int) (w : World) (hr : U8 w w.heap.size A code) (hb : ∀ x ∈ code, 0 ≤ x ∧ x ≤ 255) :
    Calls Try.prog 3 #[.slice A code.length c] w fun e w' => e = .returned (.bool true) ∧ Below w.heap.size w w' := by
  by_cases hl : ¬ code.length ≤ 4096
  · have hl2 : (4096 : Int) < (code.length : Int) := by omega
    go_enter Try.func3, Try.ntmps3
    go_wp2_with (first | (go_at_call 7; refine (laws_big _ _ _ _).mono ?_; rintro e w' ⟨rfl, rfl⟩) | fail)
    all_goals go_returns
    all_goals exact ⟨rfl, Below.refl _ _⟩
  have hl : code.length ≤ 4096 := by omega
  have hl2 : ¬ (4096 : Int) < (code.length : Int) := by omega
  have B : Below w.heap.size w w := Below.refl _ _
  have hneq := neqMo
  have heql := eqlMo
  have hrH := Lib.hid hr
  have hbH := Lib.hid hb
  clear hr hb
  go_enter Try.func3, Try.ntmps3
  go_wp2_with (first | (go_at_call 7; refine (laws_big _ _ _ _).mono ?_; rintro e w' ⟨rfl, rfl⟩) | fail)
  refine (spec_DrawMoveOn _ _ _ _ hrH.out hbH.out hl).mono ?_
  rintro e w1 ⟨x, y, p, q, s, n, rfl, hb1⟩
  have B : Below w.heap.size w w1 := B.trans hb1
  clear hb1
  go_wp2_with fail
  refine calls_gen (fun W1 hW1 => ?_)
  have b3 : IBox W1 25 (w1.heap.size) [x, y, p, q, s] := by rw [hW1]; exact (IBox.new (w := w1) (T := 25) (l := [x, y, p, q, s]) rfl)
  have B : Below w.heap.size w W1 := by rw [hW1]; exact (Below.new B _)
  clear hW1
  rcases hf : fMO x y p q s n with ⟨⟨xv, yv, pv, qv, sv⟩, cd⟩
  have hfH := Lib.hid hf
  clear hf
  refine (impl_MoveOn x y p q s n xv yv pv qv sv cd _ hfH.out).mono ?_
  rintro e w2 ⟨rfl, hb2⟩
  have b3 := b3.next hb2
  have B : Below w.heap.size w w2 := B.trans (hb2.mono B.size)
  clear hb2
  have cb30 := b3.cell (j := 0) rfl
  have cb31 := b3.cell (j := 1) rfl
  have cb32 := b3.cell (j := 2) rfl
  have cb33 := b3.cell (j := 3) rfl
  have cb34 := b3.cell (j := 4) rfl
  have cb3f := b3.fz
  have ab30 : ∀ ob, (w2.alloc ob).cell? ⟨w1.heap.size, 0, none⟩ = some (.int .i64 x) := fun ob => bx_alloc cb30
  have ab31 : ∀ ob, (w2.alloc ob).cell? ⟨w1.heap.size, 1, none⟩ = some (.int .i64 y) := fun ob => bx_alloc cb31
  have ab32 : ∀ ob, (w2.alloc ob).cell? ⟨w1.heap.size, 2, none⟩ = some (.int .i64 p) := fun ob => bx_alloc cb32
  have ab33 : ∀ ob, (w2.alloc ob).cell? ⟨w1.heap.size, 3, none⟩ = some (.int .i64 q) := fun ob => bx_alloc cb33
  have ab34 : ∀ ob, (w2.alloc ob).cell? ⟨w1.heap.size, 4, none⟩ = some (.int .i64 s) := fun ob => bx_alloc cb34
  go_wp2_with fail
  clear ab30 ab31 ab32 ab33 ab34
  clear cb30 cb31 cb32 cb33 cb34 cb3f
  refine calls_gen (fun W2 hW2 => ?_)
  have b5 : IBox W2 25 (w2.heap.size) [xv, yv, pv, qv, sv] := by rw [hW2]; exact (IBox.new (w := w2) (T := 25) (l := [xv, yv, pv, qv, sv]) rfl)
  have b3 : IBox W2 25 (w1.heap.size) [x, y, p, q, s] := by rw [hW2]; exact (b3.alloc _)
  have B : Below w.heap.size w W2 := by rw [hW2]; exact (Below.new B _)
  clear hW2
  refine (spec_MoveOn x y p q s n xv yv pv qv sv cd _ hfH.out).mono ?_
  rintro e w3 ⟨rfl, hb3⟩
  have b3 := b3.next hb3
  have b5 := b5.next hb3
  have B : Below w.heap.size w w3 := B.trans (hb3.mono B.size)
  clear hb3
  go_wp2_with fail
  refine calls_gen (fun W3 hW3 => ?_)
  have b7 : IBox W3 25 (w3.heap.size) [xv, yv, pv, qv, sv] := by rw [hW3]; exact (IBox.new (w := w3) (T := 25) (l := [xv, yv, pv, qv, sv]) rfl)
  have b3 : IBox W3 25 (w1.heap.size) [x, y, p, q, s] := by rw [hW3]; exact (b3.alloc _)
  have b5 : IBox W3 25 (w2.heap.size) [xv, yv, pv, qv, sv] := by rw [hW3]; exact (b5.alloc _)
  have B : Below w.heap.size w W3 := by rw [hW3]; exact (Below.new B _)
  clear hW3
  refine (spec_DrawAreContacts _ _ _ _ (Rd.up hrH.out B) hbH.out hl).mono ?_
  rintro e w4 ⟨vc, cs, rfl, oc, hc7, hb4⟩
  have b3 := b3.next hb4
  have b5 := b5.next hb4
  have b7 := b7.next hb4
  have B : Below w.heap.size w w4 := B.trans (hb4.mono B.size)
  clear hb4
  obtain ⟨Ac, kc, rfl⟩ := OwnS.form oc
  have rc : C64 w4 w4.heap.size Ac cs := OwnS.rd oc
  clear oc
  have n1 : (cd != cd) = false := by simp
  have n2 : (moB x y p q s != moB x y p q s) = false := by simp
  obtain ⟨ac, hac⟩ : ∃ b, b = decide (ctCode cs = 0) := ⟨_, rfl⟩
  have hAI := fun w h => impl_AreContacts Ac kc cs w h (by omega)
  have hAS := fun w h => spec_AreContacts Ac kc cs w h (by omega)
  rw [← hac] at hAI hAS
  have hAIH := Lib.hid hAI
  have hASH := Lib.hid hAS
  have n3 : (ac != ac) = false := by simp
  clear hAI hAS hac
  have cb30 := b3.cell (j := 0) rfl
  have cb31 := b3.cell (j := 1) rfl
  have cb32 := b3.cell (j := 2) rfl
  have cb33 := b3.cell (j := 3) rfl
  have cb34 := b3.cell (j := 4) rfl
  have cb3f := b3.fz
  have cb50 := b5.cell (j := 0) rfl
  have cb51 := b5.cell (j := 1) rfl
  have cb52 := b5.cell (j := 2) rfl
  have cb53 := b5.cell (j := 3) rfl
  have cb54 := b5.cell (j := 4) rfl
  have cb5f := b5.fz
  have cb70 := b7.cell (j := 0) rfl
  have cb71 := b7.cell (j := 1) rfl
  have cb72 := b7.cell (j := 2) rfl
  have cb73 := b7.cell (j := 3) rfl
  have cb74 := b7.cell (j := 4) rfl
  have cb7f := b7.fz
  go_wp2_with fail
  (refine wp_region_noPanic ?_; refine wp_region_held_drew (S := (fun w' => w'.cell? ⟨w1.heap.size, 0, none⟩ = some (.int .i64 x) ∧ w'.cell? ⟨w1.heap.size, 1, none⟩ = some (.int .i64 y) ∧ w'.cell? ⟨w1.heap.size, 2, none⟩ = some (.int .i64 p) ∧ w'.cell? ⟨w1.heap.size, 3, none⟩ = some (.int .i64 q) ∧ w'.cell? ⟨w1.heap.size, 4, none⟩ = some (.int .i64 s) ∧ w'.cell? ⟨w2.heap.size, 0, none⟩ = some (.int .i64 xv) ∧ w'.cell? ⟨w2.heap.size, 1, none⟩ = some (.int .i64 yv) ∧ w'.cell? ⟨w2.heap.size, 2, none⟩ = some (.int .i64 pv) ∧ w'.cell? ⟨w2.heap.size, 3, none⟩ = some (.int .i64 qv) ∧ w'.cell? ⟨w2.heap.size, 4, none⟩ = some (.int .i64 sv) ∧ w'.cell? ⟨w3.heap.size, 0, none⟩ = some (.int .i64 xv) ∧ w'.cell? ⟨w3.heap.size, 1, none⟩ = some (.int .i64 yv) ∧ w'.cell? ⟨w3.heap.size, 2, none⟩ = some (.int .i64 pv) ∧ w'.cell? ⟨w3.heap.size, 3, none⟩ = some (.int .i64 qv) ∧ w'.cell? ⟨w3.heap.size, 4, none⟩ = some (.int .i64 sv))) (by kernel_rfl) ?_ (fun hHeld => ?_); (focus ((try dsimp only); (refine ⟨?_, ?_, ?_, ?_, ?_, ?_, ?_, ?_, ?_, ?_, ?_, ?_, ?_, ?_, ?_⟩ <;> repeat' (first | (with_reducible assumption) | ((with_reducible apply bx_new) <;> first | (simp only [World.size_alloc, World.size_setCell]; done) | rfl) | (with_reducible apply bx_alloc) | (with_reducible apply bx_other; (first | (simp only [World.size_alloc, World.size_setCell]; omega) | omega)) | (with_reducible apply bx_same) | (with_reducible apply bx_drew) | (with_reducible apply bx_drew1) | (with_reducible apply bx_keep; with_reducible assumption) | fail)))); (refine takeT (i := 0) (d := 36) rfl rfl (by kernel_rfl) (by kernel_rfl) (by kernel_rfl) (by rfl) (by assumption) (v := ?_) ?_ ?_; rotate_left; (focus (intro wq hSw; (try dsimp only at hSw); go_simp; (try (with_reducible rfl)); done)); (try simp only [Act.put, List.setIfInBounds_toArray, List.set_cons_zero, List.set_cons_succ])); (refine takeT (i := 1) (d := 37) rfl rfl (by kernel_rfl) (by kernel_rfl) (by kernel_rfl) (by rfl) (by assumption) (v := ?_) ?_ ?_; rotate_left; (focus (intro wq hSw; (try dsimp only at hSw); go_simp; (try (with_reducible rfl)); done)); (try simp only [Act.put, List.setIfInBounds_toArray, List.set_cons_zero, List.set_cons_succ])); (refine takeT (i := 2) (d := 38) rfl rfl (by kernel_rfl) (by kernel_rfl) (by kernel_rfl) (by rfl) (by assumption) (v := ?_) ?_ ?_; rotate_left; (focus (intro wq hSw; (try dsimp only at hSw); go_simp; (try (with_reducible rfl)); done)); (try simp only [Act.put, List.setIfInBounds_toArray, List.set_cons_zero, List.set_cons_succ])); (refine takeT (i := 3) (d := 39) rfl rfl (by kernel_rfl) (by kernel_rfl) (by kernel_rfl) (by rfl) (by assumption) (v := ?_) ?_ ?_; rotate_left; (focus (intro wq hSw; (try dsimp only at hSw); go_simp; (try (with_reducible rfl)); done)); (try simp only [Act.put, List.setIfInBounds_toArray, List.set_cons_zero, List.set_cons_succ])); (refine takeT (i := 4) (d := 40) rfl rfl (by kernel_rfl) (by kernel_rfl) (by kernel_rfl) (by rfl) (by assumption) (v := ?_) ?_ ?_; rotate_left; (focus (intro wq hSw; (try dsimp only at hSw); go_simp; (try (with_reducible rfl)); done)); (try simp only [Act.put, List.setIfInBounds_toArray, List.set_cons_zero, List.set_cons_succ])); (refine takeT (i := 5) (d := 41) rfl rfl (by kernel_rfl) (by kernel_rfl) (by kernel_rfl) (by rfl) (by assumption) (v := ?_) ?_ ?_; rotate_left; (focus (intro wq hSw; (try dsimp only at hSw); go_simp; (try (with_reducible rfl)); done)); (try simp only [Act.put, List.setIfInBounds_toArray, List.set_cons_zero, List.set_cons_succ])); (refine takeT (i := 6) (d := 42) rfl rfl (by kernel_rfl) (by kernel_rfl) (by kernel_rfl) (by rfl) (by assumption) (v := ?_) ?_ ?_; rotate_left; (focus (intro wq hSw; (try dsimp only at hSw); go_simp; (try (with_reducible rfl)); done)); (try simp only [Act.put, List.setIfInBounds_toArray, List.set_cons_zero, List.set_cons_succ])); (refine takeT (i := 7) (d := 43) rfl rfl (by kernel_rfl) (by kernel_rfl) (by kernel_rfl) (by rfl) (by assumption) (v := ?_) ?_ ?_; rotate_left; (focus (intro wq hSw; (try dsimp only at hSw); go_simp; (try (with_reducible rfl)); done)); (try simp only [Act.put, List.setIfInBounds_toArray, List.set_cons_zero, List.set_cons_succ])); (refine takeT (i := 8) (d := 44) rfl rfl (by kernel_rfl) (by kernel_rfl) (by kernel_rfl) (by rfl) (by assumption) (v := ?_) ?_ ?_; rotate_left; (focus (intro wq hSw; (try dsimp only at hSw); go_simp; (try (with_reducible rfl)); done)); (try simp only [Act.put, List.setIfInBounds_toArray, List.set_cons_zero, List.set_cons_succ])); (refine takeT (i := 9) (d := 45) rfl rfl (by kernel_rfl) (by kernel_rfl) (by kernel_rfl) (by rfl) (by assumption) (v := ?_) ?_ ?_; rotate_left; (focus (intro wq hSw; (try dsimp only at hSw); go_simp; (try (with_reducible rfl)); done)); (try simp only [Act.put, List.setIfInBounds_toArray, List.set_cons_zero, List.set_cons_succ])); (refine takeT (i := 11) (d := 47) rfl rfl (by kernel_rfl) (by kernel_rfl) (by kernel_rfl) (by rfl) (by assumption) (v := ?_) ?_ ?_; rotate_left; (focus (intro wq hSw; (try dsimp only at hSw); go_simp; (try (with_reducible rfl)); done)); (try simp only [Act.put, List.setIfInBounds_toArray, List.set_cons_zero, List.set_cons_succ])); (refine wpAnyH_ready (rs := [10]) (by kernel_rfl) (by simp) ?_; refine AllReadyH.cons rfl (fun K hK => ?_) AllReadyH.nil; go_simp; (first | (go_at_call 12; refine (impl_IsMotion x y p q s _).mono ?_; rintro e w5 ⟨rfl, hb5⟩; have b3 := IBox.next (w := w4.drew) b3 hb5; have b5 := IBox.next (w := w4.drew) b5 hb5; have b7 := IBox.next (w := w4.drew) b7 hb5; have rc : C64 w5 w5.heap.size Ac cs := C64.up (w := w4.drew) rc hb5; have B : Below w.heap.size w w5 := Below.trans (below_drew B) (hb5.mono (by have := B.size; exact this)); have cb30 := b3.cell (j := 0) rfl; have cb31 := b3.cell (j := 1) rfl; have cb32 := b3.cell (j := 2) rfl; have cb33 := b3.cell (j := 3) rfl; have cb34 := b3.cell (j := 4) rfl; have cb3f := b3.fz; have cb50 := b5.cell (j := 0) rfl; have cb51 := b5.cell (j := 1) rfl; have cb52 := b5.cell (j := 2) rfl; have cb53 := b5.cell (j := 3) rfl; have cb54 := b5.cell (j := 4) rfl; have cb5f := b5.fz; have cb70 := b7.cell (j := 0) rfl; have cb71 := b7.cell (j := 1) rfl; have cb72 := b7.cell (j := 2) rfl; have cb73 := b7.cell (j := 3) rfl; have cb74 := b7.cell (j := 4) rfl; have cb7f := b7.fz) | (go_at_call 13; refine (spec_IsMotion x y p q s _).mono ?_; rintro e w6 ⟨rfl, hb6⟩; have b3 := IBox.next b3 hb6; have b5 := IBox.next b5 hb6; have b7 := IBox.next b7 hb6; have rc : C64 w6 w6.heap.size Ac cs := C64.up (w := w5) rc hb6; have B : Below w.heap.size w w6 := Below.trans B (hb6.mono (by have := B.size; exact this)); have cb30 := b3.cell (j := 0) rfl; have cb31 := b3.cell (j := 1) rfl; have cb32 := b3.cell (j := 2) rfl; have cb33 := b3.cell (j := 3) rfl; have cb34 := b3.cell (j := 4) rfl; have cb3f := b3.fz; have cb50 := b5.cell (j := 0) rfl; have cb51 := b5.cell (j := 1) rfl; have cb52 := b5.cell (j := 2) rfl; have cb53 := b5.cell (j := 3) rfl; have cb54 := b5.cell (j := 4) rfl; have cb5f := b5.fz; have cb70 := b7.cell (j := 0) rfl; have cb71 := b7.cell (j := 1) rfl; have cb72 := b7.cell (j := 2) rfl; have cb73 := b7.cell (j := 3) rfl; have cb74 := b7.cell (j := 4) rfl; have cb7f := b7.fz) | (go_at_call 14; refine (hAIH.out _ rc).mono ?_; rintro e w7 ⟨rfl, hb7⟩; have b3 := IBox.next b3 hb7; have b5 := IBox.next b5 hb7; have b7 := IBox.next b7 hb7; have rc : C64 w7 w7.heap.size Ac cs := C64.up (w := w6) rc hb7; have B : Below w.heap.size w w7 := Below.trans B (hb7.mono (by have := B.size; exact this)); have cb30 := b3.cell (j := 0) rfl; have cb31 := b3.cell (j := 1) rfl; have cb32 := b3.cell (j := 2) rfl; have cb33 := b3.cell (j := 3) rfl; have cb34 := b3.cell (j := 4) rfl; have cb3f := b3.fz; have cb50 := b5.cell (j := 0) rfl; have cb51 := b5.cell (j := 1) rfl; have cb52 := b5.cell (j := 2) rfl; have cb53 := b5.cell (j := 3) rfl; have cb54 := b5.cell (j := 4) rfl; have cb5f := b5.fz; have cb70 := b7.cell (j := 0) rfl; have cb71 := b7.cell (j := 1) rfl; have cb72 := b7.cell (j := 2) rfl; have cb73 := b7.cell (j := 3) rfl; have cb74 := b7.cell (j := 4) rfl; have cb7f := b7.fz) | (go_at_call 15; refine (hASH.out _ rc).mono ?_; rintro e w8 ⟨rfl, hb8⟩; have b3 := IBox.next b3 hb8; have b5 := IBox.next b5 hb8; have b7 := IBox.next b7 hb8; have rc : C64 w8 w8.heap.size Ac cs := C64.up (w := w7) rc hb8; have B : Below w.heap.size w w8 := Below.trans B (hb8.mono (by have := B.size; exact this)); have cb30 := b3.cell (j := 0) rfl; have cb31 := b3.cell (j := 1) rfl; have cb32 := b3.cell (j := 2) rfl; have cb33 := b3.cell (j := 3) rfl; have cb34 := b3.cell (j := 4) rfl; have cb3f := b3.fz; have cb50 := b5.cell (j := 0) rfl; have cb51 := b5.cell (j := 1) rfl; have cb52 := b5.cell (j := 2) rfl; have cb53 := b5.cell (j := 3) rfl; have cb54 := b5.cell (j := 4) rfl; have cb5f := b5.fz; have cb70 := b7.cell (j := 0) rfl; have cb71 := b7.cell (j := 1) rfl; have cb72 := b7.cell (j := 2) rfl; have cb73 := b7.cell (j := 3) rfl; have cb74 := b7.cell (j := 4) rfl; have cb7f := b7.fz) | skip); (try go_wp2_with fail); refine hK.out _ _ ?_ (fun hHeld => ?_); (focus ((try dsimp only); (refine ⟨?_, ?_, ?_, ?_, ?_, ?_, ?_, ?_, ?_, ?_, ?_, ?_, ?_, ?_, ?_⟩ <;> repeat' (first | (with_reducible assumption) | ((with_reducible apply bx_new) <;> first | (simp only [World.size_alloc, World.size_setCell]; done) | rfl) | (with_reducible apply bx_alloc) | (with_reducible apply bx_other; (first | (simp only [World.size_alloc, World.size_setCell]; omega) | omega)) | (with_reducible apply bx_same) | (with_reducible apply bx_drew) | (with_reducible apply bx_drew1) | (with_reducible apply bx_keep; with_reducible assumption) | fail)))); clear hK K; (try simp only [Act.put, List.setIfInBounds_toArray, List.set_cons_zero, List.set_cons_succ])); (refine wpAnyH_ready (rs := [12]) (by kernel_rfl) (by simp) ?_; refine AllReadyH.cons rfl (fun K hK => ?_) AllReadyH.nil; go_simp; (first | (go_at_call 12; refine (impl_IsMotion x y p q s _).mono ?_; rintro e w5 ⟨rfl, hb5⟩; have b3 := IBox.next (w := w4.drew) b3 hb5; have b5 := IBox.next (w := w4.drew) b5 hb5; have b7 := IBox.next (w := w4.drew) b7 hb5; have rc : C64 w5 w5.heap.size Ac cs := C64.up (w := w4.drew) rc hb5; have B : Below w.heap.size w w5 := Below.trans (below_drew B) (hb5.mono (by have := B.size; exact this)); have cb30 := b3.cell (j := 0) rfl; have cb31 := b3.cell (j := 1) rfl; have cb32 := b3.cell (j := 2) rfl; have cb33 := b3.cell (j := 3) rfl; have cb34 := b3.cell (j := 4) rfl; have cb3f := b3.fz; have cb50 := b5.cell (j := 0) rfl; have cb51 := b5.cell (j := 1) rfl; have cb52 := b5.cell (j := 2) rfl; have cb53 := b5.cell (j := 3) rfl; have cb54 := b5.cell (j := 4) rfl; have cb5f := b5.fz; have cb70 := b7.cell (j := 0) rfl; have cb71 := b7.cell (j := 1) rfl; have cb72 := b7.cell (j := 2) rfl; have cb73 := b7.cell (j := 3) rfl; have cb74 := b7.cell (j := 4) rfl; have cb7f := b7.fz) | (go_at_call 13; refine (spec_IsMotion x y p q s _).mono ?_; rintro e w6 ⟨rfl, hb6⟩; have b3 := IBox.next b3 hb6; have b5 := IBox.next b5 hb6; have b7 := IBox.next b7 hb6; have rc : C64 w6 w6.heap.size Ac cs := C64.up (w := w5) rc hb6; have B : Below w.heap.size w w6 := Below.trans B (hb6.mono (by have := B.size; exact this)); have cb30 := b3.cell (j := 0) rfl; have cb31 := b3.cell (j := 1) rfl; have cb32 := b3.cell (j := 2) rfl; have cb33 := b3.cell (j := 3) rfl; have cb34 := b3.cell (j := 4) rfl; have cb3f := b3.fz; have cb50 := b5.cell (j := 0) rfl; have cb51 := b5.cell (j := 1) rfl; have cb52 := b5.cell (j := 2) rfl; have cb53 := b5.cell (j := 3) rfl; have cb54 := b5.cell (j := 4) rfl; have cb5f := b5.fz; have cb70 := b7.cell (j := 0) rfl; have cb71 := b7.cell (j := 1) rfl; have cb72 := b7.cell (j := 2) rfl; have cb73 := b7.cell (j := 3) rfl; have cb74 := b7.cell (j := 4) rfl; have cb7f := b7.fz) | (go_at_call 14; refine (hAIH.out _ rc).mono ?_; rintro e w7 ⟨rfl, hb7⟩; have b3 := IBox.next b3 hb7; have b5 := IBox.next b5 hb7; have b7 := IBox.next b7 hb7; have rc : C64 w7 w7.heap.size Ac cs := C64.up (w := w6) rc hb7; have B : Below w.heap.size w w7 := Below.trans B (hb7.mono (by have := B.size; exact this)); have cb30 := b3.cell (j := 0) rfl; have cb31 := b3.cell (j := 1) rfl; have cb32 := b3.cell (j := 2) rfl; have cb33 := b3.cell (j := 3) rfl; have cb34 := b3.cell (j := 4) rfl; have cb3f := b3.fz; have cb50 := b5.cell (j := 0) rfl; have cb51 := b5.cell (j := 1) rfl; have cb52 := b5.cell (j := 2) rfl; have cb53 := b5.cell (j := 3) rfl; have cb54 := b5.cell (j := 4) rfl; have cb5f := b5.fz; have cb70 := b7.cell (j := 0) rfl; have cb71 := b7.cell (j := 1) rfl; have cb72 := b7.cell (j := 2) rfl; have cb73 := b7.cell (j := 3) rfl; have cb74 := b7.cell (j := 4) rfl; have cb7f := b7.fz) | (go_at_call 15; refine (hASH.out _ rc).mono ?_; rintro e w8 ⟨rfl, hb8⟩; have b3 := IBox.next b3 hb8; have b5 := IBox.next b5 hb8; have b7 := IBox.next b7 hb8; have rc : C64 w8 w8.heap.size Ac cs := C64.up (w := w7) rc hb8; have B : Below w.heap.size w w8 := Below.trans B (hb8.mono (by have := B.size; exact this)); have cb30 := b3.cell (j := 0) rfl; have cb31 := b3.cell (j := 1) rfl; have cb32 := b3.cell (j := 2) rfl; have cb33 := b3.cell (j := 3) rfl; have cb34 := b3.cell (j := 4) rfl; have cb3f := b3.fz; have cb50 := b5.cell (j := 0) rfl; have cb51 := b5.cell (j := 1) rfl; have cb52 := b5.cell (j := 2) rfl; have cb53 := b5.cell (j := 3) rfl; have cb54 := b5.cell (j := 4) rfl; have cb5f := b5.fz; have cb70 := b7.cell (j := 0) rfl; have cb71 := b7.cell (j := 1) rfl; have cb72 := b7.cell (j := 2) rfl; have cb73 := b7.cell (j := 3) rfl; have cb74 := b7.cell (j := 4) rfl; have cb7f := b7.fz) | skip); (try go_wp2_with fail); refine hK.out _ _ ?_ (fun hHeld => ?_); (focus ((try dsimp only); (refine ⟨?_, ?_, ?_, ?_, ?_, ?_, ?_, ?_, ?_, ?_, ?_, ?_, ?_, ?_, ?_⟩ <;> repeat' (first | (with_reducible assumption) | ((with_reducible apply bx_new) <;> first | (simp only [World.size_alloc, World.size_setCell]; done) | rfl) | (with_reducible apply bx_alloc) | (with_reducible apply bx_other; (first | (simp only [World.size_alloc, World.size_setCell]; omega) | omega)) | (with_reducible apply bx_same) | (with_reducible apply bx_drew) | (with_reducible apply bx_drew1) | (with_reducible apply bx_keep; with_reducible assumption) | fail)))); clear hK K; (try simp only [Act.put, List.setIfInBounds_toArray, List.set_cons_zero, List.set_cons_succ])); (refine takeT (i := 13) (d := 49) rfl rfl (by kernel_rfl) (by kernel_rfl) (by kernel_rfl) (by rfl) (by assumption) (v := ?_) ?_ ?_; rotate_left; (focus (intro wq hSw; (try dsimp only at hSw); go_simp; (try (with_reducible rfl)); done)); (try simp only [Act.put, List.setIfInBounds_toArray, List.set_cons_zero, List.set_cons_succ])); (refine takeT (i := 14) (d := 50) rfl rfl (by kernel_rfl) (by kernel_rfl) (by kernel_rfl) (by rfl) (by assumption) (v := ?_) ?_ ?_; rotate_left; (focus (intro wq hSw; (try dsimp only at hSw); go_simp; (try (with_reducible rfl)); done)); (try simp only [Act.put, List.setIfInBounds_toArray, List.set_cons_zero, List.set_cons_succ])); (refine takeT (i := 15) (d := 51) rfl rfl (by kernel_rfl) (by kernel_rfl) (by kernel_rfl) (by rfl) (by assumption) (v := ?_) ?_ ?_; rotate_left; (focus (intro wq hSw; (try dsimp only at hSw); go_simp; (try (with_reducible rfl)); done)); (try simp only [Act.put, List.setIfInBounds_toArray, List.set_cons_zero, List.set_cons_succ])); (refine takeT (i := 16) (d := 52) rfl rfl (by kernel_rfl) (by kernel_rfl) (by kernel_rfl) (by rfl) (by assumption) (v := ?_) ?_ ?_; rotate_left; (focus (intro wq hSw; (try dsimp only at hSw); go_simp; (try (with_reducible rfl)); done)); (try simp only [Act.put, List.setIfInBounds_toArray, List.set_cons_zero, List.set_cons_succ])); (refine takeT (i := 18) (d := 54) rfl rfl (by kernel_rfl) (by kernel_rfl) (by kernel_rfl) (by rfl) (by assumption) (v := ?_) ?_ ?_; rotate_left; (focus (intro wq hSw; (try dsimp only at hSw); go_simp; (try (with_reducible rfl)); done)); (try simp only [Act.put, List.setIfInBounds_toArray, List.set_cons_zero, List.set_cons_succ])); (refine wpAnyH_ready (rs := [17]) (by kernel_rfl) (by simp) ?_; refine AllReadyH.cons rfl (fun K hK => ?_) AllReadyH.nil; go_simp; (first | (go_at_call 12; refine (impl_IsMotion x y p q s _).mono ?_; rintro e w5 ⟨rfl, hb5⟩; have b3 := IBox.next (w := w4.drew) b3 hb5; have b5 := IBox.next (w := w4.drew) b5 hb5; have b7 := IBox.next (w := w4.drew) b7 hb5; have rc : C64 w5 w5.heap.size Ac cs := C64.up (w := w4.drew) rc hb5; have B : Below w.heap.size w w5 := Below.trans (below_drew B) (hb5.mono (by have := B.size; exact this)); have cb30 := b3.cell (j := 0) rfl; have cb31 := b3.cell (j := 1) rfl; have cb32 := b3.cell (j := 2) rfl; have cb33 := b3.cell (j := 3) rfl; have cb34 := b3.cell (j := 4) rfl; have cb3f := b3.fz; have cb50 := b5.cell (j := 0) rfl; have cb51 := b5.cell (j := 1) rfl; have cb52 := b5.cell (j := 2) rfl; have cb53 := b5.cell (j := 3) rfl; have cb54 := b5.cell (j := 4) rfl; have cb5f := b5.fz; have cb70 := b7.cell (j := 0) rfl; have cb71 := b7.cell (j := 1) rfl; have cb72 := b7.cell (j := 2) rfl; have cb73 := b7.cell (j := 3) rfl; have cb74 := b7.cell (j := 4) rfl; have cb7f := b7.fz) | (go_at_call 13; refine (spec_IsMotion x y p q s _).mono ?_; rintro e w6 ⟨rfl, hb6⟩; have b3 := IBox.next b3 hb6; have b5 := IBox.next b5 hb6; have b7 := IBox.next b7 hb6; have rc : C64 w6 w6.heap.size Ac cs := C64.up (w := w5) rc hb6; have B : Below w.heap.size w w6 := Below.trans B (hb6.mono (by have := B.size; exact this)); have cb30 := b3.cell (j := 0) rfl; have cb31 := b3.cell (j := 1) rfl; have cb32 := b3.cell (j := 2) rfl; have cb33 := b3.cell (j := 3) rfl; have cb34 := b3.cell (j := 4) rfl; have cb3f := b3.fz; have cb50 := b5.cell (j := 0) rfl; have cb51 := b5.cell (j := 1) rfl; have cb52 := b5.cell (j := 2) rfl; have cb53 := b5.cell (j := 3) rfl; have cb54 := b5.cell (j := 4) rfl; have cb5f := b5.fz; have cb70 := b7.cell (j := 0) rfl; have cb71 := b7.cell (j := 1) rfl; have cb72 := b7.cell (j := 2) rfl; have cb73 := b7.cell (j := 3) rfl; have cb74 := b7.cell (j := 4) rfl; have cb7f := b7.fz) | (go_at_call 14; refine (hAIH.out _ rc).mono ?_; rintro e w7 ⟨rfl, hb7⟩; have b3 := IBox.next b3 hb7; have b5 := IBox.next b5 hb7; have b7 := IBox.next b7 hb7; have rc : C64 w7 w7.heap.size Ac cs := C64.up (w := w6) rc hb7; have B : Below w.heap.size w w7 := Below.trans B (hb7.mono (by have := B.size; exact this)); have cb30 := b3.cell (j := 0) rfl; have cb31 := b3.cell (j := 1) rfl; have cb32 := b3.cell (j := 2) rfl; have cb33 := b3.cell (j := 3) rfl; have cb34 := b3.cell (j := 4) rfl; have cb3f := b3.fz; have cb50 := b5.cell (j := 0) rfl; have cb51 := b5.cell (j := 1) rfl; have cb52 := b5.cell (j := 2) rfl; have cb53 := b5.cell (j := 3) rfl; have cb54 := b5.cell (j := 4) rfl; have cb5f := b5.fz; have cb70 := b7.cell (j := 0) rfl; have cb71 := b7.cell (j := 1) rfl; have cb72 := b7.cell (j := 2) rfl; have cb73 := b7.cell (j := 3) rfl; have cb74 := b7.cell (j := 4) rfl; have cb7f := b7.fz) | (go_at_call 15; refine (hASH.out _ rc).mono ?_; rintro e w8 ⟨rfl, hb8⟩; have b3 := IBox.next b3 hb8; have b5 := IBox.next b5 hb8; have b7 := IBox.next b7 hb8; have rc : C64 w8 w8.heap.size Ac cs := C64.up (w := w7) rc hb8; have B : Below w.heap.size w w8 := Below.trans B (hb8.mono (by have := B.size; exact this)); have cb30 := b3.cell (j := 0) rfl; have cb31 := b3.cell (j := 1) rfl; have cb32 := b3.cell (j := 2) rfl; have cb33 := b3.cell (j := 3) rfl; have cb34 := b3.cell (j := 4) rfl; have cb3f := b3.fz; have cb50 := b5.cell (j := 0) rfl; have cb51 := b5.cell (j := 1) rfl; have cb52 := b5.cell (j := 2) rfl; have cb53 := b5.cell (j := 3) rfl; have cb54 := b5.cell (j := 4) rfl; have cb5f := b5.fz; have cb70 := b7.cell (j := 0) rfl; have cb71 := b7.cell (j := 1) rfl; have cb72 := b7.cell (j := 2) rfl; have cb73 := b7.cell (j := 3) rfl; have cb74 := b7.cell (j := 4) rfl; have cb7f := b7.fz) | skip); (try go_wp2_with fail); refine hK.out _ _ ?_ (fun hHeld => ?_); (focus ((try dsimp only); (refine ⟨?_, ?_, ?_, ?_, ?_, ?_, ?_, ?_, ?_, ?_, ?_, ?_, ?_, ?_, ?_⟩ <;> repeat' (first | (with_reducible assumption) | ((with_reducible apply bx_new) <;> first | (simp only [World.size_alloc, World.size_setCell]; done) | rfl) | (with_reducible apply bx_alloc) | (with_reducible apply bx_other; (first | (simp only [World.size_alloc, World.size_setCell]; omega) | omega)) | (with_reducible apply bx_same) | (with_reducible apply bx_drew) | (with_reducible apply bx_drew1) | (with_reducible apply bx_keep; with_reducible assumption) | fail)))); clear hK K; (try simp only [Act.put, List.setIfInBounds_toArray, List.set_cons_zero, List.set_cons_succ])); (refine wpAnyH_ready (rs := [19]) (by kernel_rfl) (by simp) ?_; refine AllReadyH.cons rfl (fun K hK => ?_) AllReadyH.nil; go_simp; (first | (go_at_call 12; refine (impl_IsMotion x y p q s _).mono ?_; rintro e w5 ⟨rfl, hb5⟩; have b3 := IBox.next (w := w4.drew) b3 hb5; have b5 := IBox.next (w := w4.drew) b5 hb5; have b7 := IBox.next (w := w4.drew) b7 hb5; have rc : C64 w5 w5.heap.size Ac cs := C64.up (w := w4.drew) rc hb5; have B : Below w.heap.size w w5 := Below.trans (below_drew B) (hb5.mono (by have := B.size; exact this)); have cb30 := b3.cell (j := 0) rfl; have cb31 := b3.cell (j := 1) rfl; have cb32 := b3.cell (j := 2) rfl; have cb33 := b3.cell (j := 3) rfl; have cb34 := b3.cell (j := 4) rfl; have cb3f := b3.fz; have cb50 := b5.cell (j := 0) rfl; have cb51 := b5.cell (j := 1) rfl; have cb52 := b5.cell (j := 2) rfl; have cb53 := b5.cell (j := 3) rfl; have cb54 := b5.cell (j := 4) rfl; have cb5f := b5.fz; have cb70 := b7.cell (j := 0) rfl; have cb71 := b7.cell (j := 1) rfl; have cb72 := b7.cell (j := 2) rfl; have cb73 := b7.cell (j := 3) rfl; have cb74 := b7.cell (j := 4) rfl; have cb7f := b7.fz) | (go_at_call 13; refine (spec_IsMotion x y p q s _).mono ?_; rintro e w6 ⟨rfl, hb6⟩; have b3 := IBox.next b3 hb6; have b5 := IBox.next b5 hb6; have b7 := IBox.next b7 hb6; have rc : C64 w6 w6.heap.size Ac cs := C64.up (w := w5) rc hb6; have B : Below w.heap.size w w6 := Below.trans B (hb6.mono (by have := B.size; exact this)); have cb30 := b3.cell (j := 0) rfl; have cb31 := b3.cell (j := 1) rfl; have cb32 := b3.cell (j := 2) rfl; have cb33 := b3.cell (j := 3) rfl; have cb34 := b3.cell (j := 4) rfl; have cb3f := b3.fz; have cb50 := b5.cell (j := 0) rfl; have cb51 := b5.cell (j := 1) rfl; have cb52 := b5.cell (j := 2) rfl; have cb53 := b5.cell (j := 3) rfl; have cb54 := b5.cell (j := 4) rfl; have cb5f := b5.fz; have cb70 := b7.cell (j := 0) rfl; have cb71 := b7.cell (j := 1) rfl; have cb72 := b7.cell (j := 2) rfl; have cb73 := b7.cell (j := 3) rfl; have cb74 := b7.cell (j := 4) rfl; have cb7f := b7.fz) | (go_at_call 14; refine (hAIH.out _ rc).mono ?_; rintro e w7 ⟨rfl, hb7⟩; have b3 := IBox.next b3 hb7; have b5 := IBox.next b5 hb7; have b7 := IBox.next b7 hb7; have rc : C64 w7 w7.heap.size Ac cs := C64.up (w := w6) rc hb7; have B : Below w.heap.size w w7 := Below.trans B (hb7.mono (by have := B.size; exact this)); have cb30 := b3.cell (j := 0) rfl; have cb31 := b3.cell (j := 1) rfl; have cb32 := b3.cell (j := 2) rfl; have cb33 := b3.cell (j := 3) rfl; have cb34 := b3.cell (j := 4) rfl; have cb3f := b3.fz; have cb50 := b5.cell (j := 0) rfl; have cb51 := b5.cell (j := 1) rfl; have cb52 := b5.cell (j := 2) rfl; have cb53 := b5.cell (j := 3) rfl; have cb54 := b5.cell (j := 4) rfl; have cb5f := b5.fz; have cb70 := b7.cell (j := 0) rfl; have cb71 := b7.cell (j := 1) rfl; have cb72 := b7.cell (j := 2) rfl; have cb73 := b7.cell (j := 3) rfl; have cb74 := b7.cell (j := 4) rfl; have cb7f := b7.fz) | (go_at_call 15; refine (hASH.out _ rc).mono ?_; rintro e w8 ⟨rfl, hb8⟩; have b3 := IBox.next b3 hb8; have b5 := IBox.next b5 hb8; have b7 := IBox.next b7 hb8; have rc : C64 w8 w8.heap.size Ac cs := C64.up (w := w7) rc hb8; have B : Below w.heap.size w w8 := Below.trans B (hb8.mono (by have := B.size; exact this)); have cb30 := b3.cell (j := 0) rfl; have cb31 := b3.cell (j := 1) rfl; have cb32 := b3.cell (j := 2) rfl; have cb33 := b3.cell (j := 3) rfl; have cb34 := b3.cell (j := 4) rfl; have cb3f := b3.fz; have cb50 := b5.cell (j := 0) rfl; have cb51 := b5.cell (j := 1) rfl; have cb52 := b5.cell (j := 2) rfl; have cb53 := b5.cell (j := 3) rfl; have cb54 := b5.cell (j := 4) rfl; have cb5f := b5.fz; have cb70 := b7.cell (j := 0) rfl; have cb71 := b7.cell (j := 1) rfl; have cb72 := b7.cell (j := 2) rfl; have cb73 := b7.cell (j := 3) rfl; have cb74 := b7.cell (j := 4) rfl; have cb7f := b7.fz) | skip); (try go_wp2_with fail); refine hK.out _ _ ?_ (fun hHeld => ?_); (focus ((try dsimp only); (refine ⟨?_, ?_, ?_, ?_, ?_, ?_, ?_, ?_, ?_, ?_, ?_, ?_, ?_, ?_, ?_⟩ <;> repeat' (first | (with_reducible assumption) | ((with_reducible apply bx_new) <;> first | (simp only [World.size_alloc, World.size_setCell]; done) | rfl) | (with_reducible apply bx_alloc) | (with_reducible apply bx_other; (first | (simp only [World.size_alloc, World.size_setCell]; omega) | omega)) | (with_reducible apply bx_same) | (with_reducible apply bx_drew) | (with_reducible apply bx_drew1) | (with_reducible apply bx_keep; with_reducible assumption) | fail)))); clear hK K; (try simp only [Act.put, List.setIfInBounds_toArray, List.set_cons_zero, List.set_cons_succ])); (refine takeT (i := 20) (d := 56) rfl rfl (by kernel_rfl) (by kernel_rfl) (by kernel_rfl) (by rfl) (by assumption) (v := ?_) ?_ ?_; rotate_left; (focus (intro wq hSw; (try dsimp only at hSw); go_simp; (try (with_reducible rfl)); done)); (try simp only [Act.put, List.setIfInBounds_toArray, List.set_cons_zero, List.set_cons_succ])); (refine takeT (i := 21) (d := 57) rfl rfl (by kernel_rfl) (by kernel_rfl) (by kernel_rfl) (by rfl) (by assumption) (v := ?_) ?_ ?_; rotate_left; (focus (intro wq hSw; (try dsimp only at hSw); go_simp; (try (with_reducible rfl)); done)); (try simp only [Act.put, List.setIfInBounds_toArray, List.set_cons_zero, List.set_cons_succ])); refine wpAnyH_done (by kernel_rfl) ?_ _; refine NoPanic.normal ?_)
  by_cases h0 : cd = 0
  · subst h0
    obtain ⟨hn, hs, hmv, hk⟩ := mo_law hfH.out
    have hkH := Lib.hid hk
    have hmvH := Lib.hid hmv
    clear hk hmv
    have l3 := b3.lt
    have l5 := b5.lt
    have l7 := b7.lt
    have lB := B.size
    go_wp2_with fail
    refine (laws_roll _ _ _ _ _ (Rd.up hrH.out B) hbH.out hl).mono ?_
    rintro e w9 ⟨g, h, rfl, hgb, hd, hh, hb9⟩
    have b3 := b3.next hb9
    have b5 := b5.next hb9
    have b7 := b7.next hb9
    have B : Below w.heap.size w w9 := B.trans (hb9.mono B.size)
    clear hb9
    go_wp2_with fail
    refine (laws_below g A c code h (n + 1) _ hd (Rd.more (Rd.below hrH.out B) (by omega)) hbH.out hl (by omega)).mono ?_
    rintro e w10 ⟨k, rfl, ⟨hk0, hk1⟩, hg10⟩
    have b3 := b3.grown hg10 (by simp; omega)
    have b5 := b5.grown hg10 (by simp; omega)
    have B : Below w.heap.size w w10 := below_row B hg10 (by omega)
    obtain ⟨xa, ya, pa, qa, sa, e1, e2⟩ := hkH.out k hk0 (by omega)
    have e1H := Lib.hid e1
    have e2H := Lib.hid e2
    clear hg10 b7 rc e1 e2 hd
    have cb30 := b3.cell (j := 0) rfl
    have cb31 := b3.cell (j := 1) rfl
    have cb32 := b3.cell (j := 2) rfl
    have cb33 := b3.cell (j := 3) rfl
    have cb34 := b3.cell (j := 4) rfl
    have cb3f := b3.fz
    go_wp2_with fail
    clear cb30 cb31 cb32 cb33 cb34 cb3f
    refine (impl_MoveOn x y p q s k xa ya pa qa sa 0 _ e1H.out).mono ?_
    rintro e w11 ⟨rfl, hb11⟩
    have b3 := b3.next hb11
    have b5 := b5.next hb11
    have B : Below w.heap.size w w11 := B.trans (hb11.mono B.size)
    clear hb11
    go_wp2_with fail
    refine calls_gen (fun W11 hW11 => ?_)
    have b11 : IBox W11 25 (w11.heap.size) [xa, ya, pa, qa, sa] := by rw [hW11]; exact (IBox.new (w := w11) (T := 25) (l := [xa, ya, pa, qa, sa]) rfl)
    have b3 : IBox W11 25 (w1.heap.size) [x, y, p, q, s] := by rw [hW11]; exact (b3.alloc _)
    have b5 : IBox W11 25 (w2.heap.size) [xv, yv, pv, qv, sv] := by rw [hW11]; exact (b5.alloc _)
    have B : Below w.heap.size w W11 := by rw [hW11]; exact (Below.new B _)
    clear hW11
    refine (impl_MoveOn xa ya pa qa sa (n - k) xv yv pv qv sv 0 _ e2H.out).mono ?_
    rintro e w12 ⟨rfl, hb12⟩
    have b3 := b3.next hb12
    have b5 := b5.next hb12
    have b11 := b11.next hb12
    have B : Below w.heap.size w w12 := B.trans (hb12.mono B.size)
    clear hb12
    have cb30 := b3.cell (j := 0) rfl
    have cb31 := b3.cell (j := 1) rfl
    have cb32 := b3.cell (j := 2) rfl
    have cb33 := b3.cell (j := 3) rfl
    have cb34 := b3.cell (j := 4) rfl
    have cb3f := b3.fz
    have cb50 := b5.cell (j := 0) rfl
    have cb51 := b5.cell (j := 1) rfl
    have cb52 := b5.cell (j := 2) rfl
    have cb53 := b5.cell (j := 3) rfl
    have cb54 := b5.cell (j := 4) rfl
    have cb5f := b5.fz
    have ab50 : ∀ ob, (w12.alloc ob).cell? ⟨w2.heap.size, 0, none⟩ = some (.int .i64 xv) := fun ob => bx_alloc cb50
    have ab51 : ∀ ob, (w12.alloc ob).cell? ⟨w2.heap.size, 1, none⟩ = some (.int .i64 yv) := fun ob => bx_alloc cb51
    have ab52 : ∀ ob, (w12.alloc ob).cell? ⟨w2.heap.size, 2, none⟩ = some (.int .i64 pv) := fun ob => bx_alloc cb52
    have ab53 : ∀ ob, (w12.alloc ob).cell? ⟨w2.heap.size, 3, none⟩ = some (.int .i64 qv) := fun ob => bx_alloc cb53
    have ab54 : ∀ ob, (w12.alloc ob).cell? ⟨w2.heap.size, 4, none⟩ = some (.int .i64 sv) := fun ob => bx_alloc cb54
    have ab34 : ∀ ob, (w12.alloc ob).cell? ⟨w1.heap.size, 4, none⟩ = some (.int .i64 s) := fun ob => bx_alloc cb34
    go_wp2_with fail
    refine (impl_IsMotion xv yv pv qv sv _).mono ?_
    rintro e w13 ⟨rfl, hb13⟩
    rw [hmvH.out]
    go_wp2_with fail
    all_goals go_returns
    all_goals exact ⟨rfl, by repeat' (first | (with_reducible exact Below.refl _ _) | (with_reducible assumption) | (with_reducible refine Below.new ?_ _) | (with_reducible refine Below.alloc ?_ ?_ _) | (with_reducible refine Below.drew ?_) | (with_reducible refine below_drewN ?_ _) | (with_reducible refine Below.setCell ?_ ?_ _) | (refine Below.next ?_ (by with_reducible assumption)) | (refine Below.row ?_ (by with_reducible assumption) (by omega)) | (refine Below.trans ?_ (by with_reducible assumption)) | (refine Below.after ?_ ?_ (by with_reducible assumption)) | go_size)⟩
  · go_wp2_with fail
    all_goals go_returns
    all_goals exact ⟨rfl, B⟩
end Go.Proofs.Ytpanignlpcemnaa
