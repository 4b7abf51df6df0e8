/- The draws of the law of shrunk mosaics: contracts. Printed by gen_shd2.py. -/
import Derived.Test.YtdedmiennpbfcaaDrSh
namespace Go.Proofs.Ytdedmiennpbfcaa
open Go.RowKit Go.ChangeShapes Go.WideShapes Go.ChangeAt
set_option linter.unusedVariables false
set_option linter.unusedSimpArgs false
theorem i64_off {w : World} {X o lo : Nat} {A : Option Addr} {xs : List Int} {v : Value} (h : I64 w lo A xs) (hX : lo ≤ X) : I64 (w.setCell ⟨X, o, none⟩ v) lo A xs := Rd.below h ((Below.refl _ _).setCell hX _)
def DrawnShr (w : World) (e : Ending) (w' : World) : Prop := ∃ p q A c A2 d xs ys k, e = .returned (.tuple #[.agg #[.int .i64 p, .int .i64 q, .slice A xs.length c, .slice A2 ys.length d], .int .i64 k]) ∧ I64 w' w'.heap.size A xs ∧ I64 w' w'.heap.size A2 ys ∧ xs.length ≤ 30 ∧ ys.length ≤ 30 ∧ Below w.heap.size w w'
def DrawnCk (w : World) (e : Ending) (w' : World) : Prop := ∃ p q A c A2 d xs ys, e = .returned (.agg #[.int .i64 p, .int .i64 q, .slice A xs.length c, .slice A2 ys.length d]) ∧ I64 w' w'.heap.size A xs ∧ I64 w' w'.heap.size A2 ys ∧ xs.length ≤ 30 ∧ ys.length ≤ 30 ∧ Below w.heap.size w w'
/-- lists that lie behind a block stay readable when it is written -/
theorem i64_behind {w w' : World} {X : Nat} {A : Option Addr} {xs : List Int} (h : I64 w w.heap.size A xs) (hne : ∀ b o, A = some ⟨b, o, none⟩ → b ≠ X) (hg : w.grownBy w' (some X)) : I64 w' w'.heap.size A xs := by
  rcases h with h | ⟨b, o, h1, h2, h3⟩
  · exact .inl h
  · refine .inr ⟨b, o, h1, Nat.lt_of_lt_of_le h2 hg.size, fun j v hv => ?_⟩
    have := h3 j v hv
    simp only [World.cell?] at this ⊢
    rw [hg.block b h2 (by have := hne b o h1; simp; omega)]
    exact this
set_option maxRecDepth 100000 in
theorem spec_DrawCountKnown (A : Option Addr) (c : Nat) (code : List Int) (w : World) (hr : U8 w w.heap.size A code) (hb : ∀ x ∈ code, 0 ≤ x ∧ x ≤ 255) (hl : code.length ≤ 4096) :
    Calls Try.prog 8 #[.slice A code.length c] w (DrawnCk w) := by
  go_enter Try.func8, Try.ntmps8
  go_wp2_with fail
  refine calls_gen (fun W0 hW0 => ?_)
  have rb : VBox W0 26 w.heap.size [.int .i64 0, .int .i64 0, .slice none 0 0, .slice none 0 0] := by rw [hW0]; exact VBox.new rfl
  have B0 : Below w.heap.size w W0 := by rw [hW0]; exact Below.new (Below.refl _ _) _
  clear hW0
  have z0 := rb.lt
  refine (spec_l01From _ _ _ _ (Rd.up hr B0) hb hl).mono ?_
  rintro e w1 ⟨g, rfl, hg0, hs1, hb1⟩
  have rb := rb.next hb1
  have B1 : Below w.heap.size w w1 := B0.trans (hb1.mono B0.size)
  have z1 := hb1.size
  clear hb1 B0 hr hb
  go_wp2_with fail
  refine (spec_l19Draw _ _ _ hs1).mono ?_
  rintro e w2 ⟨p, q, A1, c1, A2, d1, xs, ys, rfl, rx, ry, lx, ly, bx_, by_, hs2, hg2⟩
  have rb := rb.grown hg2 (by simp; omega)
  have B2 : Below w.heap.size w w2 := below_row B1 hg2 (by omega)
  have zg : w.heap.size < g := by omega
  have bxg : ∀ b o, A1 = some ⟨b, o, none⟩ → b ≠ g := fun b o h => by have := bx_ b o h; have := hs1.lt.2; omega
  have byg : ∀ b o, A2 = some ⟨b, o, none⟩ → b ≠ g := fun b o h => by have := by_ b o h; have := hs1.lt.2; omega
  have bx_ : ∀ b o, A1 = some ⟨b, o, none⟩ → w.heap.size < b := fun b o h => by have := bx_ b o h; omega
  have by_ : ∀ b o, A2 = some ⟨b, o, none⟩ → w.heap.size < b := fun b o h => by have := by_ b o h; omega
  have bxgH := Lib.hid bxg
  have bygH := Lib.hid byg
  have bxH := Lib.hid bx_
  have byH := Lib.hid by_
  clear hg2 hs1 B1 bxg byg bx_ by_
  have b0 := rb.cell (j := 0) rfl
  have b1 := rb.cell (j := 1) rfl
  have b2 := rb.cell (j := 2) rfl
  have b3 := rb.cell (j := 3) rfl
  have bf := rb.fz
  go_wp2_with fail
  all_goals ((try simp only [Exit.inBlock, Exit.then]); refine bodyPost_ret (by simp [results, Try.results8, go_sem, *]; try rfl) rfl ?_)
  all_goals exact ⟨_, _, _, _, _, _, xs, ys, rfl, i64_behind (X := w.heap.size) rx (fun b o h => by have := bxH.out b o h; omega) (grownBy_set (grownBy_set (grownBy_set (grownBy_set (World.grownBy.refl _ _) _ _) _ _) _ _) _ _), i64_behind (X := w.heap.size) ry (fun b o h => by have := byH.out b o h; omega) (grownBy_set (grownBy_set (grownBy_set (grownBy_set (World.grownBy.refl _ _) _ _) _ _) _ _) _ _), lx, ly, by exact bgr⟩
set_option maxRecDepth 100000 in
set_option maxHeartbeats 3200000 in
theorem spec_DrawShrinkMosaic (A : Option Addr) (c : Nat) (code : List Int) (w : World) (hr : U8 w w.heap.size A code) (hb : ∀ x ∈ code, 0 ≤ x ∧ x ≤ 255) (hl : code.length ≤ 4096) :
    Calls Try.prog 5 #[.slice A code.length c] w (DrawnShr w) := by
  go_enter Try.func5, Try.ntmps5
  go_wp2_with fail
  refine calls_gen (fun W0 hW0 => ?_)
  have rb : VBox W0 26 w.heap.size [.int .i64 0, .int .i64 0, .slice none 0 0, .slice none 0 0] := by rw [hW0]; exact VBox.new rfl
  have B0 : Below w.heap.size w W0 := by rw [hW0]; exact Below.new (Below.refl _ _) _
  clear hW0
  have z0 := rb.lt
  refine (spec_l01From _ _ _ _ (Rd.up hr B0) hb hl).mono ?_
  rintro e w1 ⟨g, rfl, hg0, hs1, hb1⟩
  have rb := rb.next hb1
  have B1 : Below w.heap.size w w1 := B0.trans (hb1.mono B0.size)
  have z1 := hb1.size
  clear hb1 B0 hr hb
  go_wp2_with fail
  refine (spec_l19Draw _ _ _ hs1).mono ?_
  rintro e w2 ⟨p, q, A1, c1, A2, d1, xs, ys, rfl, rx, ry, lx, ly, bx_, by_, hs2, hg2⟩
  have rb := rb.grown hg2 (by simp; omega)
  have B2 : Below w.heap.size w w2 := below_row B1 hg2 (by omega)
  have zg : w.heap.size < g := by omega
  have bxg : ∀ b o, A1 = some ⟨b, o, none⟩ → b ≠ g := fun b o h => by have := bx_ b o h; have := hs1.lt.2; omega
  have byg : ∀ b o, A2 = some ⟨b, o, none⟩ → b ≠ g := fun b o h => by have := by_ b o h; have := hs1.lt.2; omega
  have bx_ : ∀ b o, A1 = some ⟨b, o, none⟩ → w.heap.size < b := fun b o h => by have := bx_ b o h; omega
  have by_ : ∀ b o, A2 = some ⟨b, o, none⟩ → w.heap.size < b := fun b o h => by have := by_ b o h; omega
  have bxgH := Lib.hid bxg
  have bygH := Lib.hid byg
  have bxH := Lib.hid bx_
  have byH := Lib.hid by_
  clear hg2 hs1 B1 bxg byg bx_ by_
  go_wp2_with fail
  refine calls_gen (fun W3 hW3 => ?_)
  obtain ⟨X, hX⟩ : ∃ X, X = w2.heap.size := ⟨_, rfl⟩
  have mb : VBox W3 26 X [.int .i64 p, .int .i64 q, .slice A1 xs.length c1, .slice A2 ys.length d1] := by rw [hW3, hX]; exact VBox.new rfl
  have rb : VBox W3 26 w.heap.size [.int .i64 0, .int .i64 0, .slice none 0 0, .slice none 0 0] := by rw [hW3]; exact rb.alloc _
  have rx : I64 W3 W3.heap.size A1 xs := by rw [hW3]; exact Rd.up rx (Below.new (Below.refl _ _) _)
  have ry : I64 W3 W3.heap.size A2 ys := by rw [hW3]; exact Rd.up ry (Below.new (Below.refl _ _) _)
  have B3 : Below w.heap.size w W3 := by rw [hW3]; exact Below.new B2 _
  have hs3 : Src W3 W0.heap.size g := by rw [hW3]; exact hs2.alloc _
  have zX : g < X := by rw [hX]; exact hs2.lt.2
  rw [← hX]
  clear hW3 hX hs2 B2
  refine (spec_l01Next _ _ _ _ hs3 (by omega)).mono ?_
  rintro e w4 ⟨r4, rfl, ⟨hr4, ht4⟩, hs4, hg4⟩
  have mb := mb.src hg4 (by omega)
  have rb := rb.grown hg4 (by simp; omega)
  have rx := i64_behind (X := g) rx bxgH.out hg4
  have ry := i64_behind (X := g) ry bygH.out hg4
  have B4 : Below w.heap.size w w4 := below_row B3 hg4 (by omega)
  have z4 := mb.lt
  clear hg4 hs3 B3
  have m0 := mb.cell (j := 0) rfl
  have m1 := mb.cell (j := 1) rfl
  have m2 := mb.cell (j := 2) rfl
  have m3 := mb.cell (j := 3) rfl
  have mf := mb.fz
  by_cases q4 : r4 = 0
  · subst q4
    go_wp2_with fail
    (refine wp_region_noPanic ?_; refine wp_region_held_drew (S := (fun w' => w'.cell? ⟨X, 0, none⟩ = some (.int .i64 p) ∧ w'.cell? ⟨X, 1, none⟩ = some (.int .i64 q) ∧ w'.cell? ⟨X, 2, none⟩ = some (.slice A1 xs.length c1) ∧ w'.cell? ⟨X, 3, none⟩ = some (.slice A2 ys.length d1))) (by kernel_rfl) ?_ (fun hHeld => ?_); (focus ((try dsimp only); (refine ⟨?_, ?_, ?_, ?_⟩ <;> exact bxc))); (refine takeT (i := 0) (d := 13) rfl rfl (by kernel_rfl) (by kernel_rfl) (by kernel_rfl) (by rfl) (by assumption) (v := ?_) ?_ ?_; rotate_left; (focus (intro wq hSw; (try dsimp only at hSw); go_simp; (try (with_reducible rfl)); done)); (try simp only [Act.put, List.setIfInBounds_toArray, List.set_cons_zero, List.set_cons_succ])); (refine takeT (i := 1) (d := 14) rfl rfl (by kernel_rfl) (by kernel_rfl) (by kernel_rfl) (by rfl) (by assumption) (v := ?_) ?_ ?_; rotate_left; (focus (intro wq hSw; (try dsimp only at hSw); go_simp; (try (with_reducible rfl)); done)); (try simp only [Act.put, List.setIfInBounds_toArray, List.set_cons_zero, List.set_cons_succ])); (refine wpAnyH_ready (rs := [2]) (by kernel_rfl) (by simp) ?_; refine AllReadyH.cons rfl (fun K hK => ?_) AllReadyH.nil; go_simp; (first | (go_at_call 16; refine (pick3 W0.heap.size g w4.heap.size 0 40 41 ((w4.alloc (.cells #[.int .i64 0, .int .i64 40, .int .i64 41] 2)).drew) (Src.drewS (Src.alloc hs4 _)) (heap_alloc_new w4 _) (by omega)).mono ?_; rintro e w5 ⟨r5, rfl, hr5, hs5, hg5⟩; have mba := mb.alloc (.cells #[.int .i64 0, .int .i64 40, .int .i64 41] 2); have rba := rb.alloc (.cells #[.int .i64 0, .int .i64 40, .int .i64 41] 2); have rxa : I64 (w4.alloc (.cells #[.int .i64 0, .int .i64 40, .int .i64 41] 2)) (w4.alloc (.cells #[.int .i64 0, .int .i64 40, .int .i64 41] 2)).heap.size A1 xs := Rd.up rx (Below.new (Below.refl _ w4) (.cells #[.int .i64 0, .int .i64 40, .int .i64 41] 2)); have rya : I64 (w4.alloc (.cells #[.int .i64 0, .int .i64 40, .int .i64 41] 2)) (w4.alloc (.cells #[.int .i64 0, .int .i64 40, .int .i64 41] 2)).heap.size A2 ys := Rd.up ry (Below.new (Below.refl _ w4) (.cells #[.int .i64 0, .int .i64 40, .int .i64 41] 2)); have Ba := Below.new B4 (.cells #[.int .i64 0, .int .i64 40, .int .i64 41] 2); have mb5 := VBox.src (w := (w4.alloc (.cells #[.int .i64 0, .int .i64 40, .int .i64 41] 2)).drew) mba hg5 (by omega); have rb5 := VBox.grown (w := (w4.alloc (.cells #[.int .i64 0, .int .i64 40, .int .i64 41] 2)).drew) rba hg5 (by simp; omega); have rx5 := i64_behind (X := g) (w := (w4.alloc (.cells #[.int .i64 0, .int .i64 40, .int .i64 41] 2)).drew) rxa bxgH.out hg5; have ry5 := i64_behind (X := g) (w := (w4.alloc (.cells #[.int .i64 0, .int .i64 40, .int .i64 41] 2)).drew) rya bygH.out hg5; have B5 : Below w.heap.size w w5 := below_row (W := (w4.alloc (.cells #[.int .i64 0, .int .i64 40, .int .i64 41] 2)).drew) (below_drew Ba) hg5 (by omega); have k0 := mb5.cell (j := 0) rfl; have k1 := mb5.cell (j := 1) rfl; have k2 := mb5.cell (j := 2) rfl; have k3 := mb5.cell (j := 3) rfl; have kf := mb5.fz; have b0 := rb5.cell (j := 0) rfl; have b1 := rb5.cell (j := 1) rfl; have b2 := rb5.cell (j := 2) rfl; have b3 := rb5.cell (j := 3) rfl; have bf := rb5.fz) | skip); (try go_wp2_with fail); refine hK.out _ _ ?_ (fun hHeld => ?_); (focus ((try dsimp only); (refine ⟨?_, ?_, ?_, ?_⟩ <;> exact bxc))); clear hK K; (try simp only [Act.put, List.setIfInBounds_toArray, List.set_cons_zero, List.set_cons_succ])); (refine wpAnyH_ready (rs := [3]) (by kernel_rfl) (by simp) ?_; refine AllReadyH.cons rfl (fun K hK => ?_) AllReadyH.nil; go_simp; (first | (go_at_call 16; refine (pick3 W0.heap.size g w4.heap.size 0 40 41 ((w4.alloc (.cells #[.int .i64 0, .int .i64 40, .int .i64 41] 2)).drew) (Src.drewS (Src.alloc hs4 _)) (heap_alloc_new w4 _) (by omega)).mono ?_; rintro e w5 ⟨r5, rfl, hr5, hs5, hg5⟩; have mba := mb.alloc (.cells #[.int .i64 0, .int .i64 40, .int .i64 41] 2); have rba := rb.alloc (.cells #[.int .i64 0, .int .i64 40, .int .i64 41] 2); have rxa : I64 (w4.alloc (.cells #[.int .i64 0, .int .i64 40, .int .i64 41] 2)) (w4.alloc (.cells #[.int .i64 0, .int .i64 40, .int .i64 41] 2)).heap.size A1 xs := Rd.up rx (Below.new (Below.refl _ w4) (.cells #[.int .i64 0, .int .i64 40, .int .i64 41] 2)); have rya : I64 (w4.alloc (.cells #[.int .i64 0, .int .i64 40, .int .i64 41] 2)) (w4.alloc (.cells #[.int .i64 0, .int .i64 40, .int .i64 41] 2)).heap.size A2 ys := Rd.up ry (Below.new (Below.refl _ w4) (.cells #[.int .i64 0, .int .i64 40, .int .i64 41] 2)); have Ba := Below.new B4 (.cells #[.int .i64 0, .int .i64 40, .int .i64 41] 2); have mb5 := VBox.src (w := (w4.alloc (.cells #[.int .i64 0, .int .i64 40, .int .i64 41] 2)).drew) mba hg5 (by omega); have rb5 := VBox.grown (w := (w4.alloc (.cells #[.int .i64 0, .int .i64 40, .int .i64 41] 2)).drew) rba hg5 (by simp; omega); have rx5 := i64_behind (X := g) (w := (w4.alloc (.cells #[.int .i64 0, .int .i64 40, .int .i64 41] 2)).drew) rxa bxgH.out hg5; have ry5 := i64_behind (X := g) (w := (w4.alloc (.cells #[.int .i64 0, .int .i64 40, .int .i64 41] 2)).drew) rya bygH.out hg5; have B5 : Below w.heap.size w w5 := below_row (W := (w4.alloc (.cells #[.int .i64 0, .int .i64 40, .int .i64 41] 2)).drew) (below_drew Ba) hg5 (by omega); have k0 := mb5.cell (j := 0) rfl; have k1 := mb5.cell (j := 1) rfl; have k2 := mb5.cell (j := 2) rfl; have k3 := mb5.cell (j := 3) rfl; have kf := mb5.fz; have b0 := rb5.cell (j := 0) rfl; have b1 := rb5.cell (j := 1) rfl; have b2 := rb5.cell (j := 2) rfl; have b3 := rb5.cell (j := 3) rfl; have bf := rb5.fz) | skip); (try go_wp2_with fail); refine hK.out _ _ ?_ (fun hHeld => ?_); (focus ((try dsimp only); (refine ⟨?_, ?_, ?_, ?_⟩ <;> exact bxc))); clear hK K; (try simp only [Act.put, List.setIfInBounds_toArray, List.set_cons_zero, List.set_cons_succ])); (refine wpAnyH_ready (rs := [4]) (by kernel_rfl) (by simp) ?_; refine AllReadyH.cons rfl (fun K hK => ?_) AllReadyH.nil; go_simp; (first | (go_at_call 16; refine (pick3 W0.heap.size g w4.heap.size 0 40 41 ((w4.alloc (.cells #[.int .i64 0, .int .i64 40, .int .i64 41] 2)).drew) (Src.drewS (Src.alloc hs4 _)) (heap_alloc_new w4 _) (by omega)).mono ?_; rintro e w5 ⟨r5, rfl, hr5, hs5, hg5⟩; have mba := mb.alloc (.cells #[.int .i64 0, .int .i64 40, .int .i64 41] 2); have rba := rb.alloc (.cells #[.int .i64 0, .int .i64 40, .int .i64 41] 2); have rxa : I64 (w4.alloc (.cells #[.int .i64 0, .int .i64 40, .int .i64 41] 2)) (w4.alloc (.cells #[.int .i64 0, .int .i64 40, .int .i64 41] 2)).heap.size A1 xs := Rd.up rx (Below.new (Below.refl _ w4) (.cells #[.int .i64 0, .int .i64 40, .int .i64 41] 2)); have rya : I64 (w4.alloc (.cells #[.int .i64 0, .int .i64 40, .int .i64 41] 2)) (w4.alloc (.cells #[.int .i64 0, .int .i64 40, .int .i64 41] 2)).heap.size A2 ys := Rd.up ry (Below.new (Below.refl _ w4) (.cells #[.int .i64 0, .int .i64 40, .int .i64 41] 2)); have Ba := Below.new B4 (.cells #[.int .i64 0, .int .i64 40, .int .i64 41] 2); have mb5 := VBox.src (w := (w4.alloc (.cells #[.int .i64 0, .int .i64 40, .int .i64 41] 2)).drew) mba hg5 (by omega); have rb5 := VBox.grown (w := (w4.alloc (.cells #[.int .i64 0, .int .i64 40, .int .i64 41] 2)).drew) rba hg5 (by simp; omega); have rx5 := i64_behind (X := g) (w := (w4.alloc (.cells #[.int .i64 0, .int .i64 40, .int .i64 41] 2)).drew) rxa bxgH.out hg5; have ry5 := i64_behind (X := g) (w := (w4.alloc (.cells #[.int .i64 0, .int .i64 40, .int .i64 41] 2)).drew) rya bygH.out hg5; have B5 : Below w.heap.size w w5 := below_row (W := (w4.alloc (.cells #[.int .i64 0, .int .i64 40, .int .i64 41] 2)).drew) (below_drew Ba) hg5 (by omega); have k0 := mb5.cell (j := 0) rfl; have k1 := mb5.cell (j := 1) rfl; have k2 := mb5.cell (j := 2) rfl; have k3 := mb5.cell (j := 3) rfl; have kf := mb5.fz; have b0 := rb5.cell (j := 0) rfl; have b1 := rb5.cell (j := 1) rfl; have b2 := rb5.cell (j := 2) rfl; have b3 := rb5.cell (j := 3) rfl; have bf := rb5.fz) | skip); (try go_wp2_with fail); refine hK.out _ _ ?_ (fun hHeld => ?_); (focus ((try dsimp only); (refine ⟨?_, ?_, ?_, ?_⟩ <;> exact bxc))); clear hK K; (try simp only [Act.put, List.setIfInBounds_toArray, List.set_cons_zero, List.set_cons_succ])); (refine takeT (i := 5) (d := 3) rfl rfl (by kernel_rfl) (by kernel_rfl) (by kernel_rfl) (by rfl) (by assumption) (v := ?_) ?_ ?_; rotate_left; (focus (intro wq hSw; (try dsimp only at hSw); go_simp; (try (with_reducible rfl)); done)); (try simp only [Act.put, List.setIfInBounds_toArray, List.set_cons_zero, List.set_cons_succ])); refine wpAnyH_done (by kernel_rfl) ?_ _; refine NoPanic.normal ?_)
    go_wp2_with fail
    all_goals ((try simp only [Exit.inBlock, Exit.then]); refine bodyPost_ret (by simp [results, Try.results5, go_sem, *]; try rfl) rfl ?_)
    all_goals exact ⟨_, _, _, _, _, _, xs, ys, _, rfl, i64_behind (X := w.heap.size) rx5 (fun b o h => by have := bxH.out b o h; omega) (grownBy_set (grownBy_set (grownBy_set (grownBy_set (World.grownBy.refl _ _) _ _) _ _) _ _) _ _), i64_behind (X := w.heap.size) ry5 (fun b o h => by have := byH.out b o h; omega) (grownBy_set (grownBy_set (grownBy_set (grownBy_set (World.grownBy.refl _ _) _ _) _ _) _ _) _ _), lx, ly, by exact bgr⟩
  · have e4 : (r4 == 0) = false := by simpa using q4
    go_wp2_with fail
    (refine wp_region_noPanic ?_; refine wp_region_held_drew (S := (fun w' => w'.cell? ⟨X, 0, none⟩ = some (.int .i64 p) ∧ w'.cell? ⟨X, 1, none⟩ = some (.int .i64 q) ∧ w'.cell? ⟨X, 2, none⟩ = some (.slice A1 xs.length c1) ∧ w'.cell? ⟨X, 3, none⟩ = some (.slice A2 ys.length d1))) (by kernel_rfl) ?_ (fun hHeld => ?_); (focus ((try dsimp only); (refine ⟨?_, ?_, ?_, ?_⟩ <;> exact bxc))); (refine takeT (i := 0) (d := 17) rfl rfl (by kernel_rfl) (by kernel_rfl) (by kernel_rfl) (by rfl) (by assumption) (v := ?_) ?_ ?_; rotate_left; (focus (intro wq hSw; (try dsimp only at hSw); go_simp; (try (with_reducible rfl)); done)); (try simp only [Act.put, List.setIfInBounds_toArray, List.set_cons_zero, List.set_cons_succ])); (refine takeT (i := 1) (d := 18) rfl rfl (by kernel_rfl) (by kernel_rfl) (by kernel_rfl) (by rfl) (by assumption) (v := ?_) ?_ ?_; rotate_left; (focus (intro wq hSw; (try dsimp only at hSw); go_simp; (try (with_reducible rfl)); done)); (try simp only [Act.put, List.setIfInBounds_toArray, List.set_cons_zero, List.set_cons_succ])); (refine wpAnyH_ready (rs := [2]) (by kernel_rfl) (by simp) ?_; refine AllReadyH.cons rfl (fun K hK => ?_) AllReadyH.nil; go_simp; (first | (go_at_call 15; refine (spec_l01Next _ _ _ _ (Src.drewS hs4) (by omega)).mono ?_; rintro e w5 ⟨r5, rfl, ⟨hr5, ht5⟩, hs5, hg5⟩; have mb5 := VBox.src (w := w4.drew) mb hg5 (by omega); have rb5 := VBox.grown (w := w4.drew) rb hg5 (by simp; omega); have rx5 := i64_behind (X := g) (w := w4.drew) rx bxgH.out hg5; have ry5 := i64_behind (X := g) (w := w4.drew) ry bygH.out hg5; have B5 : Below w.heap.size w w5 := below_row (W := w4.drew) (below_drew B4) hg5 (by omega); have k0 := mb5.cell (j := 0) rfl; have k1 := mb5.cell (j := 1) rfl; have k2 := mb5.cell (j := 2) rfl; have k3 := mb5.cell (j := 3) rfl; have kf := mb5.fz; have b0 := rb5.cell (j := 0) rfl; have b1 := rb5.cell (j := 1) rfl; have b2 := rb5.cell (j := 2) rfl; have b3 := rb5.cell (j := 3) rfl; have bf := rb5.fz) | skip); (try go_wp2_with fail); refine hK.out _ _ ?_ (fun hHeld => ?_); (focus ((try dsimp only); (refine ⟨?_, ?_, ?_, ?_⟩ <;> exact bxc))); clear hK K; (try simp only [Act.put, List.setIfInBounds_toArray, List.set_cons_zero, List.set_cons_succ])); (refine takeT (i := 3) (d := 20) rfl rfl (by kernel_rfl) (by kernel_rfl) (by kernel_rfl) (by rfl) (by assumption) (v := ?_) ?_ ?_; rotate_left; (focus (intro wq hSw; (try dsimp only at hSw); go_simp; (try (with_reducible rfl)); done)); (try simp only [Act.put, List.setIfInBounds_toArray, List.set_cons_zero, List.set_cons_succ])); (refine wpAnyH_ready (rs := [4]) (by kernel_rfl) (by simp) ?_; refine AllReadyH.cons rfl (fun K hK => ?_) AllReadyH.nil; go_simp; (first | (go_at_call 15; refine (spec_l01Next _ _ _ _ (Src.drewS hs4) (by omega)).mono ?_; rintro e w5 ⟨r5, rfl, ⟨hr5, ht5⟩, hs5, hg5⟩; have mb5 := VBox.src (w := w4.drew) mb hg5 (by omega); have rb5 := VBox.grown (w := w4.drew) rb hg5 (by simp; omega); have rx5 := i64_behind (X := g) (w := w4.drew) rx bxgH.out hg5; have ry5 := i64_behind (X := g) (w := w4.drew) ry bygH.out hg5; have B5 : Below w.heap.size w w5 := below_row (W := w4.drew) (below_drew B4) hg5 (by omega); have k0 := mb5.cell (j := 0) rfl; have k1 := mb5.cell (j := 1) rfl; have k2 := mb5.cell (j := 2) rfl; have k3 := mb5.cell (j := 3) rfl; have kf := mb5.fz; have b0 := rb5.cell (j := 0) rfl; have b1 := rb5.cell (j := 1) rfl; have b2 := rb5.cell (j := 2) rfl; have b3 := rb5.cell (j := 3) rfl; have bf := rb5.fz) | skip); (try go_wp2_with fail); refine hK.out _ _ ?_ (fun hHeld => ?_); (focus ((try dsimp only); (refine ⟨?_, ?_, ?_, ?_⟩ <;> exact bxc))); clear hK K; (try simp only [Act.put, List.setIfInBounds_toArray, List.set_cons_zero, List.set_cons_succ])); (refine takeT (i := 5) (d := 3) rfl rfl (by kernel_rfl) (by kernel_rfl) (by kernel_rfl) (by rfl) (by assumption) (v := ?_) ?_ ?_; rotate_left; (focus (intro wq hSw; (try dsimp only at hSw); go_simp; (try (with_reducible rfl)); done)); (try simp only [Act.put, List.setIfInBounds_toArray, List.set_cons_zero, List.set_cons_succ])); refine wpAnyH_done (by kernel_rfl) ?_ _; refine NoPanic.normal ?_)
    go_wp2_with fail
    all_goals ((try simp only [Exit.inBlock, Exit.then]); refine bodyPost_ret (by simp [results, Try.results5, go_sem, *]; try rfl) rfl ?_)
    all_goals exact ⟨_, _, _, _, _, _, xs, ys, _, rfl, i64_behind (X := w.heap.size) rx5 (fun b o h => by have := bxH.out b o h; omega) (grownBy_set (grownBy_set (grownBy_set (grownBy_set (World.grownBy.refl _ _) _ _) _ _) _ _) _ _), i64_behind (X := w.heap.size) ry5 (fun b o h => by have := byH.out b o h; omega) (grownBy_set (grownBy_set (grownBy_set (grownBy_set (World.grownBy.refl _ _) _ _) _ _) _ _) _ _), lx, ly, by exact bgr⟩
end Go.Proofs.Ytdedmiennpbfcaa
