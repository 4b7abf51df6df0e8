/- Several texts in one: TtB, PtA. No condition of its own. Printed by mergeclaim.py. -/
import Derived.Test.YthbljfanoaibkaaGreatDoorTtA
import Derived.Test.YthbljfanoaibkaaGreatDoorVBox
import Derived.Test.YthbljfanoaibkaaGreatDoorMPic
namespace Go.Proofs.YthbljfanoaibkaaGreatDoor
open Go.RowKit Go.ChangeShapes Go.WideShapes Go.ChangeAt
set_option linter.unusedVariables false
set_option linter.unusedSimpArgs false
/-- the text and the code that TrailText hands back -/
def ttT (x y p q s t h m : Int) : List UInt8 := if trB x y p q s t h m then ttx x y p q s t h m else []
def ttC (x y p q s t h m : Int) : Int := if trB x y p q s t h m then 0 else 1
theorem ttx_nf {x y p q s t h m : Int} : ttx x y p q s t h m = nmT t ++ 32 :: jnk [x, y, p, q, s, h, m] 7 := by simp [ttx]
theorem spec_l16Name (t : Int) (w : World) (ht : t = 0 ∨ t = 1 ∨ t = 2) : Calls Tryz.prog 36 #[.int .i64 t] w fun e w' => e = .returned (.string (mkT (nmT t))) ∧ Below w.heap.size w w' := by
  rcases ht with rfl | rfl | rfl
  · go_enter Tryz.func36, Tryz.ntmps36
    go_wp2_with fail
    go_ret
    exact ⟨rfl, by exact bgr⟩
  · go_enter Tryz.func36, Tryz.ntmps36
    go_wp2_with fail
    go_ret
    exact ⟨rfl, by exact bgr⟩
  · go_enter Tryz.func36, Tryz.ntmps36
    go_wp2_with fail
    go_ret
    exact ⟨rfl, by exact bgr⟩
set_option maxRecDepth 100000 in
set_option maxHeartbeats 3200000 in
theorem spec_TrailText (x y p q s t h m : Int) (w : World) : Calls Tryz.prog 15 #[.agg #[.int .i64 x, .int .i64 y, .int .i64 p, .int .i64 q, .int .i64 s, .int .i64 t, .int .i64 h, .int .i64 m]] w fun e w' => e = .returned (.tuple #[.string (mkT (ttT x y p q s t h m)), .int .i64 (ttC x y p q s t h m)]) ∧ Below w.heap.size w w' := by
  cases hb : trB x y p q s t h m
  · have e1 : ttT x y p q s t h m = [] := by unfold ttT; rw [hb]; rfl
    have e2 : ttC x y p q s t h m = 1 := by unfold ttC; rw [hb]; rfl
    rw [e1, e2]
    clear e1 e2
    have hI := fun w => spec_IsTrail x y p q s t h m w
    rw [hb] at hI
    have hIH := Lib.hid hI
    clear hI hb
    go_enter Tryz.func15, Tryz.ntmps15
    go_wp2_with fail
    refine (hIH.out _).mono ?_
    rintro e w1 ⟨rfl, hb1⟩
    go_wp2_with fail
    go_returns
    exact ⟨rfl, by exact bgr⟩
  · obtain ⟨h1, h2, h3, h4, h5, h6, h7⟩ := tr_facts hb
    have e1 : ttT x y p q s t h m = ttx x y p q s t h m := by unfold ttT; rw [hb]; rfl
    have e2 : ttC x y p q s t h m = 0 := by unfold ttC; rw [hb]; rfl
    rw [e1, e2, ttx_nf]
    clear e1 e2
    have hI := fun w => spec_IsTrail x y p q s t h m w
    rw [hb] at hI
    have hIH := Lib.hid hI
    have hj : ∀ (W : World) (g : Nat), W.heap[g]? = some (.cells #[.int .i64 x, .int .i64 y, .int .i64 p, .int .i64 q, .int .i64 s, .int .i64 h, .int .i64 m] 2 (0, 0)) → Calls Tryz.prog 37 #[.slice (some ⟨g, 0, none⟩) 7 7, .string ⟨#[44]⟩] W fun e w' => e = .returned (.string (mkT (jnk [x, y, p, q, s, h, m] 7))) ∧ Below W.heap.size W w' := fun W g hg =>
      spec_l01Join (some ⟨g, 0, none⟩) 7 [x, y, p, q, s, h, m] W (seven_I64 hg) (by simp) (fun z hz => by simp at hz; omega)
    have hjH := Lib.hid hj
    have ht3 : t = 0 ∨ t = 1 ∨ t = 2 := by omega
    have hn := fun w => spec_l16Name t w ht3
    have hnH := Lib.hid hn
    have hjl := jnk_len (xs := [x, y, p, q, s, h, m]) (fun z hz => by simp at hz; omega) 7 (by simp)
    have hnl : (nmT t).length ≤ 9 := by rcases ht3 with rfl | rfl | rfl <;> simp [nmT]
    have a0 : ∀ w, (Op.stringOp .add (mkT (nmT t)) ⟨#[32]⟩).run Tryz.prog w = .ok (.string (mkT (nmT t ++ [32]))) w := add_T (P := Tryz.prog) (nmT t) [32] (by omega) (by simp)
    have b0 := add_T (P := Tryz.prog) (nmT t ++ [32]) (jnk [x, y, p, q, s, h, m] 7) (by simp; omega) (by omega)
    have l1 : (jnk [x, y, p, q, s, h, m] 7).length ≤ 154 := by omega
    clear hj hI hn hb hjl h1 h2 h3 h4 h5 h6 h7 ht3
    go_enter Tryz.func15, Tryz.ntmps15
    go_wp2_with fail
    refine (hIH.out _).mono ?_
    rintro e w1 ⟨rfl, hb1⟩
    have z1 := hb1.size
    have hs1 : w.heap.size < w1.heap.size := by (try simp at z1); omega
    have c0 := bx_keep hb1 (X := w.heap.size) (o := 0) (by exact bxc)
    have c1 := bx_keep hb1 (X := w.heap.size) (o := 1) (by exact bxc)
    have c2 := bx_keep hb1 (X := w.heap.size) (o := 2) (by exact bxc)
    have c3 := bx_keep hb1 (X := w.heap.size) (o := 3) (by exact bxc)
    have c4 := bx_keep hb1 (X := w.heap.size) (o := 4) (by exact bxc)
    have c5 := bx_keep hb1 (X := w.heap.size) (o := 5) (by exact bxc)
    have c6 := bx_keep hb1 (X := w.heap.size) (o := 6) (by exact bxc)
    have c7 := bx_keep hb1 (X := w.heap.size) (o := 7) (by exact bxc)
    simp only [List.getElem_toArray, List.getElem_cons_succ, List.getElem_cons_zero] at c0 c1 c2 c3 c4 c5 c6 c7
    go_wp2_with fail
    (refine wp_region_noPanic ?_; refine wp_region_held_drew (S := (fun w' => w'.cell? ⟨w.heap.size, 0, none⟩ = some (.int .i64 x) ∧ w'.cell? ⟨w.heap.size, 1, none⟩ = some (.int .i64 y) ∧ w'.cell? ⟨w.heap.size, 2, none⟩ = some (.int .i64 p) ∧ w'.cell? ⟨w.heap.size, 3, none⟩ = some (.int .i64 q) ∧ w'.cell? ⟨w.heap.size, 4, none⟩ = some (.int .i64 s) ∧ w'.cell? ⟨w.heap.size, 5, none⟩ = some (.int .i64 t) ∧ w'.cell? ⟨w.heap.size, 6, none⟩ = some (.int .i64 h) ∧ w'.cell? ⟨w.heap.size, 7, none⟩ = some (.int .i64 m) ∧ w'.cell? ⟨w1.heap.size, 0, none⟩ = some (.int .i64 x) ∧ w'.cell? ⟨w1.heap.size, 1, none⟩ = some (.int .i64 y) ∧ w'.cell? ⟨w1.heap.size, 2, none⟩ = some (.int .i64 p) ∧ w'.cell? ⟨w1.heap.size, 3, none⟩ = some (.int .i64 q) ∧ w'.cell? ⟨w1.heap.size, 4, none⟩ = some (.int .i64 s))) (by kernel_rfl) ?_ (fun hHeld => ?_); (focus ((try dsimp only); (refine ⟨?_, ?_, ?_, ?_, ?_, ?_, ?_, ?_, ?_, ?_, ?_, ?_, ?_⟩ <;> exact bxc))); (refine takeT (i := 0) (d := 10) rfl rfl (by kernel_rfl) (by kernel_rfl) (by kernel_rfl) (by rfl) (by assumption) (v := ?_) ?_ ?_; rotate_left; (focus (intro wq hSw; (try dsimp only at hSw); go_simp; (try (with_reducible rfl)); done)); (try simp only [Act.put, List.setIfInBounds_toArray, List.set_cons_zero, List.set_cons_succ])); (refine takeT (i := 1) (d := 11) rfl rfl (by kernel_rfl) (by kernel_rfl) (by kernel_rfl) (by rfl) (by assumption) (v := ?_) ?_ ?_; rotate_left; (focus (intro wq hSw; (try dsimp only at hSw); go_simp; (try (with_reducible rfl)); done)); (try simp only [Act.put, List.setIfInBounds_toArray, List.set_cons_zero, List.set_cons_succ])); (refine takeT (i := 4) (d := 14) rfl rfl (by kernel_rfl) (by kernel_rfl) (by kernel_rfl) (by rfl) (by assumption) (v := ?_) ?_ ?_; rotate_left; (focus (intro wq hSw; (try dsimp only at hSw); go_simp; (try (with_reducible rfl)); done)); (try simp only [Act.put, List.setIfInBounds_toArray, List.set_cons_zero, List.set_cons_succ])); (refine takeT (i := 5) (d := 15) rfl rfl (by kernel_rfl) (by kernel_rfl) (by kernel_rfl) (by rfl) (by assumption) (v := ?_) ?_ ?_; rotate_left; (focus (intro wq hSw; (try dsimp only at hSw); go_simp; (try (with_reducible rfl)); done)); (try simp only [Act.put, List.setIfInBounds_toArray, List.set_cons_zero, List.set_cons_succ])); (refine takeT (i := 6) (d := 16) rfl rfl (by kernel_rfl) (by kernel_rfl) (by kernel_rfl) (by rfl) (by assumption) (v := ?_) ?_ ?_; rotate_left; (focus (intro wq hSw; (try dsimp only at hSw); go_simp; (try (with_reducible rfl)); done)); (try simp only [Act.put, List.setIfInBounds_toArray, List.set_cons_zero, List.set_cons_succ])); (refine takeT (i := 7) (d := 17) rfl rfl (by kernel_rfl) (by kernel_rfl) (by kernel_rfl) (by rfl) (by assumption) (v := ?_) ?_ ?_; rotate_left; (focus (intro wq hSw; (try dsimp only at hSw); go_simp; (try (with_reducible rfl)); done)); (try simp only [Act.put, List.setIfInBounds_toArray, List.set_cons_zero, List.set_cons_succ])); (refine takeT (i := 8) (d := 18) rfl rfl (by kernel_rfl) (by kernel_rfl) (by kernel_rfl) (by rfl) (by assumption) (v := ?_) ?_ ?_; rotate_left; (focus (intro wq hSw; (try dsimp only at hSw); go_simp; (try (with_reducible rfl)); done)); (try simp only [Act.put, List.setIfInBounds_toArray, List.set_cons_zero, List.set_cons_succ])); (refine takeT (i := 9) (d := 19) rfl rfl (by kernel_rfl) (by kernel_rfl) (by kernel_rfl) (by rfl) (by assumption) (v := ?_) ?_ ?_; rotate_left; (focus (intro wq hSw; (try dsimp only at hSw); go_simp; (try (with_reducible rfl)); done)); (try simp only [Act.put, List.setIfInBounds_toArray, List.set_cons_zero, List.set_cons_succ])); (refine takeT (i := 10) (d := 20) rfl rfl (by kernel_rfl) (by kernel_rfl) (by kernel_rfl) (by rfl) (by assumption) (v := ?_) ?_ ?_; rotate_left; (focus (intro wq hSw; (try dsimp only at hSw); go_simp; (try (with_reducible rfl)); done)); (try simp only [Act.put, List.setIfInBounds_toArray, List.set_cons_zero, List.set_cons_succ])); (refine takeT (i := 11) (d := 21) rfl rfl (by kernel_rfl) (by kernel_rfl) (by kernel_rfl) (by rfl) (by assumption) (v := ?_) ?_ ?_; rotate_left; (focus (intro wq hSw; (try dsimp only at hSw); go_simp; (try (with_reducible rfl)); done)); (try simp only [Act.put, List.setIfInBounds_toArray, List.set_cons_zero, List.set_cons_succ])); (refine takeT (i := 12) (d := 22) rfl rfl (by kernel_rfl) (by kernel_rfl) (by kernel_rfl) (by rfl) (by assumption) (v := ?_) ?_ ?_; rotate_left; (focus (intro wq hSw; (try dsimp only at hSw); go_simp; (try (with_reducible rfl)); done)); (try simp only [Act.put, List.setIfInBounds_toArray, List.set_cons_zero, List.set_cons_succ])); (refine takeT (i := 13) (d := 23) rfl rfl (by kernel_rfl) (by kernel_rfl) (by kernel_rfl) (by rfl) (by assumption) (v := ?_) ?_ ?_; rotate_left; (focus (intro wq hSw; (try dsimp only at hSw); go_simp; (try (with_reducible rfl)); done)); (try simp only [Act.put, List.setIfInBounds_toArray, List.set_cons_zero, List.set_cons_succ])); (refine takeT (i := 14) (d := 24) rfl rfl (by kernel_rfl) (by kernel_rfl) (by kernel_rfl) (by rfl) (by assumption) (v := ?_) ?_ ?_; rotate_left; (focus (intro wq hSw; (try dsimp only at hSw); go_simp; (try (with_reducible rfl)); done)); (try simp only [Act.put, List.setIfInBounds_toArray, List.set_cons_zero, List.set_cons_succ])); (refine takeT (i := 15) (d := 25) rfl rfl (by kernel_rfl) (by kernel_rfl) (by kernel_rfl) (by rfl) (by assumption) (v := ?_) ?_ ?_; rotate_left; (focus (intro wq hSw; (try dsimp only at hSw); go_simp; (try (with_reducible rfl)); done)); (try simp only [Act.put, List.setIfInBounds_toArray, List.set_cons_zero, List.set_cons_succ])); (refine takeT (i := 16) (d := 26) rfl rfl (by kernel_rfl) (by kernel_rfl) (by kernel_rfl) (by rfl) (by assumption) (v := ?_) ?_ ?_; rotate_left; (focus (intro wq hSw; (try dsimp only at hSw); go_simp; (try (with_reducible rfl)); done)); (try simp only [Act.put, List.setIfInBounds_toArray, List.set_cons_zero, List.set_cons_succ])); (refine takeT (i := 17) (d := 27) rfl rfl (by kernel_rfl) (by kernel_rfl) (by kernel_rfl) (by rfl) (by assumption) (v := ?_) ?_ ?_; rotate_left; (focus (intro wq hSw; (try dsimp only at hSw); go_simp; (try (with_reducible rfl)); done)); (try simp only [Act.put, List.setIfInBounds_toArray, List.set_cons_zero, List.set_cons_succ])); (refine wpAnyH_ready (rs := [2, 18]) (by kernel_rfl) (by simp) ?_; refine (AllReadyH.cons rfl (fun K hK => ?_) (AllReadyH.cons rfl (fun K hK => ?_) AllReadyH.nil))); (focus (go_simp; (first | (go_at_call 37; refine (hjH.out _ _ (by first | exact heap_far hb5 (heap_drew (heap_at (by simp))) | exact heap_far hb5 (heap_at (by simp)) | exact bho)).mono ?_; rintro e w4 ⟨rfl, hb4⟩) | (go_at_call 36; refine (hnH.out _).mono ?_; rintro e w5 ⟨rfl, hb5⟩) | skip); (try go_wp2_with fail); refine hK.out _ _ ?_ (fun hHeld => ?_); (focus ((try dsimp only); (refine ⟨?_, ?_, ?_, ?_, ?_, ?_, ?_, ?_, ?_, ?_, ?_, ?_, ?_⟩ <;> exact bxc))); clear hK K; (try simp only [Act.put, List.setIfInBounds_toArray, List.set_cons_zero, List.set_cons_succ]); (refine takeT (i := 3) (d := 13) rfl rfl (by kernel_rfl) (by kernel_rfl) (by kernel_rfl) (by rfl) (by assumption) (v := ?_) ?_ ?_; rotate_left; (focus (intro wq hSw; (try dsimp only at hSw); go_simp; (try (with_reducible rfl)); done)); (try simp only [Act.put, List.setIfInBounds_toArray, List.set_cons_zero, List.set_cons_succ])); (refine wpAnyH_ready (rs := [18]) (by kernel_rfl) (by simp) ?_; refine AllReadyH.cons rfl (fun K hK => ?_) AllReadyH.nil; go_simp; (first | (go_at_call 37; refine (hjH.out _ _ (by first | exact heap_far hb5 (heap_drew (heap_at (by simp))) | exact heap_far hb5 (heap_at (by simp)) | exact bho)).mono ?_; rintro e w4 ⟨rfl, hb4⟩) | (go_at_call 36; refine (hnH.out _).mono ?_; rintro e w5 ⟨rfl, hb5⟩) | skip); (try go_wp2_with fail); refine hK.out _ _ ?_ (fun hHeld => ?_); (focus ((try dsimp only); (refine ⟨?_, ?_, ?_, ?_, ?_, ?_, ?_, ?_, ?_, ?_, ?_, ?_, ?_⟩ <;> exact bxc))); clear hK K; (try simp only [Act.put, List.setIfInBounds_toArray, List.set_cons_zero, List.set_cons_succ])); (refine wpAnyH_ready (rs := [19]) (by kernel_rfl) (by simp) ?_; refine AllReadyH.cons rfl (fun K hK => ?_) AllReadyH.nil; go_simp; (first | (go_at_call 37; refine (hjH.out _ _ (by first | exact heap_far hb5 (heap_drew (heap_at (by simp))) | exact heap_far hb5 (heap_at (by simp)) | exact bho)).mono ?_; rintro e w4 ⟨rfl, hb4⟩) | (go_at_call 36; refine (hnH.out _).mono ?_; rintro e w5 ⟨rfl, hb5⟩) | skip); (try go_wp2_with fail); refine hK.out _ _ ?_ (fun hHeld => ?_); (focus ((try dsimp only); (refine ⟨?_, ?_, ?_, ?_, ?_, ?_, ?_, ?_, ?_, ?_, ?_, ?_, ?_⟩ <;> exact bxc))); clear hK K; (try simp only [Act.put, List.setIfInBounds_toArray, List.set_cons_zero, List.set_cons_succ])); (refine takeT (i := 20) (d := 30) rfl rfl (by kernel_rfl) (by kernel_rfl) (by kernel_rfl) (by rfl) (by assumption) (v := ?_) ?_ ?_; rotate_left; (focus (intro wq hSw; (try dsimp only at hSw); go_simp; (try (with_reducible rfl)); done)); (try simp only [Act.put, List.setIfInBounds_toArray, List.set_cons_zero, List.set_cons_succ])); (refine takeT (i := 21) (d := 2) rfl rfl (by kernel_rfl) (by kernel_rfl) (by kernel_rfl) (by rfl) (by assumption) (v := ?_) ?_ ?_; rotate_left; (focus (intro wq hSw; (try dsimp only at hSw); go_simp; (try (with_reducible rfl)); done)); (try simp only [Act.put, List.setIfInBounds_toArray, List.set_cons_zero, List.set_cons_succ])); (refine takeT (i := 22) (d := 3) rfl rfl (by kernel_rfl) (by kernel_rfl) (by kernel_rfl) (by rfl) (by assumption) (v := ?_) ?_ ?_; rotate_left; (focus (intro wq hSw; (try dsimp only at hSw); go_simp; (try (with_reducible rfl)); done)); (try simp only [Act.put, List.setIfInBounds_toArray, List.set_cons_zero, List.set_cons_succ])); refine wpAnyH_done (by kernel_rfl) ?_ _; refine NoPanic.normal ?_; ((go_wp2_with fail; go_returns; exact ⟨rfl, by exact bgr⟩)))); (focus (go_simp; (first | (go_at_call 37; refine (hjH.out _ _ (by first | exact heap_far hb5 (heap_drew (heap_at (by simp))) | exact heap_far hb5 (heap_at (by simp)) | exact bho)).mono ?_; rintro e w4 ⟨rfl, hb4⟩) | (go_at_call 36; refine (hnH.out _).mono ?_; rintro e w5 ⟨rfl, hb5⟩) | skip); (try go_wp2_with fail); refine hK.out _ _ ?_ (fun hHeld => ?_); (focus ((try dsimp only); (refine ⟨?_, ?_, ?_, ?_, ?_, ?_, ?_, ?_, ?_, ?_, ?_, ?_, ?_⟩ <;> exact bxc))); clear hK K; (try simp only [Act.put, List.setIfInBounds_toArray, List.set_cons_zero, List.set_cons_succ]); (refine wpAnyH_ready (rs := [2]) (by kernel_rfl) (by simp) ?_; refine AllReadyH.cons rfl (fun K hK => ?_) AllReadyH.nil; go_simp; (first | (go_at_call 37; refine (hjH.out _ _ (by first | exact heap_far hb5 (heap_drew (heap_at (by simp))) | exact heap_far hb5 (heap_at (by simp)) | exact bho)).mono ?_; rintro e w4 ⟨rfl, hb4⟩) | (go_at_call 36; refine (hnH.out _).mono ?_; rintro e w5 ⟨rfl, hb5⟩) | skip); (try go_wp2_with fail); refine hK.out _ _ ?_ (fun hHeld => ?_); (focus ((try dsimp only); (refine ⟨?_, ?_, ?_, ?_, ?_, ?_, ?_, ?_, ?_, ?_, ?_, ?_, ?_⟩ <;> exact bxc))); clear hK K; (try simp only [Act.put, List.setIfInBounds_toArray, List.set_cons_zero, List.set_cons_succ])); (refine takeT (i := 3) (d := 13) rfl rfl (by kernel_rfl) (by kernel_rfl) (by kernel_rfl) (by rfl) (by assumption) (v := ?_) ?_ ?_; rotate_left; (focus (intro wq hSw; (try dsimp only at hSw); go_simp; (try (with_reducible rfl)); done)); (try simp only [Act.put, List.setIfInBounds_toArray, List.set_cons_zero, List.set_cons_succ])); (refine wpAnyH_ready (rs := [19]) (by kernel_rfl) (by simp) ?_; refine AllReadyH.cons rfl (fun K hK => ?_) AllReadyH.nil; go_simp; (first | (go_at_call 37; refine (hjH.out _ _ (by first | exact heap_far hb5 (heap_drew (heap_at (by simp))) | exact heap_far hb5 (heap_at (by simp)) | exact bho)).mono ?_; rintro e w4 ⟨rfl, hb4⟩) | (go_at_call 36; refine (hnH.out _).mono ?_; rintro e w5 ⟨rfl, hb5⟩) | skip); (try go_wp2_with fail); refine hK.out _ _ ?_ (fun hHeld => ?_); (focus ((try dsimp only); (refine ⟨?_, ?_, ?_, ?_, ?_, ?_, ?_, ?_, ?_, ?_, ?_, ?_, ?_⟩ <;> exact bxc))); clear hK K; (try simp only [Act.put, List.setIfInBounds_toArray, List.set_cons_zero, List.set_cons_succ])); (refine takeT (i := 20) (d := 30) rfl rfl (by kernel_rfl) (by kernel_rfl) (by kernel_rfl) (by rfl) (by assumption) (v := ?_) ?_ ?_; rotate_left; (focus (intro wq hSw; (try dsimp only at hSw); go_simp; (try (with_reducible rfl)); done)); (try simp only [Act.put, List.setIfInBounds_toArray, List.set_cons_zero, List.set_cons_succ])); (refine takeT (i := 21) (d := 2) rfl rfl (by kernel_rfl) (by kernel_rfl) (by kernel_rfl) (by rfl) (by assumption) (v := ?_) ?_ ?_; rotate_left; (focus (intro wq hSw; (try dsimp only at hSw); go_simp; (try (with_reducible rfl)); done)); (try simp only [Act.put, List.setIfInBounds_toArray, List.set_cons_zero, List.set_cons_succ])); (refine takeT (i := 22) (d := 3) rfl rfl (by kernel_rfl) (by kernel_rfl) (by kernel_rfl) (by rfl) (by assumption) (v := ?_) ?_ ?_; rotate_left; (focus (intro wq hSw; (try dsimp only at hSw); go_simp; (try (with_reducible rfl)); done)); (try simp only [Act.put, List.setIfInBounds_toArray, List.set_cons_zero, List.set_cons_succ])); refine wpAnyH_done (by kernel_rfl) ?_ _; refine NoPanic.normal ?_; ((go_wp2_with fail; go_returns; exact ⟨rfl, by exact bgr⟩)))))
set_option maxRecDepth 100000 in
theorem impl_TrailText (x y p q s t h m : Int) (w : World) (ht : Pow w) : Calls Tryz.prog 14 #[.agg #[.int .i64 x, .int .i64 y, .int .i64 p, .int .i64 q, .int .i64 s, .int .i64 t, .int .i64 h, .int .i64 m]] w fun e w' => e = .returned (.tuple #[.string (mkT (ttT x y p q s t h m)), .int .i64 (ttC x y p q s t h m)]) ∧ Below w.heap.size w w' := by
  have htH := Lib.hid ht
  clear ht
  cases hb : trB x y p q s t h m
  · have e1 : ttT x y p q s t h m = [] := by unfold ttT; rw [hb]; rfl
    have e2 : ttC x y p q s t h m = 1 := by unfold ttC; rw [hb]; rfl
    rw [e1, e2]
    clear e1 e2
    have hI := fun w => impl_IsTrail x y p q s t h m w
    rw [hb] at hI
    have hIH := Lib.hid hI
    clear hI hb
    go_enter Tryz.func14, Tryz.ntmps14
    go_wp2_with fail
    refine (hIH.out _).mono ?_
    rintro e w1 ⟨rfl, hb1⟩
    go_wp2_with fail
    go_returns
    exact ⟨rfl, by exact bgr⟩
  · have e1 : ttT x y p q s t h m = ttx x y p q s t h m := by unfold ttT; rw [hb]; rfl
    have e2 : ttC x y p q s t h m = 0 := by unfold ttC; rw [hb]; rfl
    rw [e1, e2]
    clear e1 e2
    have hI := fun w => impl_IsTrail x y p q s t h m w
    rw [hb] at hI
    have hIH := Lib.hid hI
    have hT := fun w h' => impl_trailText x y p q s t h m w hb h'
    have hTH := Lib.hid hT
    clear hI hT hb
    go_enter Tryz.func14, Tryz.ntmps14
    go_wp2_with fail
    refine (hIH.out _).mono ?_
    rintro e w1 ⟨rfl, hb1⟩
    have z1 := hb1.size
    have hs1 : w.heap.size < w1.heap.size := by (try simp at z1); omega
    have c0 := bx_keep hb1 (X := w.heap.size) (o := 0) (by exact bxc)
    have c1 := bx_keep hb1 (X := w.heap.size) (o := 1) (by exact bxc)
    have c2 := bx_keep hb1 (X := w.heap.size) (o := 2) (by exact bxc)
    have c3 := bx_keep hb1 (X := w.heap.size) (o := 3) (by exact bxc)
    have c4 := bx_keep hb1 (X := w.heap.size) (o := 4) (by exact bxc)
    have c5 := bx_keep hb1 (X := w.heap.size) (o := 5) (by exact bxc)
    have c6 := bx_keep hb1 (X := w.heap.size) (o := 6) (by exact bxc)
    have c7 := bx_keep hb1 (X := w.heap.size) (o := 7) (by exact bxc)
    simp only [List.getElem_toArray, List.getElem_cons_succ, List.getElem_cons_zero] at c0 c1 c2 c3 c4 c5 c6 c7
    have hB1 : Below w.heap.size w w1 := by exact bgr
    go_wp2_with fail
    refine (hTH.out _ (htH.out.up hB1)).mono ?_
    rintro e w2 ⟨rfl, hb2⟩
    go_wp2_with fail
    go_returns
    exact ⟨rfl, by exact bgr⟩
theorem bne_self (T : ByteArray) : (T != T) = false := by
  rcases T with ⟨d⟩
  show (!(d == d)) = false
  simp
end Go.Proofs.YthbljfanoaibkaaGreatDoor
namespace Go.Proofs.YthbljfanoaibkaaGreatDoor
open Go.RowKit Go.ChangeShapes Go.WideShapes Go.ChangeAt
set_option linter.unusedVariables false
set_option linter.unusedSimpArgs false
/-- a trail's line -/
def tlT (T : Tr) : List UInt8 := ttx T.x T.y T.p T.q T.s T.t T.h T.m ++ [10]
def hdP (s d : Int) : List UInt8 := Lib.itoa s ++ [32] ++ Lib.itoa d ++ [10]
/-- the text behind k trails -/
def ptk (ts : List Tr) (s d : Int) (k : Nat) : List UInt8 := hdP s d ++ ((ts.take k).map tlT).flatten
def ptT (ts : List Tr) (s d : Int) : List UInt8 := if pcB ts s d then ptk ts s d ts.length else []
def ptC (ts : List Tr) (s d : Int) : Int := if pcB ts s d then 0 else 1
theorem ptk_zero {ts : List Tr} {s d : Int} : ptk ts s d 0 = hdP s d := by simp [ptk]
theorem ptk_succ {ts : List Tr} {s d : Int} {k : Nat} {T : Tr} (h : ts[k]? = some T) : ptk ts s d (k + 1) = ptk ts s d k ++ tlT T := by
  rw [ptk, take_snoc h, List.map_append, List.flatten_append, ← List.append_assoc, ← ptk]; simp
theorem ttx_len {x y p q s t h m : Int} (hb : trB x y p q s t h m = true) : (ttx x y p q s t h m).length ≤ 164 := by
  obtain ⟨h1, h2, h3, h4, h5, h6, h7⟩ := tr_facts hb
  have hjl := jnk_len (xs := [x, y, p, q, s, h, m]) (fun z hz => by simp at hz; omega) 7 (by simp)
  have hnl : (nmT t).length ≤ 9 := by
    have ht3 : t = 0 ∨ t = 1 ∨ t = 2 := by omega
    rcases ht3 with rfl | rfl | rfl <;> simp [nmT]
  unfold ttx
  simp only [List.length_append, List.length_cons, List.length_nil]
  omega
theorem hdP_len {s d : Int} (h1 : 0 ≤ s ∧ s ≤ 60) (h2 : 0 ≤ d ∧ d ≤ 360) : (hdP s d).length ≤ 44 := by
  have a := Lib.itoa_length_le s (by omega) (by omega)
  have b := Lib.itoa_length_le d (by omega) (by omega)
  unfold hdP
  simp only [List.length_append, List.length_cons, List.length_nil]
  omega
theorem ptk_len {ts : List Tr} {s d : Int} (hp : pcB ts s d = true) : ∀ k, k ≤ ts.length → (ptk ts s d k).length ≤ 44 + 165 * k
  | 0, _ => by rw [ptk_zero]; have := hdP_len (pc_facts hp).2.1 (pc_facts hp).2.2.1; omega
  | k + 1, hk => by
    have ih := ptk_len hp k (by omega)
    obtain ⟨T, hx⟩ := get_of_lt (xs := ts) (k := k) (by omega)
    have hv := (tsB_of (pc_facts hp).2.2.2 hx).1
    have hl := ttx_len (show trB T.x T.y T.p T.q T.s T.t T.h T.m = true from hv)
    rw [ptk_succ hx, List.length_append]
    unfold tlT
    simp only [List.length_append, List.length_cons, List.length_nil]
    omega
set_option maxRecDepth 100000 in
set_option maxHeartbeats 3200000 in
theorem impl_PictureText (A : Option Addr) (c : Nat) (ts : List Tr) (s d : Int) (w : World) (hr : T64 w w.heap.size A ts) (hl : ts.length ≤ 1099511627776) (ht : Pow w) :
    Calls Tryz.prog 9 #[.agg #[.slice A ts.length c, .int .i64 s, .int .i64 d]] w fun e w' => e = .returned (.tuple #[.string (mkT (ptT ts s d)), .int .i64 (ptC ts s d)]) ∧ Below w.heap.size w w' := by
  have htH := Lib.hid ht
  clear ht
  have hI := fun w h => impl_IsPicture A c ts s d w h hl
  cases hb : pcB ts s d
  · have e1 : ptT ts s d = [] := by unfold ptT; rw [hb]; rfl
    have e2 : ptC ts s d = 1 := by unfold ptC; rw [hb]; rfl
    rw [e1, e2]
    rw [hb] at hI
    have hIH := Lib.hid hI
    clear hI hb e1 e2
    go_enter Tryz.func9, Tryz.ntmps9
    go_wp2_with fail
    refine (hIH.out _ (hr.up (by exact bgr))).mono ?_
    rintro e w1 ⟨rfl, hb1⟩
    go_wp2_with fail
    go_returns
    exact ⟨rfl, by exact bgr⟩
  · have e1 : ptT ts s d = ptk ts s d ts.length := by unfold ptT; rw [hb]; rfl
    have e2 : ptC ts s d = 0 := by unfold ptC; rw [hb]; rfl
    rw [e1, e2]
    obtain ⟨h6, hs, hd, hT⟩ := pc_facts hb
    have hlen := fun k hk => ptk_len hb k hk
    rw [hb] at hI
    have hIH := Lib.hid hI
    have hlenH := Lib.hid hlen
    have hTH := Lib.hid hT
    have hS := fun w' (h : Below w.heap.size w w') => impl_decimal s w' (by omega) (by omega) (htH.out.up h)
    have hD := fun w' (h : Below w.heap.size w w') => impl_decimal d w' (by omega) (by omega) (htH.out.up h)
    have hSH := Lib.hid hS
    have hDH := Lib.hid hD
    have ls := Lib.itoa_length_le s (by omega) (by omega)
    have ld := Lib.itoa_length_le d (by omega) (by omega)
    have a1 : ∀ w, (Op.stringOp .add (mkT (Lib.itoa s)) ⟨#[32]⟩).run Tryz.prog w = .ok (.string (mkT (Lib.itoa s ++ [32]))) w := add_T _ [32] (by omega) (by simp)
    have a2 : ∀ w, (Op.stringOp .add (mkT (Lib.itoa s ++ [32])) (mkT (Lib.itoa d))).run Tryz.prog w = .ok (.string (mkT (Lib.itoa s ++ [32] ++ Lib.itoa d))) w := add_T _ _ (by simp; omega) (by omega)
    have a3 : ∀ w, (Op.stringOp .add (mkT (Lib.itoa s ++ [32] ++ Lib.itoa d)) ⟨#[10]⟩).run Tryz.prog w = .ok (.string (mkT (hdP s d))) w := add_T _ [10] (by simp; omega) (by simp)
    have a2' : ∀ w, (Op.stringOp .add (mkT (Lib.itoa s ++ [32])) (mkT (Lib.itoa d))).run Tryz.prog w = .ok (.string (mkT (Lib.itoa s ++ 32 :: Lib.itoa d))) w := fun w => by rw [a2 w]; simp
    have a3' : ∀ w, (Op.stringOp .add (mkT (Lib.itoa s ++ 32 :: Lib.itoa d)) ⟨#[10]⟩).run Tryz.prog w = .ok (.string (mkT (hdP s d))) w := fun w => by rw [← a3 w]; simp
    clear hI hb e1 e2 hlen hT hS hD a2 a3
    go_enter Tryz.func9, Tryz.ntmps9
    go_wp2_with fail
    refine (hIH.out _ (hr.up (by exact bgr))).mono ?_
    rintro e w1 ⟨rfl, hb1⟩
    have vb : VBox w1 28 w.heap.size [.slice A ts.length c, .int .i64 s, .int .i64 d] := VBox.next (VBox.new (w := w) rfl) hb1
    have B : Below w.heap.size w w1 := by exact bgr
    have v0 := vb.cell (j := 0) rfl
    have v1 := vb.cell (j := 1) rfl
    have v2 := vb.cell (j := 2) rfl
    have z1 := vb.lt
    clear hb1
    go_wp2_with fail
    (refine wp_region_noPanic ?_; refine wp_region_held_drew (S := (fun w' => w'.cell? ⟨w.heap.size, 0, none⟩ = some (.slice A ts.length c) ∧ w'.cell? ⟨w.heap.size, 1, none⟩ = some (.int .i64 s) ∧ w'.cell? ⟨w.heap.size, 2, none⟩ = some (.int .i64 d))) (by kernel_rfl) ?_ (fun hHeld => ?_); (focus ((try dsimp only); (refine ⟨?_, ?_, ?_⟩ <;> exact bxc))); (refine takeT (i := 0) (d := 10) rfl rfl (by kernel_rfl) (by kernel_rfl) (by kernel_rfl) (by rfl) (by assumption) (v := ?_) ?_ ?_; rotate_left; (focus (intro wq hSw; (try dsimp only at hSw); go_simp; (try (with_reducible rfl)); done)); (try simp only [Act.put, List.setIfInBounds_toArray, List.set_cons_zero, List.set_cons_succ])); (refine takeT (i := 1) (d := 11) rfl rfl (by kernel_rfl) (by kernel_rfl) (by kernel_rfl) (by rfl) (by assumption) (v := ?_) ?_ ?_; rotate_left; (focus (intro wq hSw; (try dsimp only at hSw); go_simp; (try (with_reducible rfl)); done)); (try simp only [Act.put, List.setIfInBounds_toArray, List.set_cons_zero, List.set_cons_succ])); (refine takeT (i := 4) (d := 14) rfl rfl (by kernel_rfl) (by kernel_rfl) (by kernel_rfl) (by rfl) (by assumption) (v := ?_) ?_ ?_; rotate_left; (focus (intro wq hSw; (try dsimp only at hSw); go_simp; (try (with_reducible rfl)); done)); (try simp only [Act.put, List.setIfInBounds_toArray, List.set_cons_zero, List.set_cons_succ])); (refine takeT (i := 5) (d := 15) rfl rfl (by kernel_rfl) (by kernel_rfl) (by kernel_rfl) (by rfl) (by assumption) (v := ?_) ?_ ?_; rotate_left; (focus (intro wq hSw; (try dsimp only at hSw); go_simp; (try (with_reducible rfl)); done)); (try simp only [Act.put, List.setIfInBounds_toArray, List.set_cons_zero, List.set_cons_succ])); (refine wpAnyH_ready (rs := [2]) (by kernel_rfl) (by simp) ?_; refine AllReadyH.cons rfl (fun K hK => ?_) AllReadyH.nil; go_simp; (first | (go_at_call 29; (first | ((with_reducible refine (hSH.out _ (by exact bgr)).mono ?_); rintro e w2 ⟨rfl, hb2⟩; have vb := VBox.next (w := w1.drew) vb hb2; have v0 := vb.cell (j := 0) rfl; have v1 := vb.cell (j := 1) rfl; have v2 := vb.cell (j := 2) rfl; have B : Below w.heap.size w w2 := (by exact bgr)) | ((with_reducible refine (hDH.out _ (by exact bgr)).mono ?_); rintro e w3 ⟨rfl, hb3⟩; have vb := VBox.next vb hb3; have v0 := vb.cell (j := 0) rfl; have v1 := vb.cell (j := 1) rfl; have v2 := vb.cell (j := 2) rfl; have B : Below w.heap.size w w3 := (by exact bgr)))) | skip); (try go_wp2_with fail); refine hK.out _ _ ?_ (fun hHeld => ?_); (focus ((try dsimp only); (refine ⟨?_, ?_, ?_⟩ <;> exact bxc))); clear hK K; (try simp only [Act.put, List.setIfInBounds_toArray, List.set_cons_zero, List.set_cons_succ])); (refine takeT (i := 3) (d := 13) rfl rfl (by kernel_rfl) (by kernel_rfl) (by kernel_rfl) (by rfl) (by assumption) (v := ?_) ?_ ?_; rotate_left; (focus (intro wq hSw; (try dsimp only at hSw); go_simp; (try (with_reducible rfl)); done)); (try simp only [Act.put, List.setIfInBounds_toArray, List.set_cons_zero, List.set_cons_succ])); (refine wpAnyH_ready (rs := [6]) (by kernel_rfl) (by simp) ?_; refine AllReadyH.cons rfl (fun K hK => ?_) AllReadyH.nil; go_simp; (first | (go_at_call 29; (first | ((with_reducible refine (hSH.out _ (by exact bgr)).mono ?_); rintro e w2 ⟨rfl, hb2⟩; have vb := VBox.next (w := w1.drew) vb hb2; have v0 := vb.cell (j := 0) rfl; have v1 := vb.cell (j := 1) rfl; have v2 := vb.cell (j := 2) rfl; have B : Below w.heap.size w w2 := (by exact bgr)) | ((with_reducible refine (hDH.out _ (by exact bgr)).mono ?_); rintro e w3 ⟨rfl, hb3⟩; have vb := VBox.next vb hb3; have v0 := vb.cell (j := 0) rfl; have v1 := vb.cell (j := 1) rfl; have v2 := vb.cell (j := 2) rfl; have B : Below w.heap.size w w3 := (by exact bgr)))) | skip); (try go_wp2_with fail); refine hK.out _ _ ?_ (fun hHeld => ?_); (focus ((try dsimp only); (refine ⟨?_, ?_, ?_⟩ <;> exact bxc))); clear hK K; (try simp only [Act.put, List.setIfInBounds_toArray, List.set_cons_zero, List.set_cons_succ])); (refine takeT (i := 7) (d := 17) rfl rfl (by kernel_rfl) (by kernel_rfl) (by kernel_rfl) (by rfl) (by assumption) (v := ?_) ?_ ?_; rotate_left; (focus (intro wq hSw; (try dsimp only at hSw); go_simp; (try (with_reducible rfl)); done)); (try simp only [Act.put, List.setIfInBounds_toArray, List.set_cons_zero, List.set_cons_succ])); (refine takeT (i := 8) (d := 18) rfl rfl (by kernel_rfl) (by kernel_rfl) (by kernel_rfl) (by rfl) (by assumption) (v := ?_) ?_ ?_; rotate_left; (focus (intro wq hSw; (try dsimp only at hSw); go_simp; (try (with_reducible rfl)); done)); (try simp only [Act.put, List.setIfInBounds_toArray, List.set_cons_zero, List.set_cons_succ])); (refine takeT (i := 9) (d := 4) rfl rfl (by kernel_rfl) (by kernel_rfl) (by kernel_rfl) (by rfl) (by assumption) (v := ?_) ?_ ?_; rotate_left; (focus (intro wq hSw; (try dsimp only at hSw); go_simp; (try (with_reducible rfl)); done)); (try simp only [Act.put, List.setIfInBounds_toArray, List.set_cons_zero, List.set_cons_succ])); refine wpAnyH_done (by kernel_rfl) ?_ _; refine NoPanic.normal ?_)
    clear hHeld hb2 hb3
    go_wp2_with fail
    go_loopw [4, 22] (fun o i wr => ∃ k : Nat, k ≤ ts.length ∧ i = .int .i64 k ∧ o = .string (mkT (ptk ts s d k)) ∧ Below w.heap.size w wr) (fun _ i _ => ts.length - (intOf i).toNat)
    case atStart => exact ⟨0, Nat.zero_le _, rfl, by rw [ptk_zero], B⟩
    case round =>
      obtain ⟨k, hk, rfl, rfl, hbr⟩ := hrel
      clear a1 a2' a3' hSH hDH
      by_cases hlt : k < ts.length
      · obtain ⟨⟨x, y, p, q, z, t, u, r⟩, hx⟩ := get_of_lt hlt
        obtain ⟨b, o, rfl, hb, hc0, hc1, hc2, hc3, hc4, hc5, hc6, hc7⟩ := T64.at_ (hr.up hbr) hx
        have p0 : (0 : Int) ≤ (k : Int) := by omega
        have p1 : (k : Int) < (ts.length : Int) := by omega
        have hv : trB x y p q z t u r = true := (tsB_of hTH.out hx).1
        have hT := fun w' (h : Below w.heap.size w w') => impl_trailText x y p q z t u r w' hv (htH.out.up h)
        have hT2 := Lib.hid hT
        have hl1 := ttx_len hv
        have hlk := hlenH.out k hk
        have a4 : ∀ w, (Op.stringOp .add (mkT (ttx x y p q z t u r)) ⟨#[10]⟩).run Tryz.prog w = .ok (.string (mkT (tlT ⟨x, y, p, q, z, t, u, r⟩))) w := add_T _ [10] (by omega) (by simp)
        have a5 : ∀ w, (Op.stringOp .add (mkT (ptk ts s d k)) (mkT (tlT ⟨x, y, p, q, z, t, u, r⟩))).run Tryz.prog w = .ok (.string (mkT (ptk ts s d k ++ tlT ⟨x, y, p, q, z, t, u, r⟩))) w := add_T _ _ (by omega) (by unfold tlT; simp; omega)
        have e1 := Lib.hid (ptk_succ (s := s) (d := d) hx)
        clear hx hv hT
        go_wp2_with fail
        refine (hT2.out _ (by exact bgr)).mono ?_
        rintro e w4 ⟨rfl, hb4⟩
        go_wp2_with fail
        go_roundw
        case rel => exact ⟨k + 1, by omega, by go_num, by rw [e1.out], by exact bgr⟩
        case measure => simp [intOf]; omega
      · obtain rfl : k = ts.length := by omega
        go_wp2_with fail
        go_returns
        exact ⟨rfl, hbr⟩
set_option maxRecDepth 100000 in
set_option maxHeartbeats 3200000 in
theorem spec_PictureText (A : Option Addr) (c : Nat) (ts : List Tr) (s d : Int) (w : World) (hr : T64 w w.heap.size A ts) (hl : ts.length ≤ 1099511627776) :
    Calls Tryz.prog 10 #[.agg #[.slice A ts.length c, .int .i64 s, .int .i64 d]] w fun e w' => e = .returned (.tuple #[.string (mkT (ptT ts s d)), .int .i64 (ptC ts s d)]) ∧ Below w.heap.size w w' := by
  have hI := fun w h => spec_IsPicture A c ts s d w h hl
  cases hb : pcB ts s d
  · have e1 : ptT ts s d = [] := by unfold ptT; rw [hb]; rfl
    have e2 : ptC ts s d = 1 := by unfold ptC; rw [hb]; rfl
    rw [e1, e2]
    rw [hb] at hI
    have hIH := Lib.hid hI
    clear hI hb e1 e2
    go_enter Tryz.func10, Tryz.ntmps10
    go_wp2_with fail
    refine (hIH.out _ (hr.up (by exact bgr))).mono ?_
    rintro e w1 ⟨rfl, hb1⟩
    go_wp2_with fail
    go_returns
    exact ⟨rfl, by exact bgr⟩
  · have e1 : ptT ts s d = ptk ts s d ts.length := by unfold ptT; rw [hb]; rfl
    have e2 : ptC ts s d = 0 := by unfold ptC; rw [hb]; rfl
    rw [e1, e2]
    obtain ⟨h6, hs, hd, hT⟩ := pc_facts hb
    have hlen := fun k hk => ptk_len hb k hk
    rw [hb] at hI
    have hIH := Lib.hid hI
    have hlenH := Lib.hid hlen
    have hTH := Lib.hid hT
    have hS : ∀ w', Calls Tryz.prog 32 #[.int .i64 s] w' fun e w'' => e = .returned (.string (mkT (Lib.itoa s))) ∧ Below w'.heap.size w' w'' := fun w' => by
      have := spec_l01Dec s.toNat w' (by omega)
      rw [itoa_pos hs.1]
      rwa [show ((s.toNat : Nat) : Int) = s by omega] at this
    have hD : ∀ w', Calls Tryz.prog 32 #[.int .i64 d] w' fun e w'' => e = .returned (.string (mkT (Lib.itoa d))) ∧ Below w'.heap.size w' w'' := fun w' => by
      have := spec_l01Dec d.toNat w' (by omega)
      rw [itoa_pos hd.1]
      rwa [show ((d.toNat : Nat) : Int) = d by omega] at this
    have hSH := Lib.hid hS
    have hDH := Lib.hid hD
    have ls := Lib.itoa_length_le s (by omega) (by omega)
    have ld := Lib.itoa_length_le d (by omega) (by omega)
    have a1 : ∀ w, (Op.stringOp .add (mkT (Lib.itoa s)) ⟨#[32]⟩).run Tryz.prog w = .ok (.string (mkT (Lib.itoa s ++ [32]))) w := add_T _ [32] (by omega) (by simp)
    have a2 : ∀ w, (Op.stringOp .add (mkT (Lib.itoa s ++ [32])) (mkT (Lib.itoa d))).run Tryz.prog w = .ok (.string (mkT (Lib.itoa s ++ [32] ++ Lib.itoa d))) w := add_T _ _ (by simp; omega) (by omega)
    have a3 : ∀ w, (Op.stringOp .add (mkT (Lib.itoa s ++ [32] ++ Lib.itoa d)) ⟨#[10]⟩).run Tryz.prog w = .ok (.string (mkT (hdP s d))) w := add_T _ [10] (by simp; omega) (by simp)
    have a2' : ∀ w, (Op.stringOp .add (mkT (Lib.itoa s ++ [32])) (mkT (Lib.itoa d))).run Tryz.prog w = .ok (.string (mkT (Lib.itoa s ++ 32 :: Lib.itoa d))) w := fun w => by rw [a2 w]; simp
    have a3' : ∀ w, (Op.stringOp .add (mkT (Lib.itoa s ++ 32 :: Lib.itoa d)) ⟨#[10]⟩).run Tryz.prog w = .ok (.string (mkT (hdP s d))) w := fun w => by rw [← a3 w]; simp
    clear hI hb e1 e2 hlen hT hS hD a2 a3
    go_enter Tryz.func10, Tryz.ntmps10
    go_wp2_with fail
    refine (hIH.out _ (hr.up (by exact bgr))).mono ?_
    rintro e w1 ⟨rfl, hb1⟩
    have vb : VBox w1 28 w.heap.size [.slice A ts.length c, .int .i64 s, .int .i64 d] := VBox.next (VBox.new (w := w) rfl) hb1
    have B : Below w.heap.size w w1 := by exact bgr
    have v0 := vb.cell (j := 0) rfl
    have v1 := vb.cell (j := 1) rfl
    have v2 := vb.cell (j := 2) rfl
    have z1 := vb.lt
    clear hb1
    go_wp2_with fail
    (refine wp_region_noPanic ?_; refine wp_region_held_drew (S := (fun w' => w'.cell? ⟨w.heap.size, 0, none⟩ = some (.slice A ts.length c) ∧ w'.cell? ⟨w.heap.size, 1, none⟩ = some (.int .i64 s) ∧ w'.cell? ⟨w.heap.size, 2, none⟩ = some (.int .i64 d))) (by kernel_rfl) ?_ (fun hHeld => ?_); (focus ((try dsimp only); (refine ⟨?_, ?_, ?_⟩ <;> exact bxc))); (refine takeT (i := 0) (d := 11) rfl rfl (by kernel_rfl) (by kernel_rfl) (by kernel_rfl) (by rfl) (by assumption) (v := ?_) ?_ ?_; rotate_left; (focus (intro wq hSw; (try dsimp only at hSw); go_simp; (try (with_reducible rfl)); done)); (try simp only [Act.put, List.setIfInBounds_toArray, List.set_cons_zero, List.set_cons_succ])); (refine takeT (i := 1) (d := 12) rfl rfl (by kernel_rfl) (by kernel_rfl) (by kernel_rfl) (by rfl) (by assumption) (v := ?_) ?_ ?_; rotate_left; (focus (intro wq hSw; (try dsimp only at hSw); go_simp; (try (with_reducible rfl)); done)); (try simp only [Act.put, List.setIfInBounds_toArray, List.set_cons_zero, List.set_cons_succ])); (refine takeT (i := 4) (d := 15) rfl rfl (by kernel_rfl) (by kernel_rfl) (by kernel_rfl) (by rfl) (by assumption) (v := ?_) ?_ ?_; rotate_left; (focus (intro wq hSw; (try dsimp only at hSw); go_simp; (try (with_reducible rfl)); done)); (try simp only [Act.put, List.setIfInBounds_toArray, List.set_cons_zero, List.set_cons_succ])); (refine takeT (i := 5) (d := 16) rfl rfl (by kernel_rfl) (by kernel_rfl) (by kernel_rfl) (by rfl) (by assumption) (v := ?_) ?_ ?_; rotate_left; (focus (intro wq hSw; (try dsimp only at hSw); go_simp; (try (with_reducible rfl)); done)); (try simp only [Act.put, List.setIfInBounds_toArray, List.set_cons_zero, List.set_cons_succ])); (refine wpAnyH_ready (rs := [2]) (by kernel_rfl) (by simp) ?_; refine AllReadyH.cons rfl (fun K hK => ?_) AllReadyH.nil; go_simp; (first | (go_at_call 32; (first | ((with_reducible refine (hSH.out _).mono ?_); rintro e w2 ⟨rfl, hb2⟩; have vb := VBox.next (w := w1.drew) vb hb2; have v0 := vb.cell (j := 0) rfl; have v1 := vb.cell (j := 1) rfl; have v2 := vb.cell (j := 2) rfl; have B : Below w.heap.size w w2 := (by exact bgr)) | ((with_reducible refine (hDH.out _).mono ?_); rintro e w3 ⟨rfl, hb3⟩; have vb := VBox.next vb hb3; have v0 := vb.cell (j := 0) rfl; have v1 := vb.cell (j := 1) rfl; have v2 := vb.cell (j := 2) rfl; have B : Below w.heap.size w w3 := (by exact bgr)))) | skip); (try go_wp2_with fail); refine hK.out _ _ ?_ (fun hHeld => ?_); (focus ((try dsimp only); (refine ⟨?_, ?_, ?_⟩ <;> exact bxc))); clear hK K; (try simp only [Act.put, List.setIfInBounds_toArray, List.set_cons_zero, List.set_cons_succ])); (refine takeT (i := 3) (d := 14) rfl rfl (by kernel_rfl) (by kernel_rfl) (by kernel_rfl) (by rfl) (by assumption) (v := ?_) ?_ ?_; rotate_left; (focus (intro wq hSw; (try dsimp only at hSw); go_simp; (try (with_reducible rfl)); done)); (try simp only [Act.put, List.setIfInBounds_toArray, List.set_cons_zero, List.set_cons_succ])); (refine wpAnyH_ready (rs := [6]) (by kernel_rfl) (by simp) ?_; refine AllReadyH.cons rfl (fun K hK => ?_) AllReadyH.nil; go_simp; (first | (go_at_call 32; (first | ((with_reducible refine (hSH.out _).mono ?_); rintro e w2 ⟨rfl, hb2⟩; have vb := VBox.next (w := w1.drew) vb hb2; have v0 := vb.cell (j := 0) rfl; have v1 := vb.cell (j := 1) rfl; have v2 := vb.cell (j := 2) rfl; have B : Below w.heap.size w w2 := (by exact bgr)) | ((with_reducible refine (hDH.out _).mono ?_); rintro e w3 ⟨rfl, hb3⟩; have vb := VBox.next vb hb3; have v0 := vb.cell (j := 0) rfl; have v1 := vb.cell (j := 1) rfl; have v2 := vb.cell (j := 2) rfl; have B : Below w.heap.size w w3 := (by exact bgr)))) | skip); (try go_wp2_with fail); refine hK.out _ _ ?_ (fun hHeld => ?_); (focus ((try dsimp only); (refine ⟨?_, ?_, ?_⟩ <;> exact bxc))); clear hK K; (try simp only [Act.put, List.setIfInBounds_toArray, List.set_cons_zero, List.set_cons_succ])); (refine takeT (i := 7) (d := 18) rfl rfl (by kernel_rfl) (by kernel_rfl) (by kernel_rfl) (by rfl) (by assumption) (v := ?_) ?_ ?_; rotate_left; (focus (intro wq hSw; (try dsimp only at hSw); go_simp; (try (with_reducible rfl)); done)); (try simp only [Act.put, List.setIfInBounds_toArray, List.set_cons_zero, List.set_cons_succ])); (refine takeT (i := 8) (d := 19) rfl rfl (by kernel_rfl) (by kernel_rfl) (by kernel_rfl) (by rfl) (by assumption) (v := ?_) ?_ ?_; rotate_left; (focus (intro wq hSw; (try dsimp only at hSw); go_simp; (try (with_reducible rfl)); done)); (try simp only [Act.put, List.setIfInBounds_toArray, List.set_cons_zero, List.set_cons_succ])); (refine takeT (i := 9) (d := 4) rfl rfl (by kernel_rfl) (by kernel_rfl) (by kernel_rfl) (by rfl) (by assumption) (v := ?_) ?_ ?_; rotate_left; (focus (intro wq hSw; (try dsimp only at hSw); go_simp; (try (with_reducible rfl)); done)); (try simp only [Act.put, List.setIfInBounds_toArray, List.set_cons_zero, List.set_cons_succ])); refine wpAnyH_done (by kernel_rfl) ?_ _; refine NoPanic.normal ?_)
    clear hHeld hb2 hb3
    go_wp2_with fail
    go_loopw [4, 5] (fun o i wr => ∃ k : Nat, k ≤ ts.length ∧ i = .int .i64 k ∧ o = .string (mkT (ptk ts s d k)) ∧ VBox wr 28 w.heap.size [.slice A ts.length c, .int .i64 s, .int .i64 d] ∧ Below w.heap.size w wr) (fun _ i _ => ts.length - (intOf i).toNat)
    case atStart => exact ⟨0, Nat.zero_le _, rfl, by rw [ptk_zero], vb, B⟩
    case round =>
      clear vb v0 v1 v2 B
      obtain ⟨k, hk, rfl, rfl, vb, hbr⟩ := hrel
      have v0 := vb.cell (j := 0) rfl
      clear a1 a2' a3' hSH hDH
      by_cases hlt : k < ts.length
      · obtain ⟨⟨x, y, p, q, z, t, u, r⟩, hx⟩ := get_of_lt hlt
        obtain ⟨b, o, rfl, hb, hc0, hc1, hc2, hc3, hc4, hc5, hc6, hc7⟩ := T64.at_ (hr.up hbr) hx
        have p0 : (0 : Int) ≤ (k : Int) := by omega
        have p1 : (k : Int) < (ts.length : Int) := by omega
        have hv : trB x y p q z t u r = true := (tsB_of hTH.out hx).1
        have hT := fun w' => spec_TrailText x y p q z t u r w'
        rw [show ttT x y p q z t u r = ttx x y p q z t u r by unfold ttT; rw [hv]; rfl, show ttC x y p q z t u r = 0 by unfold ttC; rw [hv]; rfl] at hT
        have hT2 := Lib.hid hT
        have hl1 := ttx_len hv
        have hlk := hlenH.out k hk
        have a4 : ∀ w, (Op.stringOp .add (mkT (ptk ts s d k)) (mkT (ttx x y p q z t u r))).run Tryz.prog w = .ok (.string (mkT (ptk ts s d k ++ ttx x y p q z t u r))) w := add_T _ _ (by omega) (by omega)
        have a5 : ∀ w, (Op.stringOp .add (mkT (ptk ts s d k ++ ttx x y p q z t u r)) ⟨#[10]⟩).run Tryz.prog w = .ok (.string (mkT (ptk ts s d k ++ tlT ⟨x, y, p, q, z, t, u, r⟩))) w := fun w => by
          rw [show (⟨#[10]⟩ : ByteArray) = mkT [10] from rfl, add_T _ [10] (by simp; omega) (by simp), List.append_assoc]; rfl
        have e1 := Lib.hid (ptk_succ (s := s) (d := d) hx)
        clear hx hv hT
        go_wp2_with fail
        refine (hT2.out _).mono ?_
        rintro e w4 ⟨rfl, hb4⟩
        have vb := vb.next hb4
        go_wp2_with fail
        go_roundw
        case rel => exact ⟨k + 1, by omega, by go_num, by rw [e1.out], vb, by exact bgr⟩
        case measure => simp [intOf]; omega
      · obtain rfl : k = ts.length := by omega
        go_wp2_with fail
        go_returns
        exact ⟨rfl, hbr⟩
end Go.Proofs.YthbljfanoaibkaaGreatDoor
