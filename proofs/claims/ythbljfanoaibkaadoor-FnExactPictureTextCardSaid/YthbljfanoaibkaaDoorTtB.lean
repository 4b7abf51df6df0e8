/- TrailText, the program's and the reference's: contracts. -/
import Derived.Test.YthbljfanoaibkaaDoorTtA
import Derived.Test.YthbljfanoaibkaaDoorVBox
namespace Go.Proofs.YthbljfanoaibkaaDoor
open Go.RowKit Go.ChangeShapes Go.WideShapes Go.ChangeAt
set_option linter.unusedVariables false
set_option linter.unusedSimpArgs false
/-- the text and the code that TrailText hands back -/
def ttT (x y p q s t h m : Int) : List UInt8 := if trB x y p q s t h m then ttx x y p q s t h m else []
def ttC (x y p q s t h m : Int) : Int := if trB x y p q s t h m then 0 else 1
theorem ttx_nf {x y p q s t h m : Int} : ttx x y p q s t h m = nmT t ++ 32 :: jnk [x, y, p, q, s, h, m] 7 := by simp [ttx]
theorem spec_l16Name (t : Int) (w : World) (ht : t = 0 ∨ t = 1 ∨ t = 2) : Calls Tryd.prog 14 #[.int .i64 t] w fun e w' => e = .returned (.string (mkT (nmT t))) ∧ Below w.heap.size w w' := by
  rcases ht with rfl | rfl | rfl
  · go_enter Tryd.func14, Tryd.ntmps14
    go_wp2_with fail
    go_ret
    exact ⟨rfl, by exact bgr⟩
  · go_enter Tryd.func14, Tryd.ntmps14
    go_wp2_with fail
    go_ret
    exact ⟨rfl, by exact bgr⟩
  · go_enter Tryd.func14, Tryd.ntmps14
    go_wp2_with fail
    go_ret
    exact ⟨rfl, by exact bgr⟩
set_option maxRecDepth 100000 in
set_option maxHeartbeats 3200000 in
theorem spec_TrailText (x y p q s t h m : Int) (w : World) : Calls Tryd.prog 5 #[.agg #[.int .i64 x, .int .i64 y, .int .i64 p, .int .i64 q, .int .i64 s, .int .i64 t, .int .i64 h, .int .i64 m]] w fun e w' => e = .returned (.tuple #[.string (mkT (ttT x y p q s t h m)), .int .i64 (ttC x y p q s t h m)]) ∧ Below w.heap.size w w' := by
  cases hb : trB x y p q s t h m
  · have e1 : ttT x y p q s t h m = [] := by unfold ttT; rw [hb]; rfl
    have e2 : ttC x y p q s t h m = 1 := by unfold ttC; rw [hb]; rfl
    rw [e1, e2]
    clear e1 e2
    have hI := fun w => spec_IsTrail x y p q s t h m w
    rw [hb] at hI
    have hIH := Lib.hid hI
    clear hI hb
    go_enter Tryd.func5, Tryd.ntmps5
    go_wp2_with fail
    refine (hIH.out _).mono ?_
    rintro e w1 ⟨rfl, hb1⟩
    go_wp2_with fail
    go_returns
    exact ⟨rfl, by exact bgr⟩
  · obtain ⟨h1, h2, h3, h4, h5, h6, h7⟩ := tr_facts hb
    have e1 : ttT x y p q s t h m = ttx x y p q s t h m := by unfold ttT; rw [hb]; rfl
    have e2 : ttC x y p q s t h m = 0 := by unfold ttC; rw [hb]; rfl
    rw [e1, e2, ttx_nf]
    clear e1 e2
    have hI := fun w => spec_IsTrail x y p q s t h m w
    rw [hb] at hI
    have hIH := Lib.hid hI
    have hj : ∀ (W : World) (g : Nat), W.heap[g]? = some (.cells #[.int .i64 x, .int .i64 y, .int .i64 p, .int .i64 q, .int .i64 s, .int .i64 h, .int .i64 m] 2 (0, 0)) → Calls Tryd.prog 15 #[.slice (some ⟨g, 0, none⟩) 7 7, .string ⟨#[44]⟩] W fun e w' => e = .returned (.string (mkT (jnk [x, y, p, q, s, h, m] 7))) ∧ Below W.heap.size W w' := fun W g hg =>
      spec_l01Join (some ⟨g, 0, none⟩) 7 [x, y, p, q, s, h, m] W (seven_I64 hg) (by simp) (fun z hz => by simp at hz; omega)
    have hjH := Lib.hid hj
    have ht3 : t = 0 ∨ t = 1 ∨ t = 2 := by omega
    have hn := fun w => spec_l16Name t w ht3
    have hnH := Lib.hid hn
    have hjl := jnk_len (xs := [x, y, p, q, s, h, m]) (fun z hz => by simp at hz; omega) 7 (by simp)
    have hnl : (nmT t).length ≤ 9 := by rcases ht3 with rfl | rfl | rfl <;> simp [nmT]
    have a0 : ∀ w, (Op.stringOp .add (mkT (nmT t)) ⟨#[32]⟩).run Tryd.prog w = .ok (.string (mkT (nmT t ++ [32]))) w := add_T (P := Tryd.prog) (nmT t) [32] (by omega) (by simp)
    have b0 := add_T (P := Tryd.prog) (nmT t ++ [32]) (jnk [x, y, p, q, s, h, m] 7) (by simp; omega) (by omega)
    have l1 : (jnk [x, y, p, q, s, h, m] 7).length ≤ 154 := by omega
    clear hj hI hn hb hjl h1 h2 h3 h4 h5 h6 h7 ht3
    go_enter Tryd.func5, Tryd.ntmps5
    go_wp2_with fail
    refine (hIH.out _).mono ?_
    rintro e w1 ⟨rfl, hb1⟩
    have z1 := hb1.size
    have hs1 : w.heap.size < w1.heap.size := by (try simp at z1); omega
    have c0 := bx_keep hb1 (X := w.heap.size) (o := 0) (by exact bxc)
    have c1 := bx_keep hb1 (X := w.heap.size) (o := 1) (by exact bxc)
    have c2 := bx_keep hb1 (X := w.heap.size) (o := 2) (by exact bxc)
    have c3 := bx_keep hb1 (X := w.heap.size) (o := 3) (by exact bxc)
    have c4 := bx_keep hb1 (X := w.heap.size) (o := 4) (by exact bxc)
    have c5 := bx_keep hb1 (X := w.heap.size) (o := 5) (by exact bxc)
    have c6 := bx_keep hb1 (X := w.heap.size) (o := 6) (by exact bxc)
    have c7 := bx_keep hb1 (X := w.heap.size) (o := 7) (by exact bxc)
    simp only [List.getElem_toArray, List.getElem_cons_succ, List.getElem_cons_zero] at c0 c1 c2 c3 c4 c5 c6 c7
    go_wp2_with fail
    (refine wp_region_noPanic ?_; refine wp_region_held_drew (S := (fun w' => w'.cell? ⟨w.heap.size, 0, none⟩ = some (.int .i64 x) ∧ w'.cell? ⟨w.heap.size, 1, none⟩ = some (.int .i64 y) ∧ w'.cell? ⟨w.heap.size, 2, none⟩ = some (.int .i64 p) ∧ w'.cell? ⟨w.heap.size, 3, none⟩ = some (.int .i64 q) ∧ w'.cell? ⟨w.heap.size, 4, none⟩ = some (.int .i64 s) ∧ w'.cell? ⟨w.heap.size, 5, none⟩ = some (.int .i64 t) ∧ w'.cell? ⟨w.heap.size, 6, none⟩ = some (.int .i64 h) ∧ w'.cell? ⟨w.heap.size, 7, none⟩ = some (.int .i64 m) ∧ w'.cell? ⟨w1.heap.size, 0, none⟩ = some (.int .i64 x) ∧ w'.cell? ⟨w1.heap.size, 1, none⟩ = some (.int .i64 y) ∧ w'.cell? ⟨w1.heap.size, 2, none⟩ = some (.int .i64 p) ∧ w'.cell? ⟨w1.heap.size, 3, none⟩ = some (.int .i64 q) ∧ w'.cell? ⟨w1.heap.size, 4, none⟩ = some (.int .i64 s))) (by kernel_rfl) ?_ (fun hHeld => ?_); (focus ((try dsimp only); (refine ⟨?_, ?_, ?_, ?_, ?_, ?_, ?_, ?_, ?_, ?_, ?_, ?_, ?_⟩ <;> exact bxc))); (refine takeT (i := 0) (d := 10) rfl rfl (by kernel_rfl) (by kernel_rfl) (by kernel_rfl) (by rfl) (by assumption) (v := ?_) ?_ ?_; rotate_left; (focus (intro wq hSw; (try dsimp only at hSw); go_simp; (try (with_reducible rfl)); done)); (try simp only [Act.put, List.setIfInBounds_toArray, List.set_cons_zero, List.set_cons_succ])); (refine takeT (i := 1) (d := 11) rfl rfl (by kernel_rfl) (by kernel_rfl) (by kernel_rfl) (by rfl) (by assumption) (v := ?_) ?_ ?_; rotate_left; (focus (intro wq hSw; (try dsimp only at hSw); go_simp; (try (with_reducible rfl)); done)); (try simp only [Act.put, List.setIfInBounds_toArray, List.set_cons_zero, List.set_cons_succ])); (refine takeT (i := 4) (d := 14) rfl rfl (by kernel_rfl) (by kernel_rfl) (by kernel_rfl) (by rfl) (by assumption) (v := ?_) ?_ ?_; rotate_left; (focus (intro wq hSw; (try dsimp only at hSw); go_simp; (try (with_reducible rfl)); done)); (try simp only [Act.put, List.setIfInBounds_toArray, List.set_cons_zero, List.set_cons_succ])); (refine takeT (i := 5) (d := 15) rfl rfl (by kernel_rfl) (by kernel_rfl) (by kernel_rfl) (by rfl) (by assumption) (v := ?_) ?_ ?_; rotate_left; (focus (intro wq hSw; (try dsimp only at hSw); go_simp; (try (with_reducible rfl)); done)); (try simp only [Act.put, List.setIfInBounds_toArray, List.set_cons_zero, List.set_cons_succ])); (refine takeT (i := 6) (d := 16) rfl rfl (by kernel_rfl) (by kernel_rfl) (by kernel_rfl) (by rfl) (by assumption) (v := ?_) ?_ ?_; rotate_left; (focus (intro wq hSw; (try dsimp only at hSw); go_simp; (try (with_reducible rfl)); done)); (try simp only [Act.put, List.setIfInBounds_toArray, List.set_cons_zero, List.set_cons_succ])); (refine takeT (i := 7) (d := 17) rfl rfl (by kernel_rfl) (by kernel_rfl) (by kernel_rfl) (by rfl) (by assumption) (v := ?_) ?_ ?_; rotate_left; (focus (intro wq hSw; (try dsimp only at hSw); go_simp; (try (with_reducible rfl)); done)); (try simp only [Act.put, List.setIfInBounds_toArray, List.set_cons_zero, List.set_cons_succ])); (refine takeT (i := 8) (d := 18) rfl rfl (by kernel_rfl) (by kernel_rfl) (by kernel_rfl) (by rfl) (by assumption) (v := ?_) ?_ ?_; rotate_left; (focus (intro wq hSw; (try dsimp only at hSw); go_simp; (try (with_reducible rfl)); done)); (try simp only [Act.put, List.setIfInBounds_toArray, List.set_cons_zero, List.set_cons_succ])); (refine takeT (i := 9) (d := 19) rfl rfl (by kernel_rfl) (by kernel_rfl) (by kernel_rfl) (by rfl) (by assumption) (v := ?_) ?_ ?_; rotate_left; (focus (intro wq hSw; (try dsimp only at hSw); go_simp; (try (with_reducible rfl)); done)); (try simp only [Act.put, List.setIfInBounds_toArray, List.set_cons_zero, List.set_cons_succ])); (refine takeT (i := 10) (d := 20) rfl rfl (by kernel_rfl) (by kernel_rfl) (by kernel_rfl) (by rfl) (by assumption) (v := ?_) ?_ ?_; rotate_left; (focus (intro wq hSw; (try dsimp only at hSw); go_simp; (try (with_reducible rfl)); done)); (try simp only [Act.put, List.setIfInBounds_toArray, List.set_cons_zero, List.set_cons_succ])); (refine takeT (i := 11) (d := 21) rfl rfl (by kernel_rfl) (by kernel_rfl) (by kernel_rfl) (by rfl) (by assumption) (v := ?_) ?_ ?_; rotate_left; (focus (intro wq hSw; (try dsimp only at hSw); go_simp; (try (with_reducible rfl)); done)); (try simp only [Act.put, List.setIfInBounds_toArray, List.set_cons_zero, List.set_cons_succ])); (refine takeT (i := 12) (d := 22) rfl rfl (by kernel_rfl) (by kernel_rfl) (by kernel_rfl) (by rfl) (by assumption) (v := ?_) ?_ ?_; rotate_left; (focus (intro wq hSw; (try dsimp only at hSw); go_simp; (try (with_reducible rfl)); done)); (try simp only [Act.put, List.setIfInBounds_toArray, List.set_cons_zero, List.set_cons_succ])); (refine takeT (i := 13) (d := 23) rfl rfl (by kernel_rfl) (by kernel_rfl) (by kernel_rfl) (by rfl) (by assumption) (v := ?_) ?_ ?_; rotate_left; (focus (intro wq hSw; (try dsimp only at hSw); go_simp; (try (with_reducible rfl)); done)); (try simp only [Act.put, List.setIfInBounds_toArray, List.set_cons_zero, List.set_cons_succ])); (refine takeT (i := 14) (d := 24) rfl rfl (by kernel_rfl) (by kernel_rfl) (by kernel_rfl) (by rfl) (by assumption) (v := ?_) ?_ ?_; rotate_left; (focus (intro wq hSw; (try dsimp only at hSw); go_simp; (try (with_reducible rfl)); done)); (try simp only [Act.put, List.setIfInBounds_toArray, List.set_cons_zero, List.set_cons_succ])); (refine takeT (i := 15) (d := 25) rfl rfl (by kernel_rfl) (by kernel_rfl) (by kernel_rfl) (by rfl) (by assumption) (v := ?_) ?_ ?_; rotate_left; (focus (intro wq hSw; (try dsimp only at hSw); go_simp; (try (with_reducible rfl)); done)); (try simp only [Act.put, List.setIfInBounds_toArray, List.set_cons_zero, List.set_cons_succ])); (refine takeT (i := 16) (d := 26) rfl rfl (by kernel_rfl) (by kernel_rfl) (by kernel_rfl) (by rfl) (by assumption) (v := ?_) ?_ ?_; rotate_left; (focus (intro wq hSw; (try dsimp only at hSw); go_simp; (try (with_reducible rfl)); done)); (try simp only [Act.put, List.setIfInBounds_toArray, List.set_cons_zero, List.set_cons_succ])); (refine takeT (i := 17) (d := 27) rfl rfl (by kernel_rfl) (by kernel_rfl) (by kernel_rfl) (by rfl) (by assumption) (v := ?_) ?_ ?_; rotate_left; (focus (intro wq hSw; (try dsimp only at hSw); go_simp; (try (with_reducible rfl)); done)); (try simp only [Act.put, List.setIfInBounds_toArray, List.set_cons_zero, List.set_cons_succ])); (refine wpAnyH_ready (rs := [2, 18]) (by kernel_rfl) (by simp) ?_; refine (AllReadyH.cons rfl (fun K hK => ?_) (AllReadyH.cons rfl (fun K hK => ?_) AllReadyH.nil))); (focus (go_simp; (first | (go_at_call 15; refine (hjH.out _ _ (by first | exact heap_far hb5 (heap_drew (heap_at (by simp))) | exact heap_far hb5 (heap_at (by simp)) | exact bho)).mono ?_; rintro e w4 ⟨rfl, hb4⟩) | (go_at_call 14; refine (hnH.out _).mono ?_; rintro e w5 ⟨rfl, hb5⟩) | skip); (try go_wp2_with fail); refine hK.out _ _ ?_ (fun hHeld => ?_); (focus ((try dsimp only); (refine ⟨?_, ?_, ?_, ?_, ?_, ?_, ?_, ?_, ?_, ?_, ?_, ?_, ?_⟩ <;> exact bxc))); clear hK K; (try simp only [Act.put, List.setIfInBounds_toArray, List.set_cons_zero, List.set_cons_succ]); (refine takeT (i := 3) (d := 13) rfl rfl (by kernel_rfl) (by kernel_rfl) (by kernel_rfl) (by rfl) (by assumption) (v := ?_) ?_ ?_; rotate_left; (focus (intro wq hSw; (try dsimp only at hSw); go_simp; (try (with_reducible rfl)); done)); (try simp only [Act.put, List.setIfInBounds_toArray, List.set_cons_zero, List.set_cons_succ])); (refine wpAnyH_ready (rs := [18]) (by kernel_rfl) (by simp) ?_; refine AllReadyH.cons rfl (fun K hK => ?_) AllReadyH.nil; go_simp; (first | (go_at_call 15; refine (hjH.out _ _ (by first | exact heap_far hb5 (heap_drew (heap_at (by simp))) | exact heap_far hb5 (heap_at (by simp)) | exact bho)).mono ?_; rintro e w4 ⟨rfl, hb4⟩) | (go_at_call 14; refine (hnH.out _).mono ?_; rintro e w5 ⟨rfl, hb5⟩) | skip); (try go_wp2_with fail); refine hK.out _ _ ?_ (fun hHeld => ?_); (focus ((try dsimp only); (refine ⟨?_, ?_, ?_, ?_, ?_, ?_, ?_, ?_, ?_, ?_, ?_, ?_, ?_⟩ <;> exact bxc))); clear hK K; (try simp only [Act.put, List.setIfInBounds_toArray, List.set_cons_zero, List.set_cons_succ])); (refine wpAnyH_ready (rs := [19]) (by kernel_rfl) (by simp) ?_; refine AllReadyH.cons rfl (fun K hK => ?_) AllReadyH.nil; go_simp; (first | (go_at_call 15; refine (hjH.out _ _ (by first | exact heap_far hb5 (heap_drew (heap_at (by simp))) | exact heap_far hb5 (heap_at (by simp)) | exact bho)).mono ?_; rintro e w4 ⟨rfl, hb4⟩) | (go_at_call 14; refine (hnH.out _).mono ?_; rintro e w5 ⟨rfl, hb5⟩) | skip); (try go_wp2_with fail); refine hK.out _ _ ?_ (fun hHeld => ?_); (focus ((try dsimp only); (refine ⟨?_, ?_, ?_, ?_, ?_, ?_, ?_, ?_, ?_, ?_, ?_, ?_, ?_⟩ <;> exact bxc))); clear hK K; (try simp only [Act.put, List.setIfInBounds_toArray, List.set_cons_zero, List.set_cons_succ])); (refine takeT (i := 20) (d := 30) rfl rfl (by kernel_rfl) (by kernel_rfl) (by kernel_rfl) (by rfl) (by assumption) (v := ?_) ?_ ?_; rotate_left; (focus (intro wq hSw; (try dsimp only at hSw); go_simp; (try (with_reducible rfl)); done)); (try simp only [Act.put, List.setIfInBounds_toArray, List.set_cons_zero, List.set_cons_succ])); (refine takeT (i := 21) (d := 2) rfl rfl (by kernel_rfl) (by kernel_rfl) (by kernel_rfl) (by rfl) (by assumption) (v := ?_) ?_ ?_; rotate_left; (focus (intro wq hSw; (try dsimp only at hSw); go_simp; (try (with_reducible rfl)); done)); (try simp only [Act.put, List.setIfInBounds_toArray, List.set_cons_zero, List.set_cons_succ])); (refine takeT (i := 22) (d := 3) rfl rfl (by kernel_rfl) (by kernel_rfl) (by kernel_rfl) (by rfl) (by assumption) (v := ?_) ?_ ?_; rotate_left; (focus (intro wq hSw; (try dsimp only at hSw); go_simp; (try (with_reducible rfl)); done)); (try simp only [Act.put, List.setIfInBounds_toArray, List.set_cons_zero, List.set_cons_succ])); refine wpAnyH_done (by kernel_rfl) ?_ _; refine NoPanic.normal ?_; ((go_wp2_with fail; go_returns; exact ⟨rfl, by exact bgr⟩)))); (focus (go_simp; (first | (go_at_call 15; refine (hjH.out _ _ (by first | exact heap_far hb5 (heap_drew (heap_at (by simp))) | exact heap_far hb5 (heap_at (by simp)) | exact bho)).mono ?_; rintro e w4 ⟨rfl, hb4⟩) | (go_at_call 14; refine (hnH.out _).mono ?_; rintro e w5 ⟨rfl, hb5⟩) | skip); (try go_wp2_with fail); refine hK.out _ _ ?_ (fun hHeld => ?_); (focus ((try dsimp only); (refine ⟨?_, ?_, ?_, ?_, ?_, ?_, ?_, ?_, ?_, ?_, ?_, ?_, ?_⟩ <;> exact bxc))); clear hK K; (try simp only [Act.put, List.setIfInBounds_toArray, List.set_cons_zero, List.set_cons_succ]); (refine wpAnyH_ready (rs := [2]) (by kernel_rfl) (by simp) ?_; refine AllReadyH.cons rfl (fun K hK => ?_) AllReadyH.nil; go_simp; (first | (go_at_call 15; refine (hjH.out _ _ (by first | exact heap_far hb5 (heap_drew (heap_at (by simp))) | exact heap_far hb5 (heap_at (by simp)) | exact bho)).mono ?_; rintro e w4 ⟨rfl, hb4⟩) | (go_at_call 14; refine (hnH.out _).mono ?_; rintro e w5 ⟨rfl, hb5⟩) | skip); (try go_wp2_with fail); refine hK.out _ _ ?_ (fun hHeld => ?_); (focus ((try dsimp only); (refine ⟨?_, ?_, ?_, ?_, ?_, ?_, ?_, ?_, ?_, ?_, ?_, ?_, ?_⟩ <;> exact bxc))); clear hK K; (try simp only [Act.put, List.setIfInBounds_toArray, List.set_cons_zero, List.set_cons_succ])); (refine takeT (i := 3) (d := 13) rfl rfl (by kernel_rfl) (by kernel_rfl) (by kernel_rfl) (by rfl) (by assumption) (v := ?_) ?_ ?_; rotate_left; (focus (intro wq hSw; (try dsimp only at hSw); go_simp; (try (with_reducible rfl)); done)); (try simp only [Act.put, List.setIfInBounds_toArray, List.set_cons_zero, List.set_cons_succ])); (refine wpAnyH_ready (rs := [19]) (by kernel_rfl) (by simp) ?_; refine AllReadyH.cons rfl (fun K hK => ?_) AllReadyH.nil; go_simp; (first | (go_at_call 15; refine (hjH.out _ _ (by first | exact heap_far hb5 (heap_drew (heap_at (by simp))) | exact heap_far hb5 (heap_at (by simp)) | exact bho)).mono ?_; rintro e w4 ⟨rfl, hb4⟩) | (go_at_call 14; refine (hnH.out _).mono ?_; rintro e w5 ⟨rfl, hb5⟩) | skip); (try go_wp2_with fail); refine hK.out _ _ ?_ (fun hHeld => ?_); (focus ((try dsimp only); (refine ⟨?_, ?_, ?_, ?_, ?_, ?_, ?_, ?_, ?_, ?_, ?_, ?_, ?_⟩ <;> exact bxc))); clear hK K; (try simp only [Act.put, List.setIfInBounds_toArray, List.set_cons_zero, List.set_cons_succ])); (refine takeT (i := 20) (d := 30) rfl rfl (by kernel_rfl) (by kernel_rfl) (by kernel_rfl) (by rfl) (by assumption) (v := ?_) ?_ ?_; rotate_left; (focus (intro wq hSw; (try dsimp only at hSw); go_simp; (try (with_reducible rfl)); done)); (try simp only [Act.put, List.setIfInBounds_toArray, List.set_cons_zero, List.set_cons_succ])); (refine takeT (i := 21) (d := 2) rfl rfl (by kernel_rfl) (by kernel_rfl) (by kernel_rfl) (by rfl) (by assumption) (v := ?_) ?_ ?_; rotate_left; (focus (intro wq hSw; (try dsimp only at hSw); go_simp; (try (with_reducible rfl)); done)); (try simp only [Act.put, List.setIfInBounds_toArray, List.set_cons_zero, List.set_cons_succ])); (refine takeT (i := 22) (d := 3) rfl rfl (by kernel_rfl) (by kernel_rfl) (by kernel_rfl) (by rfl) (by assumption) (v := ?_) ?_ ?_; rotate_left; (focus (intro wq hSw; (try dsimp only at hSw); go_simp; (try (with_reducible rfl)); done)); (try simp only [Act.put, List.setIfInBounds_toArray, List.set_cons_zero, List.set_cons_succ])); refine wpAnyH_done (by kernel_rfl) ?_ _; refine NoPanic.normal ?_; ((go_wp2_with fail; go_returns; exact ⟨rfl, by exact bgr⟩)))))
set_option maxRecDepth 100000 in
theorem impl_TrailText (x y p q s t h m : Int) (w : World) (ht : Pow w) : Calls Tryd.prog 7 #[.agg #[.int .i64 x, .int .i64 y, .int .i64 p, .int .i64 q, .int .i64 s, .int .i64 t, .int .i64 h, .int .i64 m]] w fun e w' => e = .returned (.tuple #[.string (mkT (ttT x y p q s t h m)), .int .i64 (ttC x y p q s t h m)]) ∧ Below w.heap.size w w' := by
  have htH := Lib.hid ht
  clear ht
  cases hb : trB x y p q s t h m
  · have e1 : ttT x y p q s t h m = [] := by unfold ttT; rw [hb]; rfl
    have e2 : ttC x y p q s t h m = 1 := by unfold ttC; rw [hb]; rfl
    rw [e1, e2]
    clear e1 e2
    have hI := fun w => impl_IsTrail x y p q s t h m w
    rw [hb] at hI
    have hIH := Lib.hid hI
    clear hI hb
    go_enter Tryd.func7, Tryd.ntmps7
    go_wp2_with fail
    refine (hIH.out _).mono ?_
    rintro e w1 ⟨rfl, hb1⟩
    go_wp2_with fail
    go_returns
    exact ⟨rfl, by exact bgr⟩
  · have e1 : ttT x y p q s t h m = ttx x y p q s t h m := by unfold ttT; rw [hb]; rfl
    have e2 : ttC x y p q s t h m = 0 := by unfold ttC; rw [hb]; rfl
    rw [e1, e2]
    clear e1 e2
    have hI := fun w => impl_IsTrail x y p q s t h m w
    rw [hb] at hI
    have hIH := Lib.hid hI
    have hT := fun w h' => impl_trailText x y p q s t h m w hb h'
    have hTH := Lib.hid hT
    clear hI hT hb
    go_enter Tryd.func7, Tryd.ntmps7
    go_wp2_with fail
    refine (hIH.out _).mono ?_
    rintro e w1 ⟨rfl, hb1⟩
    have z1 := hb1.size
    have hs1 : w.heap.size < w1.heap.size := by (try simp at z1); omega
    have c0 := bx_keep hb1 (X := w.heap.size) (o := 0) (by exact bxc)
    have c1 := bx_keep hb1 (X := w.heap.size) (o := 1) (by exact bxc)
    have c2 := bx_keep hb1 (X := w.heap.size) (o := 2) (by exact bxc)
    have c3 := bx_keep hb1 (X := w.heap.size) (o := 3) (by exact bxc)
    have c4 := bx_keep hb1 (X := w.heap.size) (o := 4) (by exact bxc)
    have c5 := bx_keep hb1 (X := w.heap.size) (o := 5) (by exact bxc)
    have c6 := bx_keep hb1 (X := w.heap.size) (o := 6) (by exact bxc)
    have c7 := bx_keep hb1 (X := w.heap.size) (o := 7) (by exact bxc)
    simp only [List.getElem_toArray, List.getElem_cons_succ, List.getElem_cons_zero] at c0 c1 c2 c3 c4 c5 c6 c7
    have hB1 : Below w.heap.size w w1 := by exact bgr
    go_wp2_with fail
    refine (hTH.out _ (htH.out.up hB1)).mono ?_
    rintro e w2 ⟨rfl, hb2⟩
    go_wp2_with fail
    go_returns
    exact ⟨rfl, by exact bgr⟩
theorem bne_self (T : ByteArray) : (T != T) = false := by
  rcases T with ⟨d⟩
  show (!(d == d)) = false
  simp
set_option maxRecDepth 100000 in
theorem walk_TrailText (x y p q s t h m : Int) (w : World) (ht : Pow w) : Calls Tryd.prog 3 #[.agg #[.int .i64 x, .int .i64 y, .int .i64 p, .int .i64 q, .int .i64 s, .int .i64 t, .int .i64 h, .int .i64 m]] w fun e w' => e = .returned (.bool true) ∧ Below w.heap.size w w' := by
  have htH := Lib.hid ht
  obtain ⟨T, hT⟩ : ∃ T : ByteArray, T = mkT (ttT x y p q s t h m) := ⟨_, rfl⟩
  obtain ⟨C, hC⟩ : ∃ C, C = ttC x y p q s t h m := ⟨_, rfl⟩
  have hs := fun w => spec_TrailText x y p q s t h m w
  have hi := fun w h' => impl_TrailText x y p q s t h m w h'
  rw [← hT, ← hC] at hs hi
  have hsH := Lib.hid hs
  have hiH := Lib.hid hi
  clear ht hT hC hs hi
  have n1 : (T != T) = false := bne_self T
  have n2 : (C != C) = false := by simp
  go_enter Tryd.func3, Tryd.ntmps3
  go_wp2_with fail
  refine (laws_toTrail _ _ _ _ _ _ _ _ _).mono ?_
  rintro e w1 ⟨rfl, hb1⟩
  have B : Below w.heap.size w w1 := by exact bgr
  have bx : VBox w1 25 w.heap.size [.int .i64 x, .int .i64 y, .int .i64 p, .int .i64 q, .int .i64 s, .int .i64 t, .int .i64 h, .int .i64 m] := VBox.next (VBox.new (w := w) rfl) hb1
  clear hb1
  go_wp2_with fail
  refine (hsH.out _).mono ?_
  rintro e w2 ⟨rfl, hb2⟩
  have B : Below w.heap.size w w2 := B.trans (hb2.mono B.size)
  have bx := bx.next hb2
  have c0 := bx.cell (j := 0) rfl
  have c1 := bx.cell (j := 1) rfl
  have c2 := bx.cell (j := 2) rfl
  have c3 := bx.cell (j := 3) rfl
  have c4 := bx.cell (j := 4) rfl
  have c5 := bx.cell (j := 5) rfl
  have c6 := bx.cell (j := 6) rfl
  have c7 := bx.cell (j := 7) rfl
  clear hb2
  go_wp2_with fail
  refine (laws_toTrail _ _ _ _ _ _ _ _ _).mono ?_
  rintro e w3 ⟨rfl, hb3⟩
  have B : Below w.heap.size w w3 := B.trans (hb3.mono B.size)
  go_wp2_with fail
  refine (hiH.out _ (htH.out.up B)).mono ?_
  rintro e w4 ⟨rfl, hb4⟩
  have B : Below w.heap.size w w4 := B.trans (hb4.mono B.size)
  go_wp2_with fail
  go_returns
  exact ⟨rfl, B⟩
end Go.Proofs.YthbljfanoaibkaaDoor
