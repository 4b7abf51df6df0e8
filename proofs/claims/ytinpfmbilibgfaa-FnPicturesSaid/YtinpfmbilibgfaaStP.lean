/- StepPicture: contracts. -/
import Derived.Test.YtinpfmbilibgfaaStB
namespace Go.Proofs.Ytinpfmbilibgfaa
open Go.RowKit Go.ChangeShapes Go.WideShapes Go.ChangeAt
set_option linter.unusedVariables false
set_option linter.unusedSimpArgs false
set_option maxRecDepth 100000 in
set_option maxHeartbeats 1600000 in
theorem impl_StepPicture (A B : Option Addr) (c e : Nat) (ts : List Tr) (s d : Int) (cs : List (Int × Int)) (w : World) (hr : T64 w w.heap.size A ts) (hs : C64 w w.heap.size B cs) (hl : ts.length ≤ 1099511627776) (hm : cs.length ≤ 1099511627776) :
    Calls Try.prog 6 #[.agg #[.slice A ts.length c, .int .i64 s, .int .i64 d], .slice B cs.length e] w fun e w' => ∃ v, e = .returned (.tuple #[.agg #[v, .int .i64 (fStS ts s d cs), .int .i64 (fStD ts s d cs)], .int .i64 (spCode ts s d cs)]) ∧ OwnT w' w.heap.size w'.heap.size v (fStT ts s d cs) ∧ Below w.heap.size w w' := by
  obtain ⟨g, hg⟩ : ∃ g, g = pnCode ts s d cs := ⟨_, rfl⟩
  by_cases h0 : g = 0
  · have h1 : pnCode ts s d cs = 0 := by rw [← hg]; exact h0
    obtain ⟨hp, hc, h7⟩ := pn_ok h1
    obtain ⟨h6, hs0, hd0, hT⟩ := pc_facts hp
    by_cases h60 : s = 60
    · subst h60
      have e0 : spCode ts 60 d cs = 3 := by rw [spCode, if_pos h1]; rfl
      obtain ⟨e1, e2, e3⟩ := sp_bad (by rw [e0]; omega)
      rw [e0, e1, e2, e3]
      have h1H := Lib.hid h1
      clear e0 e1 e2 e3 hp hT hc h1 hg h0
      go_enter Try.func6, Try.ntmps6
      repeat' (first | fail | go_values | go_skip | go_guarded | go_step | go_upon | (simp only []; go_step) | (go_ite <;> go_prune <;> (try go_simp)))
      refine (impl_scanCode _ _ _ _ _ _ _ _ _ (hr.up (by exact bgr)) (hs.up (by exact bgr)) hl hm).mono ?_; rintro e w1 ⟨rfl, hbw1⟩; have hzw1 := hbw1.size; (try simp only [World.size_alloc, World.size_setCell, World.size_drew] at hzw1); have hs1 : w.heap.size < w1.heap.size := (by omega); have q1 := bx_id (w := w1) (X := w.heap.size) (o := 0) (by exact bxc); (try simp only [List.getElem_toArray, List.getElem_cons_succ, List.getElem_cons_zero] at q1); have q1 := bx_id (w := w1) (X := w.heap.size) (o := 1) (by exact bxc); (try simp only [List.getElem_toArray, List.getElem_cons_succ, List.getElem_cons_zero] at q1); have q1 := bx_id (w := w1) (X := w.heap.size) (o := 2) (by exact bxc); (try simp only [List.getElem_toArray, List.getElem_cons_succ, List.getElem_cons_zero] at q1); have z1 : ∀ o, w1.frozen? ⟨w.heap.size, o, none⟩ = false := (by exact bxm); have hs1 : w.heap.size + 1 < w1.heap.size := (by omega); have q1 := bx_id (w := w1) (X := w.heap.size + 1) (o := 0) (by exact bxc); (try simp only [List.getElem_toArray, List.getElem_cons_succ, List.getElem_cons_zero] at q1); have q1 := bx_id (w := w1) (X := w.heap.size + 1) (o := 1) (by exact bxc); (try simp only [List.getElem_toArray, List.getElem_cons_succ, List.getElem_cons_zero] at q1); have q1 := bx_id (w := w1) (X := w.heap.size + 1) (o := 2) (by exact bxc); (try simp only [List.getElem_toArray, List.getElem_cons_succ, List.getElem_cons_zero] at q1); have z1 : ∀ o, w1.frozen? ⟨w.heap.size + 1, o, none⟩ = false := (by exact bxm)
      rw [h1H.out]
      repeat' (first | fail | go_values | go_skip | go_guarded | go_step | go_upon | (simp only []; go_step) | (go_ite <;> go_prune <;> (try go_simp)))
      all_goals ((try simp only [Exit.inBlock, Exit.then]); refine bodyPost_ret (by simp [results, Try.results6, go_sem, *]; try rfl) rfl ?_)
      all_goals exact ⟨_, rfl, OwnS.nil _ _ _, by exact bgr⟩
    · have e0 : spCode ts s d cs = 0 := by simp [spCode, h1, h60]
      obtain ⟨e1, e2, e3⟩ := sp_good e0
      have hS := fun w' A' c' B' e' (hr' : T64 w' w'.heap.size A' ts) (hs' : C64 w' w'.heap.size B' cs) => impl_stepP A' B' c' e' ts s d cs w' hr' hs' h6 h7 hT hc hs0 hd0
      obtain ⟨D, hD⟩ : ∃ D, D = stD ts d cs := ⟨_, rfl⟩
      rw [← hD] at hS
      rw [e0, e1, e2, e3, ← hD]
      have h1H := Lib.hid h1
      have hSH := Lib.hid hS
      have n60 : (s == 60) = false := by simp [h60]
      clear e0 e1 e2 e3 hp hT hc h1 hg h0 hS hD
      go_enter Try.func6, Try.ntmps6
      repeat' (first | fail | go_values | go_skip | go_guarded | go_step | go_upon | (simp only []; go_step) | (go_ite <;> go_prune <;> (try go_simp)))
      refine (impl_scanCode _ _ _ _ _ _ _ _ _ (hr.up (by exact bgr)) (hs.up (by exact bgr)) hl hm).mono ?_; rintro e w1 ⟨rfl, hbw1⟩; have hzw1 := hbw1.size; (try simp only [World.size_alloc, World.size_setCell, World.size_drew] at hzw1); have hs1 : w.heap.size < w1.heap.size := (by omega); have q1 := bx_id (w := w1) (X := w.heap.size) (o := 0) (by exact bxc); (try simp only [List.getElem_toArray, List.getElem_cons_succ, List.getElem_cons_zero] at q1); have q1 := bx_id (w := w1) (X := w.heap.size) (o := 1) (by exact bxc); (try simp only [List.getElem_toArray, List.getElem_cons_succ, List.getElem_cons_zero] at q1); have q1 := bx_id (w := w1) (X := w.heap.size) (o := 2) (by exact bxc); (try simp only [List.getElem_toArray, List.getElem_cons_succ, List.getElem_cons_zero] at q1); have z1 : ∀ o, w1.frozen? ⟨w.heap.size, o, none⟩ = false := (by exact bxm); have hs1 : w.heap.size + 1 < w1.heap.size := (by omega); have q1 := bx_id (w := w1) (X := w.heap.size + 1) (o := 0) (by exact bxc); (try simp only [List.getElem_toArray, List.getElem_cons_succ, List.getElem_cons_zero] at q1); have q1 := bx_id (w := w1) (X := w.heap.size + 1) (o := 1) (by exact bxc); (try simp only [List.getElem_toArray, List.getElem_cons_succ, List.getElem_cons_zero] at q1); have q1 := bx_id (w := w1) (X := w.heap.size + 1) (o := 2) (by exact bxc); (try simp only [List.getElem_toArray, List.getElem_cons_succ, List.getElem_cons_zero] at q1); have z1 : ∀ o, w1.frozen? ⟨w.heap.size + 1, o, none⟩ = false := (by exact bxm)
      rw [h1H.out]
      repeat' (first | fail | go_values | go_skip | go_guarded | go_step | go_upon | (simp only []; go_step) | (go_ite <;> go_prune <;> (try go_simp)))
      refine (hSH.out _ _ _ _ _ (hr.up (by exact bgr)) (hs.up (by exact bgr))).mono ?_; rintro e w2 ⟨v2, rfl, o2, hbw2⟩; have hzw2 := hbw2.size; (try simp only [World.size_alloc, World.size_setCell, World.size_drew] at hzw2); have hs1 : w.heap.size < w2.heap.size := (by omega); have q1 := bx_id (w := w2) (X := w.heap.size) (o := 0) (by exact bxc); (try simp only [List.getElem_toArray, List.getElem_cons_succ, List.getElem_cons_zero] at q1); have q1 := bx_id (w := w2) (X := w.heap.size) (o := 1) (by exact bxc); (try simp only [List.getElem_toArray, List.getElem_cons_succ, List.getElem_cons_zero] at q1); have q1 := bx_id (w := w2) (X := w.heap.size) (o := 2) (by exact bxc); (try simp only [List.getElem_toArray, List.getElem_cons_succ, List.getElem_cons_zero] at q1); have z1 : ∀ o, w2.frozen? ⟨w.heap.size, o, none⟩ = false := (by exact bxm); have hs1 : w.heap.size + 1 < w2.heap.size := (by omega); have q1 := bx_id (w := w2) (X := w.heap.size + 1) (o := 0) (by exact bxc); (try simp only [List.getElem_toArray, List.getElem_cons_succ, List.getElem_cons_zero] at q1); have q1 := bx_id (w := w2) (X := w.heap.size + 1) (o := 1) (by exact bxc); (try simp only [List.getElem_toArray, List.getElem_cons_succ, List.getElem_cons_zero] at q1); have q1 := bx_id (w := w2) (X := w.heap.size + 1) (o := 2) (by exact bxc); (try simp only [List.getElem_toArray, List.getElem_cons_succ, List.getElem_cons_zero] at q1); have z1 : ∀ o, w2.frozen? ⟨w.heap.size + 1, o, none⟩ = false := (by exact bxm)
      obtain ⟨A2, c2, rfl⟩ := OwnS.form o2
      have B2 : Below w.heap.size w w2 := by exact bgr
      have z2 : w.heap.size ≤ w1.heap.size := by have := hbw1.size; simp only [World.size_alloc] at *; omega
      repeat' (first | fail | go_values | go_skip | go_guarded | go_step | go_upon | (simp only []; go_step) | (go_ite <;> go_prune <;> (try go_simp)))
      all_goals ((try simp only [Exit.inBlock, Exit.then]); refine bodyPost_ret (by simp [results, Try.results6, go_sem, *]; try rfl) rfl ?_)
      all_goals exact ⟨_, rfl, OwnS.mono (OwnS.top (OwnS.off1 (OwnS.off1 (OwnS.off1 o2 (by omega)) (by omega)) (by omega))) (by first | omega | (simp only [World.size_alloc] at *; omega)) (Nat.le_refl _), by exact bgr⟩
  · have e0 : spCode ts s d cs = g := by simp [spCode, ← hg, h0]
    obtain ⟨e1, e2, e3⟩ := sp_bad (by rw [e0]; exact h0)
    rw [e0, e1, e2, e3]
    have hgH := Lib.hid hg
    have h0' : (g != 0) = true := by simp [h0]
    clear e0 e1 e2 e3 hg
    go_enter Try.func6, Try.ntmps6
    repeat' (first | fail | go_values | go_skip | go_guarded | go_step | go_upon | (simp only []; go_step) | (go_ite <;> go_prune <;> (try go_simp)))
    refine (impl_scanCode _ _ _ _ _ _ _ _ _ (hr.up (by exact bgr)) (hs.up (by exact bgr)) hl hm).mono ?_; rintro e w1 ⟨rfl, hbw1⟩; have hzw1 := hbw1.size; (try simp only [World.size_alloc, World.size_setCell, World.size_drew] at hzw1); have hs1 : w.heap.size < w1.heap.size := (by omega); have q1 := bx_id (w := w1) (X := w.heap.size) (o := 0) (by exact bxc); (try simp only [List.getElem_toArray, List.getElem_cons_succ, List.getElem_cons_zero] at q1); have q1 := bx_id (w := w1) (X := w.heap.size) (o := 1) (by exact bxc); (try simp only [List.getElem_toArray, List.getElem_cons_succ, List.getElem_cons_zero] at q1); have q1 := bx_id (w := w1) (X := w.heap.size) (o := 2) (by exact bxc); (try simp only [List.getElem_toArray, List.getElem_cons_succ, List.getElem_cons_zero] at q1); have z1 : ∀ o, w1.frozen? ⟨w.heap.size, o, none⟩ = false := (by exact bxm); have hs1 : w.heap.size + 1 < w1.heap.size := (by omega); have q1 := bx_id (w := w1) (X := w.heap.size + 1) (o := 0) (by exact bxc); (try simp only [List.getElem_toArray, List.getElem_cons_succ, List.getElem_cons_zero] at q1); have q1 := bx_id (w := w1) (X := w.heap.size + 1) (o := 1) (by exact bxc); (try simp only [List.getElem_toArray, List.getElem_cons_succ, List.getElem_cons_zero] at q1); have q1 := bx_id (w := w1) (X := w.heap.size + 1) (o := 2) (by exact bxc); (try simp only [List.getElem_toArray, List.getElem_cons_succ, List.getElem_cons_zero] at q1); have z1 : ∀ o, w1.frozen? ⟨w.heap.size + 1, o, none⟩ = false := (by exact bxm)
    rw [← hgH.out]
    repeat' (first | fail | go_values | go_skip | go_guarded | go_step | go_upon | (simp only []; go_step) | (go_ite <;> go_prune <;> (try go_simp)))
    all_goals ((try simp only [Exit.inBlock, Exit.then]); refine bodyPost_ret (by simp [results, Try.results6, go_sem, *]; try rfl) rfl ?_)
    all_goals exact ⟨_, rfl, OwnS.nil _ _ _, by exact bgr⟩
set_option maxRecDepth 100000 in
set_option maxHeartbeats 1600000 in
theorem spec_StepPicture (A B : Option Addr) (c e : Nat) (ts : List Tr) (s d : Int) (cs : List (Int × Int)) (w : World) (hr : T64 w w.heap.size A ts) (hs : C64 w w.heap.size B cs) (hl : ts.length ≤ 1099511627776) (hm : cs.length ≤ 1099511627776) :
    Calls Try.prog 7 #[.agg #[.slice A ts.length c, .int .i64 s, .int .i64 d], .slice B cs.length e] w fun e w' => ∃ v, e = .returned (.tuple #[.agg #[v, .int .i64 (fStS ts s d cs), .int .i64 (fStD ts s d cs)], .int .i64 (spCode ts s d cs)]) ∧ OwnT w' w.heap.size w'.heap.size v (fStT ts s d cs) ∧ Below w.heap.size w w' := by
  obtain ⟨g, hg⟩ : ∃ g, g = pnCode ts s d cs := ⟨_, rfl⟩
  by_cases h0 : g = 0
  · have h1 : pnCode ts s d cs = 0 := by rw [← hg]; exact h0
    obtain ⟨hp, hc, h7⟩ := pn_ok h1
    obtain ⟨h6, hs0, hd0, hT⟩ := pc_facts hp
    by_cases h60 : s = 60
    · subst h60
      have e0 : spCode ts 60 d cs = 3 := by rw [spCode, if_pos h1]; rfl
      obtain ⟨e1, e2, e3⟩ := sp_bad (by rw [e0]; omega)
      rw [e0, e1, e2, e3]
      have h1H := Lib.hid h1
      clear e0 e1 e2 e3 hp hT hc h1 hg h0
      go_enter Try.func7, Try.ntmps7
      repeat' (first | fail | go_values | go_skip | go_guarded | go_step | go_upon | (simp only []; go_step) | (go_ite <;> go_prune <;> (try go_simp)))
      refine (spec_l17Code _ _ _ _ _ _ _ _ _ (hr.up (by exact bgr)) (hs.up (by exact bgr)) hl hm).mono ?_; rintro e w1 ⟨rfl, hbw1⟩; have hzw1 := hbw1.size; (try simp only [World.size_alloc, World.size_setCell, World.size_drew] at hzw1); have hs1 : w.heap.size < w1.heap.size := (by omega); have q1 := bx_id (w := w1) (X := w.heap.size) (o := 0) (by exact bxc); (try simp only [List.getElem_toArray, List.getElem_cons_succ, List.getElem_cons_zero] at q1); have q1 := bx_id (w := w1) (X := w.heap.size) (o := 1) (by exact bxc); (try simp only [List.getElem_toArray, List.getElem_cons_succ, List.getElem_cons_zero] at q1); have q1 := bx_id (w := w1) (X := w.heap.size) (o := 2) (by exact bxc); (try simp only [List.getElem_toArray, List.getElem_cons_succ, List.getElem_cons_zero] at q1); have z1 : ∀ o, w1.frozen? ⟨w.heap.size, o, none⟩ = false := (by exact bxm); have hs1 : w.heap.size + 1 < w1.heap.size := (by omega); have q1 := bx_id (w := w1) (X := w.heap.size + 1) (o := 0) (by exact bxc); (try simp only [List.getElem_toArray, List.getElem_cons_succ, List.getElem_cons_zero] at q1); have q1 := bx_id (w := w1) (X := w.heap.size + 1) (o := 1) (by exact bxc); (try simp only [List.getElem_toArray, List.getElem_cons_succ, List.getElem_cons_zero] at q1); have q1 := bx_id (w := w1) (X := w.heap.size + 1) (o := 2) (by exact bxc); (try simp only [List.getElem_toArray, List.getElem_cons_succ, List.getElem_cons_zero] at q1); have z1 : ∀ o, w1.frozen? ⟨w.heap.size + 1, o, none⟩ = false := (by exact bxm)
      rw [h1H.out]
      repeat' (first | fail | go_values | go_skip | go_guarded | go_step | go_upon | (simp only []; go_step) | (go_ite <;> go_prune <;> (try go_simp)))
      all_goals ((try simp only [Exit.inBlock, Exit.then]); refine bodyPost_ret (by simp [results, Try.results7, go_sem, *]; try rfl) rfl ?_)
      all_goals exact ⟨_, rfl, OwnS.nil _ _ _, by exact bgr⟩
    · have e0 : spCode ts s d cs = 0 := by simp [spCode, h1, h60]
      obtain ⟨e1, e2, e3⟩ := sp_good e0
      have hS := fun w' A' c' B' e' (hr' : T64 w' w'.heap.size A' ts) (hs' : C64 w' w'.heap.size B' cs) => spec_l17Step A' B' c' e' ts s d cs w' hr' hs' h6 h7 hT hc hs0 hd0
      obtain ⟨D, hD⟩ : ∃ D, D = stD ts d cs := ⟨_, rfl⟩
      rw [← hD] at hS
      rw [e0, e1, e2, e3, ← hD]
      have h1H := Lib.hid h1
      have hSH := Lib.hid hS
      have n60 : (s == 60) = false := by simp [h60]
      clear e0 e1 e2 e3 hp hT hc h1 hg h0 hS hD
      go_enter Try.func7, Try.ntmps7
      repeat' (first | fail | go_values | go_skip | go_guarded | go_step | go_upon | (simp only []; go_step) | (go_ite <;> go_prune <;> (try go_simp)))
      refine (spec_l17Code _ _ _ _ _ _ _ _ _ (hr.up (by exact bgr)) (hs.up (by exact bgr)) hl hm).mono ?_; rintro e w1 ⟨rfl, hbw1⟩; have hzw1 := hbw1.size; (try simp only [World.size_alloc, World.size_setCell, World.size_drew] at hzw1); have hs1 : w.heap.size < w1.heap.size := (by omega); have q1 := bx_id (w := w1) (X := w.heap.size) (o := 0) (by exact bxc); (try simp only [List.getElem_toArray, List.getElem_cons_succ, List.getElem_cons_zero] at q1); have q1 := bx_id (w := w1) (X := w.heap.size) (o := 1) (by exact bxc); (try simp only [List.getElem_toArray, List.getElem_cons_succ, List.getElem_cons_zero] at q1); have q1 := bx_id (w := w1) (X := w.heap.size) (o := 2) (by exact bxc); (try simp only [List.getElem_toArray, List.getElem_cons_succ, List.getElem_cons_zero] at q1); have z1 : ∀ o, w1.frozen? ⟨w.heap.size, o, none⟩ = false := (by exact bxm); have hs1 : w.heap.size + 1 < w1.heap.size := (by omega); have q1 := bx_id (w := w1) (X := w.heap.size + 1) (o := 0) (by exact bxc); (try simp only [List.getElem_toArray, List.getElem_cons_succ, List.getElem_cons_zero] at q1); have q1 := bx_id (w := w1) (X := w.heap.size + 1) (o := 1) (by exact bxc); (try simp only [List.getElem_toArray, List.getElem_cons_succ, List.getElem_cons_zero] at q1); have q1 := bx_id (w := w1) (X := w.heap.size + 1) (o := 2) (by exact bxc); (try simp only [List.getElem_toArray, List.getElem_cons_succ, List.getElem_cons_zero] at q1); have z1 : ∀ o, w1.frozen? ⟨w.heap.size + 1, o, none⟩ = false := (by exact bxm)
      rw [h1H.out]
      repeat' (first | fail | go_values | go_skip | go_guarded | go_step | go_upon | (simp only []; go_step) | (go_ite <;> go_prune <;> (try go_simp)))
      refine (hSH.out _ _ _ _ _ (hr.up (by exact bgr)) (hs.up (by exact bgr))).mono ?_; rintro e w2 ⟨v2, rfl, o2, hbw2⟩; have hzw2 := hbw2.size; (try simp only [World.size_alloc, World.size_setCell, World.size_drew] at hzw2); have hs1 : w.heap.size < w2.heap.size := (by omega); have q1 := bx_id (w := w2) (X := w.heap.size) (o := 0) (by exact bxc); (try simp only [List.getElem_toArray, List.getElem_cons_succ, List.getElem_cons_zero] at q1); have q1 := bx_id (w := w2) (X := w.heap.size) (o := 1) (by exact bxc); (try simp only [List.getElem_toArray, List.getElem_cons_succ, List.getElem_cons_zero] at q1); have q1 := bx_id (w := w2) (X := w.heap.size) (o := 2) (by exact bxc); (try simp only [List.getElem_toArray, List.getElem_cons_succ, List.getElem_cons_zero] at q1); have z1 : ∀ o, w2.frozen? ⟨w.heap.size, o, none⟩ = false := (by exact bxm); have hs1 : w.heap.size + 1 < w2.heap.size := (by omega); have q1 := bx_id (w := w2) (X := w.heap.size + 1) (o := 0) (by exact bxc); (try simp only [List.getElem_toArray, List.getElem_cons_succ, List.getElem_cons_zero] at q1); have q1 := bx_id (w := w2) (X := w.heap.size + 1) (o := 1) (by exact bxc); (try simp only [List.getElem_toArray, List.getElem_cons_succ, List.getElem_cons_zero] at q1); have q1 := bx_id (w := w2) (X := w.heap.size + 1) (o := 2) (by exact bxc); (try simp only [List.getElem_toArray, List.getElem_cons_succ, List.getElem_cons_zero] at q1); have z1 : ∀ o, w2.frozen? ⟨w.heap.size + 1, o, none⟩ = false := (by exact bxm)
      obtain ⟨A2, c2, rfl⟩ := OwnS.form o2
      have B2 : Below w.heap.size w w2 := by exact bgr
      have z2 : w.heap.size ≤ w1.heap.size := by have := hbw1.size; simp only [World.size_alloc] at *; omega
      repeat' (first | fail | go_values | go_skip | go_guarded | go_step | go_upon | (simp only []; go_step) | (go_ite <;> go_prune <;> (try go_simp)))
      all_goals ((try simp only [Exit.inBlock, Exit.then]); refine bodyPost_ret (by simp [results, Try.results7, go_sem, *]; try rfl) rfl ?_)
      all_goals exact ⟨_, rfl, OwnS.mono (OwnS.top (OwnS.off1 (OwnS.off1 (OwnS.off1 o2 (by omega)) (by omega)) (by omega))) (by first | omega | (simp only [World.size_alloc] at *; omega)) (Nat.le_refl _), by exact bgr⟩
  · have e0 : spCode ts s d cs = g := by simp [spCode, ← hg, h0]
    obtain ⟨e1, e2, e3⟩ := sp_bad (by rw [e0]; exact h0)
    rw [e0, e1, e2, e3]
    have hgH := Lib.hid hg
    have h0' : (g != 0) = true := by simp [h0]
    clear e0 e1 e2 e3 hg
    go_enter Try.func7, Try.ntmps7
    repeat' (first | fail | go_values | go_skip | go_guarded | go_step | go_upon | (simp only []; go_step) | (go_ite <;> go_prune <;> (try go_simp)))
    refine (spec_l17Code _ _ _ _ _ _ _ _ _ (hr.up (by exact bgr)) (hs.up (by exact bgr)) hl hm).mono ?_; rintro e w1 ⟨rfl, hbw1⟩; have hzw1 := hbw1.size; (try simp only [World.size_alloc, World.size_setCell, World.size_drew] at hzw1); have hs1 : w.heap.size < w1.heap.size := (by omega); have q1 := bx_id (w := w1) (X := w.heap.size) (o := 0) (by exact bxc); (try simp only [List.getElem_toArray, List.getElem_cons_succ, List.getElem_cons_zero] at q1); have q1 := bx_id (w := w1) (X := w.heap.size) (o := 1) (by exact bxc); (try simp only [List.getElem_toArray, List.getElem_cons_succ, List.getElem_cons_zero] at q1); have q1 := bx_id (w := w1) (X := w.heap.size) (o := 2) (by exact bxc); (try simp only [List.getElem_toArray, List.getElem_cons_succ, List.getElem_cons_zero] at q1); have z1 : ∀ o, w1.frozen? ⟨w.heap.size, o, none⟩ = false := (by exact bxm); have hs1 : w.heap.size + 1 < w1.heap.size := (by omega); have q1 := bx_id (w := w1) (X := w.heap.size + 1) (o := 0) (by exact bxc); (try simp only [List.getElem_toArray, List.getElem_cons_succ, List.getElem_cons_zero] at q1); have q1 := bx_id (w := w1) (X := w.heap.size + 1) (o := 1) (by exact bxc); (try simp only [List.getElem_toArray, List.getElem_cons_succ, List.getElem_cons_zero] at q1); have q1 := bx_id (w := w1) (X := w.heap.size + 1) (o := 2) (by exact bxc); (try simp only [List.getElem_toArray, List.getElem_cons_succ, List.getElem_cons_zero] at q1); have z1 : ∀ o, w1.frozen? ⟨w.heap.size + 1, o, none⟩ = false := (by exact bxm)
    rw [← hgH.out]
    repeat' (first | fail | go_values | go_skip | go_guarded | go_step | go_upon | (simp only []; go_step) | (go_ite <;> go_prune <;> (try go_simp)))
    all_goals ((try simp only [Exit.inBlock, Exit.then]); refine bodyPost_ret (by simp [results, Try.results7, go_sem, *]; try rfl) rfl ?_)
    all_goals exact ⟨_, rfl, OwnS.nil _ _ _, by exact bgr⟩
end Go.Proofs.Ytinpfmbilibgfaa
