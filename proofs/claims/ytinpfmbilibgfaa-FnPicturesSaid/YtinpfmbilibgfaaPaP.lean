/- PairsIn: contracts. -/
import Derived.Test.YtinpfmbilibgfaaPaE
namespace Go.Proofs.Ytinpfmbilibgfaa
open Go.RowKit Go.ChangeShapes Go.WideShapes Go.ChangeAt
set_option linter.unusedVariables false
set_option linter.unusedSimpArgs false
set_option maxRecDepth 100000 in
set_option maxHeartbeats 1600000 in
theorem impl_PairsIn (A B : Option Addr) (c e : Nat) (ts : List Tr) (s d : Int) (cs : List (Int × Int)) (w : World) (hr : T64 w w.heap.size A ts) (hs : C64 w w.heap.size B cs) (hl : ts.length ≤ 1099511627776) (hm : cs.length ≤ 1099511627776) :
    Calls Try.prog 8 #[.agg #[.slice A ts.length c, .int .i64 s, .int .i64 d], .slice B cs.length e] w fun e w' => ∃ v, e = .returned (.tuple #[v, .int .i64 (pnCode ts s d cs)]) ∧ OwnI w' w.heap.size v (fPn ts s d cs) ∧ Below w.heap.size w w' := by
  obtain ⟨g, hg⟩ : ∃ g, g = pnCode ts s d cs := ⟨_, rfl⟩
  by_cases h0 : g = 0
  · have h1 : pnCode ts s d cs = 0 := by rw [← hg]; exact h0
    obtain ⟨hp, hc, h7⟩ := pn_ok h1
    obtain ⟨h6, _, _, hT⟩ := pc_facts hp
    have e1 : fPn ts s d cs = fPs (mvs ts) cs := by simp [fPn, h1]
    rw [e1, h1]
    have hml : Hid ((mvs ts).length = ts.length) := mvs_len
    have h8 : (mvs ts).length ≤ 6 := by rw [mvs_len]; exact h6
    have hTH := Lib.hid hT
    have hcH := Lib.hid hc
    have h1H := Lib.hid h1
    clear e1 hp hT hc h1 hg h0
    go_enter Try.func8, Try.ntmps8
    repeat' (first | fail | go_values | go_skip | go_guarded | go_step | go_upon | (simp only []; go_step) | (go_ite <;> go_prune <;> (try go_simp)))
    refine (impl_scanCode _ _ _ _ _ _ _ _ _ (hr.up (by exact bgr)) (hs.up (by exact bgr)) hl hm).mono ?_; rintro e w1 ⟨rfl, hbw1⟩; have hzw1 := hbw1.size; (try simp only [World.size_alloc, World.size_setCell, World.size_drew] at hzw1); have hs1 : w.heap.size < w1.heap.size := (by omega); have q1 := bx_id (w := w1) (X := w.heap.size) (o := 0) (by exact bxc); (try simp only [List.getElem_toArray, List.getElem_cons_succ, List.getElem_cons_zero] at q1); have q1 := bx_id (w := w1) (X := w.heap.size) (o := 1) (by exact bxc); (try simp only [List.getElem_toArray, List.getElem_cons_succ, List.getElem_cons_zero] at q1); have q1 := bx_id (w := w1) (X := w.heap.size) (o := 2) (by exact bxc); (try simp only [List.getElem_toArray, List.getElem_cons_succ, List.getElem_cons_zero] at q1); have z1 : ∀ o, w1.frozen? ⟨w.heap.size, o, none⟩ = false := (by exact bxm)
    rw [h1H.out]
    repeat' (first | fail | go_values | go_skip | go_guarded | go_step | go_upon | (simp only []; go_step) | (go_ite <;> go_prune <;> (try go_simp)))
    refine (impl_movedP _ _ _ _ _ _ (hr.up (by exact bgr)) h6 hTH.out).mono ?_; rintro e w2 ⟨v2, rfl, o2, hbw2⟩; have hzw2 := hbw2.size; (try simp only [World.size_alloc, World.size_setCell, World.size_drew] at hzw2); have hs1 : w.heap.size < w2.heap.size := (by omega); have q1 := bx_id (w := w2) (X := w.heap.size) (o := 0) (by exact bxc); (try simp only [List.getElem_toArray, List.getElem_cons_succ, List.getElem_cons_zero] at q1); have q1 := bx_id (w := w2) (X := w.heap.size) (o := 1) (by exact bxc); (try simp only [List.getElem_toArray, List.getElem_cons_succ, List.getElem_cons_zero] at q1); have q1 := bx_id (w := w2) (X := w.heap.size) (o := 2) (by exact bxc); (try simp only [List.getElem_toArray, List.getElem_cons_succ, List.getElem_cons_zero] at q1); have z1 : ∀ o, w2.frozen? ⟨w.heap.size, o, none⟩ = false := (by exact bxm)
    obtain ⟨A2, c2, rfl⟩ := OwnS.form o2
    repeat' (first | fail | go_values | go_skip | go_guarded | go_step | go_upon | (simp only []; go_step) | (go_ite <;> go_prune <;> (try go_simp)))
    refine (impl_pairsIn _ _ _ _ _ _ _ (OwnS.rdT o2) (hs.up (by exact bgr)) h8 h7 (fun k T h => mvs_get h hTH.out) hcH.out).mono ?_; rintro e w3 ⟨v3, rfl, o3, hbw3⟩; have hzw3 := hbw3.size; (try simp only [World.size_alloc, World.size_setCell, World.size_drew] at hzw3); have hs1 : w.heap.size < w3.heap.size := (by omega); have q1 := bx_id (w := w3) (X := w.heap.size) (o := 0) (by exact bxc); (try simp only [List.getElem_toArray, List.getElem_cons_succ, List.getElem_cons_zero] at q1); have q1 := bx_id (w := w3) (X := w.heap.size) (o := 1) (by exact bxc); (try simp only [List.getElem_toArray, List.getElem_cons_succ, List.getElem_cons_zero] at q1); have q1 := bx_id (w := w3) (X := w.heap.size) (o := 2) (by exact bxc); (try simp only [List.getElem_toArray, List.getElem_cons_succ, List.getElem_cons_zero] at q1); have z1 : ∀ o, w3.frozen? ⟨w.heap.size, o, none⟩ = false := (by exact bxm)
    obtain ⟨A3, c3, rfl, _⟩ := id o3
    have B3 : Below w.heap.size w w3 := by exact bgr
    have hz3 := hbw2.size
    repeat' (first | fail | go_values | go_skip | go_guarded | go_step | go_upon | (simp only []; go_step) | (go_ite <;> go_prune <;> (try go_simp)))
    all_goals go_returns
    all_goals exact ⟨_, rfl, OwnI.mono o3 (by first | omega | (have := hbw2.size; simp only [World.size_alloc] at *; omega)), B3⟩
  · have e1 : fPn ts s d cs = [] := by simp [fPn, ← hg, h0]
    rw [e1, ← hg]
    have hgH := Lib.hid hg
    have h0' : (g != 0) = true := by simp [h0]
    clear e1 hg
    go_enter Try.func8, Try.ntmps8
    repeat' (first | fail | go_values | go_skip | go_guarded | go_step | go_upon | (simp only []; go_step) | (go_ite <;> go_prune <;> (try go_simp)))
    refine (impl_scanCode _ _ _ _ _ _ _ _ _ (hr.up (by exact bgr)) (hs.up (by exact bgr)) hl hm).mono ?_; rintro e w1 ⟨rfl, hbw1⟩; have hzw1 := hbw1.size; (try simp only [World.size_alloc, World.size_setCell, World.size_drew] at hzw1); have hs1 : w.heap.size < w1.heap.size := (by omega); have q1 := bx_id (w := w1) (X := w.heap.size) (o := 0) (by exact bxc); (try simp only [List.getElem_toArray, List.getElem_cons_succ, List.getElem_cons_zero] at q1); have q1 := bx_id (w := w1) (X := w.heap.size) (o := 1) (by exact bxc); (try simp only [List.getElem_toArray, List.getElem_cons_succ, List.getElem_cons_zero] at q1); have q1 := bx_id (w := w1) (X := w.heap.size) (o := 2) (by exact bxc); (try simp only [List.getElem_toArray, List.getElem_cons_succ, List.getElem_cons_zero] at q1); have z1 : ∀ o, w1.frozen? ⟨w.heap.size, o, none⟩ = false := (by exact bxm)
    rw [← hgH.out]
    repeat' (first | fail | go_values | go_skip | go_guarded | go_step | go_upon | (simp only []; go_step) | (go_ite <;> go_prune <;> (try go_simp)))
    all_goals go_returns
    all_goals exact ⟨_, rfl, OwnI.nil _ _, by exact bgr⟩
set_option maxRecDepth 100000 in
set_option maxHeartbeats 1600000 in
theorem spec_PairsIn (A B : Option Addr) (c e : Nat) (ts : List Tr) (s d : Int) (cs : List (Int × Int)) (w : World) (hr : T64 w w.heap.size A ts) (hs : C64 w w.heap.size B cs) (hl : ts.length ≤ 1099511627776) (hm : cs.length ≤ 1099511627776) :
    Calls Try.prog 9 #[.agg #[.slice A ts.length c, .int .i64 s, .int .i64 d], .slice B cs.length e] w fun e w' => ∃ v, e = .returned (.tuple #[v, .int .i64 (pnCode ts s d cs)]) ∧ OwnI w' w.heap.size v (fPn ts s d cs) ∧ Below w.heap.size w w' := by
  obtain ⟨g, hg⟩ : ∃ g, g = pnCode ts s d cs := ⟨_, rfl⟩
  by_cases h0 : g = 0
  · have h1 : pnCode ts s d cs = 0 := by rw [← hg]; exact h0
    obtain ⟨hp, hc, h7⟩ := pn_ok h1
    obtain ⟨h6, _, _, hT⟩ := pc_facts hp
    have e1 : fPn ts s d cs = fPs (mvs ts) cs := by simp [fPn, h1]
    rw [e1, h1]
    have hTH := Lib.hid hT
    have hcH := Lib.hid hc
    have h1H := Lib.hid h1
    clear e1 hp hT hc h1 hg h0
    go_enter Try.func9, Try.ntmps9
    repeat' (first | fail | go_values | go_skip | go_guarded | go_step | go_upon | (simp only []; go_step) | (go_ite <;> go_prune <;> (try go_simp)))
    refine (spec_l17Code _ _ _ _ _ _ _ _ _ (hr.up (by exact bgr)) (hs.up (by exact bgr)) hl hm).mono ?_; rintro e w1 ⟨rfl, hbw1⟩; have hzw1 := hbw1.size; (try simp only [World.size_alloc, World.size_setCell, World.size_drew] at hzw1); have hs1 : w.heap.size < w1.heap.size := (by omega); have q1 := bx_id (w := w1) (X := w.heap.size) (o := 0) (by exact bxc); (try simp only [List.getElem_toArray, List.getElem_cons_succ, List.getElem_cons_zero] at q1); have q1 := bx_id (w := w1) (X := w.heap.size) (o := 1) (by exact bxc); (try simp only [List.getElem_toArray, List.getElem_cons_succ, List.getElem_cons_zero] at q1); have q1 := bx_id (w := w1) (X := w.heap.size) (o := 2) (by exact bxc); (try simp only [List.getElem_toArray, List.getElem_cons_succ, List.getElem_cons_zero] at q1); have z1 : ∀ o, w1.frozen? ⟨w.heap.size, o, none⟩ = false := (by exact bxm)
    rw [h1H.out]
    repeat' (first | fail | go_values | go_skip | go_guarded | go_step | go_upon | (simp only []; go_step) | (go_ite <;> go_prune <;> (try go_simp)))
    refine (spec_l17Pairs _ _ _ _ _ _ _ _ _ (hr.up (by exact bgr)) (hs.up (by exact bgr)) h6 h7 hTH.out hcH.out).mono ?_; rintro e w3 ⟨v3, rfl, o3, hbw3⟩; have hzw3 := hbw3.size; (try simp only [World.size_alloc, World.size_setCell, World.size_drew] at hzw3); have hs1 : w.heap.size < w3.heap.size := (by omega); have q1 := bx_id (w := w3) (X := w.heap.size) (o := 0) (by exact bxc); (try simp only [List.getElem_toArray, List.getElem_cons_succ, List.getElem_cons_zero] at q1); have q1 := bx_id (w := w3) (X := w.heap.size) (o := 1) (by exact bxc); (try simp only [List.getElem_toArray, List.getElem_cons_succ, List.getElem_cons_zero] at q1); have q1 := bx_id (w := w3) (X := w.heap.size) (o := 2) (by exact bxc); (try simp only [List.getElem_toArray, List.getElem_cons_succ, List.getElem_cons_zero] at q1); have z1 : ∀ o, w3.frozen? ⟨w.heap.size, o, none⟩ = false := (by exact bxm)
    obtain ⟨A3, c3, rfl, _⟩ := id o3
    have B3 : Below w.heap.size w w3 := by exact bgr
    repeat' (first | fail | go_values | go_skip | go_guarded | go_step | go_upon | (simp only []; go_step) | (go_ite <;> go_prune <;> (try go_simp)))
    all_goals go_returns
    all_goals exact ⟨_, rfl, OwnI.mono o3 (by omega), B3⟩
  · have e1 : fPn ts s d cs = [] := by simp [fPn, ← hg, h0]
    rw [e1, ← hg]
    have hgH := Lib.hid hg
    have h0' : (g != 0) = true := by simp [h0]
    clear e1 hg
    go_enter Try.func9, Try.ntmps9
    repeat' (first | fail | go_values | go_skip | go_guarded | go_step | go_upon | (simp only []; go_step) | (go_ite <;> go_prune <;> (try go_simp)))
    refine (spec_l17Code _ _ _ _ _ _ _ _ _ (hr.up (by exact bgr)) (hs.up (by exact bgr)) hl hm).mono ?_; rintro e w1 ⟨rfl, hbw1⟩; have hzw1 := hbw1.size; (try simp only [World.size_alloc, World.size_setCell, World.size_drew] at hzw1); have hs1 : w.heap.size < w1.heap.size := (by omega); have q1 := bx_id (w := w1) (X := w.heap.size) (o := 0) (by exact bxc); (try simp only [List.getElem_toArray, List.getElem_cons_succ, List.getElem_cons_zero] at q1); have q1 := bx_id (w := w1) (X := w.heap.size) (o := 1) (by exact bxc); (try simp only [List.getElem_toArray, List.getElem_cons_succ, List.getElem_cons_zero] at q1); have q1 := bx_id (w := w1) (X := w.heap.size) (o := 2) (by exact bxc); (try simp only [List.getElem_toArray, List.getElem_cons_succ, List.getElem_cons_zero] at q1); have z1 : ∀ o, w1.frozen? ⟨w.heap.size, o, none⟩ = false := (by exact bxm)
    rw [← hgH.out]
    repeat' (first | fail | go_values | go_skip | go_guarded | go_step | go_upon | (simp only []; go_step) | (go_ite <;> go_prune <;> (try go_simp)))
    all_goals go_returns
    all_goals exact ⟨_, rfl, OwnI.nil _ _, by exact bgr⟩
end Go.Proofs.Ytinpfmbilibgfaa
