/- Costs of contacts, gates: contracts. -/
import Derived.Test.YthbljfanoaibkaaGreatDoorMoS
import Derived.BigQuiet
import Derived.Test.YthbljfanoaibkaaGreatDoorMath
namespace Go.Proofs.YthbljfanoaibkaaGreatDoor
open Go.RowKit Go.ChangeShapes Go.WideShapes Go.ChangeAt
set_option linter.unusedVariables false
set_option linter.unusedSimpArgs false
def cst (x y a b : Int) : Int := (a - x) * (a - x) + (b - y) * (b - y)
def gin (x y s a b : Int) : Bool := decide (cst x y a b ≤ s * s)
theorem co_bds {a b : Int} (h : coB a b = true) : (-100000 ≤ a ∧ a ≤ 100000) ∧ (-100000 ≤ b ∧ b ≤ 100000) := by
  simp only [coB, Bool.and_eq_true] at h
  exact ⟨of_inB h.1, of_inB h.2⟩
theorem mo_bds {x y p q s : Int} (h : moB x y p q s = true) : (-100000 ≤ x ∧ x ≤ 100000) ∧ (-100000 ≤ y ∧ y ≤ 100000) ∧ (-1000 ≤ p ∧ p ≤ 1000) ∧ (-1000 ≤ q ∧ q ≤ 1000) ∧ 0 ≤ s ∧ s ≤ 10000 := by
  simp only [moB, Bool.and_eq_true] at h
  have := co_bds h.1
  exact ⟨this.1, this.2, of_inB h.2.1, of_inB h.2.2.1, of_inB h.2.2.2⟩
theorem sqs_bd {a x : Int} (ha : -100000 ≤ a ∧ a ≤ 100000) (hx : -100000 ≤ x ∧ x ≤ 100000) : 0 ≤ (a - x) * (a - x) ∧ (a - x) * (a - x) ≤ 40000000000 := by
  have h1 : 0 ≤ (a - x) * (a - x) := by
    rcases Int.le_total 0 (a - x) with h | h
    · exact Int.mul_nonneg h h
    · exact Int.mul_nonneg_of_nonpos_of_nonpos h h
  refine ⟨h1, ?_⟩
  rcases Int.le_total 0 (a - x) with h | h
  · exact Int.mul_le_mul (a := a - x) (b := a - x) (c := 200000) (d := 200000) (by omega) (by omega) h (by omega)
  · have := Int.mul_le_mul (a := x - a) (b := x - a) (c := 200000) (d := 200000) (by omega) (by omega) (by omega) (by omega)
    rw [show (a - x) * (a - x) = (x - a) * (x - a) by rw [← Int.neg_sub x a, Int.neg_mul_neg]]
    omega
theorem sp_bd {s : Int} (h : 0 ≤ s ∧ s ≤ 10000) : 0 ≤ s * s ∧ s * s ≤ 100000000 :=
  ⟨Int.mul_nonneg h.1 h.1, Int.mul_le_mul (c := 10000) (d := 10000) h.2 h.2 h.1 (by omega)⟩
theorem cst_bd {x y a b : Int} (hx : -100000 ≤ x ∧ x ≤ 100000) (hy : -100000 ≤ y ∧ y ≤ 100000) (ha : -100000 ≤ a ∧ a ≤ 100000) (hb : -100000 ≤ b ∧ b ≤ 100000) : 0 ≤ cst x y a b ∧ cst x y a b ≤ 80000000000 := by
  have h1 := sqs_bd ha hx
  have h2 := sqs_bd hb hy
  unfold cst
  omega
theorem impl_cost (x y p q s a b : Int) (w : World) (hx : -100000 ≤ x ∧ x ≤ 100000) (hy : -100000 ≤ y ∧ y ≤ 100000) (ha : -100000 ≤ a ∧ a ≤ 100000) (hb : -100000 ≤ b ∧ b ≤ 100000) :
    Calls Tryz.prog 102 #[.agg #[.int .i64 x, .int .i64 y, .int .i64 p, .int .i64 q, .int .i64 s], .agg #[.int .i64 a, .int .i64 b]] w fun e w' => e = .returned (.int .i64 (cst x y a b)) ∧ Below w.heap.size w w' := by
  go_enter Tryz.func102, Tryz.ntmps102
  repeat' (first | fail | go_values | go_skip | go_guarded | go_step | go_upon | (simp only []; go_step) | (go_ite <;> go_prune <;> (try go_simp)))
  refine (impl_square _ _ _ (by omega) (by omega)).mono ?_
  rintro e w' ⟨rfl, rfl⟩
  repeat' (first | fail | go_values | go_skip | go_guarded | go_step | go_upon | (simp only []; go_step) | (go_ite <;> go_prune <;> (try go_simp)))
  all_goals go_returns
  all_goals exact ⟨rfl, by exact bgr⟩
theorem spec_cost (x y p q s a b : Int) (w : World) (hx : -100000 ≤ x ∧ x ≤ 100000) (hy : -100000 ≤ y ∧ y ≤ 100000) (ha : -100000 ≤ a ∧ a ≤ 100000) (hb : -100000 ≤ b ∧ b ≤ 100000) :
    Calls Tryz.prog 92 #[.agg #[.int .i64 x, .int .i64 y, .int .i64 p, .int .i64 q, .int .i64 s], .agg #[.int .i64 a, .int .i64 b]] w fun e w' => e = .returned (.int .i64 (cst x y a b)) ∧ Below w.heap.size w w' := by
  have e : cst x y a b = (x - a) * (x - a) + (y - b) * (y - b) := by
    rw [cst, ← Int.neg_sub x a, Int.neg_mul_neg, ← Int.neg_sub y b, Int.neg_mul_neg]
  have h1 := sqs_bd hx ha
  have h2 := sqs_bd hy hb
  rw [e]
  clear e
  go_enter Tryz.func92, Tryz.ntmps92
  repeat' (first | fail | go_values | go_skip | go_guarded | go_step | go_upon | (simp only []; go_step) | (go_ite <;> go_prune <;> (try go_simp)))
  all_goals go_returns
  all_goals exact ⟨rfl, by exact bgr⟩
theorem impl_hasIn (x y p q s a b : Int) (w : World) (hx : -100000 ≤ x ∧ x ≤ 100000) (hy : -100000 ≤ y ∧ y ≤ 100000) (hs : 0 ≤ s ∧ s ≤ 10000) (ha : -100000 ≤ a ∧ a ≤ 100000) (hb : -100000 ≤ b ∧ b ≤ 100000) :
    Calls Tryz.prog 101 #[.agg #[.int .i64 x, .int .i64 y, .int .i64 p, .int .i64 q, .int .i64 s], .agg #[.int .i64 a, .int .i64 b]] w fun e w' => e = .returned (.bool (gin x y s a b)) ∧ Below w.heap.size w w' := by
  have h1 := sp_bd hs
  have wss : IntKind.i64.wrap (s * s) = s * s := IntWalk.i64_in _ (by omega)
  go_enter Tryz.func101, Tryz.ntmps101
  repeat' (first | fail | go_values | go_skip | go_guarded | go_step | go_upon | (simp only []; go_step) | (go_ite <;> go_prune <;> (try go_simp)))
  (first | go_region_held3 (fun w' => w'.cell? ⟨w.heap.size, 0, none⟩ = some (.int .i64 x) ∧ w'.cell? ⟨w.heap.size, 1, none⟩ = some (.int .i64 y) ∧ w'.cell? ⟨w.heap.size, 2, none⟩ = some (.int .i64 p) ∧ w'.cell? ⟨w.heap.size, 3, none⟩ = some (.int .i64 q) ∧ w'.cell? ⟨w.heap.size, 4, none⟩ = some (.int .i64 s) ∧ w'.cell? ⟨w.heap.size + 1, 0, none⟩ = some (.int .i64 a) ∧ w'.cell? ⟨w.heap.size + 1, 1, none⟩ = some (.int .i64 b)) (refine ⟨?_, ?_, ?_, ?_, ?_, ?_, ?_⟩ <;> exact bxc) (first | (go_at_call 102; refine (impl_cost _ _ _ _ _ _ _ _ hx hy ha hb).mono ?_; rintro e w1 ⟨rfl, hbw1⟩; have hzw1 := hbw1.size; (try simp only [World.size_alloc, World.size_setCell, World.size_drew] at hzw1); have hs1 : w.heap.size < w1.heap.size := (by omega); have q1 := bx_id (w := w1) (X := w.heap.size) (o := 0) (by exact bxc); (try simp only [List.getElem_toArray, List.getElem_cons_succ, List.getElem_cons_zero] at q1); have q1 := bx_id (w := w1) (X := w.heap.size) (o := 1) (by exact bxc); (try simp only [List.getElem_toArray, List.getElem_cons_succ, List.getElem_cons_zero] at q1); have q1 := bx_id (w := w1) (X := w.heap.size) (o := 2) (by exact bxc); (try simp only [List.getElem_toArray, List.getElem_cons_succ, List.getElem_cons_zero] at q1); have q1 := bx_id (w := w1) (X := w.heap.size) (o := 3) (by exact bxc); (try simp only [List.getElem_toArray, List.getElem_cons_succ, List.getElem_cons_zero] at q1); have q1 := bx_id (w := w1) (X := w.heap.size) (o := 4) (by exact bxc); (try simp only [List.getElem_toArray, List.getElem_cons_succ, List.getElem_cons_zero] at q1); have hs1 : w.heap.size + 1 < w1.heap.size := (by omega); have q1 := bx_id (w := w1) (X := w.heap.size + 1) (o := 0) (by exact bxc); (try simp only [List.getElem_toArray, List.getElem_cons_succ, List.getElem_cons_zero] at q1); have q1 := bx_id (w := w1) (X := w.heap.size + 1) (o := 1) (by exact bxc); (try simp only [List.getElem_toArray, List.getElem_cons_succ, List.getElem_cons_zero] at q1))) | fail)
  all_goals repeat' (first | fail | go_values | go_skip | go_guarded | go_step | go_upon | (simp only []; go_step) | (go_ite <;> go_prune <;> (try go_simp)))
  all_goals go_returns
  all_goals exact ⟨rfl, by exact bgr⟩
theorem impl_hasIn' (x y p q s a b : Int) (r : Bool) (w : World) (h : gin x y s a b = r) (hx : -100000 ≤ x ∧ x ≤ 100000) (hy : -100000 ≤ y ∧ y ≤ 100000) (hs : 0 ≤ s ∧ s ≤ 10000) (ha : -100000 ≤ a ∧ a ≤ 100000) (hb : -100000 ≤ b ∧ b ≤ 100000) :
    Calls Tryz.prog 101 #[.agg #[.int .i64 x, .int .i64 y, .int .i64 p, .int .i64 q, .int .i64 s], .agg #[.int .i64 a, .int .i64 b]] w fun e w' => e = .returned (.bool r) ∧ Below w.heap.size w w' := by
  rw [← h]; exact impl_hasIn x y p q s a b w hx hy hs ha hb
theorem spec_l14In (x y p q s a b : Int) (w : World) (hx : -100000 ≤ x ∧ x ≤ 100000) (hy : -100000 ≤ y ∧ y ≤ 100000) (hs : 0 ≤ s ∧ s ≤ 10000) (ha : -100000 ≤ a ∧ a ≤ 100000) (hb : -100000 ≤ b ∧ b ≤ 100000) :
    Calls Tryz.prog 91 #[.agg #[.int .i64 x, .int .i64 y, .int .i64 p, .int .i64 q, .int .i64 s], .agg #[.int .i64 a, .int .i64 b]] w fun e w' => e = .returned (.bool (gin x y s a b)) ∧ Below w.heap.size w w' := by
  have h1 := sp_bd hs
  have wss : IntKind.i64.wrap (s * s) = s * s := IntWalk.i64_in _ (by omega)
  go_enter Tryz.func91, Tryz.ntmps91
  repeat' (first | fail | go_values | go_skip | go_guarded | go_step | go_upon | (simp only []; go_step) | (go_ite <;> go_prune <;> (try go_simp)))
  (first | go_region_held3 (fun w' => w'.cell? ⟨w.heap.size, 0, none⟩ = some (.int .i64 x) ∧ w'.cell? ⟨w.heap.size, 1, none⟩ = some (.int .i64 y) ∧ w'.cell? ⟨w.heap.size, 2, none⟩ = some (.int .i64 p) ∧ w'.cell? ⟨w.heap.size, 3, none⟩ = some (.int .i64 q) ∧ w'.cell? ⟨w.heap.size, 4, none⟩ = some (.int .i64 s) ∧ w'.cell? ⟨w.heap.size + 1, 0, none⟩ = some (.int .i64 a) ∧ w'.cell? ⟨w.heap.size + 1, 1, none⟩ = some (.int .i64 b)) (refine ⟨?_, ?_, ?_, ?_, ?_, ?_, ?_⟩ <;> exact bxc) (first | (go_at_call 92; refine (spec_cost _ _ _ _ _ _ _ _ hx hy ha hb).mono ?_; rintro e w1 ⟨rfl, hbw1⟩; have hzw1 := hbw1.size; (try simp only [World.size_alloc, World.size_setCell, World.size_drew] at hzw1); have hs1 : w.heap.size < w1.heap.size := (by omega); have q1 := bx_id (w := w1) (X := w.heap.size) (o := 0) (by exact bxc); (try simp only [List.getElem_toArray, List.getElem_cons_succ, List.getElem_cons_zero] at q1); have q1 := bx_id (w := w1) (X := w.heap.size) (o := 1) (by exact bxc); (try simp only [List.getElem_toArray, List.getElem_cons_succ, List.getElem_cons_zero] at q1); have q1 := bx_id (w := w1) (X := w.heap.size) (o := 2) (by exact bxc); (try simp only [List.getElem_toArray, List.getElem_cons_succ, List.getElem_cons_zero] at q1); have q1 := bx_id (w := w1) (X := w.heap.size) (o := 3) (by exact bxc); (try simp only [List.getElem_toArray, List.getElem_cons_succ, List.getElem_cons_zero] at q1); have q1 := bx_id (w := w1) (X := w.heap.size) (o := 4) (by exact bxc); (try simp only [List.getElem_toArray, List.getElem_cons_succ, List.getElem_cons_zero] at q1); have hs1 : w.heap.size + 1 < w1.heap.size := (by omega); have q1 := bx_id (w := w1) (X := w.heap.size + 1) (o := 0) (by exact bxc); (try simp only [List.getElem_toArray, List.getElem_cons_succ, List.getElem_cons_zero] at q1); have q1 := bx_id (w := w1) (X := w.heap.size + 1) (o := 1) (by exact bxc); (try simp only [List.getElem_toArray, List.getElem_cons_succ, List.getElem_cons_zero] at q1))) | fail)
  all_goals repeat' (first | fail | go_values | go_skip | go_guarded | go_step | go_upon | (simp only []; go_step) | (go_ite <;> go_prune <;> (try go_simp)))
  all_goals go_returns
  all_goals exact ⟨rfl, by exact bgr⟩
/-- the index of the nearest of the first k contacts in the gate, -1 if there is none -/
def nrk (x y s : Int) (cs : List (Int × Int)) : Nat → Int
  | 0 => -1
  | k + 1 => if gin x y s (cs.getD k (0, 0)).1 (cs.getD k (0, 0)).2 && (decide (nrk x y s cs k < 0) || decide (cst x y (cs.getD k (0, 0)).1 (cs.getD k (0, 0)).2 < cst x y (cs.getD (nrk x y s cs k).toNat (0, 0)).1 (cs.getD (nrk x y s cs k).toNat (0, 0)).2)) then (k : Int) else nrk x y s cs k
theorem nrk_bd {x y s : Int} {cs : List (Int × Int)} : ∀ k, -1 ≤ nrk x y s cs k ∧ nrk x y s cs k < k
  | 0 => by simp [nrk]
  | k + 1 => by
    have ih := nrk_bd (x := x) (y := y) (s := s) (cs := cs) k
    rw [nrk]
    split <;> omega
theorem nrk_out {x y s : Int} {cs : List (Int × Int)} {k : Nat} {a b : Int} (hx : cs[k]? = some (a, b)) (hg : gin x y s a b = false) : nrk x y s cs (k + 1) = nrk x y s cs k := by
  rw [nrk]; simp [List.getD, hx, hg]
theorem nrk_first {x y s : Int} {cs : List (Int × Int)} {k : Nat} {a b : Int} (hx : cs[k]? = some (a, b)) (hg : gin x y s a b = true) (hn : nrk x y s cs k < 0) : nrk x y s cs (k + 1) = k := by
  rw [nrk]; simp [List.getD, hx, hg, hn]
theorem nrk_less {x y s : Int} {cs : List (Int × Int)} {k j : Nat} {a b c d : Int} (hx : cs[k]? = some (a, b)) (hg : gin x y s a b = true) (hn : nrk x y s cs k = j) (hj : cs[j]? = some (c, d)) (hl : cst x y a b < cst x y c d) : nrk x y s cs (k + 1) = k := by
  rw [nrk, hn]; simp [List.getD, hx, hg, hj, hl]
theorem nrk_more {x y s : Int} {cs : List (Int × Int)} {k j : Nat} {a b c d : Int} (hx : cs[k]? = some (a, b)) (hg : gin x y s a b = true) (hn : nrk x y s cs k = j) (hj : cs[j]? = some (c, d)) (hl : ¬ cst x y a b < cst x y c d) : nrk x y s cs (k + 1) = j := by
  rw [nrk, hn]; simp [List.getD, hx, hg, hj, hl]; omega
end Go.Proofs.YthbljfanoaibkaaGreatDoor
