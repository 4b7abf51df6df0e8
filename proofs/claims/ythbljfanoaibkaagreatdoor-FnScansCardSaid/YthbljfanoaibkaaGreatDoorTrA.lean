/- Motions, contacts and trails: contracts. -/
import Derived.Test.YthbljfanoaibkaaGreatDoorMKit
namespace Go.Proofs.YthbljfanoaibkaaGreatDoor
open Go.RowKit
set_option linter.unusedVariables false
set_option linter.unusedSimpArgs false

def coB (x y : Int) : Bool := inB x (-100000) 100000 && inB y (-100000) 100000
def moB (x y p q s : Int) : Bool := coB x y && (inB p (-1000) 1000 && (inB q (-1000) 1000 && inB s 0 10000))
def staB (t h m : Int) : Bool :=
  if t = 0 then inB m 0 1 && decide (h < 3) else if t = 1 then inB m 0 3 && decide (3 ≤ h) else if t = 2 then inB m 0 4 else false
def trB (x y p q s t h m : Int) : Bool := moB x y p q s && (inB h 1 1000 && staB t h m)
theorem impl_isReach (n : Int) (w : World) : Calls Tryz.prog 82 #[.int .i64 n] w fun e w' => e = .returned (.bool (inB n (-100000) 100000)) ∧ w = w' := by
  go_enter Tryz.func82, Tryz.ntmps82
  go_wp2_with (go_at_call 50; refine (impl_within _ _ _ _).mono ?_; rintro e w' ⟨rfl, rfl⟩)
  go_ret
  exact ⟨rfl, rfl⟩
theorem impl_isContact (x y : Int) (w : World) : Calls Tryz.prog 66 #[.agg #[.int .i64 x, .int .i64 y]] w fun e w' => e = .returned (.bool (coB x y)) ∧ Below w.heap.size w w' := by
  go_enter Tryz.func66, Tryz.ntmps66
  go_wp2_with (first | (go_at_call 82; refine (impl_isReach _ _).mono ?_; rintro e w' ⟨rfl, rfl⟩))
  all_goals go_returns
  all_goals exact ⟨ret_bool (by simp_all [coB]), by exact bgr⟩
theorem spec_l14Contact (x y : Int) (w : World) : Calls Tryz.prog 40 #[.agg #[.int .i64 x, .int .i64 y]] w fun e w' => e = .returned (.bool (coB x y)) ∧ Below w.heap.size w w' := by
  go_enter Tryz.func40, Tryz.ntmps40
  go_wp2_with (first | (go_at_call 55; refine (spec_l01In _ _ _ _).mono ?_; rintro e w' ⟨rfl, rfl⟩))
  all_goals go_returns
  all_goals exact ⟨ret_bool (by simp_all [coB]), by exact bgr⟩
theorem impl_IsMotion (x y p q s : Int) (w : World) : Calls Tryz.prog 61 #[.agg #[.int .i64 x, .int .i64 y, .int .i64 p, .int .i64 q, .int .i64 s]] w fun e w' => e = .returned (.bool (moB x y p q s)) ∧ Below w.heap.size w w' := by
  go_enter Tryz.func61, Tryz.ntmps61
  go_wp2_with (first | (go_at_call 82; refine (impl_isReach _ _).mono ?_; rintro e w' ⟨rfl, rfl⟩) | (go_at_call 50; refine (impl_within _ _ _ _).mono ?_; rintro e w' ⟨rfl, rfl⟩))
  all_goals go_returns
  all_goals exact ⟨ret_bool (by simp_all [moB, coB]), by exact bgr⟩
theorem spec_IsMotion (x y p q s : Int) (w : World) : Calls Tryz.prog 62 #[.agg #[.int .i64 x, .int .i64 y, .int .i64 p, .int .i64 q, .int .i64 s]] w fun e w' => e = .returned (.bool (moB x y p q s)) ∧ Below w.heap.size w w' := by
  go_enter Tryz.func62, Tryz.ntmps62
  go_wp2_with (first | (go_at_call 40; refine (spec_l14Contact _ _ _).mono ?_; rintro e w1 ⟨rfl, hb1⟩; have hz1 := hb1.size; obtain ⟨hc1, hf1, hl1, hm1, hn1⟩ := bcell hb1; (try simp only [World.size_alloc, World.size_setCell, World.size_drew] at hz1 hc1 hf1 hl1 hm1 hn1); (try have hs1 : w.heap.size < w1.heap.size := by omega); (try have ht1 : w.heap.size ≤ w1.heap.size := by omega)) | (go_at_call 55; refine (spec_l01In _ _ _ _).mono ?_; rintro e w' ⟨rfl, rfl⟩))
  all_goals go_returns
  all_goals exact ⟨ret_bool (by simp_all [moB, coB]), by exact bgr⟩
theorem impl_IsTrail (x y p q s t h m : Int) (w : World) : Calls Tryz.prog 34 #[.agg #[.int .i64 x, .int .i64 y, .int .i64 p, .int .i64 q, .int .i64 s, .int .i64 t, .int .i64 h, .int .i64 m]] w fun e w' => e = .returned (.bool (trB x y p q s t h m)) ∧ Below w.heap.size w w' := by
  go_enter Tryz.func34, Tryz.ntmps34
  go_wp2_with (first | (go_at_call 61; refine (impl_IsMotion _ _ _ _ _ _).mono ?_; rintro e w1 ⟨rfl, hb1⟩; have hz1 := hb1.size; obtain ⟨hc1, hf1, hl1, hm1, hn1⟩ := bcell hb1; (try simp only [World.size_alloc, World.size_setCell, World.size_drew] at hz1 hc1 hf1 hl1 hm1 hn1); (try have hs1 : w.heap.size < w1.heap.size := by omega); (try have ht1 : w.heap.size ≤ w1.heap.size := by omega)) | (go_at_call 50; refine (impl_within _ _ _ _).mono ?_; rintro e w' ⟨rfl, rfl⟩))
  all_goals go_returns
  all_goals exact ⟨ret_bool (by simp_all [trB, staB]), by exact bgr⟩
theorem spec_IsTrail (x y p q s t h m : Int) (w : World) : Calls Tryz.prog 35 #[.agg #[.int .i64 x, .int .i64 y, .int .i64 p, .int .i64 q, .int .i64 s, .int .i64 t, .int .i64 h, .int .i64 m]] w fun e w' => e = .returned (.bool (trB x y p q s t h m)) ∧ Below w.heap.size w w' := by
  go_enter Tryz.func35, Tryz.ntmps35
  go_wp2_with (first | (go_at_call 62; refine (spec_IsMotion _ _ _ _ _ _).mono ?_; rintro e w1 ⟨rfl, hb1⟩; have hz1 := hb1.size; obtain ⟨hc1, hf1, hl1, hm1, hn1⟩ := bcell hb1; (try simp only [World.size_alloc, World.size_setCell, World.size_drew] at hz1 hc1 hf1 hl1 hm1 hn1); (try have hs1 : w.heap.size < w1.heap.size := by omega); (try have ht1 : w.heap.size ≤ w1.heap.size := by omega)) | (go_at_call 55; refine (spec_l01In _ _ _ _).mono ?_; rintro e w' ⟨rfl, rfl⟩))
  all_goals go_returns
  all_goals exact ⟨ret_bool (by simp_all [trB, staB]), by exact bgr⟩
end Go.Proofs.YthbljfanoaibkaaGreatDoor
