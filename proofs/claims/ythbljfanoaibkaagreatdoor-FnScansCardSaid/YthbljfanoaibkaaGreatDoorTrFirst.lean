/- FirstTrail: contracts and the law's walk (no condition). -/
import Derived.Test.YthbljfanoaibkaaGreatDoorTrA
import Derived.Test.YthbljfanoaibkaaGreatDoorMKit
namespace Go.Proofs.YthbljfanoaibkaaGreatDoor
open Go.RowKit
set_option linter.unusedVariables false
set_option linter.unusedSimpArgs false
def fsel (b : Bool) (a c : Int) : Int := if b then a else c
theorem impl_firstTrail (x y : Int) (w : World) : Calls Tryz.prog 44 #[.agg #[.int .i64 x, .int .i64 y]] w fun e w' => e = .returned (.agg #[.int .i64 x, .int .i64 y, .int .i64 0, .int .i64 0, .int .i64 400, .int .i64 0, .int .i64 1, .int .i64 0]) ∧ Below w.heap.size w w' := by
  go_enter Tryz.func44, Tryz.ntmps44
  repeat' (first | fail | go_values | go_skip | go_guarded | go_step | go_upon | (simp only []; go_step) | (go_ite <;> go_prune <;> (try go_simp)))
  ((try simp only [Exit.inBlock, Exit.then]); refine bodyPost_ret (by simp [results, Tryz.results44, go_sem, *]; try rfl) rfl ?_)
  exact ⟨rfl, by exact bgr⟩
theorem spec_l16First (x y : Int) (w : World) : Calls Tryz.prog 48 #[.agg #[.int .i64 x, .int .i64 y]] w fun e w' => e = .returned (.agg #[.int .i64 x, .int .i64 y, .int .i64 0, .int .i64 0, .int .i64 400, .int .i64 0, .int .i64 1, .int .i64 0]) ∧ Below w.heap.size w w' := by
  go_enter Tryz.func48, Tryz.ntmps48
  repeat' (first | fail | go_values | go_skip | go_guarded | go_step | go_upon | (simp only []; go_step) | (go_ite <;> go_prune <;> (try go_simp)))
  ((try simp only [Exit.inBlock, Exit.then]); refine bodyPost_ret (by simp [results, Tryz.results48, go_sem, *]; try rfl) rfl ?_)
  exact ⟨rfl, by exact bgr⟩
end Go.Proofs.YthbljfanoaibkaaGreatDoor
