/- FirstTrail: contracts and the law's walk (no condition). -/
import Derived.Test.YtinpfmbilibgfaaTrA
import Derived.Test.YtinpfmbilibgfaaMKit
namespace Go.Proofs.Ytinpfmbilibgfaa
open Go.RowKit
set_option linter.unusedVariables false
set_option linter.unusedSimpArgs false
def fsel (b : Bool) (a c : Int) : Int := if b then a else c
theorem impl_firstTrail (x y : Int) (w : World) : Calls Try.prog 41 #[.agg #[.int .i64 x, .int .i64 y]] w fun e w' => e = .returned (.agg #[.int .i64 x, .int .i64 y, .int .i64 0, .int .i64 0, .int .i64 400, .int .i64 0, .int .i64 1, .int .i64 0]) ∧ Below w.heap.size w w' := by
  go_enter Try.func41, Try.ntmps41
  repeat' (first | fail | go_values | go_skip | go_guarded | go_step | go_upon | (simp only []; go_step) | (go_ite <;> go_prune <;> (try go_simp)))
  ((try simp only [Exit.inBlock, Exit.then]); refine bodyPost_ret (by simp [results, Try.results41, go_sem, *]; try rfl) rfl ?_)
  exact ⟨rfl, by exact bgr⟩
theorem spec_l16First (x y : Int) (w : World) : Calls Try.prog 43 #[.agg #[.int .i64 x, .int .i64 y]] w fun e w' => e = .returned (.agg #[.int .i64 x, .int .i64 y, .int .i64 0, .int .i64 0, .int .i64 400, .int .i64 0, .int .i64 1, .int .i64 0]) ∧ Below w.heap.size w w' := by
  go_enter Try.func43, Try.ntmps43
  repeat' (first | fail | go_values | go_skip | go_guarded | go_step | go_upon | (simp only []; go_step) | (go_ite <;> go_prune <;> (try go_simp)))
  ((try simp only [Exit.inBlock, Exit.then]); refine bodyPost_ret (by simp [results, Try.results43, go_sem, *]; try rfl) rfl ?_)
  exact ⟨rfl, by exact bgr⟩
end Go.Proofs.Ytinpfmbilibgfaa
