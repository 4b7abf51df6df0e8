/- Ground and slant ranges, square roots: the walks of the laws. -/
import Derived.Test.YtboagjiejjapfaaBounds
namespace Go.Proofs.Ytboagjiejjapfaa
open Go.RowKit
set_option linter.unusedVariables false
set_option linter.unusedSimpArgs false
theorem walk_NearestRoot (n : Int) (w : World) : Calls Try.prog 4 #[.int .i64 n] w fun e w' => e = .returned (.bool true) ∧ Below w.heap.size w w' := by
  go_enter Try.func4, Try.ntmps4
  go_wp2_with (first | (go_at_call 17; refine (spec_NearestRoot _ _).mono ?_; rintro e w' ⟨rfl, rfl⟩) | (go_at_call 18; refine (impl_NearestRoot _ _).mono ?_; rintro e w' ⟨rfl, rfl⟩))
  all_goals go_ret
  all_goals exact ⟨rfl, Below.refl _ _⟩
theorem walk_GroundBounds (s a : Int) (w : World) : Calls Try.prog 7 #[.int .i64 s, .int .i64 a] w fun e w' => e = .returned (.bool true) ∧ Below w.heap.size w w' := by
  go_enter Try.func7, Try.ntmps7
  go_wp2_with (first | (go_at_call 26; refine (spec_GroundBounds _ _ _).mono ?_; rintro e w1 ⟨rfl, hb1⟩; have hz1 := hb1.size; (try simp only [World.size_alloc, World.size_setCell, World.size_drew] at hz1); obtain ⟨hc1, hf1, hl1, hm1, hn1⟩ := bcell hb1) | (go_at_call 27; refine (impl_GroundBounds _ _ _).mono ?_; rintro e w1 ⟨rfl, hb1⟩; have hz1 := hb1.size; (try simp only [World.size_alloc, World.size_setCell, World.size_drew] at hz1); obtain ⟨hc1, hf1, hl1, hm1, hn1⟩ := bcell hb1) | (go_at_call 25; refine (laws_eqInterval _ _ _ _ _).mono ?_; rintro e w1 ⟨rfl, hb1⟩; have hz1 := hb1.size; (try simp only [World.size_alloc, World.size_setCell, World.size_drew] at hz1); obtain ⟨hc1, hf1, hl1, hm1, hn1⟩ := bcell hb1))
  go_returns
  exact ⟨rfl, by repeat' (first | (with_reducible exact Below.refl _ _) | (with_reducible assumption) | (with_reducible refine Below.alloc ?_ ?_ _) | (with_reducible refine Below.drew ?_) | (with_reducible refine Below.setCell ?_ ?_ _) | (refine Below.after ?_ ?_ (by with_reducible assumption)) | go_size)⟩
theorem walk_SlantBounds (s a : Int) (w : World) : Calls Try.prog 6 #[.int .i64 s, .int .i64 a] w fun e w' => e = .returned (.bool true) ∧ Below w.heap.size w w' := by
  go_enter Try.func6, Try.ntmps6
  go_wp2_with (first | (go_at_call 23; refine (spec_SlantBounds _ _ _).mono ?_; rintro e w1 ⟨rfl, hb1⟩; have hz1 := hb1.size; (try simp only [World.size_alloc, World.size_setCell, World.size_drew] at hz1); obtain ⟨hc1, hf1, hl1, hm1, hn1⟩ := bcell hb1) | (go_at_call 24; refine (impl_SlantBounds _ _ _).mono ?_; rintro e w1 ⟨rfl, hb1⟩; have hz1 := hb1.size; (try simp only [World.size_alloc, World.size_setCell, World.size_drew] at hz1); obtain ⟨hc1, hf1, hl1, hm1, hn1⟩ := bcell hb1) | (go_at_call 25; refine (laws_eqInterval _ _ _ _ _).mono ?_; rintro e w1 ⟨rfl, hb1⟩; have hz1 := hb1.size; (try simp only [World.size_alloc, World.size_setCell, World.size_drew] at hz1); obtain ⟨hc1, hf1, hl1, hm1, hn1⟩ := bcell hb1))
  go_returns
  exact ⟨rfl, by repeat' (first | (with_reducible exact Below.refl _ _) | (with_reducible assumption) | (with_reducible refine Below.alloc ?_ ?_ _) | (with_reducible refine Below.drew ?_) | (with_reducible refine Below.setCell ?_ ?_ _) | (refine Below.after ?_ ?_ (by with_reducible assumption)) | go_size)⟩
end Go.Proofs.Ytboagjiejjapfaa
