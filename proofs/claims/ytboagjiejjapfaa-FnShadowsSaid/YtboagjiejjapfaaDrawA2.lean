/- The draws of the side-scan chapter: contracts. -/
import Derived.Test.YtboagjiejjapfaaDrawA
import Derived.Test.YtboagjiejjapfaaBounds
namespace Go.Proofs.Ytboagjiejjapfaa
open Go.RowKit
set_option linter.unusedVariables false
set_option linter.unusedSimpArgs false
theorem Below.row {w W w1 : World} {g : Nat} (h : Below w.heap.size w W) (hg : W.grownBy w1 (some g)) (hB : w.heap.size ≤ g) : Below w.heap.size w w1 :=
  ⟨hg.os.trans h.os, hg.tape.trans h.tape, hg.output.trans h.output, Nat.le_trans h.size hg.size, fun k hk => (hg.block k (Nat.lt_of_lt_of_le hk h.size) (by simp; omega)).trans (h.block k hk)⟩
theorem spec_DrawRootBounds (A : Option Addr) (c : Nat) (code : List Int) (w : World) (hr : U8 w w.heap.size A code) (hb : ∀ x ∈ code, 0 ≤ x ∧ x ≤ 255) (hl : code.length ≤ 4096) :
    Calls Try.prog 36 #[.slice A code.length c] w fun e w' => ∃ r, e = .returned (.int .i64 r) ∧ (-1 ≤ r ∧ r ≤ 4000000000000000001) ∧ Below w.heap.size w w' := by
  have sq : ∀ r k : Int, 0 ≤ r → r ≤ 60000000 → 0 ≤ k → k ≤ 33 → 0 ≤ r * k ∧ r * k ≤ 1980000000 ∧ 0 ≤ r * k * (r * k) ∧ r * k * (r * k) ≤ 3920400000000000000 := fun r k h1 h2 h3 h4 => by
    have a1 := Int.mul_nonneg h1 h3
    have a2 : r * k ≤ 60000000 * 33 := Int.mul_le_mul h2 h4 h3 (by omega)
    have a3 := Pl.sq_le (a := r * k) (b := 1980000000) a1 (by omega)
    exact ⟨a1, by omega, Int.mul_nonneg a1 a1, by omega⟩
  have sq' := Lib.hid sq
  clear sq
  go_enter Try.func36, Try.ntmps36
  go_wp2_with (first | (go_at_call 73; refine (spec_l01From _ _ _ _ hr hb hl).mono ?_; rintro e w1 ⟨g, rfl, hg0, hs1, hb1⟩))
  go_wp2_with fail
  refine (spec_l01Next _ _ _ _ hs1 (by omega)).mono ?_
  rintro e w2 ⟨r2, rfl, ⟨hr2, ht2⟩, hs2, hg2⟩
  by_cases q0 : r2 = 0
  · subst q0
    go_wp2_with (first | (go_at_call 75; (first | (with_reducible refine (pick2 _ _ _ _ _ _ (by exact Src.alloc (by assumption) _) (by exact heap_alloc_new _ _) (by have := Src.lt (by assumption); omega)).mono ?_) | (with_reducible refine (pick3 _ _ _ _ _ _ _ (by exact Src.alloc (by assumption) _) (by exact heap_alloc_new _ _) (by have := Src.lt (by assumption); omega)).mono ?_) | (with_reducible refine (pick4 _ _ _ _ _ _ _ _ (by exact Src.alloc (by assumption) _) (by exact heap_alloc_new _ _) (by have := Src.lt (by assumption); omega)).mono ?_) | (with_reducible refine (pick5 _ _ _ _ _ _ _ _ _ (by exact Src.alloc (by assumption) _) (by exact heap_alloc_new _ _) (by have := Src.lt (by assumption); omega)).mono ?_) | (with_reducible refine (pick6 _ _ _ _ _ _ _ _ _ _ (by exact Src.alloc (by assumption) _) (by exact heap_alloc_new _ _) (by have := Src.lt (by assumption); omega)).mono ?_) | (with_reducible refine (pick7 _ _ _ _ _ _ _ _ _ _ _ (by exact Src.alloc (by assumption) _) (by exact heap_alloc_new _ _) (by have := Src.lt (by assumption); omega)).mono ?_)); rintro e w1 ⟨r1, rfl, hm1, hs1, hg1⟩))
    go_ret
    exact ⟨_, rfl, by omega, by repeat' (first | (with_reducible exact Below.refl _ _) | (with_reducible assumption) | (with_reducible refine Below.new ?_ _) | (with_reducible refine Below.alloc ?_ ?_ _) | (with_reducible refine Below.drew ?_) | (with_reducible refine below_drewN ?_ _) | (with_reducible refine Below.setCell ?_ ?_ _) | (refine Below.next ?_ (by with_reducible assumption)) | (refine Below.row ?_ (by with_reducible assumption) (by omega)) | (refine Below.trans ?_ (by with_reducible assumption)) | (refine Below.after ?_ ?_ (by with_reducible assumption)) | go_size)⟩
  · have e0 : (r2 == 0) = false := by simpa using q0
    go_wp2_with (first | (go_at_call 75; (first | (with_reducible refine (pick2 _ _ _ _ _ _ (by exact Src.alloc (by assumption) _) (by exact heap_alloc_new _ _) (by have := Src.lt (by assumption); omega)).mono ?_) | (with_reducible refine (pick3 _ _ _ _ _ _ _ (by exact Src.alloc (by assumption) _) (by exact heap_alloc_new _ _) (by have := Src.lt (by assumption); omega)).mono ?_) | (with_reducible refine (pick4 _ _ _ _ _ _ _ _ (by exact Src.alloc (by assumption) _) (by exact heap_alloc_new _ _) (by have := Src.lt (by assumption); omega)).mono ?_) | (with_reducible refine (pick5 _ _ _ _ _ _ _ _ _ (by exact Src.alloc (by assumption) _) (by exact heap_alloc_new _ _) (by have := Src.lt (by assumption); omega)).mono ?_) | (with_reducible refine (pick6 _ _ _ _ _ _ _ _ _ _ (by exact Src.alloc (by assumption) _) (by exact heap_alloc_new _ _) (by have := Src.lt (by assumption); omega)).mono ?_) | (with_reducible refine (pick7 _ _ _ _ _ _ _ _ _ _ _ (by exact Src.alloc (by assumption) _) (by exact heap_alloc_new _ _) (by have := Src.lt (by assumption); omega)).mono ?_)); rintro e w1 ⟨r1, rfl, hm1, hs1, hg1⟩))
    refine (spec_l01Next _ _ _ _ hs1 (by omega)).mono ?_
    rintro e w4 ⟨r4, rfl, ⟨hr4, ht4⟩, hs4, hg4⟩
    go_wp2_with fail
    refine (spec_l01Next _ _ _ _ hs4 (by omega)).mono ?_
    rintro e w5 ⟨r5, rfl, ⟨hr5, ht5⟩, hs5, hg5⟩
    have hq := sq'.out r4 (1 + r5 * 32) hr4 (by omega) (by omega) (by omega)
    go_wp2_with (first | (go_at_call 74; refine (spec_l01Next _ _ _ _ (by first | assumption | exact Src.alloc (by assumption) _ | exact Src.drewN (by assumption) _) (by omega)).mono ?_; rintro e w1 ⟨r1, rfl, ⟨hr1, ht1⟩, hs1, hg1⟩))
    all_goals go_ret
    all_goals exact ⟨_, rfl, by omega, by repeat' (first | (with_reducible exact Below.refl _ _) | (with_reducible assumption) | (with_reducible refine Below.new ?_ _) | (with_reducible refine Below.alloc ?_ ?_ _) | (with_reducible refine Below.drew ?_) | (with_reducible refine below_drewN ?_ _) | (with_reducible refine Below.setCell ?_ ?_ _) | (refine Below.next ?_ (by with_reducible assumption)) | (refine Below.row ?_ (by with_reducible assumption) (by omega)) | (refine Below.trans ?_ (by with_reducible assumption)) | (refine Below.after ?_ ?_ (by with_reducible assumption)) | go_size)⟩
theorem spec_DrawNearestRoot (A : Option Addr) (c : Nat) (code : List Int) (w : World) (hr : U8 w w.heap.size A code) (hb : ∀ x ∈ code, 0 ≤ x ∧ x ≤ 255) (hl : code.length ≤ 4096) :
    Calls Try.prog 39 #[.slice A code.length c] w fun e w' => ∃ r, e = .returned (.int .i64 r) ∧ (-1 ≤ r ∧ r ≤ 4000000000000000001) ∧ Below w.heap.size w w' := by
  go_enter Try.func39, Try.ntmps39
  go_wp2_with fail
  refine (spec_l01From _ _ _ _ hr hb hl).mono ?_
  rintro e w1 ⟨g, rfl, hg0, hs1, hb1⟩
  go_wp2_with fail
  refine (spec_l01Next _ _ _ _ hs1 (by omega)).mono ?_
  rintro e w2 ⟨r2, rfl, ⟨hr2, ht2⟩, hs2, hg2⟩
  by_cases q0 : r2 = 0
  · subst q0
    go_wp2_with (first | (go_at_call 75; (first | (with_reducible refine (pick2 _ _ _ _ _ _ (by exact Src.alloc (by assumption) _) (by exact heap_alloc_new _ _) (by have := Src.lt (by assumption); omega)).mono ?_) | (with_reducible refine (pick3 _ _ _ _ _ _ _ (by exact Src.alloc (by assumption) _) (by exact heap_alloc_new _ _) (by have := Src.lt (by assumption); omega)).mono ?_) | (with_reducible refine (pick4 _ _ _ _ _ _ _ _ (by exact Src.alloc (by assumption) _) (by exact heap_alloc_new _ _) (by have := Src.lt (by assumption); omega)).mono ?_) | (with_reducible refine (pick5 _ _ _ _ _ _ _ _ _ (by exact Src.alloc (by assumption) _) (by exact heap_alloc_new _ _) (by have := Src.lt (by assumption); omega)).mono ?_) | (with_reducible refine (pick6 _ _ _ _ _ _ _ _ _ _ (by exact Src.alloc (by assumption) _) (by exact heap_alloc_new _ _) (by have := Src.lt (by assumption); omega)).mono ?_) | (with_reducible refine (pick7 _ _ _ _ _ _ _ _ _ _ _ (by exact Src.alloc (by assumption) _) (by exact heap_alloc_new _ _) (by have := Src.lt (by assumption); omega)).mono ?_)); rintro e w1 ⟨r1, rfl, hm1, hs1, hg1⟩))
    refine (spec_l01Next _ _ _ _ hs1 (by omega)).mono ?_
    rintro e w4 ⟨r4, rfl, ⟨hr4, ht4⟩, hs4, hg4⟩
    have a3 := Pl.sq_le (a := r4) (b := 4000000) hr4 (by omega)
    have a4 := Int.mul_nonneg hr4 hr4
    go_wp2_with (first | (go_at_call 74; refine (spec_l01Next _ _ _ _ (by first | assumption | exact Src.alloc (by assumption) _ | exact Src.drewN (by assumption) _) (by omega)).mono ?_; rintro e w1 ⟨r1, rfl, ⟨hr1, ht1⟩, hs1, hg1⟩))
    go_ret
    exact ⟨_, rfl, by omega, by repeat' (first | (with_reducible exact Below.refl _ _) | (with_reducible assumption) | (with_reducible refine Below.new ?_ _) | (with_reducible refine Below.alloc ?_ ?_ _) | (with_reducible refine Below.drew ?_) | (with_reducible refine below_drewN ?_ _) | (with_reducible refine Below.setCell ?_ ?_ _) | (refine Below.next ?_ (by with_reducible assumption)) | (refine Below.row ?_ (by with_reducible assumption) (by omega)) | (refine Below.trans ?_ (by with_reducible assumption)) | (refine Below.after ?_ ?_ (by with_reducible assumption)) | go_size)⟩
  · have e0 : (r2 == 0) = false := by simpa using q0
    have hB2 : Below w.heap.size w w2 := by repeat' (first | (with_reducible exact Below.refl _ _) | (with_reducible assumption) | (with_reducible refine Below.new ?_ _) | (with_reducible refine Below.alloc ?_ ?_ _) | (with_reducible refine Below.drew ?_) | (with_reducible refine below_drewN ?_ _) | (with_reducible refine Below.setCell ?_ ?_ _) | (refine Below.next ?_ (by with_reducible assumption)) | (refine Below.row ?_ (by with_reducible assumption) (by omega)) | (refine Below.trans ?_ (by with_reducible assumption)) | (refine Below.after ?_ ?_ (by with_reducible assumption)) | go_size)
    have hr2' := Rd.below hr hB2
    go_wp2_with fail
    refine (spec_DrawRootBounds _ _ _ _ (Rd.more hr2' hB2.size) hb hl).mono ?_
    rintro e w3 ⟨r3, rfl, hr3, hb3⟩
    go_wp2
    go_ret
    exact ⟨_, rfl, hr3, by repeat' (first | (with_reducible exact Below.refl _ _) | (with_reducible assumption) | (with_reducible refine Below.new ?_ _) | (with_reducible refine Below.alloc ?_ ?_ _) | (with_reducible refine Below.drew ?_) | (with_reducible refine below_drewN ?_ _) | (with_reducible refine Below.setCell ?_ ?_ _) | (refine Below.next ?_ (by with_reducible assumption)) | (refine Below.row ?_ (by with_reducible assumption) (by omega)) | (refine Below.trans ?_ (by with_reducible assumption)) | (refine Below.after ?_ ?_ (by with_reducible assumption)) | go_size)⟩
theorem spec_DrawGroundBounds (A : Option Addr) (c : Nat) (code : List Int) (w : World) (hr : U8 w w.heap.size A code) (hb : ∀ x ∈ code, 0 ≤ x ∧ x ≤ 255) (hl : code.length ≤ 4096) :
    Calls Try.prog 40 #[.slice A code.length c] w fun e w' => ∃ r q, e = .returned (.tuple #[.int .i64 r, .int .i64 q]) ∧ (-1 ≤ r ∧ r ≤ 1000001) ∧ (-1 ≤ q ∧ q ≤ 1000001) ∧ Below w.heap.size w w' := by
  go_enter Try.func40, Try.ntmps40
  go_wp2_with (first | (go_at_call 73; refine (spec_l01From _ _ _ _ hr hb hl).mono ?_; rintro e w1 ⟨g, rfl, hg0, hs1, hb1⟩) | (go_at_call 74; refine (spec_l01Next _ _ _ _ (by first | assumption | exact Src.alloc (by assumption) _ | exact Src.drewN (by assumption) _) (by omega)).mono ?_; rintro e w1 ⟨r1, rfl, ⟨hr1, ht1⟩, hs1, hg1⟩) | (go_at_call 78; refine (spec_l18DrawLength _ _ _ (by first | assumption | exact Src.alloc (by assumption) _ | exact Src.drewN (by assumption) _)).mono ?_; rintro e w1 ⟨r1, rfl, hr1, hs1, hg1⟩))
  all_goals go_ret2
  all_goals exact ⟨_, _, rfl, by omega, by omega, by repeat' (first | (with_reducible exact Below.refl _ _) | (with_reducible assumption) | (with_reducible refine Below.new ?_ _) | (with_reducible refine Below.alloc ?_ ?_ _) | (with_reducible refine Below.drew ?_) | (with_reducible refine below_drewN ?_ _) | (with_reducible refine Below.setCell ?_ ?_ _) | (refine Below.next ?_ (by with_reducible assumption)) | (refine Below.row ?_ (by with_reducible assumption) (by omega)) | (refine Below.trans ?_ (by with_reducible assumption)) | (refine Below.after ?_ ?_ (by with_reducible assumption)) | go_size)⟩
theorem spec_DrawSlantBounds (A : Option Addr) (c : Nat) (code : List Int) (w : World) (hr : U8 w w.heap.size A code) (hb : ∀ x ∈ code, 0 ≤ x ∧ x ≤ 255) (hl : code.length ≤ 4096) :
    Calls Try.prog 41 #[.slice A code.length c] w fun e w' => ∃ r q, e = .returned (.tuple #[.int .i64 r, .int .i64 q]) ∧ (-1 ≤ r ∧ r ≤ 1000001) ∧ (-1 ≤ q ∧ q ≤ 1000001) ∧ Below w.heap.size w w' := by
  go_enter Try.func41, Try.ntmps41
  go_wp2_with (first | (go_at_call 73; refine (spec_l01From _ _ _ _ hr hb hl).mono ?_; rintro e w1 ⟨g, rfl, hg0, hs1, hb1⟩) | (go_at_call 74; refine (spec_l01Next _ _ _ _ (by first | assumption | exact Src.alloc (by assumption) _ | exact Src.drewN (by assumption) _) (by omega)).mono ?_; rintro e w1 ⟨r1, rfl, ⟨hr1, ht1⟩, hs1, hg1⟩) | (go_at_call 78; refine (spec_l18DrawLength _ _ _ (by first | assumption | exact Src.alloc (by assumption) _ | exact Src.drewN (by assumption) _)).mono ?_; rintro e w1 ⟨r1, rfl, hr1, hs1, hg1⟩))
  all_goals go_ret2
  all_goals exact ⟨_, _, rfl, by omega, by omega, by repeat' (first | (with_reducible exact Below.refl _ _) | (with_reducible assumption) | (with_reducible refine Below.new ?_ _) | (with_reducible refine Below.alloc ?_ ?_ _) | (with_reducible refine Below.drew ?_) | (with_reducible refine below_drewN ?_ _) | (with_reducible refine Below.setCell ?_ ?_ _) | (refine Below.next ?_ (by with_reducible assumption)) | (refine Below.row ?_ (by with_reducible assumption) (by omega)) | (refine Below.trans ?_ (by with_reducible assumption)) | (refine Below.after ?_ ?_ (by with_reducible assumption)) | go_size)⟩
end Go.Proofs.Ytboagjiejjapfaa
