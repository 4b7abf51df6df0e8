/- Ground and slant ranges, square roots: contracts. -/
import Derived.Test.YtboagjiejjapfaaNum
namespace Go.Proofs.Ytboagjiejjapfaa
open Go.RowKit
set_option linter.unusedVariables false
set_option linter.unusedSimpArgs false
theorem impl_roots (n : Int) (w : World) (h0 : 0 ≤ n) (h1 : n ≤ 4000000000000000000) : Calls Try.prog 65 #[.int .i64 n] w fun e w' => e = .returned (.agg #[.int .i64 (Pl.rt n), .int .i64 (Pl.rtu n)]) ∧ Below w.heap.size w w' := by
  go_enter Try.func65, Try.ntmps65
  go_wp2_with (first | (go_at_call 76; refine (impl_rootDown _ _ (by omega) (by omega)).mono ?_; rintro e w' ⟨rfl, rfl⟩) | (go_at_call 77; refine (impl_rootUp _ _ (by omega) (by omega)).mono ?_; rintro e w' ⟨rfl, rfl⟩))
  go_returns
  exact ⟨rfl, by repeat' (first | (with_reducible exact Below.refl _ _) | (with_reducible assumption) | (with_reducible refine Below.alloc ?_ ?_ _) | (with_reducible refine Below.drew ?_) | (with_reducible refine Below.setCell ?_ ?_ _) | (refine Below.after ?_ ?_ (by with_reducible assumption)) | go_size)⟩
theorem ret_iv {a b c : Int} {r : (Int × Int) × Int} (h : r = ((a, b), c)) : Ending.returned (.tuple #[.agg #[.int .i64 a, .int .i64 b], .int .i64 c]) = .returned (.tuple #[.agg #[.int .i64 r.1.1, .int .i64 r.1.2], .int .i64 r.2]) := by rw [h]

def fGround (s a : Int) : (Int × Int) × Int := if inB s 0 1000000 && inB a 0 1000000 then (if s < a then ((0, 0), 5) else ((Pl.rt (s * s - a * a), Pl.rtu (s * s - a * a)), 0)) else ((0, 0), 2)
def fSlant (g a : Int) : (Int × Int) × Int := if inB g 0 1000000 && inB a 0 1000000 then ((Pl.rt (g * g + a * a), Pl.rtu (g * g + a * a)), 0) else ((0, 0), 2)

theorem gfacts {s a : Int} (h1 : 0 ≤ a) (h2 : a ≤ s) (h3 : s ≤ 1000000) : 0 ≤ a * a ∧ a * a ≤ s * s ∧ s * s ≤ 1000000000000 :=
  ⟨Int.mul_nonneg h1 h1, Pl.sq_le h1 h2, by have := Pl.sq_le (a := s) (b := 1000000) (by omega) h3; omega⟩
theorem sfacts {a : Int} (h1 : 0 ≤ a ∧ a ≤ 1000000) : 0 ≤ a * a ∧ a * a ≤ 1000000000000 :=
  ⟨Int.mul_nonneg h1.1 h1.1, by have := Pl.sq_le (a := a) (b := 1000000) (by omega) h1.2; omega⟩

theorem impl_GroundBounds (s a : Int) (w : World) : Calls Try.prog 27 #[.int .i64 s, .int .i64 a] w fun e w' => e = .returned (.tuple #[.agg #[.int .i64 (fGround s a).1.1, .int .i64 (fGround s a).1.2], .int .i64 (fGround s a).2]) ∧ Below w.heap.size w w' := by
  cases h1 : inB s 0 1000000
  · go_enter Try.func27, Try.ntmps27
    go_wp2_with (first | (go_at_call 54; refine (impl_isSlant _ _).mono ?_; rintro e w' ⟨rfl, rfl⟩))
    go_returns
    exact ⟨ret_iv (by simp [fGround, h1]), by repeat' (first | (with_reducible exact Below.refl _ _) | (with_reducible assumption) | (with_reducible refine Below.alloc ?_ ?_ _) | (with_reducible refine Below.drew ?_) | (with_reducible refine Below.setCell ?_ ?_ _) | (refine Below.after ?_ ?_ (by with_reducible assumption)) | go_size)⟩
  · cases h2 : inB a 0 1000000
    · go_enter Try.func27, Try.ntmps27
      go_wp2_with (first | (go_at_call 54; refine (impl_isSlant _ _).mono ?_; rintro e w' ⟨rfl, rfl⟩))
      go_returns
      exact ⟨ret_iv (by simp [fGround, h1, h2]), by repeat' (first | (with_reducible exact Below.refl _ _) | (with_reducible assumption) | (with_reducible refine Below.alloc ?_ ?_ _) | (with_reducible refine Below.drew ?_) | (with_reducible refine Below.setCell ?_ ?_ _) | (refine Below.after ?_ ?_ (by with_reducible assumption)) | go_size)⟩
    · have b1 := of_inB h1
      have b2 := of_inB h2
      by_cases h3 : s < a
      · go_enter Try.func27, Try.ntmps27
        go_wp2_with (first | (go_at_call 54; refine (impl_isSlant _ _).mono ?_; rintro e w' ⟨rfl, rfl⟩))
        go_returns
        exact ⟨ret_iv (by simp [fGround, h1, h2, h3]), by repeat' (first | (with_reducible exact Below.refl _ _) | (with_reducible assumption) | (with_reducible refine Below.alloc ?_ ?_ _) | (with_reducible refine Below.drew ?_) | (with_reducible refine Below.setCell ?_ ?_ _) | (refine Below.after ?_ ?_ (by with_reducible assumption)) | go_size)⟩
      · obtain ⟨f1, f2, f3⟩ := gfacts b2.1 (by omega) b1.2
        go_enter Try.func27, Try.ntmps27
        go_wp2_with (first | (go_at_call 54; refine (impl_isSlant _ _).mono ?_; rintro e w' ⟨rfl, rfl⟩) | (go_at_call 65; refine (impl_roots _ _ (by omega) (by omega)).mono ?_; rintro e w1 ⟨rfl, hb1⟩; have hz1 := hb1.size; (try simp only [World.size_alloc, World.size_setCell, World.size_drew] at hz1); obtain ⟨hc1, hf1, hl1, hm1, hn1⟩ := bcell hb1))
        ((try simp only [Exit.inBlock, Exit.then]); refine bodyPost_ret (by simp [results, Try.results27, go_sem, *]; try rfl) rfl ?_)
        exact ⟨ret_iv (by rw [fGround, h1, h2, Bool.true_and, if_pos rfl, if_neg (by omega)]), by repeat' (first | (with_reducible exact Below.refl _ _) | (with_reducible assumption) | (with_reducible refine Below.alloc ?_ ?_ _) | (with_reducible refine Below.drew ?_) | (with_reducible refine Below.setCell ?_ ?_ _) | (refine Below.after ?_ ?_ (by with_reducible assumption)) | go_size)⟩
theorem spec_GroundBounds (s a : Int) (w : World) : Calls Try.prog 26 #[.int .i64 s, .int .i64 a] w fun e w' => e = .returned (.tuple #[.agg #[.int .i64 (fGround s a).1.1, .int .i64 (fGround s a).1.2], .int .i64 (fGround s a).2]) ∧ Below w.heap.size w w' := by
  cases h1 : inB s 0 1000000
  · go_enter Try.func26, Try.ntmps26
    go_wp2_with (first | (go_at_call 62; refine (spec_l18Length _ _).mono ?_; rintro e w' ⟨rfl, rfl⟩))
    go_returns
    exact ⟨ret_iv (by simp [fGround, h1]), by repeat' (first | (with_reducible exact Below.refl _ _) | (with_reducible assumption) | (with_reducible refine Below.alloc ?_ ?_ _) | (with_reducible refine Below.drew ?_) | (with_reducible refine Below.setCell ?_ ?_ _) | (refine Below.after ?_ ?_ (by with_reducible assumption)) | go_size)⟩
  · cases h2 : inB a 0 1000000
    · go_enter Try.func26, Try.ntmps26
      go_wp2_with (first | (go_at_call 62; refine (spec_l18Length _ _).mono ?_; rintro e w' ⟨rfl, rfl⟩))
      go_returns
      exact ⟨ret_iv (by simp [fGround, h1, h2]), by repeat' (first | (with_reducible exact Below.refl _ _) | (with_reducible assumption) | (with_reducible refine Below.alloc ?_ ?_ _) | (with_reducible refine Below.drew ?_) | (with_reducible refine Below.setCell ?_ ?_ _) | (refine Below.after ?_ ?_ (by with_reducible assumption)) | go_size)⟩
    · have b1 := of_inB h1
      have b2 := of_inB h2
      by_cases h3 : s < a
      · go_enter Try.func26, Try.ntmps26
        go_wp2_with (first | (go_at_call 62; refine (spec_l18Length _ _).mono ?_; rintro e w' ⟨rfl, rfl⟩))
        go_returns
        exact ⟨ret_iv (by simp [fGround, h1, h2, h3]), by repeat' (first | (with_reducible exact Below.refl _ _) | (with_reducible assumption) | (with_reducible refine Below.alloc ?_ ?_ _) | (with_reducible refine Below.drew ?_) | (with_reducible refine Below.setCell ?_ ?_ _) | (refine Below.after ?_ ?_ (by with_reducible assumption)) | go_size)⟩
      · obtain ⟨f1, f2, f3⟩ := gfacts b2.1 (by omega) b1.2
        go_enter Try.func26, Try.ntmps26
        go_wp2_with (first | (go_at_call 62; refine (spec_l18Length _ _).mono ?_; rintro e w' ⟨rfl, rfl⟩) | (go_at_call 63; refine (spec_l01Root _ _ (by omega) (by omega)).mono ?_; rintro e w' ⟨rfl, rfl⟩) | (go_at_call 64; refine (spec_l01RootUp _ _ (by omega) (by omega)).mono ?_; rintro e w' ⟨rfl, rfl⟩))
        go_returns
        exact ⟨ret_iv (by rw [fGround, h1, h2, Bool.true_and, if_pos rfl, if_neg (by omega)]), by repeat' (first | (with_reducible exact Below.refl _ _) | (with_reducible assumption) | (with_reducible refine Below.alloc ?_ ?_ _) | (with_reducible refine Below.drew ?_) | (with_reducible refine Below.setCell ?_ ?_ _) | (refine Below.after ?_ ?_ (by with_reducible assumption)) | go_size)⟩
theorem impl_SlantBounds (s a : Int) (w : World) : Calls Try.prog 24 #[.int .i64 s, .int .i64 a] w fun e w' => e = .returned (.tuple #[.agg #[.int .i64 (fSlant s a).1.1, .int .i64 (fSlant s a).1.2], .int .i64 (fSlant s a).2]) ∧ Below w.heap.size w w' := by
  cases h1 : inB s 0 1000000
  · go_enter Try.func24, Try.ntmps24
    go_wp2_with (first | (go_at_call 54; refine (impl_isSlant _ _).mono ?_; rintro e w' ⟨rfl, rfl⟩))
    go_returns
    exact ⟨ret_iv (by simp [fSlant, h1]), by repeat' (first | (with_reducible exact Below.refl _ _) | (with_reducible assumption) | (with_reducible refine Below.alloc ?_ ?_ _) | (with_reducible refine Below.drew ?_) | (with_reducible refine Below.setCell ?_ ?_ _) | (refine Below.after ?_ ?_ (by with_reducible assumption)) | go_size)⟩
  · cases h2 : inB a 0 1000000
    · go_enter Try.func24, Try.ntmps24
      go_wp2_with (first | (go_at_call 54; refine (impl_isSlant _ _).mono ?_; rintro e w' ⟨rfl, rfl⟩))
      go_returns
      exact ⟨ret_iv (by simp [fSlant, h1, h2]), by repeat' (first | (with_reducible exact Below.refl _ _) | (with_reducible assumption) | (with_reducible refine Below.alloc ?_ ?_ _) | (with_reducible refine Below.drew ?_) | (with_reducible refine Below.setCell ?_ ?_ _) | (refine Below.after ?_ ?_ (by with_reducible assumption)) | go_size)⟩
    · have b1 := of_inB h1
      have b2 := of_inB h2
      have f1 := sfacts b1
      have f2 := sfacts b2
      go_enter Try.func24, Try.ntmps24
      go_wp2_with (first | (go_at_call 54; refine (impl_isSlant _ _).mono ?_; rintro e w' ⟨rfl, rfl⟩) | (go_at_call 66; refine (impl_square _ _ _ (by omega) (by omega)).mono ?_; rintro e w' ⟨rfl, rfl⟩) | (go_at_call 65; refine (impl_roots _ _ (by omega) (by omega)).mono ?_; rintro e w1 ⟨rfl, hb1⟩; have hz1 := hb1.size; (try simp only [World.size_alloc, World.size_setCell, World.size_drew] at hz1); obtain ⟨hc1, hf1, hl1, hm1, hn1⟩ := bcell hb1))
      ((try simp only [Exit.inBlock, Exit.then]); refine bodyPost_ret (by simp [results, Try.results24, go_sem, *]; try rfl) rfl ?_)
      exact ⟨ret_iv (by rw [fSlant, h1, h2, Bool.true_and, if_pos rfl]), by repeat' (first | (with_reducible exact Below.refl _ _) | (with_reducible assumption) | (with_reducible refine Below.alloc ?_ ?_ _) | (with_reducible refine Below.drew ?_) | (with_reducible refine Below.setCell ?_ ?_ _) | (refine Below.after ?_ ?_ (by with_reducible assumption)) | go_size)⟩
theorem spec_SlantBounds (s a : Int) (w : World) : Calls Try.prog 23 #[.int .i64 s, .int .i64 a] w fun e w' => e = .returned (.tuple #[.agg #[.int .i64 (fSlant s a).1.1, .int .i64 (fSlant s a).1.2], .int .i64 (fSlant s a).2]) ∧ Below w.heap.size w w' := by
  cases h1 : inB s 0 1000000
  · go_enter Try.func23, Try.ntmps23
    go_wp2_with (first | (go_at_call 62; refine (spec_l18Length _ _).mono ?_; rintro e w' ⟨rfl, rfl⟩))
    go_returns
    exact ⟨ret_iv (by simp [fSlant, h1]), by repeat' (first | (with_reducible exact Below.refl _ _) | (with_reducible assumption) | (with_reducible refine Below.alloc ?_ ?_ _) | (with_reducible refine Below.drew ?_) | (with_reducible refine Below.setCell ?_ ?_ _) | (refine Below.after ?_ ?_ (by with_reducible assumption)) | go_size)⟩
  · cases h2 : inB a 0 1000000
    · go_enter Try.func23, Try.ntmps23
      go_wp2_with (first | (go_at_call 62; refine (spec_l18Length _ _).mono ?_; rintro e w' ⟨rfl, rfl⟩))
      go_returns
      exact ⟨ret_iv (by simp [fSlant, h1, h2]), by repeat' (first | (with_reducible exact Below.refl _ _) | (with_reducible assumption) | (with_reducible refine Below.alloc ?_ ?_ _) | (with_reducible refine Below.drew ?_) | (with_reducible refine Below.setCell ?_ ?_ _) | (refine Below.after ?_ ?_ (by with_reducible assumption)) | go_size)⟩
    · have b1 := of_inB h1
      have b2 := of_inB h2
      have f1 := sfacts b1
      have f2 := sfacts b2
      go_enter Try.func23, Try.ntmps23
      go_wp2_with (first | (go_at_call 62; refine (spec_l18Length _ _).mono ?_; rintro e w' ⟨rfl, rfl⟩) | (go_at_call 63; refine (spec_l01Root _ _ (by omega) (by omega)).mono ?_; rintro e w' ⟨rfl, rfl⟩) | (go_at_call 64; refine (spec_l01RootUp _ _ (by omega) (by omega)).mono ?_; rintro e w' ⟨rfl, rfl⟩))
      go_returns
      exact ⟨ret_iv (by rw [fSlant, h1, h2, Bool.true_and, if_pos rfl]), by repeat' (first | (with_reducible exact Below.refl _ _) | (with_reducible assumption) | (with_reducible refine Below.alloc ?_ ?_ _) | (with_reducible refine Below.drew ?_) | (with_reducible refine Below.setCell ?_ ?_ _) | (refine Below.after ?_ ?_ (by with_reducible assumption)) | go_size)⟩
theorem laws_eqInterval (a b c d : Int) (w : World) : Calls Try.prog 25 #[.agg #[.int .i64 a, .int .i64 b], .agg #[.int .i64 c, .int .i64 d]] w fun e w' => e = .returned (.bool (decide (a = c ∧ b = d))) ∧ Below w.heap.size w w' := by
  by_cases h1 : a = c
  · by_cases h2 : b = d
    · subst h1 h2
      go_enter Try.func25, Try.ntmps25
      go_wp2
      go_returns
      exact ⟨ret_bool (by simp), by repeat' (first | (with_reducible exact Below.refl _ _) | (with_reducible assumption) | (with_reducible refine Below.alloc ?_ ?_ _) | (with_reducible refine Below.drew ?_) | (with_reducible refine Below.setCell ?_ ?_ _) | (refine Below.after ?_ ?_ (by with_reducible assumption)) | go_size)⟩
    · subst h1
      go_enter Try.func25, Try.ntmps25
      go_wp2
      go_returns
      exact ⟨ret_bool (by simp [h2]), by repeat' (first | (with_reducible exact Below.refl _ _) | (with_reducible assumption) | (with_reducible refine Below.alloc ?_ ?_ _) | (with_reducible refine Below.drew ?_) | (with_reducible refine Below.setCell ?_ ?_ _) | (refine Below.after ?_ ?_ (by with_reducible assumption)) | go_size)⟩
  · go_enter Try.func25, Try.ntmps25
    go_wp2
    go_returns
    exact ⟨ret_bool (by simp [h1]), by repeat' (first | (with_reducible exact Below.refl _ _) | (with_reducible assumption) | (with_reducible refine Below.alloc ?_ ?_ _) | (with_reducible refine Below.drew ?_) | (with_reducible refine Below.setCell ?_ ?_ _) | (refine Below.after ?_ ?_ (by with_reducible assumption)) | go_size)⟩
def fNRoot (n : Int) : Int × Int := if inB n 0 4000000000000000000 then (Pl.nrt n, 0) else (0, 2)
theorem impl_NearestRoot (n : Int) (w : World) : Calls Try.prog 18 #[.int .i64 n] w fun e w' => e = .returned (.tuple #[.int .i64 (fNRoot n).1, .int .i64 (fNRoot n).2]) ∧ w = w' := by
  cases h1 : inB n 0 4000000000000000000
  · go_enter Try.func18, Try.ntmps18
    go_wp2_with (first | (go_at_call 58; refine (impl_within _ _ _ _).mono ?_; rintro e w' ⟨rfl, rfl⟩))
    go_ret2
    exact ⟨ret_ii (by simp [fNRoot, h1]) (by simp [fNRoot, h1]), rfl⟩
  · have b1 := of_inB h1
    go_enter Try.func18, Try.ntmps18
    go_wp2_with (first | (go_at_call 58; refine (impl_within _ _ _ _).mono ?_; rintro e w' ⟨rfl, rfl⟩) | (go_at_call 59; refine (impl_nearestRoot _ _ (by omega) (by omega)).mono ?_; rintro e w' ⟨rfl, rfl⟩))
    go_ret2
    exact ⟨ret_ii (by simp [fNRoot, h1]) (by simp [fNRoot, h1]), rfl⟩
theorem spec_NearestRoot (n : Int) (w : World) : Calls Try.prog 17 #[.int .i64 n] w fun e w' => e = .returned (.tuple #[.int .i64 (fNRoot n).1, .int .i64 (fNRoot n).2]) ∧ w = w' := by
  cases h1 : inB n 0 4000000000000000000
  · go_enter Try.func17, Try.ntmps17
    go_wp2_with (first | (go_at_call 56; refine (spec_l01In _ _ _ _).mono ?_; rintro e w' ⟨rfl, rfl⟩))
    go_ret2
    exact ⟨ret_ii (by simp [fNRoot, h1]) (by simp [fNRoot, h1]), rfl⟩
  · have b1 := of_inB h1
    go_enter Try.func17, Try.ntmps17
    go_wp2_with (first | (go_at_call 56; refine (spec_l01In _ _ _ _).mono ?_; rintro e w' ⟨rfl, rfl⟩) | (go_at_call 57; refine (spec_l18Root _ _ (by omega) (by omega)).mono ?_; rintro e w' ⟨rfl, rfl⟩))
    go_ret2
    exact ⟨ret_ii (by simp [fNRoot, h1]) (by simp [fNRoot, h1]), rfl⟩
end Go.Proofs.Ytboagjiejjapfaa
