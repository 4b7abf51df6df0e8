/- The height of a shadow: contracts and the law's walk. -/
import Derived.Test.YtboagjiejjapfaaRatio
namespace Go.Proofs.Ytboagjiejjapfaa
open Go.RowKit
set_option linter.unusedVariables false
set_option linter.unusedSimpArgs false
theorem impl_ShadowHeight (sl sh al : Int) (w : World) : Calls Try.prog 29 #[.int .i64 sl, .int .i64 sh, .int .i64 al] w fun e w' => e = .returned (.tuple #[.agg #[.int .i64 (fShadow sl sh al).1.1, .int .i64 (fShadow sl sh al).1.2], .int .i64 (fShadow sl sh al).2]) ∧ Below w.heap.size w w' := by
  cases h1 : inB sl 0 1000000
  · go_enter Try.func29, Try.ntmps29
    go_wp2_with (first | (go_at_call 54; refine (impl_isSlant _ _).mono ?_; rintro e w' ⟨rfl, rfl⟩))
    go_returns
    exact ⟨ret_iv (by simp [fShadow, h1]), by repeat' (first | (with_reducible exact Below.refl _ _) | (with_reducible assumption) | (with_reducible refine Below.new ?_ _) | (with_reducible refine Below.alloc ?_ ?_ _) | (with_reducible refine Below.drew ?_) | (with_reducible refine below_drewN ?_ _) | (with_reducible refine Below.setCell ?_ ?_ _) | (refine Below.next ?_ (by with_reducible assumption)) | (refine Below.trans ?_ (by with_reducible assumption)) | (refine Below.after ?_ ?_ (by with_reducible assumption)) | go_size)⟩
  · cases h2 : inB sh 0 1000000
    · go_enter Try.func29, Try.ntmps29
      go_wp2_with (first | (go_at_call 54; refine (impl_isSlant _ _).mono ?_; rintro e w' ⟨rfl, rfl⟩))
      go_returns
      exact ⟨ret_iv (by simp [fShadow, h1, h2]), by repeat' (first | (with_reducible exact Below.refl _ _) | (with_reducible assumption) | (with_reducible refine Below.new ?_ _) | (with_reducible refine Below.alloc ?_ ?_ _) | (with_reducible refine Below.drew ?_) | (with_reducible refine below_drewN ?_ _) | (with_reducible refine Below.setCell ?_ ?_ _) | (refine Below.next ?_ (by with_reducible assumption)) | (refine Below.trans ?_ (by with_reducible assumption)) | (refine Below.after ?_ ?_ (by with_reducible assumption)) | go_size)⟩
    · cases h3 : inB al 0 1000000
      · go_enter Try.func29, Try.ntmps29
        go_wp2_with (first | (go_at_call 54; refine (impl_isSlant _ _).mono ?_; rintro e w' ⟨rfl, rfl⟩))
        go_returns
        exact ⟨ret_iv (by simp [fShadow, h1, h2, h3]), by repeat' (first | (with_reducible exact Below.refl _ _) | (with_reducible assumption) | (with_reducible refine Below.new ?_ _) | (with_reducible refine Below.alloc ?_ ?_ _) | (with_reducible refine Below.drew ?_) | (with_reducible refine below_drewN ?_ _) | (with_reducible refine Below.setCell ?_ ?_ _) | (refine Below.next ?_ (by with_reducible assumption)) | (refine Below.trans ?_ (by with_reducible assumption)) | (refine Below.after ?_ ?_ (by with_reducible assumption)) | go_size)⟩
      · have b1 := of_inB h1
        have b2 := of_inB h2
        have b3 := of_inB h3
        have bm := mul_bd b3 b2
        by_cases h4 : sl + sh = 0
        · have e4 : (sl + sh == 0) = true := by simpa using h4
          have h4' := Lib.hid h4
          clear h4
          go_enter Try.func29, Try.ntmps29
          go_wp2_with (first | (go_at_call 54; refine (impl_isSlant _ _).mono ?_; rintro e w' ⟨rfl, rfl⟩))
          go_returns
          exact ⟨ret_iv (by simp [fShadow, h1, h2, h3, h4'.out]), by repeat' (first | (with_reducible exact Below.refl _ _) | (with_reducible assumption) | (with_reducible refine Below.new ?_ _) | (with_reducible refine Below.alloc ?_ ?_ _) | (with_reducible refine Below.drew ?_) | (with_reducible refine below_drewN ?_ _) | (with_reducible refine Below.setCell ?_ ?_ _) | (refine Below.next ?_ (by with_reducible assumption)) | (refine Below.trans ?_ (by with_reducible assumption)) | (refine Below.after ?_ ?_ (by with_reducible assumption)) | go_size)⟩
        · have e4 : (sl + sh == 0) = false := by simpa using h4
          have h4' := Lib.hid h4
          have h5 : 0 < sl + sh := by omega
          clear h4
          go_enter Try.func29, Try.ntmps29
          go_wp2_with (first | (go_at_call 54; refine (impl_isSlant _ _).mono ?_; rintro e w' ⟨rfl, rfl⟩) | (go_at_call 68; refine (impl_ratio _ _ _ _ (by omega) (by omega)).mono ?_; rintro e w1 ⟨rfl, hb1⟩; have hz1 := hb1.size; obtain ⟨hc1, hf1, hl1, hm1, hn1⟩ := bcell hb1; (try simp only [World.size_alloc, World.size_setCell, World.size_drew] at hz1 hc1 hf1 hl1 hm1 hn1); (try have hs1 : w.heap.size < w1.heap.size := by omega); (try have ht1 : w.heap.size ≤ w1.heap.size := by omega); (try have hs1 : w.heap.size < w1.heap.size := by omega); (try (have q1 := hc1 (w.heap.size) 0 (by omega); (conv at q1 => rhs; simp [*]))); (try (have q1 := hc1 (w.heap.size) 1 (by omega); (conv at q1 => rhs; simp [*]))); (try (have z1 := hf1 (w.heap.size) 0 (by omega); (conv at z1 => rhs; simp [*]))); (try (have z1 := hf1 (w.heap.size) 1 (by omega); (conv at z1 => rhs; simp [*])))))
          ((try simp only [Exit.inBlock, Exit.then]); refine bodyPost_ret (by simp [results, Try.results29, go_sem, *]; try rfl) rfl ?_)
          exact ⟨ret_iv (by rw [fShadow, h1, h2, h3, Bool.true_and, Bool.true_and, if_pos rfl, if_neg h4'.out]), by repeat' (first | (with_reducible exact Below.refl _ _) | (with_reducible assumption) | (with_reducible refine Below.new ?_ _) | (with_reducible refine Below.alloc ?_ ?_ _) | (with_reducible refine Below.drew ?_) | (with_reducible refine below_drewN ?_ _) | (with_reducible refine Below.setCell ?_ ?_ _) | (refine Below.next ?_ (by with_reducible assumption)) | (refine Below.trans ?_ (by with_reducible assumption)) | (refine Below.after ?_ ?_ (by with_reducible assumption)) | go_size)⟩
theorem spec_ShadowHeight (sl sh al : Int) (w : World) : Calls Try.prog 28 #[.int .i64 sl, .int .i64 sh, .int .i64 al] w fun e w' => e = .returned (.tuple #[.agg #[.int .i64 (fShadow sl sh al).1.1, .int .i64 (fShadow sl sh al).1.2], .int .i64 (fShadow sl sh al).2]) ∧ Below w.heap.size w w' := by
  cases h1 : inB sl 0 1000000
  · go_enter Try.func28, Try.ntmps28
    go_wp2_with (first | (go_at_call 62; refine (spec_l18Length _ _).mono ?_; rintro e w' ⟨rfl, rfl⟩))
    go_returns
    exact ⟨ret_iv (by simp [fShadow, h1]), by repeat' (first | (with_reducible exact Below.refl _ _) | (with_reducible assumption) | (with_reducible refine Below.new ?_ _) | (with_reducible refine Below.alloc ?_ ?_ _) | (with_reducible refine Below.drew ?_) | (with_reducible refine below_drewN ?_ _) | (with_reducible refine Below.setCell ?_ ?_ _) | (refine Below.next ?_ (by with_reducible assumption)) | (refine Below.trans ?_ (by with_reducible assumption)) | (refine Below.after ?_ ?_ (by with_reducible assumption)) | go_size)⟩
  · cases h2 : inB sh 0 1000000
    · go_enter Try.func28, Try.ntmps28
      go_wp2_with (first | (go_at_call 62; refine (spec_l18Length _ _).mono ?_; rintro e w' ⟨rfl, rfl⟩))
      go_returns
      exact ⟨ret_iv (by simp [fShadow, h1, h2]), by repeat' (first | (with_reducible exact Below.refl _ _) | (with_reducible assumption) | (with_reducible refine Below.new ?_ _) | (with_reducible refine Below.alloc ?_ ?_ _) | (with_reducible refine Below.drew ?_) | (with_reducible refine below_drewN ?_ _) | (with_reducible refine Below.setCell ?_ ?_ _) | (refine Below.next ?_ (by with_reducible assumption)) | (refine Below.trans ?_ (by with_reducible assumption)) | (refine Below.after ?_ ?_ (by with_reducible assumption)) | go_size)⟩
    · cases h3 : inB al 0 1000000
      · go_enter Try.func28, Try.ntmps28
        go_wp2_with (first | (go_at_call 62; refine (spec_l18Length _ _).mono ?_; rintro e w' ⟨rfl, rfl⟩))
        go_returns
        exact ⟨ret_iv (by simp [fShadow, h1, h2, h3]), by repeat' (first | (with_reducible exact Below.refl _ _) | (with_reducible assumption) | (with_reducible refine Below.new ?_ _) | (with_reducible refine Below.alloc ?_ ?_ _) | (with_reducible refine Below.drew ?_) | (with_reducible refine below_drewN ?_ _) | (with_reducible refine Below.setCell ?_ ?_ _) | (refine Below.next ?_ (by with_reducible assumption)) | (refine Below.trans ?_ (by with_reducible assumption)) | (refine Below.after ?_ ?_ (by with_reducible assumption)) | go_size)⟩
      · have b1 := of_inB h1
        have b2 := of_inB h2
        have b3 := of_inB h3
        have bm := mul_bd b3 b2
        by_cases h4 : sl + sh = 0
        · have e4 : (sl + sh == 0) = true := by simpa using h4
          have h4' := Lib.hid h4
          clear h4
          go_enter Try.func28, Try.ntmps28
          go_wp2_with (first | (go_at_call 62; refine (spec_l18Length _ _).mono ?_; rintro e w' ⟨rfl, rfl⟩))
          go_returns
          exact ⟨ret_iv (by simp [fShadow, h1, h2, h3, h4'.out]), by repeat' (first | (with_reducible exact Below.refl _ _) | (with_reducible assumption) | (with_reducible refine Below.new ?_ _) | (with_reducible refine Below.alloc ?_ ?_ _) | (with_reducible refine Below.drew ?_) | (with_reducible refine below_drewN ?_ _) | (with_reducible refine Below.setCell ?_ ?_ _) | (refine Below.next ?_ (by with_reducible assumption)) | (refine Below.trans ?_ (by with_reducible assumption)) | (refine Below.after ?_ ?_ (by with_reducible assumption)) | go_size)⟩
        · have e4 : (sl + sh == 0) = false := by simpa using h4
          have h4' := Lib.hid h4
          have h5 : 0 < sl + sh := by omega
          clear h4
          go_enter Try.func28, Try.ntmps28
          go_wp2_with (first | (go_at_call 62; refine (spec_l18Length _ _).mono ?_; rintro e w' ⟨rfl, rfl⟩) | (go_at_call 67; refine (spec_l12Ratio _ _ _ (by omega) (by omega)).mono ?_; rintro e w1 ⟨rfl, hb1⟩; have hz1 := hb1.size; obtain ⟨hc1, hf1, hl1, hm1, hn1⟩ := bcell hb1; (try simp only [World.size_alloc, World.size_setCell, World.size_drew] at hz1 hc1 hf1 hl1 hm1 hn1); (try have hs1 : w.heap.size < w1.heap.size := by omega); (try have ht1 : w.heap.size ≤ w1.heap.size := by omega); (try have hs1 : w.heap.size < w1.heap.size := by omega); (try (have q1 := hc1 (w.heap.size) 0 (by omega); (conv at q1 => rhs; simp [*]))); (try (have q1 := hc1 (w.heap.size) 1 (by omega); (conv at q1 => rhs; simp [*]))); (try (have z1 := hf1 (w.heap.size) 0 (by omega); (conv at z1 => rhs; simp [*]))); (try (have z1 := hf1 (w.heap.size) 1 (by omega); (conv at z1 => rhs; simp [*])))))
          ((try simp only [Exit.inBlock, Exit.then]); refine bodyPost_ret (by simp [results, Try.results28, go_sem, *]; try rfl) rfl ?_)
          exact ⟨ret_iv (by rw [fShadow, h1, h2, h3, Bool.true_and, Bool.true_and, if_pos rfl, if_neg h4'.out]), by repeat' (first | (with_reducible exact Below.refl _ _) | (with_reducible assumption) | (with_reducible refine Below.new ?_ _) | (with_reducible refine Below.alloc ?_ ?_ _) | (with_reducible refine Below.drew ?_) | (with_reducible refine below_drewN ?_ _) | (with_reducible refine Below.setCell ?_ ?_ _) | (refine Below.next ?_ (by with_reducible assumption)) | (refine Below.trans ?_ (by with_reducible assumption)) | (refine Below.after ?_ ?_ (by with_reducible assumption)) | go_size)⟩
theorem laws_eqRatio (a b c d : Int) (w : World) : Calls Try.prog 30 #[.agg #[.int .i64 a, .int .i64 b], .agg #[.int .i64 c, .int .i64 d]] w fun e w' => e = .returned (.bool (decide (a = c ∧ b = d))) ∧ Below w.heap.size w w' := by
  by_cases h1 : a = c
  · by_cases h2 : b = d
    · subst h1 h2
      go_enter Try.func30, Try.ntmps30
      go_wp2
      go_returns
      exact ⟨ret_bool (by simp), by repeat' (first | (with_reducible exact Below.refl _ _) | (with_reducible assumption) | (with_reducible refine Below.new ?_ _) | (with_reducible refine Below.alloc ?_ ?_ _) | (with_reducible refine Below.drew ?_) | (with_reducible refine below_drewN ?_ _) | (with_reducible refine Below.setCell ?_ ?_ _) | (refine Below.next ?_ (by with_reducible assumption)) | (refine Below.trans ?_ (by with_reducible assumption)) | (refine Below.after ?_ ?_ (by with_reducible assumption)) | go_size)⟩
    · subst h1
      go_enter Try.func30, Try.ntmps30
      go_wp2
      go_returns
      exact ⟨ret_bool (by simp [h2]), by repeat' (first | (with_reducible exact Below.refl _ _) | (with_reducible assumption) | (with_reducible refine Below.new ?_ _) | (with_reducible refine Below.alloc ?_ ?_ _) | (with_reducible refine Below.drew ?_) | (with_reducible refine below_drewN ?_ _) | (with_reducible refine Below.setCell ?_ ?_ _) | (refine Below.next ?_ (by with_reducible assumption)) | (refine Below.trans ?_ (by with_reducible assumption)) | (refine Below.after ?_ ?_ (by with_reducible assumption)) | go_size)⟩
  · go_enter Try.func30, Try.ntmps30
    go_wp2
    go_returns
    exact ⟨ret_bool (by simp [h1]), by repeat' (first | (with_reducible exact Below.refl _ _) | (with_reducible assumption) | (with_reducible refine Below.new ?_ _) | (with_reducible refine Below.alloc ?_ ?_ _) | (with_reducible refine Below.drew ?_) | (with_reducible refine below_drewN ?_ _) | (with_reducible refine Below.setCell ?_ ?_ _) | (refine Below.next ?_ (by with_reducible assumption)) | (refine Below.trans ?_ (by with_reducible assumption)) | (refine Below.after ?_ ?_ (by with_reducible assumption)) | go_size)⟩
theorem walk_ShadowHeight (a b c : Int) (w : World) : Calls Try.prog 8 #[.int .i64 a, .int .i64 b, .int .i64 c] w fun e w' => e = .returned (.bool true) ∧ Below w.heap.size w w' := by
  go_enter Try.func8, Try.ntmps8
  go_wp2_with (first | (go_at_call 28; refine (spec_ShadowHeight _ _ _ _).mono ?_; rintro e w1 ⟨rfl, hb1⟩; have hz1 := hb1.size; obtain ⟨hc1, hf1, hl1, hm1, hn1⟩ := bcell hb1; (try simp only [World.size_alloc, World.size_setCell, World.size_drew] at hz1 hc1 hf1 hl1 hm1 hn1); (try have hs1 : w.heap.size < w1.heap.size := by omega); (try have ht1 : w.heap.size ≤ w1.heap.size := by omega)) | (go_at_call 29; refine (impl_ShadowHeight _ _ _ _).mono ?_; rintro e w1 ⟨rfl, hb1⟩; have hz1 := hb1.size; obtain ⟨hc1, hf1, hl1, hm1, hn1⟩ := bcell hb1; (try simp only [World.size_alloc, World.size_setCell, World.size_drew] at hz1 hc1 hf1 hl1 hm1 hn1); (try have hs1 : w.heap.size < w1.heap.size := by omega); (try have ht1 : w.heap.size ≤ w1.heap.size := by omega)) | (go_at_call 30; refine (laws_eqRatio _ _ _ _ _).mono ?_; rintro e w1 ⟨rfl, hb1⟩; have hz1 := hb1.size; obtain ⟨hc1, hf1, hl1, hm1, hn1⟩ := bcell hb1; (try simp only [World.size_alloc, World.size_setCell, World.size_drew] at hz1 hc1 hf1 hl1 hm1 hn1); (try have hs1 : w.heap.size < w1.heap.size := by omega); (try have ht1 : w.heap.size ≤ w1.heap.size := by omega)))
  go_returns
  exact ⟨rfl, by repeat' (first | (with_reducible exact Below.refl _ _) | (with_reducible assumption) | (with_reducible refine Below.new ?_ _) | (with_reducible refine Below.alloc ?_ ?_ _) | (with_reducible refine Below.drew ?_) | (with_reducible refine below_drewN ?_ _) | (with_reducible refine Below.setCell ?_ ?_ _) | (refine Below.next ?_ (by with_reducible assumption)) | (refine Below.trans ?_ (by with_reducible assumption)) | (refine Below.after ?_ ?_ (by with_reducible assumption)) | go_size)⟩
end Go.Proofs.Ytboagjiejjapfaa
