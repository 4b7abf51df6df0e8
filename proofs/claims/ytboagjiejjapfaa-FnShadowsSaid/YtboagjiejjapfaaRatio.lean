/- Ratios: contracts (for numbers of at least 0). -/
import Derived.Test.YtboagjiejjapfaaBounds
import Derived.BigQuiet
namespace Go.Proofs.Ytboagjiejjapfaa
open Go.RowKit
set_option linter.unusedVariables false
set_option linter.unusedSimpArgs false

def gcdI (a b : Int) : Int := (Int.gcd a b : Int)
theorem gcdI_nonneg (a b : Int) : 0 ≤ gcdI a b := by unfold gcdI; omega
theorem gcdI_pos {a b : Int} (hb : 0 < b) : 0 < gcdI a b := by
  have : 0 < Int.gcd a b := Int.gcd_pos_of_ne_zero_right a (by omega)
  unfold gcdI; omega
theorem gcdI_zero {a : Int} (ha : 0 ≤ a) : gcdI a 0 = a := Pl.gcd_end a ha
theorem gcdI_step {a b : Int} (ha : 0 ≤ a) (hb : 0 < b) : gcdI a b = gcdI b (a % b) := by unfold gcdI; rw [Pl.gcd_step a b hb ha]

theorem impl_abs (a : Int) (w : World) (h : 0 ≤ a ∧ a ≤ 9223372036854775807) : Calls Try.prog 89 #[.int .i64 a] w fun e w' => e = .returned (.int .i64 a) ∧ w = w' := by
  obtain ⟨h0, h1⟩ := h
  by_cases h2 : a = 0
  · subst h2
    go_enter Try.func89, Try.ntmps89
    go_wp2
    all_goals go_ret
    all_goals exact ⟨ret_int (by try omega), rfl⟩
  · have h3 : 0 < a := by omega
    go_enter Try.func89, Try.ntmps89
    go_wp2
    all_goals go_ret
    all_goals exact ⟨ret_int (by try omega), rfl⟩
theorem spec_l01Abs (a : Int) (w : World) (h : 0 ≤ a ∧ a ≤ 9223372036854775807) : Calls Try.prog 90 #[.int .i64 a] w fun e w' => e = .returned (.int .i64 a) ∧ w = w' := by
  obtain ⟨h0, h1⟩ := h
  by_cases h2 : a = 0
  · subst h2
    go_enter Try.func90, Try.ntmps90
    go_wp2
    all_goals go_ret
    all_goals exact ⟨ret_int (by try omega), rfl⟩
  · have h3 : 0 < a := by omega
    go_enter Try.func90, Try.ntmps90
    go_wp2
    all_goals go_ret
    all_goals exact ⟨ret_int (by try omega), rfl⟩
theorem impl_gcd (a b : Int) (w : World) (ha : 0 ≤ a ∧ a ≤ 4611686018427387904) (hb : 0 ≤ b ∧ b ≤ 4611686018427387904) : Calls Try.prog 85 #[.int .i64 a, .int .i64 b] w fun e w' => e = .returned (.int .i64 (gcdI a b)) ∧ Below w.heap.size w w' := by
  go_enter Try.func85, Try.ntmps85
  go_wp2
  go_loopw [0, 1] (fun u v wr => ∃ x y : Int, u = .int .i64 x ∧ v = .int .i64 y ∧ 0 ≤ x ∧ x ≤ 4611686018427387904 ∧ 0 ≤ y ∧ y ≤ 4611686018427387904 ∧ Hid (gcdI x y = gcdI a b) ∧ Below w.heap.size w wr) (fun _ v _ => (intOf v).toNat)
  case atStart => exact ⟨a, b, rfl, rfl, ha.1, ha.2, hb.1, hb.2, rfl, Below.refl _ _⟩
  case round =>
    obtain ⟨x, y, rfl, rfl, x0, x1, y0, y1, hg, hbr⟩ := hrel
    by_cases hy : y = 0
    · subst hy
      go_wp2_with (first | (go_at_call 89; refine (impl_abs _ _ (by omega)).mono ?_; rintro e w' ⟨rfl, rfl⟩))
      go_ret
      exact ⟨ret_int (by rw [← hg.out, gcdI_zero x0]), hbr⟩
    · have h1 : (y != 0) = true := by simpa using hy
      have h2 : 0 < y := by omega
      have m1 := Int.emod_nonneg x (show y ≠ 0 by omega)
      have m2 := Int.emod_lt_of_pos x h2
      go_wp2_with fail
      go_quiet (fail)
      go_wp2
      go_roundw
      case rel => exact ⟨y, x % y, rfl, rfl, by omega, by omega, by omega, by omega, by unfold Hid; rw [← gcdI_step x0 h2]; exact hg.out, by repeat' (first | (with_reducible exact Below.refl _ _) | (with_reducible assumption) | (with_reducible refine Below.new ?_ _) | (with_reducible refine Below.alloc ?_ ?_ _) | (with_reducible refine Below.drew ?_) | (with_reducible refine below_drewN ?_ _) | (with_reducible refine Below.setCell ?_ ?_ _) | (refine Below.next ?_ (by with_reducible assumption)) | (refine Below.trans ?_ (by with_reducible assumption)) | (refine Below.after ?_ ?_ (by with_reducible assumption)) | go_size)⟩
      case measure => simp [intOf]; omega
theorem spec_l01Divisor (a b : Int) (w : World) (ha : 0 ≤ a ∧ a ≤ 4611686018427387904) (hb : 0 ≤ b ∧ b ≤ 4611686018427387904) : Calls Try.prog 87 #[.int .i64 a, .int .i64 b] w fun e w' => e = .returned (.int .i64 (gcdI a b)) ∧ Below w.heap.size w w' := by
  go_enter Try.func87, Try.ntmps87
  go_wp2_with (first | (go_at_call 90; refine (spec_l01Abs _ _ (by omega)).mono ?_; rintro e w' ⟨rfl, rfl⟩))
  go_loopw [0, 1] (fun u v wr => ∃ x y : Int, u = .int .i64 x ∧ v = .int .i64 y ∧ 0 ≤ x ∧ x ≤ 4611686018427387904 ∧ 0 ≤ y ∧ y ≤ 4611686018427387904 ∧ Hid (gcdI x y = gcdI a b) ∧ Below w.heap.size w wr) (fun _ v _ => (intOf v).toNat)
  case atStart => exact ⟨a, b, rfl, rfl, ha.1, ha.2, hb.1, hb.2, rfl, Below.refl _ _⟩
  case round =>
    obtain ⟨x, y, rfl, rfl, x0, x1, y0, y1, hg, hbr⟩ := hrel
    by_cases hy : y = 0
    · subst hy
      go_wp2
      go_ret
      exact ⟨ret_int (by rw [← hg.out, gcdI_zero x0]), hbr⟩
    · have h2 : 0 < y := by omega
      have m1 := Int.emod_nonneg x (show y ≠ 0 by omega)
      have m2 := Int.emod_lt_of_pos x h2
      go_wp2_with fail
      go_quiet (fail)
      go_wp2
      go_roundw
      case rel => exact ⟨y, x % y, rfl, rfl, by omega, by omega, by omega, by omega, by unfold Hid; rw [← gcdI_step x0 h2]; exact hg.out, by repeat' (first | (with_reducible exact Below.refl _ _) | (with_reducible assumption) | (with_reducible refine Below.new ?_ _) | (with_reducible refine Below.alloc ?_ ?_ _) | (with_reducible refine Below.drew ?_) | (with_reducible refine below_drewN ?_ _) | (with_reducible refine Below.setCell ?_ ?_ _) | (refine Below.next ?_ (by with_reducible assumption)) | (refine Below.trans ?_ (by with_reducible assumption)) | (refine Below.after ?_ ?_ (by with_reducible assumption)) | go_size)⟩
      case measure => simp [intOf]; omega
def ratB (n d : Int) : Bool := inB n (-1000000000) 1000000000 && (inB d 1 1000000000 && (gcdI n d == 1))
theorem impl_IsRatio (n d : Int) (w : World) (ha : 0 ≤ n ∧ n ≤ 4611686018427387904) (hb : 0 ≤ d ∧ d ≤ 4611686018427387904) : Calls Try.prog 86 #[.agg #[.int .i64 n, .int .i64 d]] w fun e w' => e = .returned (.bool (ratB n d)) ∧ Below w.heap.size w w' := by
  cases h1 : inB n (-1000000000) 1000000000
  · go_enter Try.func86, Try.ntmps86
    go_wp2_with (first | (go_at_call 58; refine (impl_within _ _ _ _).mono ?_; rintro e w' ⟨rfl, rfl⟩))
    go_returns
    exact ⟨ret_bool (by simp [ratB, h1]), by repeat' (first | (with_reducible exact Below.refl _ _) | (with_reducible assumption) | (with_reducible refine Below.new ?_ _) | (with_reducible refine Below.alloc ?_ ?_ _) | (with_reducible refine Below.drew ?_) | (with_reducible refine below_drewN ?_ _) | (with_reducible refine Below.setCell ?_ ?_ _) | (refine Below.next ?_ (by with_reducible assumption)) | (refine Below.trans ?_ (by with_reducible assumption)) | (refine Below.after ?_ ?_ (by with_reducible assumption)) | go_size)⟩
  · cases h2 : inB d 1 1000000000
    · go_enter Try.func86, Try.ntmps86
      go_wp2_with (first | (go_at_call 58; refine (impl_within _ _ _ _).mono ?_; rintro e w' ⟨rfl, rfl⟩))
      go_returns
      exact ⟨ret_bool (by simp [ratB, h1, h2]), by repeat' (first | (with_reducible exact Below.refl _ _) | (with_reducible assumption) | (with_reducible refine Below.new ?_ _) | (with_reducible refine Below.alloc ?_ ?_ _) | (with_reducible refine Below.drew ?_) | (with_reducible refine below_drewN ?_ _) | (with_reducible refine Below.setCell ?_ ?_ _) | (refine Below.next ?_ (by with_reducible assumption)) | (refine Below.trans ?_ (by with_reducible assumption)) | (refine Below.after ?_ ?_ (by with_reducible assumption)) | go_size)⟩
    · go_enter Try.func86, Try.ntmps86
      go_wp2_with (first | (go_at_call 58; refine (impl_within _ _ _ _).mono ?_; rintro e w' ⟨rfl, rfl⟩) | (go_at_call 85; refine (impl_gcd _ _ _ (by omega) (by omega)).mono ?_; rintro e w1 ⟨rfl, hb1⟩; have hz1 := hb1.size; obtain ⟨hc1, hf1, hl1, hm1, hn1⟩ := bcell hb1; (try simp only [World.size_alloc, World.size_setCell, World.size_drew] at hz1 hc1 hf1 hl1 hm1 hn1); (try have hs1 : w.heap.size < w1.heap.size := by omega); (try have ht1 : w.heap.size ≤ w1.heap.size := by omega)))
      go_returns
      exact ⟨ret_bool (by simp [ratB, h1, h2]), by repeat' (first | (with_reducible exact Below.refl _ _) | (with_reducible assumption) | (with_reducible refine Below.new ?_ _) | (with_reducible refine Below.alloc ?_ ?_ _) | (with_reducible refine Below.drew ?_) | (with_reducible refine below_drewN ?_ _) | (with_reducible refine Below.setCell ?_ ?_ _) | (refine Below.next ?_ (by with_reducible assumption)) | (refine Below.trans ?_ (by with_reducible assumption)) | (refine Below.after ?_ ?_ (by with_reducible assumption)) | go_size)⟩
theorem spec_IsRatio (n d : Int) (w : World) (ha : 0 ≤ n ∧ n ≤ 4611686018427387904) (hb : 0 ≤ d ∧ d ≤ 4611686018427387904) : Calls Try.prog 88 #[.agg #[.int .i64 n, .int .i64 d]] w fun e w' => e = .returned (.bool (ratB n d)) ∧ Below w.heap.size w w' := by
  cases h1 : inB n (-1000000000) 1000000000
  · go_enter Try.func88, Try.ntmps88
    go_wp2_with (first | (go_at_call 56; refine (spec_l01In _ _ _ _).mono ?_; rintro e w' ⟨rfl, rfl⟩))
    go_returns
    exact ⟨ret_bool (by simp [ratB, h1]), by repeat' (first | (with_reducible exact Below.refl _ _) | (with_reducible assumption) | (with_reducible refine Below.new ?_ _) | (with_reducible refine Below.alloc ?_ ?_ _) | (with_reducible refine Below.drew ?_) | (with_reducible refine below_drewN ?_ _) | (with_reducible refine Below.setCell ?_ ?_ _) | (refine Below.next ?_ (by with_reducible assumption)) | (refine Below.trans ?_ (by with_reducible assumption)) | (refine Below.after ?_ ?_ (by with_reducible assumption)) | go_size)⟩
  · cases h2 : inB d 1 1000000000
    · go_enter Try.func88, Try.ntmps88
      go_wp2_with (first | (go_at_call 56; refine (spec_l01In _ _ _ _).mono ?_; rintro e w' ⟨rfl, rfl⟩))
      go_returns
      exact ⟨ret_bool (by simp [ratB, h1, h2]), by repeat' (first | (with_reducible exact Below.refl _ _) | (with_reducible assumption) | (with_reducible refine Below.new ?_ _) | (with_reducible refine Below.alloc ?_ ?_ _) | (with_reducible refine Below.drew ?_) | (with_reducible refine below_drewN ?_ _) | (with_reducible refine Below.setCell ?_ ?_ _) | (refine Below.next ?_ (by with_reducible assumption)) | (refine Below.trans ?_ (by with_reducible assumption)) | (refine Below.after ?_ ?_ (by with_reducible assumption)) | go_size)⟩
    · go_enter Try.func88, Try.ntmps88
      go_wp2_with (first | (go_at_call 56; refine (spec_l01In _ _ _ _).mono ?_; rintro e w' ⟨rfl, rfl⟩) | (go_at_call 87; refine (spec_l01Divisor _ _ _ (by omega) (by omega)).mono ?_; rintro e w1 ⟨rfl, hb1⟩; have hz1 := hb1.size; obtain ⟨hc1, hf1, hl1, hm1, hn1⟩ := bcell hb1; (try simp only [World.size_alloc, World.size_setCell, World.size_drew] at hz1 hc1 hf1 hl1 hm1 hn1); (try have hs1 : w.heap.size < w1.heap.size := by omega); (try have ht1 : w.heap.size ≤ w1.heap.size := by omega)))
      go_returns
      exact ⟨ret_bool (by simp [ratB, h1, h2]), by repeat' (first | (with_reducible exact Below.refl _ _) | (with_reducible assumption) | (with_reducible refine Below.new ?_ _) | (with_reducible refine Below.alloc ?_ ?_ _) | (with_reducible refine Below.drew ?_) | (with_reducible refine below_drewN ?_ _) | (with_reducible refine Below.setCell ?_ ?_ _) | (refine Below.next ?_ (by with_reducible assumption)) | (refine Below.trans ?_ (by with_reducible assumption)) | (refine Below.after ?_ ?_ (by with_reducible assumption)) | go_size)⟩
def fRatio (n d c : Int) : (Int × Int) × Int := if ratB (n / gcdI n d) (d / gcdI n d) then ((n / gcdI n d, d / gcdI n d), 0) else ((0, 0), c)
theorem impl_ratio (n d c : Int) (w : World) (ha : 0 ≤ n ∧ n ≤ 4611686018427387904) (hb : 0 < d ∧ d ≤ 4611686018427387904) : Calls Try.prog 68 #[.int .i64 n, .int .i64 d, .int .i64 c] w fun e w' => e = .returned (.tuple #[.agg #[.int .i64 (fRatio n d c).1.1, .int .i64 (fRatio n d c).1.2], .int .i64 (fRatio n d c).2]) ∧ Below w.heap.size w w' := by
  have hg := gcdI_pos (a := n) hb.1
  have n1 := (Pl.div_bd (a := n) hg).1 ha.1
  have d1 := (Pl.div_bd (a := d) hg).1 (by omega)
  have nd : ¬ d < 0 := by omega
  cases h1 : ratB (n / gcdI n d) (d / gcdI n d)
  · go_enter Try.func68, Try.ntmps68
    go_wp2_with (first | (go_at_call 85; refine (impl_gcd _ _ _ (by omega) (by omega)).mono ?_; rintro e w1 ⟨rfl, hb1⟩; have hz1 := hb1.size; obtain ⟨hc1, hf1, hl1, hm1, hn1⟩ := bcell hb1; (try simp only [World.size_alloc, World.size_setCell, World.size_drew] at hz1 hc1 hf1 hl1 hm1 hn1); (try have hs1 : w.heap.size < w1.heap.size := by omega); (try have ht1 : w.heap.size ≤ w1.heap.size := by omega); (try have hs1 : w.heap.size < w1.heap.size := by omega); (try (have q1 := hc1 (w.heap.size) 0 (by omega); (conv at q1 => rhs; simp [*]))); (try (have q1 := hc1 (w.heap.size) 1 (by omega); (conv at q1 => rhs; simp [*]))); (try (have z1 := hf1 (w.heap.size) 0 (by omega); (conv at z1 => rhs; simp [*]))); (try (have z1 := hf1 (w.heap.size) 1 (by omega); (conv at z1 => rhs; simp [*])))))
    go_region
    all_goals go_wp2_with (first | (go_at_call 86; refine (impl_IsRatio _ _ _ (by omega) (by omega)).mono ?_; rintro e w1 ⟨rfl, hb1⟩; have hz1 := hb1.size; obtain ⟨hc1, hf1, hl1, hm1, hn1⟩ := bcell hb1; (try simp only [World.size_alloc, World.size_setCell, World.size_drew] at hz1 hc1 hf1 hl1 hm1 hn1); (try have hs1 : w.heap.size < w1.heap.size := by omega); (try have ht1 : w.heap.size ≤ w1.heap.size := by omega); (try have hs1 : w.heap.size < w1.heap.size := by omega); (try (have q1 := hc1 (w.heap.size) 0 (by omega); (conv at q1 => rhs; simp [*]))); (try (have q1 := hc1 (w.heap.size) 1 (by omega); (conv at q1 => rhs; simp [*]))); (try (have z1 := hf1 (w.heap.size) 0 (by omega); (conv at z1 => rhs; simp [*]))); (try (have z1 := hf1 (w.heap.size) 1 (by omega); (conv at z1 => rhs; simp [*])))))
    ((try simp only [Exit.inBlock, Exit.then]); refine bodyPost_ret (by simp [results, Try.results68, go_sem, *]; try rfl) rfl ?_)
    exact ⟨ret_iv (by simp [fRatio, h1]), by repeat' (first | (with_reducible exact Below.refl _ _) | (with_reducible assumption) | (with_reducible refine Below.new ?_ _) | (with_reducible refine Below.alloc ?_ ?_ _) | (with_reducible refine Below.drew ?_) | (with_reducible refine below_drewN ?_ _) | (with_reducible refine Below.setCell ?_ ?_ _) | (refine Below.next ?_ (by with_reducible assumption)) | (refine Below.trans ?_ (by with_reducible assumption)) | (refine Below.after ?_ ?_ (by with_reducible assumption)) | go_size)⟩
  · go_enter Try.func68, Try.ntmps68
    go_wp2_with (first | (go_at_call 85; refine (impl_gcd _ _ _ (by omega) (by omega)).mono ?_; rintro e w1 ⟨rfl, hb1⟩; have hz1 := hb1.size; obtain ⟨hc1, hf1, hl1, hm1, hn1⟩ := bcell hb1; (try simp only [World.size_alloc, World.size_setCell, World.size_drew] at hz1 hc1 hf1 hl1 hm1 hn1); (try have hs1 : w.heap.size < w1.heap.size := by omega); (try have ht1 : w.heap.size ≤ w1.heap.size := by omega); (try have hs1 : w.heap.size < w1.heap.size := by omega); (try (have q1 := hc1 (w.heap.size) 0 (by omega); (conv at q1 => rhs; simp [*]))); (try (have q1 := hc1 (w.heap.size) 1 (by omega); (conv at q1 => rhs; simp [*]))); (try (have z1 := hf1 (w.heap.size) 0 (by omega); (conv at z1 => rhs; simp [*]))); (try (have z1 := hf1 (w.heap.size) 1 (by omega); (conv at z1 => rhs; simp [*])))))
    go_region
    all_goals go_wp2_with (first | (go_at_call 86; refine (impl_IsRatio _ _ _ (by omega) (by omega)).mono ?_; rintro e w1 ⟨rfl, hb1⟩; have hz1 := hb1.size; obtain ⟨hc1, hf1, hl1, hm1, hn1⟩ := bcell hb1; (try simp only [World.size_alloc, World.size_setCell, World.size_drew] at hz1 hc1 hf1 hl1 hm1 hn1); (try have hs1 : w.heap.size < w1.heap.size := by omega); (try have ht1 : w.heap.size ≤ w1.heap.size := by omega); (try have hs1 : w.heap.size < w1.heap.size := by omega); (try (have q1 := hc1 (w.heap.size) 0 (by omega); (conv at q1 => rhs; simp [*]))); (try (have q1 := hc1 (w.heap.size) 1 (by omega); (conv at q1 => rhs; simp [*]))); (try (have z1 := hf1 (w.heap.size) 0 (by omega); (conv at z1 => rhs; simp [*]))); (try (have z1 := hf1 (w.heap.size) 1 (by omega); (conv at z1 => rhs; simp [*])))))
    ((try simp only [Exit.inBlock, Exit.then]); refine bodyPost_ret (by simp [results, Try.results68, go_sem, *]; try rfl) rfl ?_)
    exact ⟨ret_iv (by simp [fRatio, h1]), by repeat' (first | (with_reducible exact Below.refl _ _) | (with_reducible assumption) | (with_reducible refine Below.new ?_ _) | (with_reducible refine Below.alloc ?_ ?_ _) | (with_reducible refine Below.drew ?_) | (with_reducible refine below_drewN ?_ _) | (with_reducible refine Below.setCell ?_ ?_ _) | (refine Below.next ?_ (by with_reducible assumption)) | (refine Below.trans ?_ (by with_reducible assumption)) | (refine Below.after ?_ ?_ (by with_reducible assumption)) | go_size)⟩
theorem spec_l03Make (n d : Int) (w : World) (ha : 0 ≤ n ∧ n ≤ 4611686018427387904) (hb : 0 < d ∧ d ≤ 4611686018427387904) : Calls Try.prog 84 #[.int .i64 n, .int .i64 d] w fun e w' => e = .returned (.tuple #[.agg #[.int .i64 (fRatio n d 2).1.1, .int .i64 (fRatio n d 2).1.2], .int .i64 (fRatio n d 2).2]) ∧ Below w.heap.size w w' := by
  have hg := gcdI_pos (a := n) hb.1
  have n1 := (Pl.div_bd (a := n) hg).1 ha.1
  have d1 := (Pl.div_bd (a := d) hg).1 (by omega)
  have nd : ¬ d < 0 := by omega
  cases h1 : ratB (n / gcdI n d) (d / gcdI n d)
  · go_enter Try.func84, Try.ntmps84
    go_wp2_with (first | (go_at_call 87; refine (spec_l01Divisor _ _ _ (by omega) (by omega)).mono ?_; rintro e w1 ⟨rfl, hb1⟩; have hz1 := hb1.size; obtain ⟨hc1, hf1, hl1, hm1, hn1⟩ := bcell hb1; (try simp only [World.size_alloc, World.size_setCell, World.size_drew] at hz1 hc1 hf1 hl1 hm1 hn1); (try have hs1 : w.heap.size < w1.heap.size := by omega); (try have ht1 : w.heap.size ≤ w1.heap.size := by omega); (try have hs1 : w.heap.size < w1.heap.size := by omega); (try (have q1 := hc1 (w.heap.size) 0 (by omega); (conv at q1 => rhs; simp [*]))); (try (have q1 := hc1 (w.heap.size) 1 (by omega); (conv at q1 => rhs; simp [*]))); (try (have z1 := hf1 (w.heap.size) 0 (by omega); (conv at z1 => rhs; simp [*]))); (try (have z1 := hf1 (w.heap.size) 1 (by omega); (conv at z1 => rhs; simp [*])))))
    go_region
    all_goals go_wp2_with (first | (go_at_call 88; refine (spec_IsRatio _ _ _ (by omega) (by omega)).mono ?_; rintro e w1 ⟨rfl, hb1⟩; have hz1 := hb1.size; obtain ⟨hc1, hf1, hl1, hm1, hn1⟩ := bcell hb1; (try simp only [World.size_alloc, World.size_setCell, World.size_drew] at hz1 hc1 hf1 hl1 hm1 hn1); (try have hs1 : w.heap.size < w1.heap.size := by omega); (try have ht1 : w.heap.size ≤ w1.heap.size := by omega); (try have hs1 : w.heap.size < w1.heap.size := by omega); (try (have q1 := hc1 (w.heap.size) 0 (by omega); (conv at q1 => rhs; simp [*]))); (try (have q1 := hc1 (w.heap.size) 1 (by omega); (conv at q1 => rhs; simp [*]))); (try (have z1 := hf1 (w.heap.size) 0 (by omega); (conv at z1 => rhs; simp [*]))); (try (have z1 := hf1 (w.heap.size) 1 (by omega); (conv at z1 => rhs; simp [*])))))
    ((try simp only [Exit.inBlock, Exit.then]); refine bodyPost_ret (by simp [results, Try.results84, go_sem, *]; try rfl) rfl ?_)
    exact ⟨ret_iv (by simp [fRatio, h1]), by repeat' (first | (with_reducible exact Below.refl _ _) | (with_reducible assumption) | (with_reducible refine Below.new ?_ _) | (with_reducible refine Below.alloc ?_ ?_ _) | (with_reducible refine Below.drew ?_) | (with_reducible refine below_drewN ?_ _) | (with_reducible refine Below.setCell ?_ ?_ _) | (refine Below.next ?_ (by with_reducible assumption)) | (refine Below.trans ?_ (by with_reducible assumption)) | (refine Below.after ?_ ?_ (by with_reducible assumption)) | go_size)⟩
  · go_enter Try.func84, Try.ntmps84
    go_wp2_with (first | (go_at_call 87; refine (spec_l01Divisor _ _ _ (by omega) (by omega)).mono ?_; rintro e w1 ⟨rfl, hb1⟩; have hz1 := hb1.size; obtain ⟨hc1, hf1, hl1, hm1, hn1⟩ := bcell hb1; (try simp only [World.size_alloc, World.size_setCell, World.size_drew] at hz1 hc1 hf1 hl1 hm1 hn1); (try have hs1 : w.heap.size < w1.heap.size := by omega); (try have ht1 : w.heap.size ≤ w1.heap.size := by omega); (try have hs1 : w.heap.size < w1.heap.size := by omega); (try (have q1 := hc1 (w.heap.size) 0 (by omega); (conv at q1 => rhs; simp [*]))); (try (have q1 := hc1 (w.heap.size) 1 (by omega); (conv at q1 => rhs; simp [*]))); (try (have z1 := hf1 (w.heap.size) 0 (by omega); (conv at z1 => rhs; simp [*]))); (try (have z1 := hf1 (w.heap.size) 1 (by omega); (conv at z1 => rhs; simp [*])))))
    go_region
    all_goals go_wp2_with (first | (go_at_call 88; refine (spec_IsRatio _ _ _ (by omega) (by omega)).mono ?_; rintro e w1 ⟨rfl, hb1⟩; have hz1 := hb1.size; obtain ⟨hc1, hf1, hl1, hm1, hn1⟩ := bcell hb1; (try simp only [World.size_alloc, World.size_setCell, World.size_drew] at hz1 hc1 hf1 hl1 hm1 hn1); (try have hs1 : w.heap.size < w1.heap.size := by omega); (try have ht1 : w.heap.size ≤ w1.heap.size := by omega); (try have hs1 : w.heap.size < w1.heap.size := by omega); (try (have q1 := hc1 (w.heap.size) 0 (by omega); (conv at q1 => rhs; simp [*]))); (try (have q1 := hc1 (w.heap.size) 1 (by omega); (conv at q1 => rhs; simp [*]))); (try (have z1 := hf1 (w.heap.size) 0 (by omega); (conv at z1 => rhs; simp [*]))); (try (have z1 := hf1 (w.heap.size) 1 (by omega); (conv at z1 => rhs; simp [*])))))
    ((try simp only [Exit.inBlock, Exit.then]); refine bodyPost_ret (by simp [results, Try.results84, go_sem, *]; try rfl) rfl ?_)
    exact ⟨ret_iv (by simp [fRatio, h1]), by repeat' (first | (with_reducible exact Below.refl _ _) | (with_reducible assumption) | (with_reducible refine Below.new ?_ _) | (with_reducible refine Below.alloc ?_ ?_ _) | (with_reducible refine Below.drew ?_) | (with_reducible refine below_drewN ?_ _) | (with_reducible refine Below.setCell ?_ ?_ _) | (refine Below.next ?_ (by with_reducible assumption)) | (refine Below.trans ?_ (by with_reducible assumption)) | (refine Below.after ?_ ?_ (by with_reducible assumption)) | go_size)⟩
theorem fRatio_code (n d c : Int) : (fRatio n d c) = if ratB (n / gcdI n d) (d / gcdI n d) then ((n / gcdI n d, d / gcdI n d), 0) else ((0, 0), c) := rfl
theorem fRatio_ok {n d : Int} (h : ratB (n / gcdI n d) (d / gcdI n d) = true) (c c' : Int) : fRatio n d c = fRatio n d c' := by simp [fRatio, h]
theorem fRatio_2 {n d : Int} (h : ratB (n / gcdI n d) (d / gcdI n d) = true) (c : Int) : (fRatio n d c).2 = 0 := by simp [fRatio, h]
theorem fRatio_2' {n d : Int} (h : ratB (n / gcdI n d) (d / gcdI n d) = false) (c : Int) : (fRatio n d c).2 = c := by simp [fRatio, h]
theorem spec_l12Ratio (n d : Int) (w : World) (ha : 0 ≤ n ∧ n ≤ 4611686018427387904) (hb : 0 < d ∧ d ≤ 4611686018427387904) : Calls Try.prog 67 #[.int .i64 n, .int .i64 d] w fun e w' => e = .returned (.tuple #[.agg #[.int .i64 (fRatio n d 3).1.1, .int .i64 (fRatio n d 3).1.2], .int .i64 (fRatio n d 3).2]) ∧ Below w.heap.size w w' := by
  cases h1 : ratB (n / gcdI n d) (d / gcdI n d)
  · have h2 := fRatio_2' h1 2
    go_enter Try.func67, Try.ntmps67
    go_wp2_with (first | (go_at_call 84; refine (spec_l03Make _ _ _ (by omega) (by omega)).mono ?_; rintro e w1 ⟨rfl, hb1⟩; have hz1 := hb1.size; obtain ⟨hc1, hf1, hl1, hm1, hn1⟩ := bcell hb1; (try simp only [World.size_alloc, World.size_setCell, World.size_drew] at hz1 hc1 hf1 hl1 hm1 hn1); (try have hs1 : w.heap.size < w1.heap.size := by omega); (try have ht1 : w.heap.size ≤ w1.heap.size := by omega); (try have hs1 : w.heap.size < w1.heap.size := by omega); (try (have q1 := hc1 (w.heap.size) 0 (by omega); (conv at q1 => rhs; simp [*]))); (try (have q1 := hc1 (w.heap.size) 1 (by omega); (conv at q1 => rhs; simp [*]))); (try (have z1 := hf1 (w.heap.size) 0 (by omega); (conv at z1 => rhs; simp [*]))); (try (have z1 := hf1 (w.heap.size) 1 (by omega); (conv at z1 => rhs; simp [*])))))
    ((try simp only [Exit.inBlock, Exit.then]); refine bodyPost_ret (by simp [results, Try.results67, go_sem, *]; try rfl) rfl ?_)
    exact ⟨ret_iv (by simp [fRatio, h1]), by repeat' (first | (with_reducible exact Below.refl _ _) | (with_reducible assumption) | (with_reducible refine Below.new ?_ _) | (with_reducible refine Below.alloc ?_ ?_ _) | (with_reducible refine Below.drew ?_) | (with_reducible refine below_drewN ?_ _) | (with_reducible refine Below.setCell ?_ ?_ _) | (refine Below.next ?_ (by with_reducible assumption)) | (refine Below.trans ?_ (by with_reducible assumption)) | (refine Below.after ?_ ?_ (by with_reducible assumption)) | go_size)⟩
  · have h2 := fRatio_2 h1 2
    go_enter Try.func67, Try.ntmps67
    go_wp2_with (first | (go_at_call 84; refine (spec_l03Make _ _ _ (by omega) (by omega)).mono ?_; rintro e w1 ⟨rfl, hb1⟩; have hz1 := hb1.size; obtain ⟨hc1, hf1, hl1, hm1, hn1⟩ := bcell hb1; (try simp only [World.size_alloc, World.size_setCell, World.size_drew] at hz1 hc1 hf1 hl1 hm1 hn1); (try have hs1 : w.heap.size < w1.heap.size := by omega); (try have ht1 : w.heap.size ≤ w1.heap.size := by omega); (try have hs1 : w.heap.size < w1.heap.size := by omega); (try (have q1 := hc1 (w.heap.size) 0 (by omega); (conv at q1 => rhs; simp [*]))); (try (have q1 := hc1 (w.heap.size) 1 (by omega); (conv at q1 => rhs; simp [*]))); (try (have z1 := hf1 (w.heap.size) 0 (by omega); (conv at z1 => rhs; simp [*]))); (try (have z1 := hf1 (w.heap.size) 1 (by omega); (conv at z1 => rhs; simp [*])))))
    ((try simp only [Exit.inBlock, Exit.then]); refine bodyPost_ret (by simp [results, Try.results67, go_sem, *]; try rfl) rfl ?_)
    exact ⟨ret_iv (by rw [fRatio_ok h1 3 2, ← h2]), by repeat' (first | (with_reducible exact Below.refl _ _) | (with_reducible assumption) | (with_reducible refine Below.new ?_ _) | (with_reducible refine Below.alloc ?_ ?_ _) | (with_reducible refine Below.drew ?_) | (with_reducible refine below_drewN ?_ _) | (with_reducible refine Below.setCell ?_ ?_ _) | (refine Below.next ?_ (by with_reducible assumption)) | (refine Below.trans ?_ (by with_reducible assumption)) | (refine Below.after ?_ ?_ (by with_reducible assumption)) | go_size)⟩
def fShadow (sl sh al : Int) : (Int × Int) × Int := if inB sl 0 1000000 && (inB sh 0 1000000 && inB al 0 1000000) then (if sl + sh = 0 then ((0, 0), 5) else fRatio (al * sh) (sl + sh) 3) else ((0, 0), 2)
theorem mul_bd {a b : Int} (h1 : 0 ≤ a ∧ a ≤ 1000000) (h2 : 0 ≤ b ∧ b ≤ 1000000) : 0 ≤ a * b ∧ a * b ≤ 1000000000000 :=
  ⟨Int.mul_nonneg h1.1 h2.1, Int.le_trans (Int.mul_le_mul h1.2 h2.2 h2.1 (by omega)) (by omega)⟩
end Go.Proofs.Ytboagjiejjapfaa
