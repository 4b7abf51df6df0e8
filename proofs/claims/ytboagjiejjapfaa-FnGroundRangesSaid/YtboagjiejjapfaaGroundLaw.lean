/- Ground ranges: the law's walk. -/
import Derived.Test.YtboagjiejjapfaaRootsLaw
import Derived.Test.YtboagjiejjapfaaLawKit
import Derived.WalkLawsBesides
import Derived.Laws.StructEq
namespace Go.Proofs.Ytboagjiejjapfaa
open Go.RowKit
set_option linter.unusedVariables false
set_option linter.unusedSimpArgs false
theorem rt_mono_le {n r : Int} (hn : 0 ≤ n) (hr : 0 ≤ r) (h : n ≤ r * r) : Pl.rt n ≤ r := by
  have hs := Pl.rt_spec hn
  have hp := Pl.rt_nonneg n
  rcases Int.lt_or_le r (Pl.rt n) with h1 | h1
  · have := Pl.sq_le (a := r + 1) (b := Pl.rt n) (by omega) (by omega)
    have e : (r + 1) * (r + 1) = r * r + 2 * r + 1 := by grind
    omega
  · exact h1
theorem rtu_le {n r : Int} (hn : 0 ≤ n) (hr : 0 ≤ r) (h : n ≤ r * r) : Pl.rtu n ≤ r := by
  have h1 := rt_mono_le hn hr h
  have hp := Pl.rt_nonneg n
  unfold Pl.rtu
  split
  · rename_i hlt
    rcases Int.lt_or_le (Pl.rt n) r with h2 | h2
    · omega
    · have : Pl.rt n = r := by omega
      rw [this] at hlt
      omega
  · exact h1
theorem rtu_ge {n r : Int} (hn : 0 ≤ n) (hr : 0 ≤ r) (h : r * r ≤ n) : r ≤ Pl.rtu n := by
  have hs := Pl.rt_spec hn
  have hp := Pl.rt_nonneg n
  have hle : r ≤ Pl.rt n := by
    rcases Int.lt_or_le (Pl.rt n) r with h1 | h1
    · have := Pl.sq_le (a := Pl.rt n + 1) (b := r) (by omega) (by omega)
      omega
    · exact h1
  unfold Pl.rtu; split <;> omega
theorem ground_facts {s a : Int} (h1 : 0 ≤ a) (h2 : a ≤ s) (h3 : s ≤ 1000000) : ∃ l h p p2 q q2, fGround s a = ((l, h), 0) ∧ fSlant l a = ((p, p2), 0) ∧ fSlant h a = ((q2, q), 0) ∧ p ≤ s ∧ s ≤ q ∧ h ≤ s := by
  obtain ⟨g1, g2, g3⟩ := gfacts h1 h2 h3
  have hn : 0 ≤ s * s - a * a := by omega
  have hl1 := rt_mono_le hn (by omega : 0 ≤ s) (by omega)
  have hu1 := rtu_le hn (by omega : 0 ≤ s) (by omega)
  have hp := Pl.rt_nonneg (s * s - a * a)
  obtain ⟨l, u, e1, e2, l1, u1, l2, u2, lu⟩ := rb_facts hn (by omega)
  rw [← e1] at hl1 hp
  rw [← e2] at hu1
  have i1 : inB s 0 1000000 = true := inB_t (by omega)
  have i2 : inB a 0 1000000 = true := inB_t (by omega)
  have i3 : inB l 0 1000000 = true := inB_t (by omega)
  have i4 : inB u 0 1000000 = true := inB_t (by omega)
  refine ⟨l, u, Pl.rt (l * l + a * a), Pl.rtu (l * l + a * a), Pl.rtu (u * u + a * a), Pl.rt (u * u + a * a), ?_, ?_, ?_, ?_, ?_, hu1⟩
  · simp [fGround, i1, i2, e1, e2]; omega
  · simp [fSlant, i2, i3]
  · simp [fSlant, i2, i4]
  · exact rt_mono_le (by omega) (by omega) (by omega)
  · exact rtu_ge (by omega) (by omega) (by omega)
theorem walk_GroundRanges (A : Option Addr) (c : Nat) (code : List Int) (w : World) (hr : U8 w w.heap.size A code) (hb : ∀ x ∈ code, 0 ≤ x ∧ x ≤ 255) :
    Calls Try.prog 11 #[.slice A code.length c] w fun e w' => e = .returned (.bool true) ∧ Below w.heap.size w w' := by
  by_cases hl : code.length ≤ 4096
  · go_enter Try.func11, Try.ntmps11
    go_wp2_with (first | (go_at_call 35; refine (laws_big _ _ _ _).mono ?_; rintro e w' ⟨rfl, rfl⟩))
    go_wp2_with fail
    refine (spec_DrawGroundBounds _ _ _ _ hr hb hl).mono ?_
    rintro e w1 ⟨s, a, rfl, hs, ha, hb1⟩
    have hB1 : Below w.heap.size w w1 := by repeat' (first | (with_reducible exact Below.refl _ _) | (with_reducible assumption) | (with_reducible refine Below.new ?_ _) | (with_reducible refine Below.alloc ?_ ?_ _) | (with_reducible refine Below.drew ?_) | (with_reducible refine below_drewN ?_ _) | (with_reducible refine Below.setCell ?_ ?_ _) | (refine Below.next ?_ (by with_reducible assumption)) | (refine Below.row ?_ (by with_reducible assumption) (by omega)) | (refine Below.trans ?_ (by with_reducible assumption)) | (refine Below.after ?_ ?_ (by with_reducible assumption)) | go_size)
    clear hb1
    go_wp2_with fail
    refine (impl_GroundBounds _ _ _).mono ?_
    rintro e w2 ⟨rfl, hb2⟩
    have hB2 : Below w.heap.size w w2 := by repeat' (first | (with_reducible exact Below.refl _ _) | (with_reducible assumption) | (with_reducible refine Below.new ?_ _) | (with_reducible refine Below.alloc ?_ ?_ _) | (with_reducible refine Below.drew ?_) | (with_reducible refine below_drewN ?_ _) | (with_reducible refine Below.setCell ?_ ?_ _) | (refine Below.next ?_ (by with_reducible assumption)) | (refine Below.row ?_ (by with_reducible assumption) (by omega)) | (refine Below.trans ?_ (by with_reducible assumption)) | (refine Below.after ?_ ?_ (by with_reducible assumption)) | go_size)
    clear hb2 hB1
    go_wp2_with fail
    refine (spec_GroundBounds _ _ _).mono ?_
    rintro e w3 ⟨rfl, hb3⟩
    have bx0 := box_keep hb3 (box_new (W := w2) (o := 0) rfl)
    have bx1 := box_keep hb3 (box_new (W := w2) (o := 1) rfl)
    have bxl := box_lt bx0
    have hB3 : Below w.heap.size w w3 := by repeat' (first | (with_reducible exact Below.refl _ _) | (with_reducible assumption) | (with_reducible refine Below.new ?_ _) | (with_reducible refine Below.alloc ?_ ?_ _) | (with_reducible refine Below.drew ?_) | (with_reducible refine below_drewN ?_ _) | (with_reducible refine Below.setCell ?_ ?_ _) | (refine Below.next ?_ (by with_reducible assumption)) | (refine Below.row ?_ (by with_reducible assumption) (by omega)) | (refine Below.trans ?_ (by with_reducible assumption)) | (refine Below.after ?_ ?_ (by with_reducible assumption)) | go_size)
    clear hb3 hB2
    go_wp2_with fail
    refine (spec_DrawSlantBounds _ _ _ _ (Rd.up hr (by repeat' (first | (with_reducible exact Below.refl _ _) | (with_reducible assumption) | (with_reducible refine Below.new ?_ _) | (with_reducible refine Below.alloc ?_ ?_ _) | (with_reducible refine Below.drew ?_) | (with_reducible refine below_drewN ?_ _) | (with_reducible refine Below.setCell ?_ ?_ _) | (refine Below.next ?_ (by with_reducible assumption)) | (refine Below.row ?_ (by with_reducible assumption) (by omega)) | (refine Below.trans ?_ (by with_reducible assumption)) | (refine Below.after ?_ ?_ (by with_reducible assumption)) | go_size))) hb hl).mono ?_
    rintro e w4 ⟨t, u, rfl, ht, hu, hb4⟩
    have bx0 := box_keep hb4 (box_alloc bx0)
    have bx1 := box_keep hb4 (box_alloc bx1)
    have bxl := box_lt bx0
    have bm0 := box_keep hb4 (box_new (W := w3) (o := 0) rfl)
    have bm1 := box_keep hb4 (box_new (W := w3) (o := 1) rfl)
    have bml := box_lt bm0
    have hB4 : Below w.heap.size w w4 := by repeat' (first | (with_reducible exact Below.refl _ _) | (with_reducible assumption) | (with_reducible refine Below.new ?_ _) | (with_reducible refine Below.alloc ?_ ?_ _) | (with_reducible refine Below.drew ?_) | (with_reducible refine below_drewN ?_ _) | (with_reducible refine Below.setCell ?_ ?_ _) | (refine Below.next ?_ (by with_reducible assumption)) | (refine Below.row ?_ (by with_reducible assumption) (by omega)) | (refine Below.trans ?_ (by with_reducible assumption)) | (refine Below.after ?_ ?_ (by with_reducible assumption)) | go_size)
    clear hb4 hB3
    go_wp2_with fail
    refine (impl_SlantBounds _ _ _).mono ?_
    rintro e w5 ⟨rfl, hb5⟩
    have bx0 := box_keep hb5 bx0
    have bx1 := box_keep hb5 bx1
    have bxl := box_lt bx0
    have bm0 := box_keep hb5 bm0
    have bm1 := box_keep hb5 bm1
    have bml := box_lt bm0
    have hB5 : Below w.heap.size w w5 := by repeat' (first | (with_reducible exact Below.refl _ _) | (with_reducible assumption) | (with_reducible refine Below.new ?_ _) | (with_reducible refine Below.alloc ?_ ?_ _) | (with_reducible refine Below.drew ?_) | (with_reducible refine below_drewN ?_ _) | (with_reducible refine Below.setCell ?_ ?_ _) | (refine Below.next ?_ (by with_reducible assumption)) | (refine Below.row ?_ (by with_reducible assumption) (by omega)) | (refine Below.trans ?_ (by with_reducible assumption)) | (refine Below.after ?_ ?_ (by with_reducible assumption)) | go_size)
    clear hb5 hB4
    go_wp2_with fail
    refine (spec_SlantBounds _ _ _).mono ?_
    rintro e w6 ⟨rfl, hb6⟩
    have bx0 := box_keep hb6 (box_alloc bx0)
    have bx1 := box_keep hb6 (box_alloc bx1)
    have bxl := box_lt bx0
    have bm0 := box_keep hb6 (box_alloc bm0)
    have bm1 := box_keep hb6 (box_alloc bm1)
    have bml := box_lt bm0
    have by0 := box_keep hb6 (box_new (W := w5) (o := 0) rfl)
    have by1 := box_keep hb6 (box_new (W := w5) (o := 1) rfl)
    have byl := box_lt by0
    have hB6 : Below w.heap.size w w6 := by repeat' (first | (with_reducible exact Below.refl _ _) | (with_reducible assumption) | (with_reducible refine Below.new ?_ _) | (with_reducible refine Below.alloc ?_ ?_ _) | (with_reducible refine Below.drew ?_) | (with_reducible refine below_drewN ?_ _) | (with_reducible refine Below.setCell ?_ ?_ _) | (refine Below.next ?_ (by with_reducible assumption)) | (refine Below.row ?_ (by with_reducible assumption) (by omega)) | (refine Below.trans ?_ (by with_reducible assumption)) | (refine Below.after ?_ ?_ (by with_reducible assumption)) | go_size)
    clear hb6 hB5
    clear hr hb
    cases i1 : inB s 0 1000000
    · have f1 : fGround s a = ((0, 0), 2) := by simp [fGround, i1]
      go_wp2
      go_ret
      exact ⟨rfl, by repeat' (first | (with_reducible exact Below.refl _ _) | (with_reducible assumption) | (with_reducible refine Below.new ?_ _) | (with_reducible refine Below.alloc ?_ ?_ _) | (with_reducible refine Below.drew ?_) | (with_reducible refine below_drewN ?_ _) | (with_reducible refine Below.setCell ?_ ?_ _) | (refine Below.next ?_ (by with_reducible assumption)) | (refine Below.row ?_ (by with_reducible assumption) (by omega)) | (refine Below.trans ?_ (by with_reducible assumption)) | (refine Below.after ?_ ?_ (by with_reducible assumption)) | go_size)⟩
    · cases i2 : inB a 0 1000000
      · have f1 : fGround s a = ((0, 0), 2) := by simp [fGround, i1, i2]
        go_wp2
        go_ret
        exact ⟨rfl, by repeat' (first | (with_reducible exact Below.refl _ _) | (with_reducible assumption) | (with_reducible refine Below.new ?_ _) | (with_reducible refine Below.alloc ?_ ?_ _) | (with_reducible refine Below.drew ?_) | (with_reducible refine below_drewN ?_ _) | (with_reducible refine Below.setCell ?_ ?_ _) | (refine Below.next ?_ (by with_reducible assumption)) | (refine Below.row ?_ (by with_reducible assumption) (by omega)) | (refine Below.trans ?_ (by with_reducible assumption)) | (refine Below.after ?_ ?_ (by with_reducible assumption)) | go_size)⟩
      · by_cases i3 : s < a
        · have f1 : fGround s a = ((0, 0), 5) := by simp [fGround, i1, i2, i3]
          go_wp2
          go_ret
          exact ⟨rfl, by repeat' (first | (with_reducible exact Below.refl _ _) | (with_reducible assumption) | (with_reducible refine Below.new ?_ _) | (with_reducible refine Below.alloc ?_ ?_ _) | (with_reducible refine Below.drew ?_) | (with_reducible refine below_drewN ?_ _) | (with_reducible refine Below.setCell ?_ ?_ _) | (refine Below.next ?_ (by with_reducible assumption)) | (refine Below.row ?_ (by with_reducible assumption) (by omega)) | (refine Below.trans ?_ (by with_reducible assumption)) | (refine Below.after ?_ ?_ (by with_reducible assumption)) | go_size)⟩
        · obtain ⟨l, h, p, p2, q, q2, f1, f2, f3, k1, k2, k3⟩ := ground_facts (of_inB i2).1 (by omega : a ≤ s) (of_inB i1).2
          go_wp2_with fail
          refine (impl_SlantBounds _ _ _).mono ?_
          rintro e w7 ⟨rfl, hb7⟩
          have bx0 := box_keep hb7 (box_alloc bx0)
          have bx1 := box_keep hb7 (box_alloc bx1)
          have bxl := box_lt bx0
          have bm0 := box_keep hb7 (box_alloc bm0)
          have bm1 := box_keep hb7 (box_alloc bm1)
          have bml := box_lt bm0
          have by0 := box_keep hb7 (box_alloc by0)
          have by1 := box_keep hb7 (box_alloc by1)
          have byl := box_lt by0
          have bz0 := box_keep hb7 (box_new (W := w6) (o := 0) rfl)
          have bz1 := box_keep hb7 (box_new (W := w6) (o := 1) rfl)
          have bzl := box_lt bz0
          have hB7 : Below w.heap.size w w7 := by repeat' (first | (with_reducible exact Below.refl _ _) | (with_reducible assumption) | (with_reducible refine Below.new ?_ _) | (with_reducible refine Below.alloc ?_ ?_ _) | (with_reducible refine Below.drew ?_) | (with_reducible refine below_drewN ?_ _) | (with_reducible refine Below.setCell ?_ ?_ _) | (refine Below.next ?_ (by with_reducible assumption)) | (refine Below.row ?_ (by with_reducible assumption) (by omega)) | (refine Below.trans ?_ (by with_reducible assumption)) | (refine Below.after ?_ ?_ (by with_reducible assumption)) | go_size)
          clear hb7 hB6
          go_wp2_with fail
          refine (impl_SlantBounds _ _ _).mono ?_
          rintro e w8 ⟨rfl, hb8⟩
          have bx0 := box_keep hb8 (box_alloc bx0)
          have bx1 := box_keep hb8 (box_alloc bx1)
          have bxl := box_lt bx0
          have bm0 := box_keep hb8 (box_alloc bm0)
          have bm1 := box_keep hb8 (box_alloc bm1)
          have bml := box_lt bm0
          have by0 := box_keep hb8 (box_alloc by0)
          have by1 := box_keep hb8 (box_alloc by1)
          have byl := box_lt by0
          have bz0 := box_keep hb8 (box_alloc bz0)
          have bz1 := box_keep hb8 (box_alloc bz1)
          have bzl := box_lt bz0
          have bu0 := box_keep hb8 (box_new (W := w7) (o := 0) rfl)
          have bu1 := box_keep hb8 (box_new (W := w7) (o := 1) rfl)
          have bul := box_lt bu0
          have hB8 : Below w.heap.size w w8 := by repeat' (first | (with_reducible exact Below.refl _ _) | (with_reducible assumption) | (with_reducible refine Below.new ?_ _) | (with_reducible refine Below.alloc ?_ ?_ _) | (with_reducible refine Below.drew ?_) | (with_reducible refine below_drewN ?_ _) | (with_reducible refine Below.setCell ?_ ?_ _) | (refine Below.next ?_ (by with_reducible assumption)) | (refine Below.row ?_ (by with_reducible assumption) (by omega)) | (refine Below.trans ?_ (by with_reducible assumption)) | (refine Below.after ?_ ?_ (by with_reducible assumption)) | go_size)
          clear hb8 hB7
          go_wp2
          go_ret
          exact ⟨rfl, by repeat' (first | (with_reducible exact Below.refl _ _) | (with_reducible assumption) | (with_reducible refine Below.new ?_ _) | (with_reducible refine Below.alloc ?_ ?_ _) | (with_reducible refine Below.drew ?_) | (with_reducible refine below_drewN ?_ _) | (with_reducible refine Below.setCell ?_ ?_ _) | (refine Below.next ?_ (by with_reducible assumption)) | (refine Below.row ?_ (by with_reducible assumption) (by omega)) | (refine Below.trans ?_ (by with_reducible assumption)) | (refine Below.after ?_ ?_ (by with_reducible assumption)) | go_size)⟩
  · have hd : decide (4096 < (code.length : Int)) = true := by simp; omega
    go_enter Try.func11, Try.ntmps11
    go_wp2_with (first | (go_at_call 35; refine (laws_big _ _ _ _).mono ?_; rintro e w' ⟨rfl, rfl⟩))
    go_ret
    exact ⟨rfl, Below.refl _ _⟩
end Go.Proofs.Ytboagjiejjapfaa
