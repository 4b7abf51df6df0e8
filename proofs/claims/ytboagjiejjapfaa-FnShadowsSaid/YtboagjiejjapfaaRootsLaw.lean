/- Square roots: the law's walk. -/
import Derived.Test.YtboagjiejjapfaaDrawA2
namespace Go.Proofs.Ytboagjiejjapfaa
open Go.RowKit
set_option linter.unusedVariables false
set_option linter.unusedSimpArgs false

theorem ret_iii {a b c a' b' c' : Int} (h : a = a') (h' : b = b') (h'' : c = c') : Ending.returned (.tuple #[.int .i64 a, .int .i64 b, .int .i64 c]) = .returned (.tuple #[.int .i64 a', .int .i64 b', .int .i64 c']) := by rw [h, h', h'']
def fRB (n : Int) : Int × Int × Int := if inB n 0 4000000000000000000 then (Pl.rt n, Pl.rtu n, 0) else (0, 0, 2)
theorem impl_RootBounds (n : Int) (w : World) : Calls Try.prog 37 #[.int .i64 n] w fun e w' => e = .returned (.tuple #[.int .i64 (fRB n).1, .int .i64 (fRB n).2.1, .int .i64 (fRB n).2.2]) ∧ w = w' := by
  cases h1 : inB n 0 4000000000000000000
  · go_enter Try.func37, Try.ntmps37
    go_wp2_with (first | (go_at_call 58; refine (impl_within _ _ _ _).mono ?_; rintro e w' ⟨rfl, rfl⟩))
    go_ret3
    exact ⟨ret_iii (by simp [fRB, h1]) (by simp [fRB, h1]) (by simp [fRB, h1]), rfl⟩
  · have b1 := of_inB h1
    go_enter Try.func37, Try.ntmps37
    go_wp2_with (first | (go_at_call 58; refine (impl_within _ _ _ _).mono ?_; rintro e w' ⟨rfl, rfl⟩) | (go_at_call 76; refine (impl_rootDown _ _ (by omega) (by omega)).mono ?_; rintro e w' ⟨rfl, rfl⟩) | (go_at_call 77; refine (impl_rootUp _ _ (by omega) (by omega)).mono ?_; rintro e w' ⟨rfl, rfl⟩))
    go_ret3
    exact ⟨ret_iii (by simp [fRB, h1]) (by simp [fRB, h1]) (by simp [fRB, h1]), rfl⟩
theorem spec_RootBounds (n : Int) (w : World) : Calls Try.prog 38 #[.int .i64 n] w fun e w' => e = .returned (.tuple #[.int .i64 (fRB n).1, .int .i64 (fRB n).2.1, .int .i64 (fRB n).2.2]) ∧ w = w' := by
  cases h1 : inB n 0 4000000000000000000
  · go_enter Try.func38, Try.ntmps38
    go_wp2_with (first | (go_at_call 56; refine (spec_l01In _ _ _ _).mono ?_; rintro e w' ⟨rfl, rfl⟩))
    go_ret3
    exact ⟨ret_iii (by simp [fRB, h1]) (by simp [fRB, h1]) (by simp [fRB, h1]), rfl⟩
  · have b1 := of_inB h1
    go_enter Try.func38, Try.ntmps38
    go_wp2_with (first | (go_at_call 56; refine (spec_l01In _ _ _ _).mono ?_; rintro e w' ⟨rfl, rfl⟩) | (go_at_call 63; refine (spec_l01Root _ _ (by omega) (by omega)).mono ?_; rintro e w' ⟨rfl, rfl⟩) | (go_at_call 64; refine (spec_l01RootUp _ _ (by omega) (by omega)).mono ?_; rintro e w' ⟨rfl, rfl⟩))
    go_ret3
    exact ⟨ret_iii (by simp [fRB, h1]) (by simp [fRB, h1]) (by simp [fRB, h1]), rfl⟩
theorem laws_big (A : Option Addr) (n c : Nat) (w : World) : Calls Try.prog 35 #[.slice A n c] w fun e w' => e = .returned (.bool (decide (4096 < (n : Int)))) ∧ w = w' := by
  go_enter Try.func35, Try.ntmps35
  go_wp2
  go_ret
  exact ⟨rfl, rfl⟩
theorem nrt_facts {m : Int} (h0 : 0 ≤ m) (h1 : m ≤ 4000000000000000000) : ∃ r, r = Pl.nrt m ∧ 0 ≤ r ∧ r ≤ 2000000001 ∧ 0 ≤ r * r ∧ r * r ≤ 4000000004000000001 ∧ (0 < r → r * r - r < m) ∧ m ≤ r * r + r := by
  have hn : 0 ≤ Pl.nrt m ∧ Pl.nrt m ≤ 2000000001 := by
    have hp := Pl.rt_nonneg m
    have hu : Pl.rt m ≤ 2000000000 := Pl.rt_le (by omega) (by omega) h0
    unfold Pl.nrt; split <;> omega
  have hs := Pl.rt_spec h0
  have hp := Pl.rt_nonneg m
  refine ⟨_, rfl, hn.1, hn.2, Int.mul_nonneg hn.1 hn.1, by have := Pl.sq_le hn.1 hn.2; omega, ?_, ?_⟩
  · intro hpos
    unfold Pl.nrt at *
    split
    · rename_i h
      have e : (Pl.rt m + 1) * (Pl.rt m + 1) = Pl.rt m * Pl.rt m + 2 * Pl.rt m + 1 := by grind
      omega
    · rename_i h
      rw [if_neg h] at hpos
      omega
  · unfold Pl.nrt
    have e : (Pl.rt m + 1) * (Pl.rt m + 1) = Pl.rt m * Pl.rt m + 2 * Pl.rt m + 1 := by grind
    split <;> omega
theorem rb_facts {n : Int} (h0 : 0 ≤ n) (h1 : n ≤ 4000000000000000000) : ∃ l u, l = Pl.rt n ∧ u = Pl.rtu n ∧ (0 ≤ l ∧ l ≤ 2000000000) ∧ (0 ≤ u ∧ u ≤ 2000000001) ∧ (0 ≤ l * l ∧ l * l ≤ n) ∧ (n ≤ u * u ∧ u * u ≤ 4000000004000000001) ∧ ((u = l ∧ l * l = n) ∨ (u = l + 1 ∧ l * l < n)) := by
  have hp := Pl.rt_nonneg n
  have hu : Pl.rt n ≤ 2000000000 := Pl.rt_le (by omega) (by omega) h0
  have hs := Pl.rt_spec h0
  have e : (Pl.rt n + 1) * (Pl.rt n + 1) = Pl.rt n * Pl.rt n + 2 * Pl.rt n + 1 := by grind
  refine ⟨_, _, rfl, rfl, ⟨hp, hu⟩, ?_, ⟨Int.mul_nonneg hp hp, hs.1⟩, ?_, ?_⟩
  · unfold Pl.rtu; split <;> omega
  · unfold Pl.rtu
    have := Pl.sq_le hp hu
    split <;> omega
  · unfold Pl.rtu
    split <;> omega
theorem root_bool {l u n : Int} (lu : (u = l ∧ l * l = n) ∨ (u = l + 1 ∧ l * l < n)) : ((l == u) == (l * l == n)) = true := by
  rcases lu with ⟨a, b⟩ | ⟨a, b⟩
  · simp [a, b]
  · have h1 : (l == u) = false := by simp; omega
    have h2 : (l * l == n) = false := by simp; omega
    rw [h1, h2]; rfl
set_option maxHeartbeats 1600000 in
theorem walk_Roots (A : Option Addr) (c : Nat) (code : List Int) (w : World) (hr : U8 w w.heap.size A code) (hb : ∀ x ∈ code, 0 ≤ x ∧ x ≤ 255) :
    Calls Try.prog 10 #[.slice A code.length c] w fun e w' => e = .returned (.bool true) ∧ Below w.heap.size w w' := by
  by_cases hl : code.length ≤ 4096
  · go_enter Try.func10, Try.ntmps10
    go_wp2_with (first | (go_at_call 35; refine (laws_big _ _ _ _).mono ?_; rintro e w' ⟨rfl, rfl⟩))
    refine (spec_DrawRootBounds _ _ _ _ hr hb hl).mono ?_
    rintro e w1 ⟨n, rfl, hn, hb1⟩
    go_wp2_with (first | (go_at_call 37; refine (impl_RootBounds _ _).mono ?_; rintro e w' ⟨rfl, rfl⟩) | (go_at_call 38; refine (spec_RootBounds _ _).mono ?_; rintro e w' ⟨rfl, rfl⟩))
    refine (spec_DrawNearestRoot _ _ _ _ (Rd.up hr hb1) hb hl).mono ?_
    rintro e w2 ⟨m, rfl, hm, hb2⟩
    have hB : Below w.heap.size w w2 := by repeat' (first | (with_reducible exact Below.refl _ _) | (with_reducible assumption) | (with_reducible refine Below.new ?_ _) | (with_reducible refine Below.alloc ?_ ?_ _) | (with_reducible refine Below.drew ?_) | (with_reducible refine below_drewN ?_ _) | (with_reducible refine Below.setCell ?_ ?_ _) | (refine Below.next ?_ (by with_reducible assumption)) | (refine Below.row ?_ (by with_reducible assumption) (by omega)) | (refine Below.trans ?_ (by with_reducible assumption)) | (refine Below.after ?_ ?_ (by with_reducible assumption)) | go_size)
    clear hr hb1 hb2 hb
    cases i1 : inB n 0 4000000000000000000
    · have f1 : fRB n = (0, 0, 2) := by simp [fRB, i1]
      cases i2 : inB m 0 4000000000000000000
      · have f2 : fNRoot m = (0, 2) := by simp [fNRoot, i2]
        go_wp2_with (first | (go_at_call 18; refine (impl_NearestRoot _ _).mono ?_; rintro e w' ⟨rfl, rfl⟩) | (go_at_call 17; refine (spec_NearestRoot _ _).mono ?_; rintro e w' ⟨rfl, rfl⟩))
        go_ret
        exact ⟨rfl, hB⟩
      · obtain ⟨r, e2, r0, r1, r2, r3, r4, r5⟩ := nrt_facts (of_inB i2).1 (of_inB i2).2
        have f2 : fNRoot m = (r, 0) := by simp [fNRoot, i2, e2]
        clear e2
        by_cases rp : 0 < r
        · have r4' := r4 rp
          clear r4
          go_wp2_with (first | (go_at_call 18; refine (impl_NearestRoot _ _).mono ?_; rintro e w' ⟨rfl, rfl⟩) | (go_at_call 17; refine (spec_NearestRoot _ _).mono ?_; rintro e w' ⟨rfl, rfl⟩))
          go_ret
          exact ⟨rfl, hB⟩
        · clear r4
          go_wp2_with (first | (go_at_call 18; refine (impl_NearestRoot _ _).mono ?_; rintro e w' ⟨rfl, rfl⟩) | (go_at_call 17; refine (spec_NearestRoot _ _).mono ?_; rintro e w' ⟨rfl, rfl⟩))
          all_goals go_ret
          all_goals exact ⟨rfl, hB⟩
    · obtain ⟨l, u, e1, e3, l1, u1, l2, u2, lu⟩ := rb_facts (of_inB i1).1 (of_inB i1).2
      have f1 : fRB n = (l, u, 0) := by simp [fRB, i1, e1, e3]
      clear e1 e3
      have lb := Lib.hid (root_bool lu)
      cases i2 : inB m 0 4000000000000000000
      · have f2 : fNRoot m = (0, 2) := by simp [fNRoot, i2]
        go_wp2_with (first | (go_at_call 18; refine (impl_NearestRoot _ _).mono ?_; rintro e w' ⟨rfl, rfl⟩) | (go_at_call 17; refine (spec_NearestRoot _ _).mono ?_; rintro e w' ⟨rfl, rfl⟩))
        go_ret
        exact ⟨ret_bool lb.out, hB⟩
      · obtain ⟨r, e2, r0, r1, r2, r3, r4, r5⟩ := nrt_facts (of_inB i2).1 (of_inB i2).2
        have f2 : fNRoot m = (r, 0) := by simp [fNRoot, i2, e2]
        clear e2
        by_cases rp : 0 < r
        · have r4' := r4 rp
          clear r4
          go_wp2_with (first | (go_at_call 18; refine (impl_NearestRoot _ _).mono ?_; rintro e w' ⟨rfl, rfl⟩) | (go_at_call 17; refine (spec_NearestRoot _ _).mono ?_; rintro e w' ⟨rfl, rfl⟩))
          go_ret
          exact ⟨ret_bool lb.out, hB⟩
        · clear r4
          go_wp2_with (first | (go_at_call 18; refine (impl_NearestRoot _ _).mono ?_; rintro e w' ⟨rfl, rfl⟩) | (go_at_call 17; refine (spec_NearestRoot _ _).mono ?_; rintro e w' ⟨rfl, rfl⟩))
          all_goals go_ret
          all_goals exact ⟨ret_bool lb.out, hB⟩
  · have hd : decide (4096 < (code.length : Int)) = true := by simp; omega
    go_enter Try.func10, Try.ntmps10
    go_wp2_with (first | (go_at_call 35; refine (laws_big _ _ _ _).mono ?_; rintro e w' ⟨rfl, rfl⟩))
    go_ret
    exact ⟨rfl, Below.refl _ _⟩
end Go.Proofs.Ytboagjiejjapfaa
