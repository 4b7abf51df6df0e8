/- No pairing has a smaller sum than the best one: the law's walk. -/
import Derived.Test.YtdomghjdnnnifaaPlA
import Derived.Test.YtdomghjdnnnifaaAllG
import Derived.Test.YtdomghjdnnnifaaDrD
import Derived.Test.YtdomghjdnnnifaaLike
import Derived.Test.YtdomghjdnnnifaaBig
namespace Go.Proofs.Ytdomghjdnnnifaa
open Go.RowKit
set_option linter.unusedVariables false
set_option linter.unusedSimpArgs false
theorem sum_best {css : List (List Int)} {miss : Int} (h : codeC css miss = 0) : fSum css miss (bstP css miss) = (lstP css miss, 0) := by
  obtain ⟨h1, h2, h3⟩ := codeC_0 h
  rw [fSum, if_pos h1, inB_t ⟨h2, h3⟩, bst_pair]; rfl
theorem sum_ge {css : List (List Int)} {miss : Int} {ps : List Int} (h : (fSum css miss ps).2 = 0) : lstP css miss ≤ (fSum css miss ps).1 := by
  unfold fSum at h ⊢
  split at h
  · rename_i h1
    split at h
    · rename_i h2
      rw [if_pos h1, if_pos h2]
      rw [Bool.and_eq_true] at h2
      exact lst_min h2.2
    · simp at h
  · simp at h
set_option maxHeartbeats 3200000 in
set_option maxRecDepth 100000 in
theorem walk_Pairings (A : Option Addr) (c : Nat) (code : List Int) (w : World) (hr : U8 w w.heap.size A code) (hb : ∀ x ∈ code, 0 ≤ x ∧ x ≤ 255) :
    Calls Try.prog 13 #[.slice A code.length c] w fun e w' => e = .returned (.bool true) ∧ Below w.heap.size w w' := by
  by_cases hl : code.length ≤ 4096
  · go_enter Try.func13, Try.ntmps13
    go_wp2_with (first | (go_at_call 28; refine (laws_big _ _ _ _).mono ?_; rintro e w' ⟨rfl, rfl⟩) | fail)
    refine (spec_DrawSumOfPairs _ _ _ _ hr hb hl).mono ?_
    rintro e w1 ⟨v1, css, r, u1, ps, rfl, oc, hd, op, hp8, hr1, hbw1⟩
    obtain ⟨A1, c1, rfl⟩ := oc.form
    obtain ⟨A2, c2, rfl, _⟩ := id op
    have B1 : Below w.heap.size w w1 := hbw1
    have cap2 := op.cap
    have rc := oc.rd.2
    have rp := op.reads.2
    have l7 := hd.1
    have rows : ∀ (i : Nat) (xs : List Int), css[i]? = some xs → xs.length ≤ 1099511627776 := fun i xs h => by have := hd.2 i xs h; omega
    have hI1 := fun w' (hb' : Below w1.heap.size w1 w') => impl_SumOfPairs A1 c1 css r A2 c2 ps w' (rc.up hb') (by omega) rows (rp.up hb') (by omega) cap2
    have hS1 := fun w' (hb' : Below w1.heap.size w1 w') => spec_SumOfPairs A1 c1 css r A2 c2 ps w' (rc.up hb') (by omega) rows (rp.up hb') (by omega) cap2
    have hI2 := fun w' (hb' : Below w1.heap.size w1 w') => impl_BestPairs A1 c1 css r w' (rc.up hb') (by omega) rows
    have hS2 := fun w' (hb' : Below w1.heap.size w1 w') => spec_BestPairs A1 c1 css r w' (rc.up hb') (by omega) rows
    have hI3 := fun w' (hb' : Below w1.heap.size w1 w') => impl_LeastSum A1 c1 css r w' (rc.up hb') (by omega) rows
    have hS3 := fun w' (hb' : Below w1.heap.size w1 w') => spec_LeastSum A1 c1 css r w' (rc.up hb') (by omega) rows
    have hI4 := fun w' (hb' : Below w1.heap.size w1 w') => impl_SumBound A1 c1 css r w' (rc.up hb') (by omega) rows
    have hS4 := fun w' (hb' : Below w1.heap.size w1 w') => spec_SumBound A1 c1 css r w' (rc.up hb') (by omega) rows
    have hI5 : ∀ (w' : World) (B : Option Addr) (d : Nat) (zs : List Int), Below w1.heap.size w1 w' → I64 w' w'.heap.size B zs → zs.length ≤ 6 → zs.length ≤ d → Calls Try.prog 32 #[.slice A1 css.length c1, .int .i64 r, .slice B zs.length d] w' fun e w2 => e = .returned (.tuple #[.int .i64 (fSum css r zs).1, .int .i64 (fSum css r zs).2]) ∧ Below w'.heap.size w' w2 := fun w' B d zs hb' hz hz6 hd => impl_SumOfPairs A1 c1 css r B d zs w' (rc.up hb') (by omega) rows hz (by omega) hd
    have hI6 : ∀ (w' : World) (B : Option Addr) (d : Nat) (zs : List Int), Below w1.heap.size w1 w' → I64 w' w'.heap.size B zs → zs.length ≤ 6 → zs.length ≤ d → Calls Try.prog 22 #[.slice A1 css.length c1, .slice B zs.length d] w' fun e w2 => e = .returned (.bool (areB css && pairB css zs)) ∧ Below w'.heap.size w' w2 := fun w' B d zs hb' hz hz6 hd => impl_IsPairing A1 c1 css B d zs w' (rc.up hb') (by omega) rows hz (by omega) hd
    obtain ⟨zs, hzs⟩ : ∃ zs, zs = fBest css r := ⟨_, rfl⟩
    obtain ⟨sn, hsn⟩ : ∃ sn, sn = (fSum css r ps).1 := ⟨_, rfl⟩
    obtain ⟨sc, hsc⟩ : ∃ sc, sc = (fSum css r ps).2 := ⟨_, rfl⟩
    obtain ⟨cc, hcc⟩ : ∃ cc, cc = codeC css r := ⟨_, rfl⟩
    obtain ⟨ln, hln⟩ : ∃ ln, ln = fLeast css r := ⟨_, rfl⟩
    obtain ⟨bn, hbn⟩ : ∃ bn, bn = (fBound css r).1 := ⟨_, rfl⟩
    obtain ⟨bc, hbc⟩ : ∃ bc, bc = (fBound css r).2 := ⟨_, rfl⟩
    have hz6 : zs.length ≤ 6 := by rw [hzs]; exact fBest_len
    rw [← hsn, ← hsc] at hI1 hS1
    rw [← hzs, ← hcc] at hI2 hS2
    rw [← hln, ← hcc] at hI3 hS3
    rw [← hbn, ← hbc] at hI4 hS4
    have n1 : (sn != sn) = false := by simp
    have n2 : (sc != sc) = false := by simp
    have n3 : (cc != cc) = false := by simp
    have n4 : (ln != ln) = false := by simp
    have n5 : (bn != bn) = false := by simp
    have n6 : (bc != bc) = false := by simp
    have n7 : (ln == ln) = true := by simp
    by_cases hz : cc = 0
    · have hz0 : codeC css r = 0 := by rw [← hcc, hz]
      have f1 : zs = bstP css r := by rw [hzs, fBest, if_pos hz0]
      have f2 : ln = lstP css r := by rw [hln, fLeast, if_pos hz0]
      have f3 : fSum css r zs = (ln, 0) := by rw [f1, f2]; exact sum_best hz0
      have f4 : (areB css && pairB css zs) = true := by rw [f1, (codeC_0 hz0).1, bst_pair]; rfl
      have f5 : bn ≤ ln := by rw [hbn, f2, fBound, if_pos hz0]; exact bound_lst (codeC_0 hz0).2.1
      have f6 : sc = 0 → ln ≤ sn := fun h => by rw [f2, hsn]; exact sum_ge (by rw [← hsc, h])
      have hI5' : ∀ (w' : World) (B : Option Addr) (d : Nat), Below w1.heap.size w1 w' → I64 w' w'.heap.size B zs → zs.length ≤ d → Calls Try.prog 32 #[.slice A1 css.length c1, .int .i64 r, .slice B zs.length d] w' fun e w2 => e = .returned (.tuple #[.int .i64 ln, .int .i64 0]) ∧ Below w'.heap.size w' w2 := fun w' B d hb' hzr hzd => by have h := hI5 w' B d zs hb' hzr hz6 hzd; rw [f3] at h; exact h
      have hI6' : ∀ (w' : World) (B : Option Addr) (d : Nat), Below w1.heap.size w1 w' → I64 w' w'.heap.size B zs → zs.length ≤ d → Calls Try.prog 22 #[.slice A1 css.length c1, .slice B zs.length d] w' fun e w2 => e = .returned (.bool true) ∧ Below w'.heap.size w' w2 := fun w' B d hb' hzr hzd => by have h := hI6 w' B d zs hb' hzr hz6 hzd; rw [f4] at h; exact h
      clear hI5 hI6 f1 f2 f3 f4 hcc hsn hsc hln hbn hbc hzs rows hd oc op rc rp n3
      subst hz
      have H1 := Lib.hid hI1
      have H2 := Lib.hid hI2
      have H3 := Lib.hid hI3
      have H4 := Lib.hid hI4
      have K1 := Lib.hid hS1
      have K2 := Lib.hid hS2
      have K3 := Lib.hid hS3
      have K4 := Lib.hid hS4
      have H5 := Lib.hid hI5'
      have H6 := Lib.hid hI6'
      clear hI1 hI2 hI3 hI4 hS1 hS2 hS3 hS4 hI5' hI6' hbw1
      by_cases hs0 : sc = 0
      all_goals
        (try have f6' := f6 hs0)
        (try have f7 : (sc != 0) = true := by simpa using hs0)
        have hsH := Lib.hid hs0
        clear f6 hs0
        (try (have e := hsH.out; subst e; clear hsH))
        go_wp2_with fail
        refine (H1.out _ (by repeat' (first | (with_reducible exact Below.refl _ _) | (with_reducible assumption) | (with_reducible refine Below.new ?_ _) | (with_reducible refine Below.alloc ?_ ?_ _) | (with_reducible refine Below.drew ?_) | (with_reducible refine below_drewN ?_ _) | (with_reducible refine Below.setCell ?_ ?_ _) | (refine Below.next ?_ (by with_reducible assumption)) | (refine Below.row ?_ (by with_reducible assumption) (by omega)) | (refine Below.trans ?_ (by with_reducible assumption)) | (refine Below.after ?_ ?_ (by with_reducible assumption)) | go_size))).mono ?_; rintro e w2 ⟨rfl, hbw2⟩; have hzw2 := hbw2.size; (try simp only [World.size_alloc, World.size_setCell, World.size_drew] at hzw2)
        repeat' (first | fail | go_values | go_skip | go_guarded | go_step | go_upon | (simp only []; go_step) | (go_ite <;> go_prune <;> (try go_simp)))
        refine (K1.out _ (by repeat' (first | (with_reducible exact Below.refl _ _) | (with_reducible assumption) | (with_reducible refine Below.new ?_ _) | (with_reducible refine Below.alloc ?_ ?_ _) | (with_reducible refine Below.drew ?_) | (with_reducible refine below_drewN ?_ _) | (with_reducible refine Below.setCell ?_ ?_ _) | (refine Below.next ?_ (by with_reducible assumption)) | (refine Below.row ?_ (by with_reducible assumption) (by omega)) | (refine Below.trans ?_ (by with_reducible assumption)) | (refine Below.after ?_ ?_ (by with_reducible assumption)) | go_size))).mono ?_; rintro e w3 ⟨rfl, hbw3⟩; have hzw3 := hbw3.size; (try simp only [World.size_alloc, World.size_setCell, World.size_drew] at hzw3)
        repeat' (first | fail | go_values | go_skip | go_guarded | go_step | go_upon | (simp only []; go_step) | (go_ite <;> go_prune <;> (try go_simp)))
        refine (H2.out _ (by repeat' (first | (with_reducible exact Below.refl _ _) | (with_reducible assumption) | (with_reducible refine Below.new ?_ _) | (with_reducible refine Below.alloc ?_ ?_ _) | (with_reducible refine Below.drew ?_) | (with_reducible refine below_drewN ?_ _) | (with_reducible refine Below.setCell ?_ ?_ _) | (refine Below.next ?_ (by with_reducible assumption)) | (refine Below.row ?_ (by with_reducible assumption) (by omega)) | (refine Below.trans ?_ (by with_reducible assumption)) | (refine Below.after ?_ ?_ (by with_reducible assumption)) | go_size))).mono ?_; rintro e w4 ⟨v4, rfl, o4, hbw4⟩; have hzw4 := hbw4.size; (try simp only [World.size_alloc, World.size_setCell, World.size_drew] at hzw4)
        obtain ⟨A4, c4, rfl, _⟩ := id o4
        repeat' (first | fail | go_values | go_skip | go_guarded | go_step | go_upon | (simp only []; go_step) | (go_ite <;> go_prune <;> (try go_simp)))
        refine (K2.out _ (by repeat' (first | (with_reducible exact Below.refl _ _) | (with_reducible assumption) | (with_reducible refine Below.new ?_ _) | (with_reducible refine Below.alloc ?_ ?_ _) | (with_reducible refine Below.drew ?_) | (with_reducible refine below_drewN ?_ _) | (with_reducible refine Below.setCell ?_ ?_ _) | (refine Below.next ?_ (by with_reducible assumption)) | (refine Below.row ?_ (by with_reducible assumption) (by omega)) | (refine Below.trans ?_ (by with_reducible assumption)) | (refine Below.after ?_ ?_ (by with_reducible assumption)) | go_size))).mono ?_; rintro e w5 ⟨v5, rfl, o5, hbw5⟩; have hzw5 := hbw5.size; (try simp only [World.size_alloc, World.size_setCell, World.size_drew] at hzw5)
        obtain ⟨A5, c5, rfl, _⟩ := id o5
        repeat' (first | fail | go_values | go_skip | go_guarded | go_step | go_upon | (simp only []; go_step) | (go_ite <;> go_prune <;> (try go_simp)))
        refine (H3.out _ (by repeat' (first | (with_reducible exact Below.refl _ _) | (with_reducible assumption) | (with_reducible refine Below.new ?_ _) | (with_reducible refine Below.alloc ?_ ?_ _) | (with_reducible refine Below.drew ?_) | (with_reducible refine below_drewN ?_ _) | (with_reducible refine Below.setCell ?_ ?_ _) | (refine Below.next ?_ (by with_reducible assumption)) | (refine Below.row ?_ (by with_reducible assumption) (by omega)) | (refine Below.trans ?_ (by with_reducible assumption)) | (refine Below.after ?_ ?_ (by with_reducible assumption)) | go_size))).mono ?_; rintro e w6 ⟨rfl, hbw6⟩; have hzw6 := hbw6.size; (try simp only [World.size_alloc, World.size_setCell, World.size_drew] at hzw6)
        repeat' (first | fail | go_values | go_skip | go_guarded | go_step | go_upon | (simp only []; go_step) | (go_ite <;> go_prune <;> (try go_simp)))
        refine (K3.out _ (by repeat' (first | (with_reducible exact Below.refl _ _) | (with_reducible assumption) | (with_reducible refine Below.new ?_ _) | (with_reducible refine Below.alloc ?_ ?_ _) | (with_reducible refine Below.drew ?_) | (with_reducible refine below_drewN ?_ _) | (with_reducible refine Below.setCell ?_ ?_ _) | (refine Below.next ?_ (by with_reducible assumption)) | (refine Below.row ?_ (by with_reducible assumption) (by omega)) | (refine Below.trans ?_ (by with_reducible assumption)) | (refine Below.after ?_ ?_ (by with_reducible assumption)) | go_size))).mono ?_; rintro e w7 ⟨rfl, hbw7⟩; have hzw7 := hbw7.size; (try simp only [World.size_alloc, World.size_setCell, World.size_drew] at hzw7)
        repeat' (first | fail | go_values | go_skip | go_guarded | go_step | go_upon | (simp only []; go_step) | (go_ite <;> go_prune <;> (try go_simp)))
        refine (H4.out _ (by repeat' (first | (with_reducible exact Below.refl _ _) | (with_reducible assumption) | (with_reducible refine Below.new ?_ _) | (with_reducible refine Below.alloc ?_ ?_ _) | (with_reducible refine Below.drew ?_) | (with_reducible refine below_drewN ?_ _) | (with_reducible refine Below.setCell ?_ ?_ _) | (refine Below.next ?_ (by with_reducible assumption)) | (refine Below.row ?_ (by with_reducible assumption) (by omega)) | (refine Below.trans ?_ (by with_reducible assumption)) | (refine Below.after ?_ ?_ (by with_reducible assumption)) | go_size))).mono ?_; rintro e w8 ⟨rfl, hbw8⟩; have hzw8 := hbw8.size; (try simp only [World.size_alloc, World.size_setCell, World.size_drew] at hzw8)
        repeat' (first | fail | go_values | go_skip | go_guarded | go_step | go_upon | (simp only []; go_step) | (go_ite <;> go_prune <;> (try go_simp)))
        refine (K4.out _ (by repeat' (first | (with_reducible exact Below.refl _ _) | (with_reducible assumption) | (with_reducible refine Below.new ?_ _) | (with_reducible refine Below.alloc ?_ ?_ _) | (with_reducible refine Below.drew ?_) | (with_reducible refine below_drewN ?_ _) | (with_reducible refine Below.setCell ?_ ?_ _) | (refine Below.next ?_ (by with_reducible assumption)) | (refine Below.row ?_ (by with_reducible assumption) (by omega)) | (refine Below.trans ?_ (by with_reducible assumption)) | (refine Below.after ?_ ?_ (by with_reducible assumption)) | go_size))).mono ?_; rintro e w9 ⟨rfl, hbw9⟩; have hzw9 := hbw9.size; (try simp only [World.size_alloc, World.size_setCell, World.size_drew] at hzw9)
        repeat' (first | fail | go_values | go_skip | go_guarded | go_step | go_upon | (simp only []; go_step) | (go_ite <;> go_prune <;> (try go_simp)))
        refine (laws_likeInts _ _ _ _ _ _ _ (o4.up w (by repeat' (first | (with_reducible exact Below.refl _ _) | (with_reducible assumption) | (with_reducible refine Below.new ?_ _) | (with_reducible refine Below.alloc ?_ ?_ _) | (with_reducible refine Below.drew ?_) | (with_reducible refine below_drewN ?_ _) | (with_reducible refine Below.setCell ?_ ?_ _) | (refine Below.next ?_ (by with_reducible assumption)) | (refine Below.row ?_ (by with_reducible assumption) (by omega)) | (refine Below.trans ?_ (by with_reducible assumption)) | (refine Below.after ?_ ?_ (by with_reducible assumption)) | go_size))) (o5.up w (by repeat' (first | (with_reducible exact Below.refl _ _) | (with_reducible assumption) | (with_reducible refine Below.new ?_ _) | (with_reducible refine Below.alloc ?_ ?_ _) | (with_reducible refine Below.drew ?_) | (with_reducible refine below_drewN ?_ _) | (with_reducible refine Below.setCell ?_ ?_ _) | (refine Below.next ?_ (by with_reducible assumption)) | (refine Below.row ?_ (by with_reducible assumption) (by omega)) | (refine Below.trans ?_ (by with_reducible assumption)) | (refine Below.after ?_ ?_ (by with_reducible assumption)) | go_size))) (by omega) (by omega)).mono ?_; rintro e w10 ⟨rfl, hbw10⟩; have hzw10 := hbw10.size; (try simp only [World.size_alloc, World.size_setCell, World.size_drew] at hzw10)
        rw [show decide (zs = zs) = true by simp]
        repeat' (first | fail | go_values | go_skip | go_guarded | go_step | go_upon | (simp only []; go_step) | (go_ite <;> go_prune <;> (try go_simp)))
        refine (H5.out _ _ _ (by repeat' (first | (with_reducible exact Below.refl _ _) | (with_reducible assumption) | (with_reducible refine Below.new ?_ _) | (with_reducible refine Below.alloc ?_ ?_ _) | (with_reducible refine Below.drew ?_) | (with_reducible refine below_drewN ?_ _) | (with_reducible refine Below.setCell ?_ ?_ _) | (refine Below.next ?_ (by with_reducible assumption)) | (refine Below.row ?_ (by with_reducible assumption) (by omega)) | (refine Below.trans ?_ (by with_reducible assumption)) | (refine Below.after ?_ ?_ (by with_reducible assumption)) | go_size)) (o4.up w (by repeat' (first | (with_reducible exact Below.refl _ _) | (with_reducible assumption) | (with_reducible refine Below.new ?_ _) | (with_reducible refine Below.alloc ?_ ?_ _) | (with_reducible refine Below.drew ?_) | (with_reducible refine below_drewN ?_ _) | (with_reducible refine Below.setCell ?_ ?_ _) | (refine Below.next ?_ (by with_reducible assumption)) | (refine Below.row ?_ (by with_reducible assumption) (by omega)) | (refine Below.trans ?_ (by with_reducible assumption)) | (refine Below.after ?_ ?_ (by with_reducible assumption)) | go_size))) o4.cap).mono ?_; rintro e w11 ⟨rfl, hbw11⟩; have hzw11 := hbw11.size; (try simp only [World.size_alloc, World.size_setCell, World.size_drew] at hzw11)
        repeat' (first | fail | go_values | go_skip | go_guarded | go_step | go_upon | (simp only []; go_step) | (go_ite <;> go_prune <;> (try go_simp)))
        refine (H6.out _ _ _ (by repeat' (first | (with_reducible exact Below.refl _ _) | (with_reducible assumption) | (with_reducible refine Below.new ?_ _) | (with_reducible refine Below.alloc ?_ ?_ _) | (with_reducible refine Below.drew ?_) | (with_reducible refine below_drewN ?_ _) | (with_reducible refine Below.setCell ?_ ?_ _) | (refine Below.next ?_ (by with_reducible assumption)) | (refine Below.row ?_ (by with_reducible assumption) (by omega)) | (refine Below.trans ?_ (by with_reducible assumption)) | (refine Below.after ?_ ?_ (by with_reducible assumption)) | go_size)) (o4.up w (by repeat' (first | (with_reducible exact Below.refl _ _) | (with_reducible assumption) | (with_reducible refine Below.new ?_ _) | (with_reducible refine Below.alloc ?_ ?_ _) | (with_reducible refine Below.drew ?_) | (with_reducible refine below_drewN ?_ _) | (with_reducible refine Below.setCell ?_ ?_ _) | (refine Below.next ?_ (by with_reducible assumption)) | (refine Below.row ?_ (by with_reducible assumption) (by omega)) | (refine Below.trans ?_ (by with_reducible assumption)) | (refine Below.after ?_ ?_ (by with_reducible assumption)) | go_size))) o4.cap).mono ?_; rintro e w12 ⟨rfl, hbw12⟩; have hzw12 := hbw12.size; (try simp only [World.size_alloc, World.size_setCell, World.size_drew] at hzw12)
        repeat' (first | fail | go_values | go_skip | go_guarded | go_step | go_upon | (simp only []; go_step) | (go_ite <;> go_prune <;> (try go_simp)))
        all_goals go_returns
        all_goals exact ⟨rfl, by repeat' (first | (with_reducible exact Below.refl _ _) | (with_reducible assumption) | (with_reducible refine Below.new ?_ _) | (with_reducible refine Below.alloc ?_ ?_ _) | (with_reducible refine Below.drew ?_) | (with_reducible refine below_drewN ?_ _) | (with_reducible refine Below.setCell ?_ ?_ _) | (refine Below.next ?_ (by with_reducible assumption)) | (refine Below.row ?_ (by with_reducible assumption) (by omega)) | (refine Below.trans ?_ (by with_reducible assumption)) | (refine Below.after ?_ ?_ (by with_reducible assumption)) | go_size)⟩
    · have hz' : (cc != 0) = true := by simpa using hz
      clear hI5 hI6 hcc hsn hsc hln hbn hbc hzs rows hd oc op rc rp hz
      have H1 := Lib.hid hI1
      have H2 := Lib.hid hI2
      have H3 := Lib.hid hI3
      have H4 := Lib.hid hI4
      have K1 := Lib.hid hS1
      have K2 := Lib.hid hS2
      have K3 := Lib.hid hS3
      have K4 := Lib.hid hS4
      clear hI1 hI2 hI3 hI4 hS1 hS2 hS3 hS4 hbw1
      go_wp2_with fail
      refine (H1.out _ (by repeat' (first | (with_reducible exact Below.refl _ _) | (with_reducible assumption) | (with_reducible refine Below.new ?_ _) | (with_reducible refine Below.alloc ?_ ?_ _) | (with_reducible refine Below.drew ?_) | (with_reducible refine below_drewN ?_ _) | (with_reducible refine Below.setCell ?_ ?_ _) | (refine Below.next ?_ (by with_reducible assumption)) | (refine Below.row ?_ (by with_reducible assumption) (by omega)) | (refine Below.trans ?_ (by with_reducible assumption)) | (refine Below.after ?_ ?_ (by with_reducible assumption)) | go_size))).mono ?_; rintro e w2 ⟨rfl, hbw2⟩; have hzw2 := hbw2.size; (try simp only [World.size_alloc, World.size_setCell, World.size_drew] at hzw2)
      repeat' (first | fail | go_values | go_skip | go_guarded | go_step | go_upon | (simp only []; go_step) | (go_ite <;> go_prune <;> (try go_simp)))
      refine (K1.out _ (by repeat' (first | (with_reducible exact Below.refl _ _) | (with_reducible assumption) | (with_reducible refine Below.new ?_ _) | (with_reducible refine Below.alloc ?_ ?_ _) | (with_reducible refine Below.drew ?_) | (with_reducible refine below_drewN ?_ _) | (with_reducible refine Below.setCell ?_ ?_ _) | (refine Below.next ?_ (by with_reducible assumption)) | (refine Below.row ?_ (by with_reducible assumption) (by omega)) | (refine Below.trans ?_ (by with_reducible assumption)) | (refine Below.after ?_ ?_ (by with_reducible assumption)) | go_size))).mono ?_; rintro e w3 ⟨rfl, hbw3⟩; have hzw3 := hbw3.size; (try simp only [World.size_alloc, World.size_setCell, World.size_drew] at hzw3)
      repeat' (first | fail | go_values | go_skip | go_guarded | go_step | go_upon | (simp only []; go_step) | (go_ite <;> go_prune <;> (try go_simp)))
      refine (H2.out _ (by repeat' (first | (with_reducible exact Below.refl _ _) | (with_reducible assumption) | (with_reducible refine Below.new ?_ _) | (with_reducible refine Below.alloc ?_ ?_ _) | (with_reducible refine Below.drew ?_) | (with_reducible refine below_drewN ?_ _) | (with_reducible refine Below.setCell ?_ ?_ _) | (refine Below.next ?_ (by with_reducible assumption)) | (refine Below.row ?_ (by with_reducible assumption) (by omega)) | (refine Below.trans ?_ (by with_reducible assumption)) | (refine Below.after ?_ ?_ (by with_reducible assumption)) | go_size))).mono ?_; rintro e w4 ⟨v4, rfl, o4, hbw4⟩; have hzw4 := hbw4.size; (try simp only [World.size_alloc, World.size_setCell, World.size_drew] at hzw4)
      obtain ⟨A4, c4, rfl, _⟩ := id o4
      repeat' (first | fail | go_values | go_skip | go_guarded | go_step | go_upon | (simp only []; go_step) | (go_ite <;> go_prune <;> (try go_simp)))
      refine (K2.out _ (by repeat' (first | (with_reducible exact Below.refl _ _) | (with_reducible assumption) | (with_reducible refine Below.new ?_ _) | (with_reducible refine Below.alloc ?_ ?_ _) | (with_reducible refine Below.drew ?_) | (with_reducible refine below_drewN ?_ _) | (with_reducible refine Below.setCell ?_ ?_ _) | (refine Below.next ?_ (by with_reducible assumption)) | (refine Below.row ?_ (by with_reducible assumption) (by omega)) | (refine Below.trans ?_ (by with_reducible assumption)) | (refine Below.after ?_ ?_ (by with_reducible assumption)) | go_size))).mono ?_; rintro e w5 ⟨v5, rfl, o5, hbw5⟩; have hzw5 := hbw5.size; (try simp only [World.size_alloc, World.size_setCell, World.size_drew] at hzw5)
      obtain ⟨A5, c5, rfl, _⟩ := id o5
      repeat' (first | fail | go_values | go_skip | go_guarded | go_step | go_upon | (simp only []; go_step) | (go_ite <;> go_prune <;> (try go_simp)))
      refine (H3.out _ (by repeat' (first | (with_reducible exact Below.refl _ _) | (with_reducible assumption) | (with_reducible refine Below.new ?_ _) | (with_reducible refine Below.alloc ?_ ?_ _) | (with_reducible refine Below.drew ?_) | (with_reducible refine below_drewN ?_ _) | (with_reducible refine Below.setCell ?_ ?_ _) | (refine Below.next ?_ (by with_reducible assumption)) | (refine Below.row ?_ (by with_reducible assumption) (by omega)) | (refine Below.trans ?_ (by with_reducible assumption)) | (refine Below.after ?_ ?_ (by with_reducible assumption)) | go_size))).mono ?_; rintro e w6 ⟨rfl, hbw6⟩; have hzw6 := hbw6.size; (try simp only [World.size_alloc, World.size_setCell, World.size_drew] at hzw6)
      repeat' (first | fail | go_values | go_skip | go_guarded | go_step | go_upon | (simp only []; go_step) | (go_ite <;> go_prune <;> (try go_simp)))
      refine (K3.out _ (by repeat' (first | (with_reducible exact Below.refl _ _) | (with_reducible assumption) | (with_reducible refine Below.new ?_ _) | (with_reducible refine Below.alloc ?_ ?_ _) | (with_reducible refine Below.drew ?_) | (with_reducible refine below_drewN ?_ _) | (with_reducible refine Below.setCell ?_ ?_ _) | (refine Below.next ?_ (by with_reducible assumption)) | (refine Below.row ?_ (by with_reducible assumption) (by omega)) | (refine Below.trans ?_ (by with_reducible assumption)) | (refine Below.after ?_ ?_ (by with_reducible assumption)) | go_size))).mono ?_; rintro e w7 ⟨rfl, hbw7⟩; have hzw7 := hbw7.size; (try simp only [World.size_alloc, World.size_setCell, World.size_drew] at hzw7)
      repeat' (first | fail | go_values | go_skip | go_guarded | go_step | go_upon | (simp only []; go_step) | (go_ite <;> go_prune <;> (try go_simp)))
      refine (H4.out _ (by repeat' (first | (with_reducible exact Below.refl _ _) | (with_reducible assumption) | (with_reducible refine Below.new ?_ _) | (with_reducible refine Below.alloc ?_ ?_ _) | (with_reducible refine Below.drew ?_) | (with_reducible refine below_drewN ?_ _) | (with_reducible refine Below.setCell ?_ ?_ _) | (refine Below.next ?_ (by with_reducible assumption)) | (refine Below.row ?_ (by with_reducible assumption) (by omega)) | (refine Below.trans ?_ (by with_reducible assumption)) | (refine Below.after ?_ ?_ (by with_reducible assumption)) | go_size))).mono ?_; rintro e w8 ⟨rfl, hbw8⟩; have hzw8 := hbw8.size; (try simp only [World.size_alloc, World.size_setCell, World.size_drew] at hzw8)
      repeat' (first | fail | go_values | go_skip | go_guarded | go_step | go_upon | (simp only []; go_step) | (go_ite <;> go_prune <;> (try go_simp)))
      refine (K4.out _ (by repeat' (first | (with_reducible exact Below.refl _ _) | (with_reducible assumption) | (with_reducible refine Below.new ?_ _) | (with_reducible refine Below.alloc ?_ ?_ _) | (with_reducible refine Below.drew ?_) | (with_reducible refine below_drewN ?_ _) | (with_reducible refine Below.setCell ?_ ?_ _) | (refine Below.next ?_ (by with_reducible assumption)) | (refine Below.row ?_ (by with_reducible assumption) (by omega)) | (refine Below.trans ?_ (by with_reducible assumption)) | (refine Below.after ?_ ?_ (by with_reducible assumption)) | go_size))).mono ?_; rintro e w9 ⟨rfl, hbw9⟩; have hzw9 := hbw9.size; (try simp only [World.size_alloc, World.size_setCell, World.size_drew] at hzw9)
      repeat' (first | fail | go_values | go_skip | go_guarded | go_step | go_upon | (simp only []; go_step) | (go_ite <;> go_prune <;> (try go_simp)))
      refine (laws_likeInts _ _ _ _ _ _ _ (o4.up w (by repeat' (first | (with_reducible exact Below.refl _ _) | (with_reducible assumption) | (with_reducible refine Below.new ?_ _) | (with_reducible refine Below.alloc ?_ ?_ _) | (with_reducible refine Below.drew ?_) | (with_reducible refine below_drewN ?_ _) | (with_reducible refine Below.setCell ?_ ?_ _) | (refine Below.next ?_ (by with_reducible assumption)) | (refine Below.row ?_ (by with_reducible assumption) (by omega)) | (refine Below.trans ?_ (by with_reducible assumption)) | (refine Below.after ?_ ?_ (by with_reducible assumption)) | go_size))) (o5.up w (by repeat' (first | (with_reducible exact Below.refl _ _) | (with_reducible assumption) | (with_reducible refine Below.new ?_ _) | (with_reducible refine Below.alloc ?_ ?_ _) | (with_reducible refine Below.drew ?_) | (with_reducible refine below_drewN ?_ _) | (with_reducible refine Below.setCell ?_ ?_ _) | (refine Below.next ?_ (by with_reducible assumption)) | (refine Below.row ?_ (by with_reducible assumption) (by omega)) | (refine Below.trans ?_ (by with_reducible assumption)) | (refine Below.after ?_ ?_ (by with_reducible assumption)) | go_size))) (by omega) (by omega)).mono ?_; rintro e w10 ⟨rfl, hbw10⟩; have hzw10 := hbw10.size; (try simp only [World.size_alloc, World.size_setCell, World.size_drew] at hzw10)
      rw [show decide (zs = zs) = true by simp]
      repeat' (first | fail | go_values | go_skip | go_guarded | go_step | go_upon | (simp only []; go_step) | (go_ite <;> go_prune <;> (try go_simp)))
      all_goals go_returns
      all_goals exact ⟨rfl, by repeat' (first | (with_reducible exact Below.refl _ _) | (with_reducible assumption) | (with_reducible refine Below.new ?_ _) | (with_reducible refine Below.alloc ?_ ?_ _) | (with_reducible refine Below.drew ?_) | (with_reducible refine below_drewN ?_ _) | (with_reducible refine Below.setCell ?_ ?_ _) | (refine Below.next ?_ (by with_reducible assumption)) | (refine Below.row ?_ (by with_reducible assumption) (by omega)) | (refine Below.trans ?_ (by with_reducible assumption)) | (refine Below.after ?_ ?_ (by with_reducible assumption)) | go_size)⟩
  · have hd : decide (4096 < (code.length : Int)) = true := by simp; omega
    go_enter Try.func13, Try.ntmps13
    go_wp2_with (first | (go_at_call 28; refine (laws_big _ _ _ _).mono ?_; rintro e w' ⟨rfl, rfl⟩) | fail)
    all_goals go_returns
    all_goals exact ⟨rfl, Below.refl _ _⟩
end Go.Proofs.Ytdomghjdnnnifaa
