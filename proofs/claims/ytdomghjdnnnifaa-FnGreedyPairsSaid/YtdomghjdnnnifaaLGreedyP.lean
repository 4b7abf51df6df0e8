/- The greedy pairing is a pairing, and none of its free pairs is cheaper than a miss: the law's walk. -/
import Derived.Test.YtdomghjdnnnifaaPlB
import Derived.Test.YtdomghjdnnnifaaAllG
import Derived.Test.YtdomghjdnnnifaaGrC
import Derived.Test.YtdomghjdnnnifaaGrD
import Derived.Test.YtdomghjdnnnifaaDrD
import Derived.Test.YtdomghjdnnnifaaLike
import Derived.Test.YtdomghjdnnnifaaBig
namespace Go.Proofs.Ytdomghjdnnnifaa
open Go.RowKit
set_option linter.unusedVariables false
set_option linter.unusedSimpArgs false
theorem sum_pair {css : List (List Int)} {miss : Int} {ps : List Int} (h : codeC css miss = 0) (hp : pairB css ps = true) : fSum css miss ps = (psk miss css ps ps.length, 0) := by
  obtain ⟨h1, h2, h3⟩ := codeC_0 h
  rw [fSum, if_pos h1, inB_t ⟨h2, h3⟩, hp]; rfl
theorem laws_hasIntB (A : Option Addr) (c : Nat) (xs : List Int) (x : Int) (b : Bool) (w : World) (hr : I64 w w.heap.size A xs) (hl : xs.length ≤ 9223372036854775807) (h : decide (x ∈ xs) = b) :
    Calls Try.prog 48 #[.slice A xs.length c, .int .i64 x] w fun e w' => e = .returned (.bool b) ∧ w = w' := by
  rw [← h]; exact laws_hasInt A c xs x w hr hl
set_option maxHeartbeats 3200000 in
set_option maxRecDepth 100000 in
theorem walk_GreedyP (A : Option Addr) (c : Nat) (code : List Int) (w : World) (hr : U8 w w.heap.size A code) (hb : ∀ x ∈ code, 0 ≤ x ∧ x ≤ 255) :
    Calls Try.prog 14 #[.slice A code.length c] w fun e w' => e = .returned (.bool true) ∧ Below w.heap.size w w' := by
  by_cases hl : code.length ≤ 4096
  · go_enter Try.func14, Try.ntmps14
    go_wp2_with (first | (go_at_call 28; refine (laws_big _ _ _ _).mono ?_; rintro e w' ⟨rfl, rfl⟩) | fail)
    refine (spec_DrawGreedyPairs _ _ _ _ hr hb hl).mono ?_
    rintro e w1 ⟨v1, css, r, rfl, oc, hd, hr1, hbw1⟩
    obtain ⟨A1, c1, rfl⟩ := oc.form
    have rc := oc.rd.2
    have l7 := hd.1
    have rows : ∀ (i : Nat) (xs : List Int), css[i]? = some xs → xs.length ≤ 1099511627776 := fun i xs h => by have := hd.2 i xs h; omega
    have hI2 := fun w' (hb' : Below w1.heap.size w1 w') => impl_GreedyPairs A1 c1 css r w' (rc.up hb') (by omega) rows
    have hS2 := fun w' (hb' : Below w1.heap.size w1 w') => spec_GreedyPairs A1 c1 css r w' (rc.up hb') (by omega) rows
    have hI3 := fun w' (hb' : Below w1.heap.size w1 w') => impl_LeastSum A1 c1 css r w' (rc.up hb') (by omega) rows
    have hI5 : ∀ (w' : World) (B : Option Addr) (d : Nat) (zs : List Int), Below w1.heap.size w1 w' → I64 w' w'.heap.size B zs → zs.length ≤ 6 → zs.length ≤ d → Calls Try.prog 32 #[.slice A1 css.length c1, .int .i64 r, .slice B zs.length d] w' fun e w2 => e = .returned (.tuple #[.int .i64 (fSum css r zs).1, .int .i64 (fSum css r zs).2]) ∧ Below w'.heap.size w' w2 := fun w' B d zs hb' hz hz6 hd => impl_SumOfPairs A1 c1 css r B d zs w' (rc.up hb') (by omega) rows hz (by omega) hd
    have hI7 : ∀ (w' : World) (B : Option Addr) (d : Nat) (zs : List Int), Below w1.heap.size w1 w' → I64 w' w'.heap.size B zs → zs.length ≤ 6 → zs.length ≤ d → Calls Try.prog 34 #[.slice A1 css.length c1, .slice B zs.length d] w' fun e w2 => ∃ v, e = .returned (.tuple #[v, .int .i64 (cFree css zs)]) ∧ OwnI w2 w'.heap.size v (fFree css zs) ∧ Below w'.heap.size w' w2 := fun w' B d zs hb' hz hz6 hd => impl_FreeContacts A1 c1 css B d zs w' (rc.up hb') (by omega) rows hz (by omega) hd
    have hD := fun w' (hb' : Below w.heap.size w w') => spec_DrawFreeContacts A c code w' (Rd.up hr hb') hb hl
    obtain ⟨zs, hzs⟩ : ∃ zs, zs = fGreedy css r := ⟨_, rfl⟩
    obtain ⟨cc, hcc⟩ : ∃ cc, cc = codeC css r := ⟨_, rfl⟩
    obtain ⟨ln, hln⟩ : ∃ ln, ln = fLeast css r := ⟨_, rfl⟩
    have hz6 : zs.length ≤ 6 := by rw [hzs]; exact fGreedy_len
    rw [← hzs, ← hcc] at hI2 hS2
    rw [← hln, ← hcc] at hI3
    have n3 : (cc != cc) = false := by simp
    have H2 := Lib.hid hI2
    have H3 := Lib.hid hI3
    have K2 := Lib.hid hS2
    have DH := Lib.hid hD
    have H5 := Lib.hid hI5
    have H7 := Lib.hid hI7
    have hccH := Lib.hid hcc
    have hlnH := Lib.hid hln
    have hzsH := Lib.hid hzs
    have rowH := Lib.hid rows
    have rcH := Lib.hid rc
    clear hI2 hS2 hI3 hI5 hI7 hD hcc hln hzs rows rc oc hd hr hb
    go_wp2_with fail
    refine (H2.out _ (by repeat' (first | (with_reducible exact Below.refl _ _) | (with_reducible assumption) | (with_reducible refine Below.new ?_ _) | (with_reducible refine Below.alloc ?_ ?_ _) | (with_reducible refine Below.drew ?_) | (with_reducible refine below_drewN ?_ _) | (with_reducible refine Below.setCell ?_ ?_ _) | (refine Below.next ?_ (by with_reducible assumption)) | (refine Below.row ?_ (by with_reducible assumption) (by omega)) | (refine Below.trans ?_ (by with_reducible assumption)) | (refine Below.after ?_ ?_ (by with_reducible assumption)) | go_size))).mono ?_; rintro e w4 ⟨v4, rfl, o4, hbw4⟩; have hzw4 := hbw4.size; (try simp only [World.size_alloc, World.size_setCell, World.size_drew] at hzw4)
    obtain ⟨A4, c4, rfl, _⟩ := id o4
    repeat' (first | fail | go_values | go_skip | go_guarded | go_step | go_upon | (simp only []; go_step) | (go_ite <;> go_prune <;> (try go_simp)))
    refine (K2.out _ (by repeat' (first | (with_reducible exact Below.refl _ _) | (with_reducible assumption) | (with_reducible refine Below.new ?_ _) | (with_reducible refine Below.alloc ?_ ?_ _) | (with_reducible refine Below.drew ?_) | (with_reducible refine below_drewN ?_ _) | (with_reducible refine Below.setCell ?_ ?_ _) | (refine Below.next ?_ (by with_reducible assumption)) | (refine Below.row ?_ (by with_reducible assumption) (by omega)) | (refine Below.trans ?_ (by with_reducible assumption)) | (refine Below.after ?_ ?_ (by with_reducible assumption)) | go_size))).mono ?_; rintro e w5 ⟨v5, rfl, o5, hbw5⟩; have hzw5 := hbw5.size; (try simp only [World.size_alloc, World.size_setCell, World.size_drew] at hzw5)
    obtain ⟨A5, c5, rfl, _⟩ := id o5
    have B5 : Below w.heap.size w w5 := by repeat' (first | (with_reducible exact Below.refl _ _) | (with_reducible assumption) | (with_reducible refine Below.new ?_ _) | (with_reducible refine Below.alloc ?_ ?_ _) | (with_reducible refine Below.drew ?_) | (with_reducible refine below_drewN ?_ _) | (with_reducible refine Below.setCell ?_ ?_ _) | (refine Below.next ?_ (by with_reducible assumption)) | (refine Below.row ?_ (by with_reducible assumption) (by omega)) | (refine Below.trans ?_ (by with_reducible assumption)) | (refine Below.after ?_ ?_ (by with_reducible assumption)) | go_size)
    repeat' (first | fail | go_values | go_skip | go_guarded | go_step | go_upon | (simp only []; go_step) | (go_ite <;> go_prune <;> (try go_simp)))
    refine (DH.out _ (by repeat' (first | (with_reducible exact Below.refl _ _) | (with_reducible assumption) | (with_reducible refine Below.new ?_ _) | (with_reducible refine Below.alloc ?_ ?_ _) | (with_reducible refine Below.drew ?_) | (with_reducible refine below_drewN ?_ _) | (with_reducible refine Below.setCell ?_ ?_ _) | (refine Below.next ?_ (by with_reducible assumption)) | (refine Below.row ?_ (by with_reducible assumption) (by omega)) | (refine Below.trans ?_ (by with_reducible assumption)) | (refine Below.after ?_ ?_ (by with_reducible assumption)) | go_size))).mono ?_; rintro e w6 ⟨v6, css2, u6, ps, rfl, oc2, hd2, op2, hp8, hbw6⟩; have hzw6 := hbw6.size; (try simp only [World.size_alloc, World.size_setCell, World.size_drew] at hzw6)
    obtain ⟨A6, c6, rfl⟩ := oc2.form
    obtain ⟨A7, c7, rfl, _⟩ := id op2
    have cap2 := op2.cap
    have l72 := hd2.1
    have rows2 : ∀ (i : Nat) (xs : List Int), css2[i]? = some xs → xs.length ≤ 1099511627776 := fun i xs h => by have := hd2.2 i xs h; omega
    have hI8 := fun w' (hb' : Below w6.heap.size w6 w') => impl_FreeContacts A6 c6 css2 A7 c7 ps w' (oc2.rd.2.up hb') (by omega) rows2 (op2.reads.2.up hb') (by omega) cap2
    have hS8 := fun w' (hb' : Below w6.heap.size w6 w') => spec_FreeContacts A6 c6 css2 A7 c7 ps w' (oc2.rd.2.up hb') (by omega) rows2 (op2.reads.2.up hb') (by omega) cap2
    have hI9 := fun w' (hb' : Below w6.heap.size w6 w') => impl_IsPairing A6 c6 css2 A7 c7 ps w' (oc2.rd.2.up hb') (by omega) rows2 (op2.reads.2.up hb') (by omega) cap2
    have hS9 := fun w' (hb' : Below w6.heap.size w6 w') => spec_IsPairing A6 c6 css2 A7 c7 ps w' (oc2.rd.2.up hb') (by omega) rows2 (op2.reads.2.up hb') (by omega) cap2
    obtain ⟨fs, hfs⟩ : ∃ fs, fs = fFree css2 ps := ⟨_, rfl⟩
    obtain ⟨fc, hfc⟩ : ∃ fc, fc = cFree css2 ps := ⟨_, rfl⟩
    obtain ⟨bb, hbb⟩ : ∃ bb, bb = (areB css2 && pairB css2 ps) := ⟨_, rfl⟩
    have hf6 : fs.length ≤ 6 := by rw [hfs]; exact fFree_len
    rw [← hfs, ← hfc] at hI8 hS8
    rw [← hbb] at hI9 hS9
    have n8 : (fc != fc) = false := by simp
    have n9 : (bb != bb) = false := by cases bb <;> rfl
    have H8 := Lib.hid hI8
    have K8 := Lib.hid hS8
    have H9 := Lib.hid hI9
    have K9 := Lib.hid hS9
    clear hI8 hS8 hI9 hS9 hfs hfc hbb rows2 oc2 hd2 op2
    repeat' (first | fail | go_values | go_skip | go_guarded | go_step | go_upon | (simp only []; go_step) | (go_ite <;> go_prune <;> (try go_simp)))
    refine (H8.out _ (by repeat' (first | (with_reducible exact Below.refl _ _) | (with_reducible assumption) | (with_reducible refine Below.new ?_ _) | (with_reducible refine Below.alloc ?_ ?_ _) | (with_reducible refine Below.drew ?_) | (with_reducible refine below_drewN ?_ _) | (with_reducible refine Below.setCell ?_ ?_ _) | (refine Below.next ?_ (by with_reducible assumption)) | (refine Below.row ?_ (by with_reducible assumption) (by omega)) | (refine Below.trans ?_ (by with_reducible assumption)) | (refine Below.after ?_ ?_ (by with_reducible assumption)) | go_size))).mono ?_; rintro e w8 ⟨v8, rfl, o8, hbw8⟩; have hzw8 := hbw8.size; (try simp only [World.size_alloc, World.size_setCell, World.size_drew] at hzw8)
    obtain ⟨A8, c8, rfl, _⟩ := id o8
    repeat' (first | fail | go_values | go_skip | go_guarded | go_step | go_upon | (simp only []; go_step) | (go_ite <;> go_prune <;> (try go_simp)))
    refine (K8.out _ (by repeat' (first | (with_reducible exact Below.refl _ _) | (with_reducible assumption) | (with_reducible refine Below.new ?_ _) | (with_reducible refine Below.alloc ?_ ?_ _) | (with_reducible refine Below.drew ?_) | (with_reducible refine below_drewN ?_ _) | (with_reducible refine Below.setCell ?_ ?_ _) | (refine Below.next ?_ (by with_reducible assumption)) | (refine Below.row ?_ (by with_reducible assumption) (by omega)) | (refine Below.trans ?_ (by with_reducible assumption)) | (refine Below.after ?_ ?_ (by with_reducible assumption)) | go_size))).mono ?_; rintro e w9 ⟨v9, rfl, o9, hbw9⟩; have hzw9 := hbw9.size; (try simp only [World.size_alloc, World.size_setCell, World.size_drew] at hzw9)
    obtain ⟨A9, c9, rfl, _⟩ := id o9
    have hE1 := fun w' (hb' : Below w5.heap.size w5 w') => laws_likeInts A4 A5 c4 c5 zs zs w' (o4.up w (show Below w4.heap.size w4 w' from hbw5.trans (hb'.mono hbw5.size))) (o5.up w hb') (by omega) (by omega)
    have hE2 := fun w' (hb' : Below w9.heap.size w9 w') => laws_likeInts A8 A9 c8 c9 fs fs w' (o8.up w (show Below w8.heap.size w8 w' from hbw9.trans (hb'.mono hbw9.size))) (o9.up w hb') (by omega) (by omega)
    rw [show decide (zs = zs) = true by simp] at hE1
    rw [show decide (fs = fs) = true by simp] at hE2
    have E1 := Lib.hid hE1
    have E2 := Lib.hid hE2
    have cap4 := o4.cap
    have o4H := Lib.hid o4
    have o5H := Lib.hid o5
    have B95 : Below w5.heap.size w5 w9 := by repeat' (first | (with_reducible exact Below.refl _ _) | (with_reducible assumption) | (with_reducible refine Below.new ?_ _) | (with_reducible refine Below.alloc ?_ ?_ _) | (with_reducible refine Below.drew ?_) | (with_reducible refine below_drewN ?_ _) | (with_reducible refine Below.setCell ?_ ?_ _) | (refine Below.next ?_ (by with_reducible assumption)) | (refine Below.row ?_ (by with_reducible assumption) (by omega)) | (refine Below.trans ?_ (by with_reducible assumption)) | (refine Below.after ?_ ?_ (by with_reducible assumption)) | go_size)
    have B51 : Below w1.heap.size w1 w5 := hbw4.trans (hbw5.mono hbw4.size)
    have B91 : Below w1.heap.size w1 w9 := B51.trans (B95.mono B51.size)
    have B96 : Below w6.heap.size w6 w9 := hbw8.trans (hbw9.mono hbw8.size)
    have B94 : Below w4.heap.size w4 w9 := hbw5.trans (B95.mono hbw5.size)
    have B9 : Below w.heap.size w w9 := B5.trans (B95.mono B5.size)
    clear hE1 hE2 o4 o5 o8 o9 B51 hbw1 hbw4 hbw5 hbw6 hbw8 hbw9 B5 hzw4 hzw5 hzw6 hzw8 hzw9
    repeat' (first | fail | go_values | go_skip | go_guarded | go_step | go_upon | (simp only []; go_step) | (go_ite <;> go_prune <;> (try go_simp)))
    refine (E1.out _ (by repeat' (first | (with_reducible exact Below.refl _ _) | (with_reducible assumption) | (with_reducible refine Below.new ?_ _) | (with_reducible refine Below.alloc ?_ ?_ _) | (with_reducible refine Below.drew ?_) | (with_reducible refine below_drewN ?_ _) | (with_reducible refine Below.setCell ?_ ?_ _) | (refine Below.next ?_ (by with_reducible assumption)) | (refine Below.row ?_ (by with_reducible assumption) (by omega)) | (refine Below.trans ?_ (by with_reducible assumption)) | (refine Below.after ?_ ?_ (by with_reducible assumption)) | go_size))).mono ?_; rintro e w10 ⟨rfl, hbw10⟩; have hzw10 := hbw10.size; (try simp only [World.size_alloc, World.size_setCell, World.size_drew] at hzw10)
    repeat' (first | fail | go_values | go_skip | go_guarded | go_step | go_upon | (simp only []; go_step) | (go_ite <;> go_prune <;> (try go_simp)))
    refine (E2.out _ (by repeat' (first | (with_reducible exact Below.refl _ _) | (with_reducible assumption) | (with_reducible refine Below.new ?_ _) | (with_reducible refine Below.alloc ?_ ?_ _) | (with_reducible refine Below.drew ?_) | (with_reducible refine below_drewN ?_ _) | (with_reducible refine Below.setCell ?_ ?_ _) | (refine Below.next ?_ (by with_reducible assumption)) | (refine Below.row ?_ (by with_reducible assumption) (by omega)) | (refine Below.trans ?_ (by with_reducible assumption)) | (refine Below.after ?_ ?_ (by with_reducible assumption)) | go_size))).mono ?_; rintro e w11 ⟨rfl, hbw11⟩; have hzw11 := hbw11.size; (try simp only [World.size_alloc, World.size_setCell, World.size_drew] at hzw11)
    repeat' (first | fail | go_values | go_skip | go_guarded | go_step | go_upon | (simp only []; go_step) | (go_ite <;> go_prune <;> (try go_simp)))
    refine (H9.out _ (by repeat' (first | (with_reducible exact Below.refl _ _) | (with_reducible assumption) | (with_reducible refine Below.new ?_ _) | (with_reducible refine Below.alloc ?_ ?_ _) | (with_reducible refine Below.drew ?_) | (with_reducible refine below_drewN ?_ _) | (with_reducible refine Below.setCell ?_ ?_ _) | (refine Below.next ?_ (by with_reducible assumption)) | (refine Below.row ?_ (by with_reducible assumption) (by omega)) | (refine Below.trans ?_ (by with_reducible assumption)) | (refine Below.after ?_ ?_ (by with_reducible assumption)) | go_size))).mono ?_; rintro e w12 ⟨rfl, hbw12⟩; have hzw12 := hbw12.size; (try simp only [World.size_alloc, World.size_setCell, World.size_drew] at hzw12)
    repeat' (first | fail | go_values | go_skip | go_guarded | go_step | go_upon | (simp only []; go_step) | (go_ite <;> go_prune <;> (try go_simp)))
    refine (K9.out _ (by repeat' (first | (with_reducible exact Below.refl _ _) | (with_reducible assumption) | (with_reducible refine Below.new ?_ _) | (with_reducible refine Below.alloc ?_ ?_ _) | (with_reducible refine Below.drew ?_) | (with_reducible refine below_drewN ?_ _) | (with_reducible refine Below.setCell ?_ ?_ _) | (refine Below.next ?_ (by with_reducible assumption)) | (refine Below.row ?_ (by with_reducible assumption) (by omega)) | (refine Below.trans ?_ (by with_reducible assumption)) | (refine Below.after ?_ ?_ (by with_reducible assumption)) | go_size))).mono ?_; rintro e w13 ⟨rfl, hbw13⟩; have hzw13 := hbw13.size; (try simp only [World.size_alloc, World.size_setCell, World.size_drew] at hzw13)
    by_cases hz : cc = 0
    · have hz0 : codeC css r = 0 := by rw [← hccH.out, hz]
      have f1 : zs = grP r css := by rw [hzsH.out, fGreedy, if_pos hz0]
      have f2 : ln = lstP css r := by rw [hlnH.out, fLeast, if_pos hz0]
      have f4 : pairB css zs = true := by rw [f1]; exact gr_pair
      have f3 := sum_pair hz0 f4
      have f5 : cFree css zs = 0 := by rw [cFree, (codeC_0 hz0).1, f4]; rfl
      obtain ⟨sn, hsn⟩ : ∃ sn, sn = psk r css zs zs.length := ⟨_, rfl⟩
      have f6 : ln ≤ sn := by rw [f2, hsn]; exact lst_min f4
      rw [← hsn] at f3
      obtain ⟨ls, hls⟩ : ∃ ls, ls = fFree css zs := ⟨_, rfl⟩
      have hl6 : ls.length ≤ 6 := by rw [hls]; exact fFree_len
      have hno : ∀ (i k : Nat) (z y : Int) (xs : List Int), zs[i]? = some z → css[i]? = some xs → xs[k]? = some y → z < 0 → (k : Int) ∈ ls → ¬ (0 ≤ y ∧ y < r) := fun i k z y xs h1 h2 h3 h4 h5 => by
        rw [f1] at h1 hls
        rw [hls] at h5
        exact gr_left h1 h2 h3 h4 (free_sub h5)
      have hzl : zs.length = css.length := by rw [f1]; exact gr_len
      have hG5 : ∀ (w' : World), Below w1.heap.size w1 w' → I64 w' w'.heap.size A4 zs → Calls Try.prog 32 #[.slice A1 css.length c1, .int .i64 r, .slice A4 zs.length c4] w' fun e w2 => e = .returned (.tuple #[.int .i64 sn, .int .i64 0]) ∧ Below w'.heap.size w' w2 := fun w' hb' hzr => by have h := H5.out w' A4 c4 zs hb' hzr hz6 cap4; rw [f3] at h; exact h
      have hG7 : ∀ (w' : World), Below w1.heap.size w1 w' → I64 w' w'.heap.size A4 zs → Calls Try.prog 34 #[.slice A1 css.length c1, .slice A4 zs.length c4] w' fun e w2 => ∃ v, e = .returned (.tuple #[v, .int .i64 0]) ∧ OwnI w2 w'.heap.size v ls ∧ Below w'.heap.size w' w2 := fun w' hb' hzr => by have h := H7.out w' A4 c4 zs hb' hzr hz6 cap4; rw [f5, ← hls] at h; exact h
      have G5 := Lib.hid hG5
      have G7 := Lib.hid hG7
      have noH := Lib.hid hno
      have hzlH := Lib.hid hzl
      clear hG5 hG7 hno hzl f1 f2 f3 f4 f5 hsn hls H5 H7 hccH hlnH hzsH n3 hz0
      subst hz
      repeat' (first | fail | go_values | go_skip | go_guarded | go_step | go_upon | (simp only []; go_step) | (go_ite <;> go_prune <;> (try go_simp)))
      refine (G7.out _ (by repeat' (first | (with_reducible exact Below.refl _ _) | (with_reducible assumption) | (with_reducible refine Below.new ?_ _) | (with_reducible refine Below.alloc ?_ ?_ _) | (with_reducible refine Below.drew ?_) | (with_reducible refine below_drewN ?_ _) | (with_reducible refine Below.setCell ?_ ?_ _) | (refine Below.next ?_ (by with_reducible assumption)) | (refine Below.row ?_ (by with_reducible assumption) (by omega)) | (refine Below.trans ?_ (by with_reducible assumption)) | (refine Below.after ?_ ?_ (by with_reducible assumption)) | go_size)) (o4H.out.up w (B94.trans ((show Below w9.heap.size w9 w13 from by repeat' (first | (with_reducible exact Below.refl _ _) | (with_reducible assumption) | (with_reducible refine Below.new ?_ _) | (with_reducible refine Below.alloc ?_ ?_ _) | (with_reducible refine Below.drew ?_) | (with_reducible refine below_drewN ?_ _) | (with_reducible refine Below.setCell ?_ ?_ _) | (refine Below.next ?_ (by with_reducible assumption)) | (refine Below.row ?_ (by with_reducible assumption) (by omega)) | (refine Below.trans ?_ (by with_reducible assumption)) | (refine Below.after ?_ ?_ (by with_reducible assumption)) | go_size)).mono B94.size)))).mono ?_; rintro e w14 ⟨v14, rfl, o14, hbw14⟩; have hzw14 := hbw14.size; (try simp only [World.size_alloc, World.size_setCell, World.size_drew] at hzw14)
      obtain ⟨A14, c14, rfl, _⟩ := id o14
      repeat' (first | fail | go_values | go_skip | go_guarded | go_step | go_upon | (simp only []; go_step) | (go_ite <;> go_prune <;> (try go_simp)))
      refine (H3.out _ (by repeat' (first | (with_reducible exact Below.refl _ _) | (with_reducible assumption) | (with_reducible refine Below.new ?_ _) | (with_reducible refine Below.alloc ?_ ?_ _) | (with_reducible refine Below.drew ?_) | (with_reducible refine below_drewN ?_ _) | (with_reducible refine Below.setCell ?_ ?_ _) | (refine Below.next ?_ (by with_reducible assumption)) | (refine Below.row ?_ (by with_reducible assumption) (by omega)) | (refine Below.trans ?_ (by with_reducible assumption)) | (refine Below.after ?_ ?_ (by with_reducible assumption)) | go_size))).mono ?_; rintro e w15 ⟨rfl, hbw15⟩; have hzw15 := hbw15.size; (try simp only [World.size_alloc, World.size_setCell, World.size_drew] at hzw15)
      repeat' (first | fail | go_values | go_skip | go_guarded | go_step | go_upon | (simp only []; go_step) | (go_ite <;> go_prune <;> (try go_simp)))
      have B15 : Below w9.heap.size w9 w15 := by repeat' (first | (with_reducible exact Below.refl _ _) | (with_reducible assumption) | (with_reducible refine Below.new ?_ _) | (with_reducible refine Below.alloc ?_ ?_ _) | (with_reducible refine Below.drew ?_) | (with_reducible refine below_drewN ?_ _) | (with_reducible refine Below.setCell ?_ ?_ _) | (refine Below.next ?_ (by with_reducible assumption)) | (refine Below.row ?_ (by with_reducible assumption) (by omega)) | (refine Below.trans ?_ (by with_reducible assumption)) | (refine Below.after ?_ ?_ (by with_reducible assumption)) | go_size)
      refine (G5.out _ (by repeat' (first | (with_reducible exact Below.refl _ _) | (with_reducible assumption) | (with_reducible refine Below.new ?_ _) | (with_reducible refine Below.alloc ?_ ?_ _) | (with_reducible refine Below.drew ?_) | (with_reducible refine below_drewN ?_ _) | (with_reducible refine Below.setCell ?_ ?_ _) | (refine Below.next ?_ (by with_reducible assumption)) | (refine Below.row ?_ (by with_reducible assumption) (by omega)) | (refine Below.trans ?_ (by with_reducible assumption)) | (refine Below.after ?_ ?_ (by with_reducible assumption)) | go_size)) (o4H.out.up w (B94.trans (B15.mono B94.size)))).mono ?_; rintro e w16 ⟨rfl, hbw16⟩; have hzw16 := hbw16.size; (try simp only [World.size_alloc, World.size_setCell, World.size_drew] at hzw16)
      have B16 : Below w9.heap.size w9 w16 := by repeat' (first | (with_reducible exact Below.refl _ _) | (with_reducible assumption) | (with_reducible refine Below.new ?_ _) | (with_reducible refine Below.alloc ?_ ?_ _) | (with_reducible refine Below.drew ?_) | (with_reducible refine below_drewN ?_ _) | (with_reducible refine Below.setCell ?_ ?_ _) | (refine Below.next ?_ (by with_reducible assumption)) | (refine Below.row ?_ (by with_reducible assumption) (by omega)) | (refine Below.trans ?_ (by with_reducible assumption)) | (refine Below.after ?_ ?_ (by with_reducible assumption)) | go_size)
      have rZ := o5H.out.up w (B95.trans (B16.mono B95.size))
      have rC := rcH.out.up (B91.trans (B16.mono B91.size))
      have rL := o14.up w (show Below w14.heap.size w14 w16 from hbw15.trans (hbw16.mono hbw15.size))
      have hB16 : Below w.heap.size w w16 := B9.trans (B16.mono B9.size)
      clear B16 B15 o14 hbw10 hbw11 hbw12 hbw13 hbw14 hbw15 hbw16 B95 B91 B94 B9
      repeat' (first | fail | go_values | go_skip | go_guarded | go_step | go_upon | (simp only []; go_step) | (go_ite <;> go_prune <;> (try go_simp)))
      go_loop [21] (fun iv => ∃ i : Nat, i ≤ zs.length ∧ iv = .int .i64 i) (fun iv => zs.length - (intOf iv).toNat)
      case atStart => exact ⟨0, Nat.zero_le _, rfl⟩
      case round =>
        obtain ⟨i, hi, rfl⟩ := hrel
        by_cases hlt : i < zs.length
        · obtain ⟨z, hz⟩ := get_of_lt hlt
          obtain ⟨xs, hx⟩ := get_of_lt (xs := css) (k := i) (by have := hzlH.out; omega)
          obtain ⟨b, o, rfl, hb, hc⟩ := rZ.at_ hz
          obtain ⟨b2, o2, A', c', rfl, hb2, hc2, hi2⟩ := rC.at_ hx
          have p0 : (0 : Int) ≤ (i : Int) := by omega
          have p1 : (i : Int) < (zs.length : Int) := by omega
          have p2 : (i : Int) < (css.length : Int) := by have := hzlH.out; omega
          have hxl := rowH.out i xs hx
          have hzH := Lib.hid hz
          have hxH := Lib.hid hx
          clear hz hx
          go_wp2_with fail
          go_loop [22] (fun kv => ∃ k : Nat, k ≤ xs.length ∧ kv = .int .i64 k) (fun kv => xs.length - (intOf kv).toNat)
          case atStart => exact ⟨0, Nat.zero_le _, rfl⟩
          case round =>
            obtain ⟨k, hk, rfl⟩ := hrel
            by_cases hlk : k < xs.length
            · obtain ⟨y, hy⟩ := get_of_lt hlk
              obtain ⟨b3, o3, rfl, hb3, hc3⟩ := hi2.at_ hy
              have q0 : (0 : Int) ≤ (k : Int) := by omega
              have q1 : (k : Int) < (xs.length : Int) := by omega
              by_cases z0 : z < 0
              · cases hm : decide ((k : Int) ∈ ls)
                · clear hy
                  go_wp2_with (first | (go_at_call 48; refine (laws_hasIntB _ _ _ _ _ _ rL (by omega) hm).mono ?_; rintro e w' ⟨rfl, rfl⟩) | fail)
                  go_round
                  case rel => exact ⟨k + 1, by omega, by go_num⟩
                  case measure => simp [intOf]; omega
                · have hn := noH.out i k z y xs hzH.out hxH.out hy z0 (of_decide_eq_true hm)
                  clear hy
                  by_cases y0 : 0 ≤ y
                  · have y1 : ¬ y < r := fun h => hn ⟨y0, h⟩
                    clear hn
                    go_wp2_with (first | (go_at_call 48; refine (laws_hasIntB _ _ _ _ _ _ rL (by omega) hm).mono ?_; rintro e w' ⟨rfl, rfl⟩) | fail)
                    go_round
                    case rel => exact ⟨k + 1, by omega, by go_num⟩
                    case measure => simp [intOf]; omega
                  · clear hn
                    go_wp2_with (first | (go_at_call 48; refine (laws_hasIntB _ _ _ _ _ _ rL (by omega) hm).mono ?_; rintro e w' ⟨rfl, rfl⟩) | fail)
                    go_round
                    case rel => exact ⟨k + 1, by omega, by go_num⟩
                    case measure => simp [intOf]; omega
              · clear hy
                go_wp2_with fail
                go_round
                case rel => exact ⟨k + 1, by omega, by go_num⟩
                case measure => simp [intOf]; omega
            · go_wp2_with fail
              go_round
              case rel => exact ⟨i + 1, by omega, by go_num⟩
              case measure => simp [intOf]; omega
        · go_wp2_with fail
          all_goals go_returns
          all_goals exact ⟨rfl, hB16⟩
    · have hz' : (cc != 0) = true := by simpa using hz
      have B13 : Below w.heap.size w w13 := B9.trans ((show Below w9.heap.size w9 w13 from by repeat' (first | (with_reducible exact Below.refl _ _) | (with_reducible assumption) | (with_reducible refine Below.new ?_ _) | (with_reducible refine Below.alloc ?_ ?_ _) | (with_reducible refine Below.drew ?_) | (with_reducible refine below_drewN ?_ _) | (with_reducible refine Below.setCell ?_ ?_ _) | (refine Below.next ?_ (by with_reducible assumption)) | (refine Below.row ?_ (by with_reducible assumption) (by omega)) | (refine Below.trans ?_ (by with_reducible assumption)) | (refine Below.after ?_ ?_ (by with_reducible assumption)) | go_size)).mono B9.size)
      clear hz
      repeat' (first | fail | go_values | go_skip | go_guarded | go_step | go_upon | (simp only []; go_step) | (go_ite <;> go_prune <;> (try go_simp)))
      all_goals go_returns
      all_goals exact ⟨rfl, B13⟩
  · have hd : decide (4096 < (code.length : Int)) = true := by simp; omega
    go_enter Try.func14, Try.ntmps14
    go_wp2_with (first | (go_at_call 28; refine (laws_big _ _ _ _).mono ?_; rintro e w' ⟨rfl, rfl⟩) | fail)
    all_goals go_returns
    all_goals exact ⟨rfl, Below.refl _ _⟩
end Go.Proofs.Ytdomghjdnnnifaa
