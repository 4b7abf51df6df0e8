/- The draws of the side-scan chapter: contracts. -/
import Derived.Test.YtboagjiejjapfaaDrawA2
namespace Go.Proofs.Ytboagjiejjapfaa
open Go.RowKit
set_option linter.unusedVariables false
set_option linter.unusedSimpArgs false
theorem spec_l18DrawStep (B g : Nat) (w : World) (hs : Src w B g) :
    Calls Try.prog 80 #[.pointer (some ⟨g, 0, none⟩)] w fun e w' => ∃ r q, e = .returned (.tuple #[.int .i64 r, .int .i64 q]) ∧ (-1 ≤ r ∧ r ≤ 1000001) ∧ (-1 ≤ q ∧ q ≤ 1000001) ∧ Src w' B g ∧ w.grownBy w' (some g) := by
  go_enter Try.func80, Try.ntmps80
  go_wp2_with fail
  refine (spec_l01Next _ _ _ _ hs (by omega)).mono ?_
  rintro e w2 ⟨r2, rfl, ⟨hr2, ht2⟩, hs2, hg2⟩
  by_cases q0 : r2 = 0
  · subst q0
    go_wp2_with (first | (go_at_call 75; (first | (with_reducible refine (pick2 _ _ _ _ _ _ (by exact Src.alloc (by assumption) _) (by exact heap_alloc_new _ _) (by have := Src.lt (by assumption); omega)).mono ?_) | (with_reducible refine (pick3 _ _ _ _ _ _ _ (by exact Src.alloc (by assumption) _) (by exact heap_alloc_new _ _) (by have := Src.lt (by assumption); omega)).mono ?_) | (with_reducible refine (pick4 _ _ _ _ _ _ _ _ (by exact Src.alloc (by assumption) _) (by exact heap_alloc_new _ _) (by have := Src.lt (by assumption); omega)).mono ?_) | (with_reducible refine (pick5 _ _ _ _ _ _ _ _ _ (by exact Src.alloc (by assumption) _) (by exact heap_alloc_new _ _) (by have := Src.lt (by assumption); omega)).mono ?_) | (with_reducible refine (pick6 _ _ _ _ _ _ _ _ _ _ (by exact Src.alloc (by assumption) _) (by exact heap_alloc_new _ _) (by have := Src.lt (by assumption); omega)).mono ?_) | (with_reducible refine (pick7 _ _ _ _ _ _ _ _ _ _ _ (by exact Src.alloc (by assumption) _) (by exact heap_alloc_new _ _) (by have := Src.lt (by assumption); omega)).mono ?_)); rintro e w1 ⟨r1, rfl, hm1, hs1, hg1⟩) | (go_at_call 78; refine (spec_l18DrawLength _ _ _ (by first | assumption | exact Src.alloc (by assumption) _ | exact Src.drewN (by assumption) _)).mono ?_; rintro e w1 ⟨r1, rfl, hr1, hs1, hg1⟩))
    go_ret2
    exact ⟨_, _, rfl, by omega, by omega, hs1, (by repeat' (first | (with_reducible exact World.grownBy.refl _ _) | (with_reducible assumption) | (with_reducible refine grownBy_drewN ?_ _) | (with_reducible refine grownBy_set ?_ _ _) | (with_reducible refine grownBy_alloc' ?_ _) | (refine grownBy_trans ?_ (by with_reducible assumption)) | (refine grownBy_next ?_ (by with_reducible assumption))))⟩
  · have e0 : (r2 == 0) = false := by simpa using q0
    go_wp2_with fail
    refine (spec_l01Next _ _ _ _ hs2 (by omega)).mono ?_
    rintro e w3 ⟨r3, rfl, ⟨hr3, ht3⟩, hs3, hg3⟩
    go_wp2_with fail
    refine (spec_l01Next _ _ _ _ hs3 (by omega)).mono ?_
    rintro e w4 ⟨r4, rfl, ⟨hr4, ht4⟩, hs4, hg4⟩
    have b1 := Int.mul_nonneg hr4 (show 0 ≤ 1 + r3 by omega)
    have b2 : r4 * (1 + r3) ≤ 16 * 41 := Int.mul_le_mul (by omega) (by omega) (by omega) (by omega)
    go_wp2
    go_ret2
    exact ⟨_, _, rfl, by omega, by omega, hs4, (by repeat' (first | (with_reducible exact World.grownBy.refl _ _) | (with_reducible assumption) | (with_reducible refine grownBy_drewN ?_ _) | (with_reducible refine grownBy_set ?_ _ _) | (with_reducible refine grownBy_alloc' ?_ _) | (refine grownBy_trans ?_ (by with_reducible assumption)) | (refine grownBy_next ?_ (by with_reducible assumption))))⟩
theorem spec_DrawBlindSamples (A : Option Addr) (c : Nat) (code : List Int) (w : World) (hr : U8 w w.heap.size A code) (hb : ∀ x ∈ code, 0 ≤ x ∧ x ≤ 255) (hl : code.length ≤ 4096) :
    Calls Try.prog 45 #[.slice A code.length c] w fun e w' => ∃ r q, e = .returned (.tuple #[.int .i64 r, .int .i64 q]) ∧ (-1 ≤ r ∧ r ≤ 1000001) ∧ (-1 ≤ q ∧ q ≤ 1000001) ∧ Below w.heap.size w w' := by
  go_enter Try.func45, Try.ntmps45
  go_wp2_with (first | (go_at_call 73; refine (spec_l01From _ _ _ _ hr hb hl).mono ?_; rintro e w1 ⟨g, rfl, hg0, hs1, hb1⟩) | (go_at_call 80; refine (spec_l18DrawStep _ _ _ (by first | assumption | exact Src.alloc (by assumption) _ | exact Src.drewN (by assumption) _)).mono ?_; rintro e w1 ⟨r1, r2, rfl, hr1, hr2, hs1, hg1⟩))
  all_goals go_ret2
  all_goals exact ⟨_, _, rfl, by omega, by omega, by repeat' (first | (with_reducible exact Below.refl _ _) | (with_reducible assumption) | (with_reducible refine Below.new ?_ _) | (with_reducible refine Below.alloc ?_ ?_ _) | (with_reducible refine Below.drew ?_) | (with_reducible refine below_drewN ?_ _) | (with_reducible refine Below.setCell ?_ ?_ _) | (refine Below.next ?_ (by with_reducible assumption)) | (refine Below.row ?_ (by with_reducible assumption) (by omega)) | (refine Below.trans ?_ (by with_reducible assumption)) | (refine Below.after ?_ ?_ (by with_reducible assumption)) | go_size)⟩
theorem spec_DrawShadowHeight (A : Option Addr) (c : Nat) (code : List Int) (w : World) (hr : U8 w w.heap.size A code) (hb : ∀ x ∈ code, 0 ≤ x ∧ x ≤ 255) (hl : code.length ≤ 4096) :
    Calls Try.prog 48 #[.slice A code.length c] w fun e w' => ∃ r q t, e = .returned (.tuple #[.int .i64 r, .int .i64 q, .int .i64 t]) ∧ (-1 ≤ r ∧ r ≤ 1000001) ∧ (-1 ≤ q ∧ q ≤ 1000001) ∧ (-1 ≤ t ∧ t ≤ 1000001) ∧ Below w.heap.size w w' := by
  go_enter Try.func48, Try.ntmps48
  go_wp2_with (first | (go_at_call 73; refine (spec_l01From _ _ _ _ hr hb hl).mono ?_; rintro e w1 ⟨g, rfl, hg0, hs1, hb1⟩) | (go_at_call 74; refine (spec_l01Next _ _ _ _ (by first | assumption | exact Src.alloc (by assumption) _ | exact Src.drewN (by assumption) _) (by omega)).mono ?_; rintro e w1 ⟨r1, rfl, ⟨hr1, ht1⟩, hs1, hg1⟩) | (go_at_call 78; refine (spec_l18DrawLength _ _ _ (by first | assumption | exact Src.alloc (by assumption) _ | exact Src.drewN (by assumption) _)).mono ?_; rintro e w1 ⟨r1, rfl, hr1, hs1, hg1⟩))
  all_goals go_ret3
  all_goals exact ⟨_, _, _, rfl, by omega, by omega, by omega, by repeat' (first | (with_reducible exact Below.refl _ _) | (with_reducible assumption) | (with_reducible refine Below.new ?_ _) | (with_reducible refine Below.alloc ?_ ?_ _) | (with_reducible refine Below.drew ?_) | (with_reducible refine below_drewN ?_ _) | (with_reducible refine Below.setCell ?_ ?_ _) | (refine Below.next ?_ (by with_reducible assumption)) | (refine Below.row ?_ (by with_reducible assumption) (by omega)) | (refine Below.trans ?_ (by with_reducible assumption)) | (refine Below.after ?_ ?_ (by with_reducible assumption)) | go_size)⟩
theorem spec_DrawCorrectLine (A : Option Addr) (c : Nat) (code : List Int) (w : World) (hr : U8 w w.heap.size A code) (hb : ∀ x ∈ code, 0 ≤ x ∧ x ≤ 255) (hl : code.length ≤ 4096) :
    Calls Try.prog 44 #[.slice A code.length c] w fun e w' => ∃ v xs r q, e = .returned (.tuple #[v, .int .i64 r, .int .i64 q]) ∧ OwnI w' w.heap.size v xs ∧ xs.length ≤ 201 ∧ (-1 ≤ r ∧ r ≤ 1000001) ∧ (-1 ≤ q ∧ q ≤ 1000001) ∧ Below w.heap.size w w' := by
  go_enter Try.func44, Try.ntmps44
  go_wp2_with (first | (go_at_call 73; refine (spec_l01From _ _ _ _ hr hb hl).mono ?_; rintro e w1 ⟨g, rfl, hg0, hs1, hb1⟩) | (go_at_call 80; refine (spec_l18DrawStep _ _ _ (by first | assumption | exact Src.alloc (by assumption) _ | exact Src.drewN (by assumption) _)).mono ?_; rintro e w1 ⟨r1, r2, rfl, hr1, hr2, hs1, hg1⟩))
  refine (spec_l18DrawLine _ _ _ hs1).mono ?_
  rintro e w5 ⟨v5, xs, rfl, ho5, hx5, hs5, hg5⟩
  have hsz : w.heap.size ≤ w1.heap.size := by have := hg1.size; have := hb1.size; omega
  go_wp2
  go_ret3
  exact ⟨_, _, _, _, rfl, ho5.mono hsz, hx5, by omega, by omega, by repeat' (first | (with_reducible exact Below.refl _ _) | (with_reducible assumption) | (with_reducible refine Below.new ?_ _) | (with_reducible refine Below.alloc ?_ ?_ _) | (with_reducible refine Below.drew ?_) | (with_reducible refine below_drewN ?_ _) | (with_reducible refine Below.setCell ?_ ?_ _) | (refine Below.next ?_ (by with_reducible assumption)) | (refine Below.row ?_ (by with_reducible assumption) (by omega)) | (refine Below.trans ?_ (by with_reducible assumption)) | (refine Below.after ?_ ?_ (by with_reducible assumption)) | go_size)⟩
theorem spec_DrawBottomSample (A : Option Addr) (c : Nat) (code : List Int) (w : World) (hr : U8 w w.heap.size A code) (hb : ∀ x ∈ code, 0 ≤ x ∧ x ≤ 255) (hl : code.length ≤ 4096) :
    Calls Try.prog 49 #[.slice A code.length c] w fun e w' => ∃ v xs r, e = .returned (.tuple #[v, .int .i64 r]) ∧ OwnI w' w.heap.size v xs ∧ xs.length ≤ 201 ∧ (-1 ≤ r ∧ r ≤ 1000001) ∧ Below w.heap.size w w' := by
  go_enter Try.func49, Try.ntmps49
  go_wp2_with (first | (go_at_call 73; refine (spec_l01From _ _ _ _ hr hb hl).mono ?_; rintro e w1 ⟨g, rfl, hg0, hs1, hb1⟩))
  refine (spec_l18DrawLine _ _ _ hs1).mono ?_
  rintro e w5 ⟨v5, xs, rfl, ho5, hx5, hs5, hg5⟩
  have ho5' := ho5.mono hb1.size
  have hlt := hs1.lt
  go_wp2_with fail
  refine (spec_l01Next _ _ _ _ hs5 (by omega)).mono ?_
  rintro e w6 ⟨r6, rfl, ⟨hr6, ht6⟩, hs6, hg6⟩
  have ho6 := ho5.far hg6 hlt.2
  by_cases q0 : r6 = 0
  · subst q0
    go_wp2_with fail
    refine (pick4 _ _ _ _ _ _ _ _ (hs6.alloc _) (by exact heap_alloc_new _ _) (by have := hs6.lt; omega)).mono ?_
    rintro e w7 ⟨r7, rfl, hm7, hs7, hg7⟩
    have ho7 := (ho6.alloc _).far hg7 hlt.2
    go_wp2
    go_ret2
    exact ⟨_, _, _, rfl, ho7.mono hb1.size, hx5, by omega, by repeat' (first | (with_reducible exact Below.refl _ _) | (with_reducible assumption) | (with_reducible refine Below.new ?_ _) | (with_reducible refine Below.alloc ?_ ?_ _) | (with_reducible refine Below.drew ?_) | (with_reducible refine below_drewN ?_ _) | (with_reducible refine Below.setCell ?_ ?_ _) | (refine Below.next ?_ (by with_reducible assumption)) | (refine Below.row ?_ (by with_reducible assumption) (by omega)) | (refine Below.trans ?_ (by with_reducible assumption)) | (refine Below.after ?_ ?_ (by with_reducible assumption)) | go_size)⟩
  · have e0 : (r6 == 0) = false := by simpa using q0
    go_wp2_with fail
    refine (spec_l01Next _ _ _ _ hs6 (by omega)).mono ?_
    rintro e w7 ⟨r7, rfl, ⟨hr7, ht7⟩, hs7, hg7⟩
    have ho7 := ho6.far hg7 hlt.2
    go_wp2
    go_ret2
    exact ⟨_, _, _, rfl, ho7.mono hb1.size, hx5, by omega, by repeat' (first | (with_reducible exact Below.refl _ _) | (with_reducible assumption) | (with_reducible refine Below.new ?_ _) | (with_reducible refine Below.alloc ?_ ?_ _) | (with_reducible refine Below.drew ?_) | (with_reducible refine below_drewN ?_ _) | (with_reducible refine Below.setCell ?_ ?_ _) | (refine Below.next ?_ (by with_reducible assumption)) | (refine Below.row ?_ (by with_reducible assumption) (by omega)) | (refine Below.trans ?_ (by with_reducible assumption)) | (refine Below.after ?_ ?_ (by with_reducible assumption)) | go_size)⟩
theorem spec_DrawGainLine (A : Option Addr) (c : Nat) (code : List Int) (w : World) (hr : U8 w w.heap.size A code) (hb : ∀ x ∈ code, 0 ≤ x ∧ x ≤ 255) (hl : code.length ≤ 4096) :
    Calls Try.prog 50 #[.slice A code.length c] w fun e w' => ∃ v xs u ys, e = .returned (.tuple #[v, u]) ∧ OwnI w' w.heap.size v xs ∧ OwnI w' w.heap.size u ys ∧ xs.length ≤ 201 ∧ ys.length ≤ 202 ∧ Below w.heap.size w w' := by
  go_enter Try.func50, Try.ntmps50
  go_wp2_with (first | (go_at_call 73; refine (spec_l01From _ _ _ _ hr hb hl).mono ?_; rintro e w1 ⟨g, rfl, hg0, hs1, hb1⟩))
  refine (spec_l18DrawLine _ _ _ hs1).mono ?_
  rintro e w5 ⟨v5, xs, rfl, ho5, hx5, hs5, hg5⟩
  have ho5' := ho5
  obtain ⟨A5, c5, rfl, q5⟩ := ho5'
  have hlt := hs1.lt
  go_wp2_with fail
  have hline := ho5.lt
  have hline' := Lib.hid hline
  have hB5 : Below w.heap.size w w5 := by repeat' (first | (with_reducible exact Below.refl _ _) | (with_reducible assumption) | (with_reducible refine Below.new ?_ _) | (with_reducible refine Below.alloc ?_ ?_ _) | (with_reducible refine Below.drew ?_) | (with_reducible refine below_drewN ?_ _) | (with_reducible refine Below.setCell ?_ ?_ _) | (refine Below.next ?_ (by with_reducible assumption)) | (refine Below.row ?_ (by with_reducible assumption) (by omega)) | (refine Below.trans ?_ (by with_reducible assumption)) | (refine Below.after ?_ ?_ (by with_reducible assumption)) | go_size)
  have hB1 := hb1.size
  have hg5s := hg5.size
  clear hline q5 hr hb hg5 hb1
  go_loopw [6, 7] (fun v i wr => ∃ k : Nat, ∃ ys : List Int, k ≤ xs.length ∧ i = .int .i64 k ∧ ys.length = k ∧ OwnI wr w5.heap.size v ys ∧ OwnI wr w1.heap.size (.slice A5 xs.length c5) xs ∧ Src wr w.heap.size g ∧ w5.heap.size ≤ wr.heap.size ∧ Below w.heap.size w wr) (fun _ i _ => xs.length - (intOf i).toNat)
  case atStart => exact ⟨0, [], Nat.zero_le _, rfl, rfl, OwnI.lit0 (Nat.le_refl _), ho5.alloc _, hs5.alloc _, by simp, by repeat' (first | (with_reducible exact Below.refl _ _) | (with_reducible assumption) | (with_reducible refine Below.new ?_ _) | (with_reducible refine Below.alloc ?_ ?_ _) | (with_reducible refine Below.drew ?_) | (with_reducible refine below_drewN ?_ _) | (with_reducible refine Below.setCell ?_ ?_ _) | (refine Below.next ?_ (by with_reducible assumption)) | (refine Below.row ?_ (by with_reducible assumption) (by omega)) | (refine Below.trans ?_ (by with_reducible assumption)) | (refine Below.after ?_ ?_ (by with_reducible assumption)) | go_size)⟩
  case round =>
    obtain ⟨k, ys, hk, rfl, hy, ho, hoL, hsr, hsz, hbr⟩ := hrel
    have hy' := Lib.hid hy
    clear hy ho5 hs5 hB5 hs1
    by_cases hlt2 : k < xs.length
    · go_wp2_with fail
      refine (spec_l01Next _ _ _ _ hsr (by omega)).mono ?_
      rintro e w2 ⟨r2, rfl, ⟨hr2, ht2⟩, hs2, hg2⟩
      go_wp2_with fail
      refine (pick4 _ _ _ _ _ _ _ _ (hs2.alloc _) (by exact heap_alloc_new _ _) (by have := hs2.lt; omega)).mono ?_
      rintro e w3 ⟨r3, rfl, hm3, hs3, hg3⟩
      have gz : g < w5.heap.size := by omega
      have ho3 := ((ho.far hg2 gz).alloc _).far hg3 gz
      have hoL3 := ((hoL.far hg2 hlt.2).alloc _).far hg3 hlt.2
      have hB3 : Below w.heap.size w w3 := by repeat' (first | (with_reducible exact Below.refl _ _) | (with_reducible assumption) | (with_reducible refine Below.new ?_ _) | (with_reducible refine Below.alloc ?_ ?_ _) | (with_reducible refine Below.drew ?_) | (with_reducible refine below_drewN ?_ _) | (with_reducible refine Below.setCell ?_ ?_ _) | (refine Below.next ?_ (by with_reducible assumption)) | (refine Below.row ?_ (by with_reducible assumption) (by omega)) | (refine Below.trans ?_ (by with_reducible assumption)) | (refine Below.after ?_ ?_ (by with_reducible assumption)) | go_size)
      have sz3 : w5.heap.size ≤ w3.heap.size := by have := hg2.size; have := hg3.size; simp only [World.size_alloc] at this; omega
      clear hg2 hg3 ho hoL hm3 hsr hs2 hbr
      go_wp2_with (at_builtin; refine push_int ho3 rfl _ _ rfl rfl rfl sz3 (by have := hy'.out; omega) ?_; intro v' w4 ho4 hg4 hb4)
      have hs4 : Src w4 w.heap.size g := hs3.other hg4 (fun k hk => by have := ho3.lt k hk; omega)
      have hoL4 := hoL3.kept hg4 (by
        cases hv : (Value.slice A5 xs.length c5).ownBlock with
        | none => simp
        | some j =>
          right
          have h1 := hline'.out j hv
          intro e
          have h2 := ho3.lt j e.symm
          omega)
      go_roundw
      case rel => exact ⟨k + 1, _, by omega, by go_num, by simp [hy'.out], ho4, hoL4, hs4, Nat.le_trans sz3 hg4.size, hB3.trans (hb4.mono (by omega))⟩
      case measure => simp [intOf]; omega
    · go_wp2_with fail
      refine (spec_l01Next _ _ _ _ hsr (by omega)).mono ?_
      rintro e w2 ⟨r2, rfl, ⟨hr2, ht2⟩, hs2, hg2⟩
      have gz : g < w5.heap.size := by omega
      have ho2 := ho.far hg2 gz
      have hoL2 := hoL.far hg2 hlt.2
      have hB2 : Below w.heap.size w w2 := by repeat' (first | (with_reducible exact Below.refl _ _) | (with_reducible assumption) | (with_reducible refine Below.new ?_ _) | (with_reducible refine Below.alloc ?_ ?_ _) | (with_reducible refine Below.drew ?_) | (with_reducible refine below_drewN ?_ _) | (with_reducible refine Below.setCell ?_ ?_ _) | (refine Below.next ?_ (by with_reducible assumption)) | (refine Below.row ?_ (by with_reducible assumption) (by omega)) | (refine Below.trans ?_ (by with_reducible assumption)) | (refine Below.after ?_ ?_ (by with_reducible assumption)) | go_size)
      have sz2 : w5.heap.size ≤ w2.heap.size := by have := hg2.size; omega
      clear hg2 ho hoL hsr hbr
      by_cases q0 : r2 = 0
      · subst q0
        go_wp2_with fail
        refine (pick2 _ _ _ _ _ _ (hs2.alloc _) (by exact heap_alloc_new _ _) (by have := hs2.lt; omega)).mono ?_
        rintro e w3 ⟨r3, rfl, hm3, hs3, hg3⟩
        have ho3 := (ho2.alloc _).far hg3 gz
        have hoL3 := (hoL2.alloc _).far hg3 hlt.2
        have hB3 : Below w.heap.size w w3 := by repeat' (first | (with_reducible exact Below.refl _ _) | (with_reducible assumption) | (with_reducible refine Below.new ?_ _) | (with_reducible refine Below.alloc ?_ ?_ _) | (with_reducible refine Below.drew ?_) | (with_reducible refine below_drewN ?_ _) | (with_reducible refine Below.setCell ?_ ?_ _) | (refine Below.next ?_ (by with_reducible assumption)) | (refine Below.row ?_ (by with_reducible assumption) (by omega)) | (refine Below.trans ?_ (by with_reducible assumption)) | (refine Below.after ?_ ?_ (by with_reducible assumption)) | go_size)
        have sz3 : w5.heap.size ≤ w3.heap.size := by have := hg3.size; simp only [World.size_alloc] at this; omega
        clear hg3 ho2 hoL2 hm3 hB2
        go_wp2_with (at_builtin; refine push_int ho3 rfl _ _ rfl rfl rfl sz3 (by have := hy'.out; omega) ?_; intro v' w4 ho4 hg4 hb4)
        have hoL4 := hoL3.kept hg4 (by
          cases hv : (Value.slice A5 xs.length c5).ownBlock with
          | none => simp
          | some j =>
            right
            have h1 := hline'.out j hv
            intro e
            have h2 := ho3.lt j e.symm
            omega)
        go_ret2
        exact ⟨_, _, _, _, rfl, hoL4.mono (by omega), ho4.mono (by omega), hx5, by have := hy'.out; simp; omega, hB3.trans (hb4.mono (by omega))⟩
      · have e0 : (r2 == 0) = false := by simpa using q0
        go_wp2
        go_ret2
        exact ⟨_, _, _, _, rfl, hoL2.mono (by omega), ho2.mono (by omega), hx5, by have := hy'.out; omega, hB2⟩
end Go.Proofs.Ytboagjiejjapfaa
