/- The draws of the side-scan chapter: contracts. -/
import Derived.Test.YtboagjiejjapfaaDraw
namespace Go.Proofs.Ytboagjiejjapfaa
open Go.RowKit
set_option linter.unusedVariables false
set_option linter.unusedSimpArgs false
theorem spec_l18DrawLine (B g : Nat) (w : World) (hs : Src w B g) :
    Calls Try.prog 81 #[.pointer (some ⟨g, 0, none⟩)] w fun e w' => ∃ v xs, e = .returned v ∧ OwnI w' w.heap.size v xs ∧ xs.length ≤ 201 ∧ Src w' B g ∧ w.grownBy w' (some g) := by
  have hlt := hs.lt
  obtain ⟨i0, hi, hz0, hz1, hz2⟩ := info_parts int_info
  go_enter Try.func81, Try.ntmps81
  go_wp2_with (first | (go_at_call 74; refine (spec_l01Next _ _ _ _ (by first | assumption | exact Src.alloc (by assumption) _ | exact Src.drewN (by assumption) _) (by omega)).mono ?_; rintro e w1 ⟨r1, rfl, ⟨hr1, ht1⟩, hs1, hg1⟩))
  go_loopw [3, 4] (fun v n wr => ∃ xs : List Int, ∃ k : Int, n = .int .i64 k ∧ 0 ≤ k ∧ k + xs.length ≤ 20 ∧ OwnI wr w.heap.size v xs ∧ Src wr B g ∧ w.grownBy wr (some g)) (fun _ n _ => (intOf n).toNat)
  case atStart => exact ⟨[], r1, rfl, hr1, by simp; omega, (OwnI.lit0 (Nat.le_refl _)).far hg1 (by omega), hs1, (by repeat' (first | (with_reducible exact World.grownBy.refl _ _) | (with_reducible assumption) | (with_reducible refine grownBy_drewN ?_ _) | (with_reducible refine grownBy_set ?_ _ _) | (with_reducible refine grownBy_alloc' ?_ _) | (refine grownBy_trans ?_ (by with_reducible assumption)) | (refine grownBy_next ?_ (by with_reducible assumption))))⟩
  case round =>
    obtain ⟨xs, k, rfl, k0, k1, ho, hsr, hgr⟩ := hrel
    have hsz := hgr.size
    by_cases hk : 0 < k
    · go_wp2_with fail
      refine (pick3 _ _ _ _ _ _ _ (hsr.alloc _) (by exact heap_alloc_new _ _) (by omega)).mono ?_
      rintro e w2 ⟨r2, rfl, hm2, hs2, hg2⟩
      go_wp2_with fail
      refine (spec_l01Next _ _ _ _ hs2 (by omega)).mono ?_
      rintro e w3 ⟨r3, rfl, ⟨hr3, ht3⟩, hs3, hg3⟩
      have ho3 := ((ho.alloc _).far hg2 (by omega)).far hg3 (by omega)
      have hgr3 : w.grownBy w3 (some g) := (by repeat' (first | (with_reducible exact World.grownBy.refl _ _) | (with_reducible assumption) | (with_reducible refine grownBy_drewN ?_ _) | (with_reducible refine grownBy_set ?_ _ _) | (with_reducible refine grownBy_alloc' ?_ _) | (refine grownBy_trans ?_ (by with_reducible assumption)) | (refine grownBy_next ?_ (by with_reducible assumption))))
      have hsz3 := hgr3.size
      clear hg2 hg3 hm2 ho hgr hsr
      go_wp2_with (at_builtin; refine push_int ho3 rfl _ _ rfl rfl rfl hsz3 (by omega) ?_; intro v' w4 ho4 hg4 hb4)
      have hs4 : Src w4 B g := hs3.other hg4 (fun k hk => by have := ho3.lt k hk; omega)
      have hgr4 : w.grownBy w4 (some g) := ⟨hb4.os.trans hgr3.os, hb4.tape.trans hgr3.tape, hb4.output.trans hgr3.output, Nat.le_trans hgr3.size hb4.size, fun i hi' hn => (hb4.block i hi').trans (hgr3.block i hi' hn)⟩
      go_roundw
      case rel => exact ⟨_, k - 1, rfl, by omega, by simp; omega, ho4, hs4, hgr4⟩
      case measure => simp [intOf]; omega
    · go_wp2_with fail
      refine (spec_l01Next _ _ _ _ hsr (by omega)).mono ?_
      rintro e w3 ⟨r3, rfl, ⟨hr3, ht3⟩, hs3, hg3⟩
      have ho3 := ho.far hg3 (by omega)
      have hgr3 : w.grownBy w3 (some g) := (by repeat' (first | (with_reducible exact World.grownBy.refl _ _) | (with_reducible assumption) | (with_reducible refine grownBy_drewN ?_ _) | (with_reducible refine grownBy_set ?_ _ _) | (with_reducible refine grownBy_alloc' ?_ _) | (refine grownBy_trans ?_ (by with_reducible assumption)) | (refine grownBy_next ?_ (by with_reducible assumption))))
      have hsz3 := hgr3.size
      clear hg3 ho hgr hsr
      by_cases q0 : r3 = 0
      · subst q0
        go_wp2_with fail
        refine (pick3 _ _ _ _ _ _ _ (hs3.alloc _) (by exact heap_alloc_new _ _) (by omega)).mono ?_
        rintro e w4 ⟨r4, rfl, hm4, hs4, hg4⟩
        have ho4 := (ho3.alloc _).far hg4 (by omega)
        have hgr4 : w.grownBy w4 (some g) := (by repeat' (first | (with_reducible exact World.grownBy.refl _ _) | (with_reducible assumption) | (with_reducible refine grownBy_drewN ?_ _) | (with_reducible refine grownBy_set ?_ _ _) | (with_reducible refine grownBy_alloc' ?_ _) | (refine grownBy_trans ?_ (by with_reducible assumption)) | (refine grownBy_next ?_ (by with_reducible assumption))))
        have hsz4 := hgr4.size
        clear hg4 hm4 ho3 hgr3 hs3
        go_wp2_with (at_builtin; refine push_int ho4 rfl _ _ rfl rfl rfl hsz4 (by omega) ?_; intro v' w5 ho5 hg5 hb5)
        go_ret
        have hs5 : Src w5 B g := hs4.other hg5 (fun k hk => by have := ho4.lt k hk; omega)
        exact ⟨_, _, rfl, ho5, by simp; omega, hs5, ⟨hb5.os.trans hgr4.os, hb5.tape.trans hgr4.tape, hb5.output.trans hgr4.output, Nat.le_trans hgr4.size hb5.size, fun i hi' hn => (hb5.block i hi').trans (hgr4.block i hi' hn)⟩⟩
      · have e0 : (r3 == 0) = false := by simpa using q0
        by_cases q1 : r3 = 1
        · subst q1
          go_wp2_with fail
          refine (spec_l01Next _ _ _ _ hs3 (by omega)).mono ?_
          rintro e w4 ⟨r4, rfl, ⟨hr4, ht4⟩, hs4, hg4⟩
          have hgr4 : w.grownBy w4 (some g) := (by repeat' (first | (with_reducible exact World.grownBy.refl _ _) | (with_reducible assumption) | (with_reducible refine grownBy_drewN ?_ _) | (with_reducible refine grownBy_set ?_ _ _) | (with_reducible refine grownBy_alloc' ?_ _) | (refine grownBy_trans ?_ (by with_reducible assumption)) | (refine grownBy_next ?_ (by with_reducible assumption))))
          have hsz4 := hgr4.size
          clear hg4 ho3 hgr3 hs3
          have hcast : 200 + r4 = (((200 + r4).toNat : Nat) : Int) := by omega
          have hcast' := Lib.hid hcast
          clear hcast
          go_wp2_with (at_make; refine wpList_make_full _ rfl _ _ 27 rfl w.heap.size 2 i0 _ 1 Try.underlying27 hi hz0 hz1 .i64 .i64 _ _ (200 + r4).toNat rfl rfl hcast'.out hcast'.out (by rw [hz2]; omega) (by simp only [maxLen]; omega) hsz4 ?_; intro w5 hown5 hg5)
          go_ret
          refine ⟨_, List.replicate (200 + r4).toNat 0, rfl, ⟨some ⟨w4.heap.size, 0, none⟩, (200 + r4).toNat, by simp, by simpa [toList_madeCells_one, Value.cells] using hown5⟩, by simp; omega, hs4.other hg5 (by simp), ⟨hg5.os.trans hgr4.os, hg5.tape.trans hgr4.tape, hg5.output.trans hgr4.output, Nat.le_trans hgr4.size hg5.size, fun i hi' hn => (hg5.block i (Nat.lt_of_lt_of_le hi' hgr4.size) (by simp)).trans (hgr4.block i hi' hn)⟩⟩
        · have e1 : (r3 == 1) = false := by simpa using q1
          go_wp2
          go_ret
          exact ⟨_, _, rfl, ho3, by omega, hs3, hgr3⟩
end Go.Proofs.Ytboagjiejjapfaa
