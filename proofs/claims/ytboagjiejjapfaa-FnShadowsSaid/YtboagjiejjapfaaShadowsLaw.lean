/- Shadows, bottom samples and gains: the law's walk (no condition). -/
import Derived.Test.YtboagjiejjapfaaGainLaw
import Derived.Test.YtboagjiejjapfaaBottom
import Derived.Test.YtboagjiejjapfaaShadow
import Derived.Test.YtboagjiejjapfaaLike
import Derived.Test.YtboagjiejjapfaaDrawA3
import Derived.Test.YtboagjiejjapfaaCorrectedLaw
import Derived.Test.YtboagjiejjapfaaLBlindSamples
namespace Go.Proofs.Ytboagjiejjapfaa
open Go.RowKit
set_option linter.unusedVariables false
set_option linter.unusedSimpArgs false

theorem bottom_ok {xs : List Int} {t : Int} (h : (fBottom xs t).2 = 0) : ∃ k : Nat, fBottom xs t = ((k : Int), 0) ∧ k < xs.length ∧ (∃ x, xs[k]? = some x ∧ t ≤ x) ∧ ∀ j y, j < k → xs[j]? = some y → y < t := by
  unfold fBottom at *
  split at h
  · split at h
    · cases hf : firstGe xs t with
      | none => rw [hf] at h; simp at h
      | some k =>
        rename_i h1 h2
        obtain ⟨hk, hx, hj⟩ := List.findIdx?_eq_some_iff_getElem.1 hf
        refine ⟨k, by simp [h1, h2], hk, ⟨xs[k], by simp [hk], by simpa using hx⟩, fun j y hjk hy => ?_⟩
        have := hj j hjk
        have hl : j < xs.length := by omega
        rw [List.getElem?_eq_getElem hl] at hy
        simp only [Option.some.injEq] at hy
        subst hy
        simpa using this
    · simp at h
  · simp at h
theorem shadow_ok {q d a : Int} (h : (fShadow q d a).2 = 0) : ∃ p r, fShadow q d a = ((p, r), 0) ∧ 0 ≤ a ∧ a ≤ 1000000 ∧ 0 ≤ a * r ∧ a * r ≤ 2000000000000 ∧ p ≤ a * r := by
  unfold fShadow at *
  split at h
  · rename_i hi
    simp only [Bool.and_eq_true] at hi
    have h1 := of_inB hi.1
    have h2 := of_inB hi.2.1
    have h3 := of_inB hi.2.2
    split at h
    · simp at h
    · rename_i hz
      have hg : 0 < gcdI (a * d) (q + d) := gcdI_pos (by omega)
      cases hr : ratB (a * d / gcdI (a * d) (q + d)) ((q + d) / gcdI (a * d) (q + d))
      · rw [fRatio_2' hr] at h; simp at h
      · refine ⟨_, _, by simp only [hi.1, hi.2.1, hi.2.2, Bool.and_self, if_true, if_neg hz, fRatio, hr]; rfl, h3.1, h3.2, ?_⟩
        have e1 : a * d = gcdI (a * d) (q + d) * (a * d / gcdI (a * d) (q + d)) := (Int.mul_ediv_cancel' (Int.gcd_dvd_left ..)).symm
        have e2 : q + d = gcdI (a * d) (q + d) * ((q + d) / gcdI (a * d) (q + d)) := (Int.mul_ediv_cancel' (Int.gcd_dvd_right ..)).symm
        generalize gcdI (a * d) (q + d) = g at *
        generalize a * d / g = n at *
        generalize (q + d) / g = m at *
        have hm : 0 < m := by
          rcases Int.lt_or_le 0 m with hm | hm
          · exact hm
          · have := Int.mul_nonpos_of_nonneg_of_nonpos (show 0 ≤ g by omega) hm; omega
        have hmb : m ≤ 2000000 := by
          have : 1 * m ≤ g * m := Int.mul_le_mul_of_nonneg_right (by omega) (by omega)
          omega
        refine ⟨Int.mul_nonneg h3.1 (by omega), Int.le_trans (Int.mul_le_mul h3.2 hmb (by omega) (by omega)) (by omega), ?_⟩
        have e3 : a * (q + d) = a * q + a * d := Int.mul_add _ _ _
        have e4 := Int.mul_nonneg h3.1 h1.1
        have e5 : g * n ≤ g * (a * m) := by
          have : g * (a * m) = a * (g * m) := by rw [← Int.mul_assoc, Int.mul_comm g a, Int.mul_assoc]
          rw [this, ← e2, e3, ← e1]; omega
        exact Int.le_of_mul_le_mul_left e5 hg
  · simp at h
theorem gain_line {xs gs : List Int} (h : gainCode xs gs = 0) : lineB xs = true := by
  unfold gainCode at h
  split at h
  · assumption
  · simp at h
theorem gain_plain {xs : List Int} (h : lineB xs = true) : gainRow xs (List.replicate xs.length 100) = xs ∧ gainCode xs (List.replicate xs.length 100) = 0 := by
  have h1 : gainOk xs (List.replicate xs.length 100) = true := by
    simp only [gainOk, List.length_replicate, decide_true, Bool.true_and, allB, List.all_eq_true]
    intro y hy
    rw [List.eq_of_mem_replicate hy]; rfl
  refine ⟨?_, by simp [gainCode, h, h1]⟩
  rw [gainRow, h, h1, Bool.true_and, if_pos rfl]
  apply List.ext_getElem?
  intro k
  by_cases hk : k < xs.length
  · have hx : xs[k]? = some xs[k] := List.getElem?_eq_getElem hk
    have hb := of_allB (line_all h) hx
    rw [gainAll_get hx (g := 100) (by simp [hk]), hx, gainOne, nr_mul (by omega)]
    simp; omega
  · simp [gainAll, hk]
set_option maxHeartbeats 4000000 in
set_option maxRecDepth 4000 in
theorem walk_Shadows (A : Option Addr) (c : Nat) (code : List Int) (w : World) (hr : U8 w w.heap.size A code) (hb : ∀ x ∈ code, 0 ≤ x ∧ x ≤ 255) :
    Calls Try.prog 14 #[.slice A code.length c] w fun e w' => e = .returned (.bool true) ∧ Below w.heap.size w w' := by
  by_cases hl : code.length ≤ 4096
  · go_enter Try.func14, Try.ntmps14
    go_wp2_with (first | (go_at_call 35; refine (laws_big _ _ _ _).mono ?_; rintro e w' ⟨rfl, rfl⟩))
    go_wp2_with fail
    refine (spec_DrawShadowHeight _ _ _ _ hr hb hl).mono ?_
    rintro e w1 ⟨q, d, a, rfl, hq, hd, ha, hb1⟩
    have hB1 : Below w.heap.size w w1 := by repeat' (first | (with_reducible exact Below.refl _ _) | (with_reducible assumption) | (with_reducible refine Below.new ?_ _) | (with_reducible refine Below.alloc ?_ ?_ _) | (with_reducible refine Below.drew ?_) | (with_reducible refine below_drewN ?_ _) | (with_reducible refine Below.setCell ?_ ?_ _) | (refine Below.next ?_ (by with_reducible assumption)) | (refine Below.row ?_ (by with_reducible assumption) (by omega)) | (refine Below.trans ?_ (by with_reducible assumption)) | (refine Below.after ?_ ?_ (by with_reducible assumption)) | go_size)
    clear hb1
    go_wp2_with fail
    refine (impl_ShadowHeight _ _ _ _).mono ?_
    rintro e w2 ⟨rfl, hb2⟩
    have hB2 : Below w.heap.size w w2 := by repeat' (first | (with_reducible exact Below.refl _ _) | (with_reducible assumption) | (with_reducible refine Below.new ?_ _) | (with_reducible refine Below.alloc ?_ ?_ _) | (with_reducible refine Below.drew ?_) | (with_reducible refine below_drewN ?_ _) | (with_reducible refine Below.setCell ?_ ?_ _) | (refine Below.next ?_ (by with_reducible assumption)) | (refine Below.row ?_ (by with_reducible assumption) (by omega)) | (refine Below.trans ?_ (by with_reducible assumption)) | (refine Below.after ?_ ?_ (by with_reducible assumption)) | go_size)
    clear hb2 hB1
    go_wp2_with fail
    refine (spec_ShadowHeight _ _ _ _).mono ?_
    rintro e w3 ⟨rfl, hb3⟩
    have bx0 := box_keep hb3 (box_new (W := w2) (o := 0) rfl)
    have bx1 := box_keep hb3 (box_new (W := w2) (o := 1) rfl)
    have bxl := box_lt bx0
    have hB3 : Below w.heap.size w w3 := by repeat' (first | (with_reducible exact Below.refl _ _) | (with_reducible assumption) | (with_reducible refine Below.new ?_ _) | (with_reducible refine Below.alloc ?_ ?_ _) | (with_reducible refine Below.drew ?_) | (with_reducible refine below_drewN ?_ _) | (with_reducible refine Below.setCell ?_ ?_ _) | (refine Below.next ?_ (by with_reducible assumption)) | (refine Below.row ?_ (by with_reducible assumption) (by omega)) | (refine Below.trans ?_ (by with_reducible assumption)) | (refine Below.after ?_ ?_ (by with_reducible assumption)) | go_size)
    clear hb3 hB2
    go_wp2_with fail
    refine (spec_DrawBottomSample _ _ _ _ (Rd.up hr (by repeat' (first | (with_reducible exact Below.refl _ _) | (with_reducible assumption) | (with_reducible refine Below.new ?_ _) | (with_reducible refine Below.alloc ?_ ?_ _) | (with_reducible refine Below.drew ?_) | (with_reducible refine below_drewN ?_ _) | (with_reducible refine Below.setCell ?_ ?_ _) | (refine Below.next ?_ (by with_reducible assumption)) | (refine Below.row ?_ (by with_reducible assumption) (by omega)) | (refine Below.trans ?_ (by with_reducible assumption)) | (refine Below.after ?_ ?_ (by with_reducible assumption)) | go_size))) hb hl).mono ?_
    rintro e w4 ⟨vl, xs, t, rfl, ol, hxs, ht, hb4⟩
    have bx0 := box_keep hb4 (box_alloc bx0)
    have bx1 := box_keep hb4 (box_alloc bx1)
    have bxl := box_lt bx0
    have bm0 := box_keep hb4 (box_new (W := w3) (o := 0) rfl)
    have bm1 := box_keep hb4 (box_new (W := w3) (o := 1) rfl)
    have bml := box_lt bm0
    have hB4 : Below w.heap.size w w4 := by repeat' (first | (with_reducible exact Below.refl _ _) | (with_reducible assumption) | (with_reducible refine Below.new ?_ _) | (with_reducible refine Below.alloc ?_ ?_ _) | (with_reducible refine Below.drew ?_) | (with_reducible refine below_drewN ?_ _) | (with_reducible refine Below.setCell ?_ ?_ _) | (refine Below.next ?_ (by with_reducible assumption)) | (refine Below.row ?_ (by with_reducible assumption) (by omega)) | (refine Below.trans ?_ (by with_reducible assumption)) | (refine Below.after ?_ ?_ (by with_reducible assumption)) | go_size)
    clear hb4 hB3
    have ol := OwnI.inR ol
    obtain ⟨Al, cl, rfl⟩ := ol.form
    go_wp2_with fail
    refine (impl_BottomSample _ _ _ _ _ ol.rd (by omega)).mono ?_
    rintro e w' ⟨rfl, rfl⟩
    go_wp2_with fail
    refine (spec_BottomSample _ _ _ _ _ ol.rd (by omega)).mono ?_
    rintro e w' ⟨rfl, rfl⟩
    go_wp2_with fail
    refine (spec_DrawGainLine _ _ _ _ (Rd.up hr (by repeat' (first | (with_reducible exact Below.refl _ _) | (with_reducible assumption) | (with_reducible refine Below.new ?_ _) | (with_reducible refine Below.alloc ?_ ?_ _) | (with_reducible refine Below.drew ?_) | (with_reducible refine below_drewN ?_ _) | (with_reducible refine Below.setCell ?_ ?_ _) | (refine Below.next ?_ (by with_reducible assumption)) | (refine Below.row ?_ (by with_reducible assumption) (by omega)) | (refine Below.trans ?_ (by with_reducible assumption)) | (refine Below.after ?_ ?_ (by with_reducible assumption)) | go_size))) hb hl).mono ?_
    rintro e w5 ⟨vg, ls, vs, gs, rfl, og, os, hls, hgs, hb5⟩
    have bx0 := box_keep hb5 bx0
    have bx1 := box_keep hb5 bx1
    have bxl := box_lt bx0
    have bm0 := box_keep hb5 bm0
    have bm1 := box_keep hb5 bm1
    have bml := box_lt bm0
    have hB5 : Below w.heap.size w w5 := by repeat' (first | (with_reducible exact Below.refl _ _) | (with_reducible assumption) | (with_reducible refine Below.new ?_ _) | (with_reducible refine Below.alloc ?_ ?_ _) | (with_reducible refine Below.drew ?_) | (with_reducible refine below_drewN ?_ _) | (with_reducible refine Below.setCell ?_ ?_ _) | (refine Below.next ?_ (by with_reducible assumption)) | (refine Below.row ?_ (by with_reducible assumption) (by omega)) | (refine Below.trans ?_ (by with_reducible assumption)) | (refine Below.after ?_ ?_ (by with_reducible assumption)) | go_size)
    have ol := ol.next hb5
    clear hb5 hB4
    have og := OwnI.inR og
    obtain ⟨Ag, cg, rfl⟩ := og.form
    have os := OwnI.inR os
    obtain ⟨As, cs, rfl⟩ := os.form
    clear hr hb
    have hR := gainRow_len ls gs
    go_wp2_with fail
    refine (impl_GainLine _ _ _ _ _ _ _ og.rd os.rd (by omega) (by omega)).mono ?_
    rintro e w6 ⟨vx, rfl, ox, hb6⟩
    have bx0 := box_keep hb6 bx0
    have bx1 := box_keep hb6 bx1
    have bxl := box_lt bx0
    have bm0 := box_keep hb6 bm0
    have bm1 := box_keep hb6 bm1
    have bml := box_lt bm0
    have hB6 : Below w.heap.size w w6 := by repeat' (first | (with_reducible exact Below.refl _ _) | (with_reducible assumption) | (with_reducible refine Below.new ?_ _) | (with_reducible refine Below.alloc ?_ ?_ _) | (with_reducible refine Below.drew ?_) | (with_reducible refine below_drewN ?_ _) | (with_reducible refine Below.setCell ?_ ?_ _) | (refine Below.next ?_ (by with_reducible assumption)) | (refine Below.row ?_ (by with_reducible assumption) (by omega)) | (refine Below.trans ?_ (by with_reducible assumption)) | (refine Below.after ?_ ?_ (by with_reducible assumption)) | go_size)
    have ol := ol.next hb6
    have og := og.next hb6
    have os := os.next hb6
    clear hb6 hB5
    have ox := OwnI.inR ox
    obtain ⟨Ax, cx, rfl⟩ := ox.form
    go_wp2_with fail
    refine (spec_GainLine _ _ _ _ _ _ _ og.rd os.rd (by omega) (by omega)).mono ?_
    rintro e w7 ⟨vm, rfl, om, hb7⟩
    have bx0 := box_keep hb7 bx0
    have bx1 := box_keep hb7 bx1
    have bxl := box_lt bx0
    have bm0 := box_keep hb7 bm0
    have bm1 := box_keep hb7 bm1
    have bml := box_lt bm0
    have hB7 : Below w.heap.size w w7 := by repeat' (first | (with_reducible exact Below.refl _ _) | (with_reducible assumption) | (with_reducible refine Below.new ?_ _) | (with_reducible refine Below.alloc ?_ ?_ _) | (with_reducible refine Below.drew ?_) | (with_reducible refine below_drewN ?_ _) | (with_reducible refine Below.setCell ?_ ?_ _) | (refine Below.next ?_ (by with_reducible assumption)) | (refine Below.row ?_ (by with_reducible assumption) (by omega)) | (refine Below.trans ?_ (by with_reducible assumption)) | (refine Below.after ?_ ?_ (by with_reducible assumption)) | go_size)
    have ol := ol.next hb7
    have og := og.next hb7
    have os := os.next hb7
    have ox := ox.next hb7
    clear hb7 hB6
    have om := OwnI.inR om
    obtain ⟨Am, cm, rfl⟩ := om.form
    go_wp2_with fail
    refine (likeR ox om (by omega) (by omega)).mono ?_
    rintro e w8 ⟨rfl, hb8⟩
    have bx0 := box_keep hb8 bx0
    have bx1 := box_keep hb8 bx1
    have bxl := box_lt bx0
    have bm0 := box_keep hb8 bm0
    have bm1 := box_keep hb8 bm1
    have bml := box_lt bm0
    have hB8 : Below w.heap.size w w8 := by repeat' (first | (with_reducible exact Below.refl _ _) | (with_reducible assumption) | (with_reducible refine Below.new ?_ _) | (with_reducible refine Below.alloc ?_ ?_ _) | (with_reducible refine Below.drew ?_) | (with_reducible refine below_drewN ?_ _) | (with_reducible refine Below.setCell ?_ ?_ _) | (refine Below.next ?_ (by with_reducible assumption)) | (refine Below.row ?_ (by with_reducible assumption) (by omega)) | (refine Below.trans ?_ (by with_reducible assumption)) | (refine Below.after ?_ ?_ (by with_reducible assumption)) | go_size)
    have ol := ol.next hb8
    have og := og.next hb8
    have os := os.next hb8
    have ox := ox.next hb8
    have om := om.next hb8
    clear hb8 hB7
    by_cases c1 : (fShadow q d a).2 = 0
    · obtain ⟨p, r, f1, a0, a1, r0, r1, p1⟩ := shadow_ok c1
      have f1' : (fShadow q d a).1 = (p, r) := by rw [f1]
      have g1 : ¬ a * r < p := by omega
      go_wp2_with fail
      go_loopw [22] (fun i wr => ∃ j : Nat, (∀ k : Nat, fBottom xs t = ((k : Int), 0) → j ≤ k + 1) ∧ i = .int .i64 j ∧ Below w8.heap.size w8 wr) (fun i _ => xs.length + 1 - (intOf i).toNat)
      case atStart => exact ⟨0, by omega, rfl, Below.refl _ _⟩
      case round =>
        obtain ⟨j, hj, rfl, hbr⟩ := hrel
        have ol := ol.next hbr
        have og := og.next hbr
        by_cases c2 : (fBottom xs t).2 = 0
        · obtain ⟨k, f2, hk, ⟨y, hy, hty⟩, hbf⟩ := bottom_ok c2
          have hj := hj k f2
          by_cases hlt : j < k
          · obtain ⟨y, hy⟩ := get_of_lt (xs := xs) (k := j) (by omega)
            have hyt := hbf j y hlt hy
            obtain ⟨b, o, rfl, hb, hc⟩ := ol.rd.at_ hy
            clear hy hbf
            have g1 : (0 : Int) ≤ (j : Int) := by omega
            have g2 : (j : Int) < (xs.length : Int) := by omega
            have g3 : ¬ t ≤ y := by omega
            have g4 : (j : Int) ≤ (k : Int) := by omega
            have g5 : ((j : Int) == (k : Int)) = false := by simp; omega
            have g6 := Lib.hid hlt
            clear hlt hj
            go_wp2_with fail
            go_roundw
            case rel => exact ⟨j + 1, fun k' h' => by rw [f2] at h'; simp only [Prod.mk.injEq] at h'; have := g6.out; omega, by go_num, hbr⟩
            case measure => have := g6.out; simp [intOf]; omega
          · by_cases heq : j = k
            · subst heq
              obtain ⟨b, o, rfl, hb, hc⟩ := ol.rd.at_ hy
              clear hy hbf
              have g1 : (0 : Int) ≤ (j : Int) := by omega
              have g2 : (j : Int) < (xs.length : Int) := by omega
              clear hlt hj
              go_wp2_with fail
              go_roundw
              case rel => exact ⟨j + 1, fun k' h' => by rw [f2] at h'; simp only [Prod.mk.injEq] at h'; omega, by go_num, hbr⟩
              case measure => simp [intOf]; omega
            · have g4 : ¬ (j : Int) ≤ (k : Int) := by omega
              clear hlt heq hbf hy hty
              obtain ⟨wo, hwo⟩ : ∃ wo, wo = wr := ⟨_, rfl⟩
              subst hwo
              by_cases c3 : gainCode ls gs = 0
              · have hln : lineB ls = true := gain_line c3
                have hl2 := line_len hln
                rw [c3]
                clear c3
                go_wp2_with fail
                go_loopw [23, 24] (fun v i wr => ∃ k : Nat, k ≤ ls.length ∧ i = .int .i64 k ∧ OwnI wr wo.heap.size v (List.replicate k 100) ∧ wo.heap.size ≤ wr.heap.size ∧ Below wo.heap.size wo wr) (fun _ i _ => ls.length - (intOf i).toNat)
                case atStart => exact ⟨0, Nat.zero_le _, rfl, OwnI.lit0 (Nat.le_refl _), by simp, Below.new (Below.refl _ _) _⟩
                case round =>
                  obtain ⟨n, hn, rfl, hon, hsz, hbq⟩ := hrel
                  by_cases hl3 : n < ls.length
                  · have hl4 := Lib.hid hl3
                    clear hl3
                    have gn : (n : Int) < (ls.length : Int) := by have := hl4.out; omega
                    go_wp2_with (at_builtin; refine push_int hon rfl _ _ rfl rfl rfl hsz (by simp; omega) ?_; intro v' w4 ho4 hg4 hb4)
                    go_roundw
                    case rel => exact ⟨n + 1, by have := hl4.out; omega, by go_num, by rw [List.replicate_succ']; exact ho4, Nat.le_trans hsz hg4.size, hbq.trans hb4⟩
                    case measure => have := hl4.out; simp [intOf]; omega
                  · have gn : ¬ (n : Int) < (ls.length : Int) := by omega
                    have hn' : n = ls.length := by omega
                    subst hn'
                    have hpl := gain_plain hln
                    obtain ⟨An, cn, rfl⟩ := hon.inR.form
                    have og2 := og.next hbq
                    have hgl := impl_GainLine Ag An cg cn ls (List.replicate ls.length 100) wr og2.rd hon.reads.2 (by omega) (by simp; omega)
                    rw [hpl.1, hpl.2, List.length_replicate] at hgl
                    rw [List.length_replicate]
                    go_wp2_with fail
                    refine hgl.mono ?_
                    rintro e w11 ⟨vv, rfl, ov, hb11⟩
                    have ov := OwnI.inR ov
                    obtain ⟨Av, cv, rfl⟩ := ov.form
                    have og3 := og2.next hb11
                    go_wp2_with fail
                    refine (likeR ov og3 (by omega) (by omega)).mono ?_
                    rintro e w12 ⟨rfl, hb12⟩
                    go_wp2
                    go_ret
                    exact ⟨rfl, Below.next (Below.next (Below.next (Below.next hB8 hbr) hbq) hb11) hb12⟩
              · have e3 : (gainCode ls gs != 0) = true := by simpa using c3
                go_wp2
                go_ret
                exact ⟨rfl, hB8.trans (hbr.mono hB8.size)⟩
        · clear hj
          generalize (fBottom xs t).1 = kk at *
          generalize (fBottom xs t).2 = cc at *
          have e2 : (cc == 0) = false := by simpa using c2
          obtain ⟨wo, hwo⟩ : ∃ wo, wo = wr := ⟨_, rfl⟩
          subst hwo
          by_cases c3 : gainCode ls gs = 0
          · have hln : lineB ls = true := gain_line c3
            have hl2 := line_len hln
            rw [c3]
            clear c3
            go_wp2_with fail
            go_loopw [23, 24] (fun v i wr => ∃ k : Nat, k ≤ ls.length ∧ i = .int .i64 k ∧ OwnI wr wo.heap.size v (List.replicate k 100) ∧ wo.heap.size ≤ wr.heap.size ∧ Below wo.heap.size wo wr) (fun _ i _ => ls.length - (intOf i).toNat)
            case atStart => exact ⟨0, Nat.zero_le _, rfl, OwnI.lit0 (Nat.le_refl _), by simp, Below.new (Below.refl _ _) _⟩
            case round =>
              obtain ⟨n, hn, rfl, hon, hsz, hbq⟩ := hrel
              by_cases hl3 : n < ls.length
              · have hl4 := Lib.hid hl3
                clear hl3
                have gn : (n : Int) < (ls.length : Int) := by have := hl4.out; omega
                go_wp2_with (at_builtin; refine push_int hon rfl _ _ rfl rfl rfl hsz (by simp; omega) ?_; intro v' w4 ho4 hg4 hb4)
                go_roundw
                case rel => exact ⟨n + 1, by have := hl4.out; omega, by go_num, by rw [List.replicate_succ']; exact ho4, Nat.le_trans hsz hg4.size, hbq.trans hb4⟩
                case measure => have := hl4.out; simp [intOf]; omega
              · have gn : ¬ (n : Int) < (ls.length : Int) := by omega
                have hn' : n = ls.length := by omega
                subst hn'
                have hpl := gain_plain hln
                obtain ⟨An, cn, rfl⟩ := hon.inR.form
                have og2 := og.next hbq
                have hgl := impl_GainLine Ag An cg cn ls (List.replicate ls.length 100) wr og2.rd hon.reads.2 (by omega) (by simp; omega)
                rw [hpl.1, hpl.2, List.length_replicate] at hgl
                rw [List.length_replicate]
                go_wp2_with fail
                refine hgl.mono ?_
                rintro e w11 ⟨vv, rfl, ov, hb11⟩
                have ov := OwnI.inR ov
                obtain ⟨Av, cv, rfl⟩ := ov.form
                have og3 := og2.next hb11
                go_wp2_with fail
                refine (likeR ov og3 (by omega) (by omega)).mono ?_
                rintro e w12 ⟨rfl, hb12⟩
                go_wp2
                go_ret
                exact ⟨rfl, Below.next (Below.next (Below.next (Below.next hB8 hbr) hbq) hb11) hb12⟩
          · have e3 : (gainCode ls gs != 0) = true := by simpa using c3
            go_wp2
            go_ret
            exact ⟨rfl, hB8.trans (hbr.mono hB8.size)⟩

    · have e1 : ((fShadow q d a).2 == 0) = false := by simpa using c1
      go_wp2_with fail
      go_loopw [22] (fun i wr => ∃ j : Nat, (∀ k : Nat, fBottom xs t = ((k : Int), 0) → j ≤ k + 1) ∧ i = .int .i64 j ∧ Below w8.heap.size w8 wr) (fun i _ => xs.length + 1 - (intOf i).toNat)
      case atStart => exact ⟨0, by omega, rfl, Below.refl _ _⟩
      case round =>
        obtain ⟨j, hj, rfl, hbr⟩ := hrel
        have ol := ol.next hbr
        have og := og.next hbr
        by_cases c2 : (fBottom xs t).2 = 0
        · obtain ⟨k, f2, hk, ⟨y, hy, hty⟩, hbf⟩ := bottom_ok c2
          have hj := hj k f2
          by_cases hlt : j < k
          · obtain ⟨y, hy⟩ := get_of_lt (xs := xs) (k := j) (by omega)
            have hyt := hbf j y hlt hy
            obtain ⟨b, o, rfl, hb, hc⟩ := ol.rd.at_ hy
            clear hy hbf
            have g1 : (0 : Int) ≤ (j : Int) := by omega
            have g2 : (j : Int) < (xs.length : Int) := by omega
            have g3 : ¬ t ≤ y := by omega
            have g4 : (j : Int) ≤ (k : Int) := by omega
            have g5 : ((j : Int) == (k : Int)) = false := by simp; omega
            have g6 := Lib.hid hlt
            clear hlt hj
            go_wp2_with fail
            go_roundw
            case rel => exact ⟨j + 1, fun k' h' => by rw [f2] at h'; simp only [Prod.mk.injEq] at h'; have := g6.out; omega, by go_num, hbr⟩
            case measure => have := g6.out; simp [intOf]; omega
          · by_cases heq : j = k
            · subst heq
              obtain ⟨b, o, rfl, hb, hc⟩ := ol.rd.at_ hy
              clear hy hbf
              have g1 : (0 : Int) ≤ (j : Int) := by omega
              have g2 : (j : Int) < (xs.length : Int) := by omega
              clear hlt hj
              go_wp2_with fail
              go_roundw
              case rel => exact ⟨j + 1, fun k' h' => by rw [f2] at h'; simp only [Prod.mk.injEq] at h'; omega, by go_num, hbr⟩
              case measure => simp [intOf]; omega
            · have g4 : ¬ (j : Int) ≤ (k : Int) := by omega
              clear hlt heq hbf hy hty
              obtain ⟨wo, hwo⟩ : ∃ wo, wo = wr := ⟨_, rfl⟩
              subst hwo
              by_cases c3 : gainCode ls gs = 0
              · have hln : lineB ls = true := gain_line c3
                have hl2 := line_len hln
                rw [c3]
                clear c3
                go_wp2_with fail
                go_loopw [23, 24] (fun v i wr => ∃ k : Nat, k ≤ ls.length ∧ i = .int .i64 k ∧ OwnI wr wo.heap.size v (List.replicate k 100) ∧ wo.heap.size ≤ wr.heap.size ∧ Below wo.heap.size wo wr) (fun _ i _ => ls.length - (intOf i).toNat)
                case atStart => exact ⟨0, Nat.zero_le _, rfl, OwnI.lit0 (Nat.le_refl _), by simp, Below.new (Below.refl _ _) _⟩
                case round =>
                  obtain ⟨n, hn, rfl, hon, hsz, hbq⟩ := hrel
                  by_cases hl3 : n < ls.length
                  · have hl4 := Lib.hid hl3
                    clear hl3
                    have gn : (n : Int) < (ls.length : Int) := by have := hl4.out; omega
                    go_wp2_with (at_builtin; refine push_int hon rfl _ _ rfl rfl rfl hsz (by simp; omega) ?_; intro v' w4 ho4 hg4 hb4)
                    go_roundw
                    case rel => exact ⟨n + 1, by have := hl4.out; omega, by go_num, by rw [List.replicate_succ']; exact ho4, Nat.le_trans hsz hg4.size, hbq.trans hb4⟩
                    case measure => have := hl4.out; simp [intOf]; omega
                  · have gn : ¬ (n : Int) < (ls.length : Int) := by omega
                    have hn' : n = ls.length := by omega
                    subst hn'
                    have hpl := gain_plain hln
                    obtain ⟨An, cn, rfl⟩ := hon.inR.form
                    have og2 := og.next hbq
                    have hgl := impl_GainLine Ag An cg cn ls (List.replicate ls.length 100) wr og2.rd hon.reads.2 (by omega) (by simp; omega)
                    rw [hpl.1, hpl.2, List.length_replicate] at hgl
                    rw [List.length_replicate]
                    go_wp2_with fail
                    refine hgl.mono ?_
                    rintro e w11 ⟨vv, rfl, ov, hb11⟩
                    have ov := OwnI.inR ov
                    obtain ⟨Av, cv, rfl⟩ := ov.form
                    have og3 := og2.next hb11
                    go_wp2_with fail
                    refine (likeR ov og3 (by omega) (by omega)).mono ?_
                    rintro e w12 ⟨rfl, hb12⟩
                    go_wp2
                    go_ret
                    exact ⟨rfl, Below.next (Below.next (Below.next (Below.next hB8 hbr) hbq) hb11) hb12⟩
              · have e3 : (gainCode ls gs != 0) = true := by simpa using c3
                go_wp2
                go_ret
                exact ⟨rfl, hB8.trans (hbr.mono hB8.size)⟩
        · clear hj
          generalize (fBottom xs t).1 = kk at *
          generalize (fBottom xs t).2 = cc at *
          have e2 : (cc == 0) = false := by simpa using c2
          obtain ⟨wo, hwo⟩ : ∃ wo, wo = wr := ⟨_, rfl⟩
          subst hwo
          by_cases c3 : gainCode ls gs = 0
          · have hln : lineB ls = true := gain_line c3
            have hl2 := line_len hln
            rw [c3]
            clear c3
            go_wp2_with fail
            go_loopw [23, 24] (fun v i wr => ∃ k : Nat, k ≤ ls.length ∧ i = .int .i64 k ∧ OwnI wr wo.heap.size v (List.replicate k 100) ∧ wo.heap.size ≤ wr.heap.size ∧ Below wo.heap.size wo wr) (fun _ i _ => ls.length - (intOf i).toNat)
            case atStart => exact ⟨0, Nat.zero_le _, rfl, OwnI.lit0 (Nat.le_refl _), by simp, Below.new (Below.refl _ _) _⟩
            case round =>
              obtain ⟨n, hn, rfl, hon, hsz, hbq⟩ := hrel
              by_cases hl3 : n < ls.length
              · have hl4 := Lib.hid hl3
                clear hl3
                have gn : (n : Int) < (ls.length : Int) := by have := hl4.out; omega
                go_wp2_with (at_builtin; refine push_int hon rfl _ _ rfl rfl rfl hsz (by simp; omega) ?_; intro v' w4 ho4 hg4 hb4)
                go_roundw
                case rel => exact ⟨n + 1, by have := hl4.out; omega, by go_num, by rw [List.replicate_succ']; exact ho4, Nat.le_trans hsz hg4.size, hbq.trans hb4⟩
                case measure => have := hl4.out; simp [intOf]; omega
              · have gn : ¬ (n : Int) < (ls.length : Int) := by omega
                have hn' : n = ls.length := by omega
                subst hn'
                have hpl := gain_plain hln
                obtain ⟨An, cn, rfl⟩ := hon.inR.form
                have og2 := og.next hbq
                have hgl := impl_GainLine Ag An cg cn ls (List.replicate ls.length 100) wr og2.rd hon.reads.2 (by omega) (by simp; omega)
                rw [hpl.1, hpl.2, List.length_replicate] at hgl
                rw [List.length_replicate]
                go_wp2_with fail
                refine hgl.mono ?_
                rintro e w11 ⟨vv, rfl, ov, hb11⟩
                have ov := OwnI.inR ov
                obtain ⟨Av, cv, rfl⟩ := ov.form
                have og3 := og2.next hb11
                go_wp2_with fail
                refine (likeR ov og3 (by omega) (by omega)).mono ?_
                rintro e w12 ⟨rfl, hb12⟩
                go_wp2
                go_ret
                exact ⟨rfl, Below.next (Below.next (Below.next (Below.next hB8 hbr) hbq) hb11) hb12⟩
          · have e3 : (gainCode ls gs != 0) = true := by simpa using c3
            go_wp2
            go_ret
            exact ⟨rfl, hB8.trans (hbr.mono hB8.size)⟩
  · have hd : decide (4096 < (code.length : Int)) = true := by simp; omega
    go_enter Try.func14, Try.ntmps14
    go_wp2_with (first | (go_at_call 35; refine (laws_big _ _ _ _).mono ?_; rintro e w' ⟨rfl, rfl⟩))
    go_ret
    exact ⟨rfl, Below.refl _ _⟩
end Go.Proofs.Ytboagjiejjapfaa
