/- Corrected lines: the law's walk (no condition). -/
import Derived.Test.YtboagjiejjapfaaCorrectLaw
import Derived.Test.YtboagjiejjapfaaLike
import Derived.Test.YtboagjiejjapfaaDrawA3
import Derived.Test.YtboagjiejjapfaaRootsLaw
import Derived.Test.YtboagjiejjapfaaLBlindSamples
namespace Go.Proofs.Ytboagjiejjapfaa
open Go.RowKit
set_option linter.unusedVariables false
set_option linter.unusedSimpArgs false

theorem nrt_sq {t : Int} (h0 : 0 ≤ t) : Pl.nrt (t * t) = t := by
  have e : Pl.rt (t * t) = t := (Pl.rt_uniq h0 (by omega) (by have : (t + 1) * (t + 1) = t * t + 2 * t + 1 := by grind
                                                              omega)).symm
  unfold Pl.nrt
  rw [e, if_neg (by omega)]
theorem nr_mul {j s : Int} (hs : 0 < s) : Pl.nr (j * s) s = j := by
  unfold Pl.nr
  rw [Int.mul_emod_left, Int.mul_ediv_cancel _ (by omega), if_neg (by omega)]
theorem corrIx_zero {s : Int} (hs : 0 < s) (j : Nat) : corrIx s 0 j = j := by
  unfold corrIx
  rw [Int.mul_zero, Int.add_zero, nrt_sq (Int.mul_nonneg (by omega) (by omega)), nr_mul hs]
theorem corrAll_zero {xs : List Int} {s : Int} (hs : 0 < s) : corrAll xs s 0 = xs := by
  apply List.ext_getElem?
  intro k
  by_cases hk : k < xs.length
  · rw [corrAll_get hk, corrOne, corrIx_zero hs, if_pos (by omega)]
    simp [hk]
  · simp [corrAll, hk]
def corrOk (xs : List Int) (s a : Int) : Bool := lineB xs && (inB s 1 5000 && inB a 0 1000000)
theorem corr_zero {xs : List Int} {s a : Int} (h : corrOk xs s a = true) : corrRow xs s 0 = xs ∧ corrCode xs s 0 = 0 := by
  unfold corrOk at h
  simp only [Bool.and_eq_true] at h
  have i3 : inB 0 0 1000000 = true := inB_t (by omega)
  have b := of_inB h.2.1
  refine ⟨?_, by simp [corrCode, h.1, h.2.1, i3]⟩
  rw [corrRow, h.1, h.2.1, i3]
  exact corrAll_zero (by omega)
theorem corr_code {xs : List Int} {s a : Int} : (corrOk xs s a = true → corrCode xs s a = 0) ∧ (corrOk xs s a = false → corrCode xs s a = 1 ∨ corrCode xs s a = 2) := by
  unfold corrOk corrCode
  cases lineB xs <;> cases inB s 1 5000 <;> cases inB a 0 1000000 <;> simp
theorem corr_len {xs : List Int} {s a : Int} (h : corrOk xs s a = true) : (corrRow xs s a).length = xs.length := by
  unfold corrOk at h
  rw [corrRow, h, if_pos rfl]
  simp [corrAll]
theorem corr_mem {xs : List Int} {s a : Int} {k : Nat} {y : Int} (hs : corrOk xs s a = true) (h : (corrRow xs s a)[k]? = some y) : y = -1 ∨ y ∈ xs := by
  unfold corrOk at hs
  rw [corrRow, hs, if_pos rfl] at h
  have hk : k < xs.length := by have := lt_of_get h; simpa [corrAll] using this
  rw [corrAll_get hk] at h
  simp only [Option.some.injEq] at h
  subst h
  unfold corrOne
  split
  · rename_i hlt
    simp only [Bool.and_eq_true] at hs
    have h1 := of_inB hs.2.1
    have h2 := of_inB hs.2.2
    have hlen := line_len hs.1
    obtain ⟨⟨d1, d2⟩, ⟨d3, d4⟩, d5, d6⟩ := corr_bd h1 h2 (show k < 200 by omega)
    have hq0 := nr_nonneg (a := Pl.nrt ((k : Int) * s * ((k : Int) * s) + a * a)) (b := s) (by omega) (nrt_bd (by omega) (by omega)).1
    right
    have : (corrIx s a k).toNat < xs.length := by unfold corrIx at *; omega
    rw [List.getD_eq_getElem?_getD, List.getElem?_eq_getElem this]
    exact List.getElem_mem _
  · left; rfl
theorem cdv_facts {h t : Int} (ht : 1 ≤ t) (h0 : 0 ≤ h) (h1 : h ≤ 1000000) (ht2 : t ≤ 5000) : ∃ n, n = Pl.cdv h t ∧ 0 ≤ n ∧ n ≤ 1000000 ∧ 0 ≤ n * t ∧ n * t ≤ 1005000 ∧ h ≤ n * t ∧ (0 < n → (n - 1) * t < h ∧ 0 ≤ (n - 1) * t) := by
  have e1 := Int.emod_nonneg (-h) (show t ≠ 0 by omega)
  have e2 := Int.emod_lt_of_pos (-h) (show 0 < t by omega)
  have e3 : -h % t = -h - (-h) / t * t := by rw [Int.emod_def, Int.mul_comm]
  have e4 : -((-h) / t) * t = -((-h) / t * t) := Int.neg_mul _ _
  have hd := Pl.div_bd (a := -h) (b := t) (by omega)
  have hn : 0 ≤ -((-h) / t) ∧ -((-h) / t) ≤ 1000000 := by
    rcases Int.lt_or_le (-h) 0 with q | q
    · have := hd.2 q; omega
    · have := hd.1 q; omega
  have e5 : (-((-h) / t) - 1) * t = -((-h) / t) * t - t := by rw [Int.sub_mul, Int.one_mul]
  refine ⟨_, rfl, hn.1, hn.2, ?_, ?_, ?_, fun hp => ⟨?_, Int.mul_nonneg (by unfold Pl.cdv at *; omega) (by omega)⟩⟩ <;> unfold Pl.cdv at * <;> omega
set_option maxHeartbeats 1600000 in
theorem walk_CorrectedLines (A : Option Addr) (c : Nat) (code : List Int) (w : World) (hr : U8 w w.heap.size A code) (hb : ∀ x ∈ code, 0 ≤ x ∧ x ≤ 255) :
    Calls Try.prog 13 #[.slice A code.length c] w fun e w' => e = .returned (.bool true) ∧ Below w.heap.size w w' := by
  by_cases hl : code.length ≤ 4096
  · go_enter Try.func13, Try.ntmps13
    have hB0 : Below w.heap.size w w := Below.refl _ _
    go_wp2_with (first | (go_at_call 35; refine (laws_big _ _ _ _).mono ?_; rintro e w' ⟨rfl, rfl⟩))
    refine (spec_DrawCorrectLine _ _ _ _ hr hb hl).mono ?_
    rintro e w1 ⟨vl, xs, s, a, rfl, ol, hxs, hs, ha, hb1⟩
    have sz1 := hb1.size
    have hB1 := Below.next hB0 hb1
    clear hB0 hb1
    have ol := OwnI.inR ol
    obtain ⟨Al, cl, rfl⟩ := ol.form
    have hR := corrRow_len xs s a
    go_wp2_with fail
    refine (impl_CorrectLine _ _ _ _ _ _ ol.rd (by omega)).mono ?_
    rintro e w2 ⟨vx, rfl, ox, hb2⟩
    have sz2 := hb2.size
    have hB2 := Below.next hB1 hb2
    have ol := ol.next hb2
    clear hB1 hb2
    have ox := OwnI.inR ox
    obtain ⟨Ax, cx, rfl⟩ := ox.form
    go_wp2_with fail
    refine (spec_CorrectLine _ _ _ _ _ _ ol.rd (by omega)).mono ?_
    rintro e w3 ⟨vm, rfl, om, hb3⟩
    have sz3 := hb3.size
    have hB3 := Below.next hB2 hb3
    have ol := ol.next hb3
    have ox := ox.next hb3
    clear hB2 hb3
    have om := OwnI.inR om
    obtain ⟨Am, cm, rfl⟩ := om.form
    go_wp2_with fail
    refine (spec_DrawBlindSamples _ _ _ _ (Rd.up hr hB3) hb hl).mono ?_
    rintro e w4 ⟨t, h, rfl, ht, hh, hb4⟩
    have sz4 := hb4.size
    have hB4 := Below.next hB3 hb4
    have ol := ol.next hb4
    have ox := ox.next hb4
    have om := om.next hb4
    clear hB3 hb4
    clear hr hb
    go_wp2_with (first | (go_at_call 16; refine (impl_BlindSamples _ _ _).mono ?_; rintro e w' ⟨rfl, rfl⟩) | (go_at_call 15; refine (spec_BlindSamples _ _ _).mono ?_; rintro e w' ⟨rfl, rfl⟩))
    refine (likeR ox om (by omega) (by omega)).mono ?_
    rintro e w5 ⟨rfl, hb5⟩
    have sz5 := hb5.size
    have hB5 := Below.next hB4 hb5
    have ol := ol.next hb5
    have ox := ox.next hb5
    have om := om.next hb5
    clear hB4 hb5
    cases hok : corrOk xs s a
    · have hc := corr_code.2 hok
      rcases hc with hc | hc
      · have hcc : corrCode xs s a = 1 := hc
        cases i1 : inB t 1 5000 && inB h 0 1000000
        · have f1 : fBlind t h = (0, 2) := by simp only [fBlind, i1]; rfl
          go_wp2
          all_goals go_ret
          all_goals exact ⟨rfl, hB5⟩
        · have i1' := i1
          rw [Bool.and_eq_true] at i1'
          obtain ⟨n, en, n0, n1, n2, n3, n4, n5⟩ := cdv_facts (of_inB i1'.1).1 (of_inB i1'.2).1 (of_inB i1'.2).2 (of_inB i1'.1).2
          have f1 : fBlind t h = (n, 0) := by simp only [fBlind, i1, en]; rfl
          clear en i1' i1
          by_cases np : 0 < n
          · obtain ⟨n6, n7⟩ := n5 np
            clear n5
            go_wp2
            all_goals go_ret
            all_goals exact ⟨rfl, hB5⟩
          · clear n5
            go_wp2
            all_goals go_ret
            all_goals exact ⟨rfl, hB5⟩
      · have hcc : corrCode xs s a = 2 := hc
        cases i1 : inB t 1 5000 && inB h 0 1000000
        · have f1 : fBlind t h = (0, 2) := by simp only [fBlind, i1]; rfl
          go_wp2
          all_goals go_ret
          all_goals exact ⟨rfl, hB5⟩
        · have i1' := i1
          rw [Bool.and_eq_true] at i1'
          obtain ⟨n, en, n0, n1, n2, n3, n4, n5⟩ := cdv_facts (of_inB i1'.1).1 (of_inB i1'.2).1 (of_inB i1'.2).2 (of_inB i1'.1).2
          have f1 : fBlind t h = (n, 0) := by simp only [fBlind, i1, en]; rfl
          clear en i1' i1
          by_cases np : 0 < n
          · obtain ⟨n6, n7⟩ := n5 np
            clear n5
            go_wp2
            all_goals go_ret
            all_goals exact ⟨rfl, hB5⟩
          · clear n5
            go_wp2
            all_goals go_ret
            all_goals exact ⟨rfl, hB5⟩
    · have hcc := corr_code.1 hok
      cases i1 : inB t 1 5000 && inB h 0 1000000
      · have f1 : fBlind t h = (0, 2) := by simp only [fBlind, i1]; rfl
        go_wp2_with fail
        go_wp2_with fail
        refine (impl_CorrectLine _ _ _ _ _ _ ol.rd (by omega)).mono ?_
        rintro e w6 ⟨vz, rfl, oz, hb6⟩
        have sz6 := hb6.size
        have hB6 := Below.next hB5 hb6
        have ol := ol.next hb6
        have ox := ox.next hb6
        have om := om.next hb6
        clear hB5 hb6
        have oz := OwnI.inR oz
        rw [(corr_zero hok).1] at oz
        obtain ⟨Az, cz, rfl⟩ := oz.form
        have hz2 := (corr_zero hok).2
        have hxl := corr_len hok
        go_wp2_with fail
        go_loopw [18] (fun i wr => ∃ k : Nat, k ≤ xs.length ∧ i = .int .i64 k ∧ Below w6.heap.size w6 wr) (fun i _ => xs.length - (intOf i).toNat)
        case atStart => exact ⟨0, Nat.zero_le _, rfl, Below.refl _ _⟩
        case round =>
          obtain ⟨k, hk, rfl, hbr⟩ := hrel
          have ol := ol.next hbr
          by_cases hlt : k < xs.length
          · obtain ⟨y, hy⟩ := get_of_lt (show k < (corrRow xs s a).length by omega)
            obtain ⟨b, o, rfl, hb, hc⟩ := (ox.next hbr).rd.at_ hy
            have hm : y = -1 ∨ y ∈ xs := corr_mem hok hy
            clear hy
            have g1 : (0 : Int) ≤ (k : Int) := by omega
            have g2 : (k : Int) < ((corrRow xs s a).length : Int) := by omega
            by_cases e : y = -1
            · have he : (y != -1) = false := by simp [e]
              have e' := Lib.hid e
              clear e hm
              go_wp2_with fail
              go_roundw
              case rel => exact ⟨k + 1, by omega, by go_num, hbr⟩
              case measure => simp [intOf]; omega
            · have he : (y != -1) = true := by simpa using e
              have hd : decide (y ∈ xs) = true := by simpa using hm.resolve_left e
              clear e hm
              go_wp2_with fail
              refine (laws_hasInt _ _ _ _ _ ol.rd (by omega)).mono ?_
              rintro e w' ⟨rfl, rfl⟩
              go_wp2_with fail
              go_roundw
              case rel => exact ⟨k + 1, by omega, by go_num, hbr⟩
              case measure => simp [intOf]; omega
          · have g2 : ¬ (k : Int) < ((corrRow xs s a).length : Int) := by omega
            have oz := oz.next hbr
            go_wp2_with fail
            refine (likeR oz ol (by omega) (by omega)).mono ?_
            rintro e w7 ⟨rfl, hb7⟩
            go_wp2
            go_ret
            exact ⟨rfl, Below.next (Below.next hB6 hbr) hb7⟩
      · have i1' := i1
        rw [Bool.and_eq_true] at i1'
        obtain ⟨n, en, n0, n1, n2, n3, n4, n5⟩ := cdv_facts (of_inB i1'.1).1 (of_inB i1'.2).1 (of_inB i1'.2).2 (of_inB i1'.1).2
        have f1 : fBlind t h = (n, 0) := by simp only [fBlind, i1, en]; rfl
        clear en i1' i1
        by_cases np : 0 < n
        · obtain ⟨n6, n7⟩ := n5 np
          clear n5
          go_wp2_with fail
          go_wp2_with fail
          refine (impl_CorrectLine _ _ _ _ _ _ ol.rd (by omega)).mono ?_
          rintro e w6 ⟨vz, rfl, oz, hb6⟩
          have sz6 := hb6.size
          have hB6 := Below.next hB5 hb6
          have ol := ol.next hb6
          have ox := ox.next hb6
          have om := om.next hb6
          clear hB5 hb6
          have oz := OwnI.inR oz
          rw [(corr_zero hok).1] at oz
          obtain ⟨Az, cz, rfl⟩ := oz.form
          have hz2 := (corr_zero hok).2
          have hxl := corr_len hok
          go_wp2_with fail
          go_loopw [18] (fun i wr => ∃ k : Nat, k ≤ xs.length ∧ i = .int .i64 k ∧ Below w6.heap.size w6 wr) (fun i _ => xs.length - (intOf i).toNat)
          case atStart => exact ⟨0, Nat.zero_le _, rfl, Below.refl _ _⟩
          case round =>
            obtain ⟨k, hk, rfl, hbr⟩ := hrel
            have ol := ol.next hbr
            by_cases hlt : k < xs.length
            · obtain ⟨y, hy⟩ := get_of_lt (show k < (corrRow xs s a).length by omega)
              obtain ⟨b, o, rfl, hb, hc⟩ := (ox.next hbr).rd.at_ hy
              have hm : y = -1 ∨ y ∈ xs := corr_mem hok hy
              clear hy
              have g1 : (0 : Int) ≤ (k : Int) := by omega
              have g2 : (k : Int) < ((corrRow xs s a).length : Int) := by omega
              by_cases e : y = -1
              · have he : (y != -1) = false := by simp [e]
                have e' := Lib.hid e
                clear e hm
                go_wp2_with fail
                go_roundw
                case rel => exact ⟨k + 1, by omega, by go_num, hbr⟩
                case measure => simp [intOf]; omega
              · have he : (y != -1) = true := by simpa using e
                have hd : decide (y ∈ xs) = true := by simpa using hm.resolve_left e
                clear e hm
                go_wp2_with fail
                refine (laws_hasInt _ _ _ _ _ ol.rd (by omega)).mono ?_
                rintro e w' ⟨rfl, rfl⟩
                go_wp2_with fail
                go_roundw
                case rel => exact ⟨k + 1, by omega, by go_num, hbr⟩
                case measure => simp [intOf]; omega
            · have g2 : ¬ (k : Int) < ((corrRow xs s a).length : Int) := by omega
              have oz := oz.next hbr
              go_wp2_with fail
              refine (likeR oz ol (by omega) (by omega)).mono ?_
              rintro e w7 ⟨rfl, hb7⟩
              go_wp2
              go_ret
              exact ⟨rfl, Below.next (Below.next hB6 hbr) hb7⟩
        · clear n5
          go_wp2_with fail
          go_wp2_with fail
          refine (impl_CorrectLine _ _ _ _ _ _ ol.rd (by omega)).mono ?_
          rintro e w6 ⟨vz, rfl, oz, hb6⟩
          have sz6 := hb6.size
          have hB6 := Below.next hB5 hb6
          have ol := ol.next hb6
          have ox := ox.next hb6
          have om := om.next hb6
          clear hB5 hb6
          have oz := OwnI.inR oz
          rw [(corr_zero hok).1] at oz
          obtain ⟨Az, cz, rfl⟩ := oz.form
          have hz2 := (corr_zero hok).2
          have hxl := corr_len hok
          go_wp2_with fail
          go_loopw [18] (fun i wr => ∃ k : Nat, k ≤ xs.length ∧ i = .int .i64 k ∧ Below w6.heap.size w6 wr) (fun i _ => xs.length - (intOf i).toNat)
          case atStart => exact ⟨0, Nat.zero_le _, rfl, Below.refl _ _⟩
          case round =>
            obtain ⟨k, hk, rfl, hbr⟩ := hrel
            have ol := ol.next hbr
            by_cases hlt : k < xs.length
            · obtain ⟨y, hy⟩ := get_of_lt (show k < (corrRow xs s a).length by omega)
              obtain ⟨b, o, rfl, hb, hc⟩ := (ox.next hbr).rd.at_ hy
              have hm : y = -1 ∨ y ∈ xs := corr_mem hok hy
              clear hy
              have g1 : (0 : Int) ≤ (k : Int) := by omega
              have g2 : (k : Int) < ((corrRow xs s a).length : Int) := by omega
              by_cases e : y = -1
              · have he : (y != -1) = false := by simp [e]
                have e' := Lib.hid e
                clear e hm
                go_wp2_with fail
                go_roundw
                case rel => exact ⟨k + 1, by omega, by go_num, hbr⟩
                case measure => simp [intOf]; omega
              · have he : (y != -1) = true := by simpa using e
                have hd : decide (y ∈ xs) = true := by simpa using hm.resolve_left e
                clear e hm
                go_wp2_with fail
                refine (laws_hasInt _ _ _ _ _ ol.rd (by omega)).mono ?_
                rintro e w' ⟨rfl, rfl⟩
                go_wp2_with fail
                go_roundw
                case rel => exact ⟨k + 1, by omega, by go_num, hbr⟩
                case measure => simp [intOf]; omega
            · have g2 : ¬ (k : Int) < ((corrRow xs s a).length : Int) := by omega
              have oz := oz.next hbr
              go_wp2_with fail
              refine (likeR oz ol (by omega) (by omega)).mono ?_
              rintro e w7 ⟨rfl, hb7⟩
              go_wp2
              go_ret
              exact ⟨rfl, Below.next (Below.next hB6 hbr) hb7⟩
  · have hd : decide (4096 < (code.length : Int)) = true := by simp; omega
    go_enter Try.func13, Try.ntmps13
    go_wp2_with (first | (go_at_call 35; refine (laws_big _ _ _ _).mono ?_; rintro e w' ⟨rfl, rfl⟩))
    go_ret
    exact ⟨rfl, Below.refl _ _⟩
end Go.Proofs.Ytboagjiejjapfaa
