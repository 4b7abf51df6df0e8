/- The bottom sample: contracts and the law's walk. -/
import Derived.Test.YtboagjiejjapfaaListB
namespace Go.Proofs.Ytboagjiejjapfaa
open Go.RowKit
set_option linter.unusedVariables false
set_option linter.unusedSimpArgs false

def firstGe (xs : List Int) (t : Int) : Option Nat := xs.findIdx? fun x => decide (t ≤ x)
theorem firstGe_some {xs : List Int} {t x : Int} {k : Nat} (hx : xs[k]? = some x) (h : t ≤ x) (hb : ∀ j y, j < k → xs[j]? = some y → y < t) : firstGe xs t = some k := by
  unfold firstGe
  rw [List.findIdx?_eq_some_iff_getElem]
  obtain ⟨hk, e⟩ := List.getElem?_eq_some_iff.1 hx
  refine ⟨hk, by simp [e, h], fun j hj => ?_⟩
  have := hb j _ hj (List.getElem?_eq_getElem (by omega))
  simp; omega
theorem firstGe_none {xs : List Int} {t : Int} (hb : ∀ j y, j < xs.length → xs[j]? = some y → y < t) : firstGe xs t = none := by
  unfold firstGe
  rw [List.findIdx?_eq_none_iff]
  intro x hx
  obtain ⟨j, hj⟩ := List.mem_iff_getElem?.1 hx
  have := hb j x (lt_of_get hj) hj
  simp; omega

def fBottom (xs : List Int) (t : Int) : Int × Int :=
  if lineB xs then (if inB t 1 1000 then (match firstGe xs t with | some k => ((k : Int), 0) | none => (0, 4)) else (0, 2)) else (0, 1)

theorem impl_BottomSample (A : Option Addr) (c : Nat) (xs : List Int) (t : Int) (w : World) (hr : I64 w w.heap.size A xs) (hl : xs.length ≤ 9223372036854775807) :
    Calls Try.prog 21 #[.slice A xs.length c, .int .i64 t] w fun e w' => e = .returned (.tuple #[.int .i64 (fBottom xs t).1, .int .i64 (fBottom xs t).2]) ∧ w = w' := by
  cases h1 : lineB xs
  · go_enter Try.func21, Try.ntmps21
    go_wp2_with (first | (go_at_call 61; refine (impl_isLine _ _ _ _ (by assumption) (by omega)).mono ?_; rintro e w' ⟨rfl, rfl⟩))
    go_ret2
    exact ⟨ret_ii (by simp [fBottom, h1]) (by simp [fBottom, h1]), rfl⟩
  · cases h2 : inB t 1 1000
    · go_enter Try.func21, Try.ntmps21
      go_wp2_with (first | (go_at_call 61; refine (impl_isLine _ _ _ _ (by assumption) (by omega)).mono ?_; rintro e w' ⟨rfl, rfl⟩) | (go_at_call 58; refine (impl_within _ _ _ _).mono ?_; rintro e w' ⟨rfl, rfl⟩))
      go_ret2
      exact ⟨ret_ii (by simp [fBottom, h1, h2]) (by simp [fBottom, h1, h2]), rfl⟩
    · go_enter Try.func21, Try.ntmps21
      go_wp2_with (first | (go_at_call 61; refine (impl_isLine _ _ _ _ (by assumption) (by omega)).mono ?_; rintro e w' ⟨rfl, rfl⟩) | (go_at_call 58; refine (impl_within _ _ _ _).mono ?_; rintro e w' ⟨rfl, rfl⟩))
      go_loop [18] (fun i => ∃ k : Nat, k ≤ xs.length ∧ i = .int .i64 k ∧ Hid (∀ j y, j < k → xs[j]? = some y → y < t)) (fun i => xs.length - (intOf i).toNat)
      case atStart => exact ⟨0, Nat.zero_le _, rfl, fun j y h => absurd h (by omega)⟩
      case round =>
        obtain ⟨k, hk, rfl, ha⟩ := hrel
        by_cases hlt : k < xs.length
        · obtain ⟨x, hx⟩ := get_of_lt hlt
          obtain ⟨b, o, rfl, hb, hc⟩ := hr.at_ hx
          have hx' := Lib.hid hx
          clear hx
          by_cases h3 : t ≤ x
          · go_wp2
            go_ret2
            exact ⟨ret_ii (by simp [fBottom, h1, h2, firstGe_some hx'.out h3 ha.out]) (by simp [fBottom, h1, h2, firstGe_some hx'.out h3 ha.out]), rfl⟩
          · go_wp2
            go_round
            case rel => exact ⟨k + 1, by omega, by go_num, fun j y hj hy => by
              rcases Nat.lt_or_ge j k with h | h
              · exact ha.out j y h hy
              · have e : j = k := by omega
                subst e
                have := hx'.out.symm.trans hy
                simp at this
                omega⟩
            case measure => simp [intOf]; omega
        · have e : k = xs.length := by omega
          have hn : firstGe xs t = none := firstGe_none (by rw [← e]; exact ha.out)
          have hn' := Lib.hid hn
          clear hn e
          go_wp2
          go_ret2
          exact ⟨ret_ii (by simp [fBottom, h1, h2, hn'.out]) (by simp [fBottom, h1, h2, hn'.out]), rfl⟩
theorem spec_BottomSample (A : Option Addr) (c : Nat) (xs : List Int) (t : Int) (w : World) (hr : I64 w w.heap.size A xs) (hl : xs.length ≤ 9223372036854775807) :
    Calls Try.prog 19 #[.slice A xs.length c, .int .i64 t] w fun e w' => e = .returned (.tuple #[.int .i64 (fBottom xs t).1, .int .i64 (fBottom xs t).2]) ∧ w = w' := by
  cases h1 : lineB xs
  · go_enter Try.func19, Try.ntmps19
    go_wp2_with (first | (go_at_call 60; refine (spec_l18Line _ _ _ _ (by assumption) (by omega)).mono ?_; rintro e w' ⟨rfl, rfl⟩))
    go_ret2
    exact ⟨ret_ii (by simp [fBottom, h1]) (by simp [fBottom, h1]), rfl⟩
  · cases h2 : inB t 1 1000
    · go_enter Try.func19, Try.ntmps19
      go_wp2_with (first | (go_at_call 60; refine (spec_l18Line _ _ _ _ (by assumption) (by omega)).mono ?_; rintro e w' ⟨rfl, rfl⟩) | (go_at_call 56; refine (spec_l01In _ _ _ _).mono ?_; rintro e w' ⟨rfl, rfl⟩))
      go_ret2
      exact ⟨ret_ii (by simp [fBottom, h1, h2]) (by simp [fBottom, h1, h2]), rfl⟩
    · go_enter Try.func19, Try.ntmps19
      go_wp2_with (first | (go_at_call 60; refine (spec_l18Line _ _ _ _ (by assumption) (by omega)).mono ?_; rintro e w' ⟨rfl, rfl⟩) | (go_at_call 56; refine (spec_l01In _ _ _ _).mono ?_; rintro e w' ⟨rfl, rfl⟩))
      go_loop [6] (fun i => ∃ k : Nat, k ≤ xs.length ∧ i = .int .i64 k ∧ Hid (∀ j y, j < k → xs[j]? = some y → y < t)) (fun i => xs.length - (intOf i).toNat)
      case atStart => exact ⟨0, Nat.zero_le _, rfl, fun j y h => absurd h (by omega)⟩
      case round =>
        obtain ⟨k, hk, rfl, ha⟩ := hrel
        by_cases hlt : k < xs.length
        · obtain ⟨x, hx⟩ := get_of_lt hlt
          obtain ⟨b, o, rfl, hb, hc⟩ := hr.at_ hx
          have hx' := Lib.hid hx
          clear hx
          by_cases h3 : t ≤ x
          · go_wp2
            go_ret2
            exact ⟨ret_ii (by simp [fBottom, h1, h2, firstGe_some hx'.out h3 ha.out]) (by simp [fBottom, h1, h2, firstGe_some hx'.out h3 ha.out]), rfl⟩
          · go_wp2
            go_round
            case rel => exact ⟨k + 1, by omega, by go_num, fun j y hj hy => by
              rcases Nat.lt_or_ge j k with h | h
              · exact ha.out j y h hy
              · have e : j = k := by omega
                subst e
                have := hx'.out.symm.trans hy
                simp at this
                omega⟩
            case measure => simp [intOf]; omega
        · have e : k = xs.length := by omega
          have hn : firstGe xs t = none := firstGe_none (by rw [← e]; exact ha.out)
          have hn' := Lib.hid hn
          clear hn e
          go_wp2
          go_ret2
          exact ⟨ret_ii (by simp [fBottom, h1, h2, hn'.out]) (by simp [fBottom, h1, h2, hn'.out]), rfl⟩
theorem walk_BottomSample (A : Option Addr) (c : Nat) (xs : List Int) (t : Int) (w : World) (hr : I64 w w.heap.size A xs) (hl : xs.length ≤ 9223372036854775807) :
    Calls Try.prog 5 #[.slice A xs.length c, .int .i64 t] w fun e w' => e = .returned (.bool true) ∧ Below w.heap.size w w' := by
  by_cases h : 1048576 < xs.length
  · go_enter Try.func5, Try.ntmps5
    go_wp2
    go_ret
    exact ⟨rfl, Below.refl _ _⟩
  · go_enter Try.func5, Try.ntmps5
    go_wp2_with fail
    refine (laws_toInt64S _ _ _ _ hr (by omega)).mono ?_
    rintro e w1 ⟨g1, rfl, ho1, hb1⟩
    have r1 := I64.of_own ho1
    have hr1 := hr.up hb1
    go_wp2_with (first | (go_at_call 19; refine (spec_BottomSample _ _ _ _ _ (by assumption) (by omega)).mono ?_; rintro e w' ⟨rfl, rfl⟩))
    refine (laws_toInt64S _ _ _ _ hr1 (by omega)).mono ?_
    rintro e w2 ⟨g2, rfl, ho2, hb2⟩
    have r2 := I64.of_own ho2
    have hr2 := hr1.up hb2
    go_wp2_with (first | (go_at_call 21; refine (impl_BottomSample _ _ _ _ _ (by assumption) (by omega)).mono ?_; rintro e w' ⟨rfl, rfl⟩))
    refine (laws_toInt64S _ _ _ _ hr2 (by omega)).mono ?_
    rintro e w3 ⟨g3, rfl, ho3, hb3⟩
    have r3 := I64.of_own ho3
    have r23 := r2.up hb3
    go_wp2_with fail
    refine (laws_eqInt64S _ _ _ _ _ _ _ r23 r3 (by omega) (by omega)).mono ?_
    rintro e w4 ⟨rfl, hb4⟩
    go_wp2
    go_ret
    exact ⟨rfl, by repeat' (first | (with_reducible exact Below.refl _ _) | (with_reducible assumption) | (with_reducible refine Below.new ?_ _) | (with_reducible refine Below.alloc ?_ ?_ _) | (with_reducible refine Below.drew ?_) | (with_reducible refine below_drewN ?_ _) | (with_reducible refine Below.setCell ?_ ?_ _) | (refine Below.next ?_ (by with_reducible assumption)) | (refine Below.after ?_ ?_ (by with_reducible assumption)) | go_size)⟩
end Go.Proofs.Ytboagjiejjapfaa
