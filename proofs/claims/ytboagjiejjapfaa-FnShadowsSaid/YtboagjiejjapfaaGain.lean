/- Gains of a line: contracts and the law's walk. -/
import Derived.Test.YtboagjiejjapfaaListB
import Derived.Test.YtboagjiejjapfaaNum2
import Derived.WalkLawsBesides
namespace Go.Proofs.Ytboagjiejjapfaa
open Go.RowKit
set_option linter.unusedVariables false
set_option linter.unusedSimpArgs false

theorem ret_vi {k : IntKind} {v : Value} {c d : Int} (h : c = d) : Ending.returned (.tuple #[v, .int k c]) = .returned (.tuple #[v, .int k d]) := by rw [h]

def gainOk (xs gs : List Int) : Bool := decide (gs.length = xs.length) && allB gs 0 10000
def gainCode (xs gs : List Int) : Int := if lineB xs then (if gainOk xs gs then 0 else 2) else 1
def gainOne (x g : Int) : Int := min (Pl.nr (x * g) 100) 1000
def gainAll (xs gs : List Int) : List Int := List.zipWith gainOne xs gs
def gainRow (xs gs : List Int) : List Int := if lineB xs && gainOk xs gs then gainAll xs gs else []
theorem gainAll_get {xs gs : List Int} {k : Nat} {x g : Int} (hx : xs[k]? = some x) (hg : gs[k]? = some g) : (gainAll xs gs)[k]? = some (gainOne x g) := by
  unfold gainAll; rw [List.getElem?_zipWith, hx, hg]

theorem line_len {xs : List Int} (h : lineB xs = true) : xs.length ≤ 200 := by
  unfold lineB at h; rw [Bool.and_eq_true] at h; exact of_decide_eq_true h.1
theorem line_all {xs : List Int} (h : lineB xs = true) : allB xs 0 1000 = true := by
  unfold lineB at h; rw [Bool.and_eq_true] at h; exact h.2

theorem gain_bd {x g : Int} (h1 : 0 ≤ x ∧ x ≤ 1000) (h2 : 0 ≤ g ∧ g ≤ 10000) : 0 ≤ x * g ∧ x * g ≤ 10000000 :=
  ⟨Int.mul_nonneg h1.1 h2.1, Int.le_trans (Int.mul_le_mul h1.2 h2.2 h2.1 (by omega)) (by omega)⟩

theorem impl_GainLine (A B : Option Addr) (c d : Nat) (xs gs : List Int) (w : World) (hr : I64 w w.heap.size A xs) (hs : I64 w w.heap.size B gs) (hl : xs.length ≤ 9223372036854775807) (hm : gs.length ≤ 9223372036854775807) :
    Calls Try.prog 32 #[.slice A xs.length c, .slice B gs.length d] w fun e w' => ∃ v, e = .returned (.tuple #[v, .int .i64 (gainCode xs gs)]) ∧ OwnI w' w.heap.size v (gainRow xs gs) ∧ Below w.heap.size w w' := by
  cases h1 : lineB xs
  · go_enter Try.func32, Try.ntmps32
    go_wp2_with (first | (go_at_call 61; refine (impl_isLine _ _ _ _ (by assumption) (by omega)).mono ?_; rintro e w' ⟨rfl, rfl⟩))
    go_ret2
    exact ⟨_, ret_vi (by simp [gainCode, h1]), by simp only [gainRow, h1]; exact OwnI.nil _ _, by repeat' (first | (with_reducible exact Below.refl _ _) | (with_reducible assumption) | (with_reducible refine Below.new ?_ _) | (with_reducible refine Below.alloc ?_ ?_ _) | (with_reducible refine Below.drew ?_) | (with_reducible refine below_drewN ?_ _) | (with_reducible refine Below.setCell ?_ ?_ _) | (refine Below.next ?_ (by with_reducible assumption)) | (refine Below.trans ?_ (by with_reducible assumption)) | (refine Below.after ?_ ?_ (by with_reducible assumption)) | go_size)⟩
  · have hlen := line_len h1
    have hall := Lib.hid (line_all h1)
    by_cases h2 : gs.length = xs.length
    · have hb : ((gs.length : Int) != (xs.length : Int)) = false := by simp [h2]
      have h2' := Lib.hid h2
      clear h2
      cases h3 : allB gs 0 10000
      · have hk : gainOk xs gs = false := by simp [gainOk, h3]
        have hk' := Lib.hid hk
        clear hk
        go_enter Try.func32, Try.ntmps32
        go_wp2_with (first | (go_at_call 61; refine (impl_isLine _ _ _ _ (by assumption) (by omega)).mono ?_; rintro e w' ⟨rfl, rfl⟩) | (go_at_call 71; refine (impl_areWithin _ _ _ _ _ _ (by assumption) (by omega)).mono ?_; rintro e w' ⟨rfl, rfl⟩))
        go_ret2
        exact ⟨_, ret_vi (by simp [gainCode, h1, hk'.out]), by simp only [gainRow, h1, hk'.out]; exact OwnI.nil _ _, by repeat' (first | (with_reducible exact Below.refl _ _) | (with_reducible assumption) | (with_reducible refine Below.new ?_ _) | (with_reducible refine Below.alloc ?_ ?_ _) | (with_reducible refine Below.drew ?_) | (with_reducible refine below_drewN ?_ _) | (with_reducible refine Below.setCell ?_ ?_ _) | (refine Below.next ?_ (by with_reducible assumption)) | (refine Below.trans ?_ (by with_reducible assumption)) | (refine Below.after ?_ ?_ (by with_reducible assumption)) | go_size)⟩
      · have hk : gainOk xs gs = true := by simp [gainOk, h3, h2'.out]
        have hk' := Lib.hid hk
        clear hk
        go_enter Try.func32, Try.ntmps32
        go_wp2_with (first | (go_at_call 61; refine (impl_isLine _ _ _ _ (by assumption) (by omega)).mono ?_; rintro e w' ⟨rfl, rfl⟩) | (go_at_call 71; refine (impl_areWithin _ _ _ _ _ _ (by assumption) (by omega)).mono ?_; rintro e w' ⟨rfl, rfl⟩))
        go_loopw [6, 26] (fun v i wr => ∃ k : Nat, k ≤ xs.length ∧ i = .int .i64 k ∧ OwnI wr w.heap.size v ((gainAll xs gs).take k) ∧ Below w.heap.size w wr) (fun _ i _ => xs.length - (intOf i).toNat)
        case atStart => exact ⟨0, Nat.zero_le _, rfl, OwnI.nil _ _, Below.refl _ _⟩
        case round =>
          obtain ⟨k, hk, rfl, ho, hbr⟩ := hrel
          by_cases hlt : k < xs.length
          · obtain ⟨x, hx⟩ := get_of_lt hlt
            obtain ⟨g, hg⟩ := get_of_lt (xs := gs) (k := k) (by have := h2'.out; omega)
            obtain ⟨b, o, rfl, hb1, hc1⟩ := (hr.below hbr).at_ hx
            obtain ⟨b2, o2, rfl, hb2, hc2⟩ := (hs.below hbr).at_ hg
            have bd := gain_bd (of_allB hall.out hx) (of_allB h3 hg)
            have hlg : (k : Int) < (gs.length : Int) := by have := h2'.out; omega
            have hy := Lib.hid (gainAll_get hx hg)
            have hx' := Lib.hid hx
            have hg' := Lib.hid hg
            have hsz := hbr.size
            have htk : ((gainAll xs gs).take k).length ≤ 200 := by simp; omega
            clear hx hg
            go_wp2_with (first | (go_at_call 72; refine (impl_nearest _ _ _ (by omega) (by omega) (by omega)).mono ?_; rintro e w' ⟨rfl, rfl⟩) | (at_builtin; refine push_int ho rfl _ _ rfl rfl rfl hsz (by omega) ?_; intro v' w' ho' hg2 hb'))
            go_roundw
            case rel => exact ⟨k + 1, by omega, by go_num, by rw [take_snoc hy.out]; rw [min_l] at ho'; exact ho', hbr.trans hb'⟩
            case measure => simp [intOf]; omega
          · have hf : (gainAll xs gs).take k = gainRow xs gs := by
              rw [gainRow, h1, hk'.out, List.take_of_length_le (by simp [gainAll]; omega)]; rfl
            rw [hf] at ho
            go_wp2
            go_ret2
            exact ⟨_, ret_vi (by simp [gainCode, h1, hk'.out]), ho, hbr⟩
    · have hb : ((gs.length : Int) != (xs.length : Int)) = true := by simp; omega
      have hk : gainOk xs gs = false := by simp [gainOk]; intro h; exact absurd h h2
      have hk' := Lib.hid hk
      clear hk
      go_enter Try.func32, Try.ntmps32
      go_wp2_with (first | (go_at_call 61; refine (impl_isLine _ _ _ _ (by assumption) (by omega)).mono ?_; rintro e w' ⟨rfl, rfl⟩) | (go_at_call 71; refine (impl_areWithin _ _ _ _ _ _ (by assumption) (by omega)).mono ?_; rintro e w' ⟨rfl, rfl⟩))
      go_ret2
      exact ⟨_, ret_vi (by simp [gainCode, h1, hk'.out]), by simp only [gainRow, h1, hk'.out]; exact OwnI.nil _ _, by repeat' (first | (with_reducible exact Below.refl _ _) | (with_reducible assumption) | (with_reducible refine Below.new ?_ _) | (with_reducible refine Below.alloc ?_ ?_ _) | (with_reducible refine Below.drew ?_) | (with_reducible refine below_drewN ?_ _) | (with_reducible refine Below.setCell ?_ ?_ _) | (refine Below.next ?_ (by with_reducible assumption)) | (refine Below.trans ?_ (by with_reducible assumption)) | (refine Below.after ?_ ?_ (by with_reducible assumption)) | go_size)⟩
theorem spec_GainLine (A B : Option Addr) (c d : Nat) (xs gs : List Int) (w : World) (hr : I64 w w.heap.size A xs) (hs : I64 w w.heap.size B gs) (hl : xs.length ≤ 9223372036854775807) (hm : gs.length ≤ 9223372036854775807) :
    Calls Try.prog 31 #[.slice A xs.length c, .slice B gs.length d] w fun e w' => ∃ v, e = .returned (.tuple #[v, .int .i64 (gainCode xs gs)]) ∧ OwnI w' w.heap.size v (gainRow xs gs) ∧ Below w.heap.size w w' := by
  cases h1 : lineB xs
  · go_enter Try.func31, Try.ntmps31
    go_wp2_with (first | (go_at_call 60; refine (spec_l18Line _ _ _ _ (by assumption) (by omega)).mono ?_; rintro e w' ⟨rfl, rfl⟩))
    go_ret2
    exact ⟨_, ret_vi (by simp [gainCode, h1]), by simp only [gainRow, h1]; exact OwnI.nil _ _, by repeat' (first | (with_reducible exact Below.refl _ _) | (with_reducible assumption) | (with_reducible refine Below.new ?_ _) | (with_reducible refine Below.alloc ?_ ?_ _) | (with_reducible refine Below.drew ?_) | (with_reducible refine below_drewN ?_ _) | (with_reducible refine Below.setCell ?_ ?_ _) | (refine Below.next ?_ (by with_reducible assumption)) | (refine Below.trans ?_ (by with_reducible assumption)) | (refine Below.after ?_ ?_ (by with_reducible assumption)) | go_size)⟩
  · have hlen := line_len h1
    have hall := Lib.hid (line_all h1)
    by_cases h2 : gs.length = xs.length
    · have hb : ((gs.length : Int) != (xs.length : Int)) = false := by simp [h2]
      have h2' := Lib.hid h2
      clear h2
      cases h3 : allB gs 0 10000
      · have hk : gainOk xs gs = false := by simp [gainOk, h3]
        have hk' := Lib.hid hk
        clear hk
        go_enter Try.func31, Try.ntmps31
        go_wp2_with (first | (go_at_call 60; refine (spec_l18Line _ _ _ _ (by assumption) (by omega)).mono ?_; rintro e w' ⟨rfl, rfl⟩) | (go_at_call 69; refine (spec_l01Within _ _ _ _ _ _ _ (by assumption) (by omega)).mono ?_; rintro e w' ⟨rfl, rfl⟩))
        go_ret2
        exact ⟨_, ret_vi (by simp [gainCode, h1, hk'.out]), by simp only [gainRow, h1, hk'.out]; exact OwnI.nil _ _, by repeat' (first | (with_reducible exact Below.refl _ _) | (with_reducible assumption) | (with_reducible refine Below.new ?_ _) | (with_reducible refine Below.alloc ?_ ?_ _) | (with_reducible refine Below.drew ?_) | (with_reducible refine below_drewN ?_ _) | (with_reducible refine Below.setCell ?_ ?_ _) | (refine Below.next ?_ (by with_reducible assumption)) | (refine Below.trans ?_ (by with_reducible assumption)) | (refine Below.after ?_ ?_ (by with_reducible assumption)) | go_size)⟩
      · have hk : gainOk xs gs = true := by simp [gainOk, h3, h2'.out]
        have hk' := Lib.hid hk
        clear hk
        have hd : decide ((gs.length : Int) ≤ 200) = true := by have := h2'.out; simp; omega
        go_enter Try.func31, Try.ntmps31
        go_wp2_with (first | (go_at_call 60; refine (spec_l18Line _ _ _ _ (by assumption) (by omega)).mono ?_; rintro e w' ⟨rfl, rfl⟩) | (go_at_call 69; refine (spec_l01Within _ _ _ _ _ _ _ (by assumption) (by omega)).mono ?_; rintro e w' ⟨rfl, rfl⟩))
        go_loopw [6, 7] (fun v i wr => ∃ k : Nat, k ≤ xs.length ∧ i = .int .i64 k ∧ OwnI wr w.heap.size v ((gainAll xs gs).take k) ∧ Below w.heap.size w wr) (fun _ i _ => xs.length - (intOf i).toNat)
        case atStart => exact ⟨0, Nat.zero_le _, rfl, OwnI.lit0 (Nat.le_refl _), by repeat' (first | (with_reducible exact Below.refl _ _) | (with_reducible assumption) | (with_reducible refine Below.new ?_ _) | (with_reducible refine Below.alloc ?_ ?_ _) | (with_reducible refine Below.drew ?_) | (with_reducible refine below_drewN ?_ _) | (with_reducible refine Below.setCell ?_ ?_ _) | (refine Below.next ?_ (by with_reducible assumption)) | (refine Below.trans ?_ (by with_reducible assumption)) | (refine Below.after ?_ ?_ (by with_reducible assumption)) | go_size)⟩
        case round =>
          obtain ⟨k, hk, rfl, ho, hbr⟩ := hrel
          by_cases hlt : k < xs.length
          · obtain ⟨x, hx⟩ := get_of_lt hlt
            obtain ⟨g, hg⟩ := get_of_lt (xs := gs) (k := k) (by have := h2'.out; omega)
            obtain ⟨b, o, rfl, hb1, hc1⟩ := (hr.below hbr).at_ hx
            obtain ⟨b2, o2, rfl, hb2, hc2⟩ := (hs.below hbr).at_ hg
            have bd := gain_bd (of_allB hall.out hx) (of_allB h3 hg)
            have hlg : (k : Int) < (gs.length : Int) := by have := h2'.out; omega
            have hy := Lib.hid (gainAll_get hx hg)
            have hx' := Lib.hid hx
            have hg' := Lib.hid hg
            have hsz := hbr.size
            have htk : ((gainAll xs gs).take k).length ≤ 200 := by simp; omega
            clear hx hg
            have hk0 : (0 : Int) ≤ (k : Int) := by omega
            have hk1 : (k : Int) < (xs.length : Int) := by omega
            have hm : IntKind.i64.wrap (x * g) = x * g := IntWalk.i64_in _ (by omega)
            go_wp2_with fail
            go_region_held3 (fun w' => w'.cell? ⟨b, o + k, none⟩ = some (.int .i64 x) ∧ w'.cell? ⟨b2, o2 + k, none⟩ = some (.int .i64 g)) (first | go_keep | (exact ⟨(hb'.cell (p := ⟨b, o + k, none⟩) hb1).trans (by go_keep), (hb'.cell (p := ⟨b2, o2 + k, none⟩) hb2).trans (by go_keep)⟩))
              (first | (go_simp; go_at_call 70; refine (spec_l01Nearest _ _ _ (by omega) (by omega) (by omega)).mono ?_; rintro e w' ⟨rfl, rfl⟩) | (refine step_push (by exact ((ho.alloc _).drewN 1)) (by exact heap_alloc_new _ _) (by rfl) _ _ (by rfl) (by rfl) (by rfl) (by simp; omega) (by omega) ?_; intro v' w' ho' hg2 hb'))
            go_wp2
            go_roundw
            case rel => exact ⟨k + 1, by omega, by go_num, by rw [take_snoc hy.out]; rw [min_l, Int.min_comm] at ho'; exact ho', by repeat' (first | (with_reducible exact Below.refl _ _) | (with_reducible assumption) | (with_reducible refine Below.new ?_ _) | (with_reducible refine Below.alloc ?_ ?_ _) | (with_reducible refine Below.drew ?_) | (with_reducible refine below_drewN ?_ _) | (with_reducible refine Below.setCell ?_ ?_ _) | (refine Below.next ?_ (by with_reducible assumption)) | (refine Below.trans ?_ (by with_reducible assumption)) | (refine Below.after ?_ ?_ (by with_reducible assumption)) | go_size)⟩
            case measure => simp [intOf]; omega
          · have hf : (gainAll xs gs).take k = gainRow xs gs := by
              rw [gainRow, h1, hk'.out, List.take_of_length_le (by simp [gainAll]; omega)]; rfl
            rw [hf] at ho
            go_wp2
            go_ret2
            exact ⟨_, ret_vi (by simp [gainCode, h1, hk'.out]), ho, hbr⟩
    · have hb : ((gs.length : Int) != (xs.length : Int)) = true := by simp; omega
      have hk : gainOk xs gs = false := by simp [gainOk]; intro h; exact absurd h h2
      have hk' := Lib.hid hk
      clear hk
      go_enter Try.func31, Try.ntmps31
      go_wp2_with (first | (go_at_call 60; refine (spec_l18Line _ _ _ _ (by assumption) (by omega)).mono ?_; rintro e w' ⟨rfl, rfl⟩) | (go_at_call 69; refine (spec_l01Within _ _ _ _ _ _ _ (by assumption) (by omega)).mono ?_; rintro e w' ⟨rfl, rfl⟩))
      go_ret2
      exact ⟨_, ret_vi (by simp [gainCode, h1, hk'.out]), by simp only [gainRow, h1, hk'.out]; exact OwnI.nil _ _, by repeat' (first | (with_reducible exact Below.refl _ _) | (with_reducible assumption) | (with_reducible refine Below.new ?_ _) | (with_reducible refine Below.alloc ?_ ?_ _) | (with_reducible refine Below.drew ?_) | (with_reducible refine below_drewN ?_ _) | (with_reducible refine Below.setCell ?_ ?_ _) | (refine Below.next ?_ (by with_reducible assumption)) | (refine Below.trans ?_ (by with_reducible assumption)) | (refine Below.after ?_ ?_ (by with_reducible assumption)) | go_size)⟩
end Go.Proofs.Ytboagjiejjapfaa
