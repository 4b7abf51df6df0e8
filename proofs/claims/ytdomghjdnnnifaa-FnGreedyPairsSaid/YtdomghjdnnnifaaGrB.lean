/- Greedy pairs: contracts. -/
import Derived.Test.YtdomghjdnnnifaaGrA
import Derived.Test.YtdomghjdnnnifaaRep
import Derived.Test.YtdomghjdnnnifaaRegKit
namespace Go.Proofs.Ytdomghjdnnnifaa
open Go.RowKit Go.ChangeShapes Go.WideShapes Go.ChangeAt
set_option linter.unusedVariables false
set_option linter.unusedSimpArgs false
def rwP (st : Option (Nat × Nat)) : Int := match st with | none => -1 | some (i, _) => i
def clP (st : Option (Nat × Nat)) : Int := match st with | none => -1 | some (_, k) => k
theorem cst_le {miss : Int} {xss : List (List Int)} {ps : List Int} {st : Option (Nat × Nat)} (h : goodP miss xss ps st) : cstP xss st miss ≤ miss := by
  cases st with
  | none => exact Int.le_refl _
  | some p =>
    obtain ⟨i, k⟩ := p
    obtain ⟨xs, y, hx, hy, hok⟩ := h i k rfl
    rw [cst_some hx hy]
    have := (ok_facts hok).2.2.2
    omega
theorem cst_ge {miss : Int} {xss : List (List Int)} {ps : List Int} {st : Option (Nat × Nat)} (h : goodP miss xss ps st) (h0 : 0 ≤ miss) : 0 ≤ cstP xss st miss := by
  cases st with
  | none => exact h0
  | some p =>
    obtain ⟨i, k⟩ := p
    obtain ⟨xs, y, hx, hy, hok⟩ := h i k rfl
    rw [cst_some hx hy]
    exact (ok_facts hok).2.2.1
theorem rw_bd {miss : Int} {xss : List (List Int)} {ps : List Int} {st : Option (Nat × Nat)} (h : goodP miss xss ps st) (h6 : xss.length ≤ 6) (hr : ∀ (i : Nat) (xs : List Int), xss[i]? = some xs → xs.length ≤ 6) : (-1 ≤ rwP st ∧ rwP st ≤ 5) ∧ -1 ≤ clP st ∧ clP st ≤ 5 := by
  cases st with
  | none => exact ⟨⟨by show -1 ≤ (-1 : Int); omega, by show (-1 : Int) ≤ 5; omega⟩, by show -1 ≤ (-1 : Int); omega, by show (-1 : Int) ≤ 5; omega⟩
  | some p =>
    obtain ⟨i, k⟩ := p
    obtain ⟨xs, y, hx, hy, hok⟩ := h i k rfl
    have h1 := lt_of_get hx
    have h2 := lt_of_get hy
    have h3 := hr i xs hx
    exact ⟨⟨by show -1 ≤ (i : Int); omega, by show (i : Int) ≤ 5; omega⟩, by show -1 ≤ (k : Int); omega, by show (k : Int) ≤ 5; omega⟩
set_option maxHeartbeats 1600000 in
theorem impl_cheapest (A : Option Addr) (c : Nat) (xss : List (List Int)) (miss : Int) (B : Option Addr) (d : Nat) (ps : List Int) (w : World) (hr : II64 w w.heap.size A xss) (hs : I64 w w.heap.size B ps) (hA : areB xss = true) (hlen : ps.length = xss.length) (h0 : 0 ≤ miss) (h1 : miss ≤ 1000000000000) :
    Calls Try.prog 71 #[.slice A xss.length c, .int .i64 miss, .slice B ps.length d] w fun e w' => e = .returned (.tuple #[.int .i64 (rwP (chP miss xss ps xss.length)), .int .i64 (clP (chP miss xss ps xss.length))]) ∧ Below w.heap.size w w' := by
  have hG := Lib.hid (are_facts hA)
  have hlH := Lib.hid hlen
  have h6 := (are_facts hA).1
  have hps : ps.length ≤ 6 := by omega
  clear hlen hA
  go_enter Try.func71, Try.ntmps71
  repeat' (first | fail | go_values | go_skip | go_guarded | go_step | go_upon | (simp only []; go_step) | (go_ite <;> go_prune <;> (try go_simp)))
  go_loopw [8, 9, 10, 18] (fun rv cv lv iv wr => ∃ i : Nat, i ≤ xss.length ∧ iv = .int .i64 i ∧ rv = .int .i64 (rwP (chP miss xss ps i)) ∧ cv = .int .i64 (clP (chP miss xss ps i)) ∧ lv = .int .i64 (cstP xss (chP miss xss ps i) miss) ∧ Below w.heap.size w wr) (fun _ _ _ iv _ => xss.length - (intOf iv).toNat)
  case atStart => exact ⟨0, Nat.zero_le _, rfl, rfl, rfl, rfl, by repeat' (first | (with_reducible exact Below.refl _ _) | (with_reducible assumption) | (with_reducible refine Below.new ?_ _) | (with_reducible refine Below.alloc ?_ ?_ _) | (with_reducible refine Below.drew ?_) | (with_reducible refine below_drewN ?_ _) | (with_reducible refine Below.setCell ?_ ?_ _) | (refine Below.next ?_ (by with_reducible assumption)) | (refine Below.row ?_ (by with_reducible assumption) (by omega)) | (refine Below.trans ?_ (by with_reducible assumption)) | (refine Below.after ?_ ?_ (by with_reducible assumption)) | go_size)⟩
  case round =>
    rename World => W0
    obtain ⟨i, hi, rfl, rfl, rfl, rfl, hbr⟩ := hrel
    have hgd := good_ch (miss := miss) (xss := xss) (ps := ps) i hi
    by_cases hlt : i < xss.length
    · obtain ⟨xs, hx⟩ := get_of_lt hlt
      obtain ⟨p, hp⟩ := get_of_lt (xs := ps) (k := i) (by have := hlH.out; omega)
      obtain ⟨b, o, A', c', rfl, hb, hc, hi2⟩ := (hr.up hbr).at_ hx
      obtain ⟨b2, o2, rfl, hb2, hc2⟩ := (hs.up hbr).at_ hp
      have hrow := hG.out.2 i xs hx
      obtain ⟨hl6, hdum, hall⟩ := hrow
      clear hdum
      have hallH := Lib.hid hall
      have hst : Hid (chP miss xss ps (i + 1) = rowP miss xss ps i (chP miss xss ps i) xs.length) := by unfold Hid; rw [chP, lget_of hx]
      obtain ⟨st, hst0⟩ : ∃ st, st = chP miss xss ps i := ⟨_, rfl⟩
      rw [← hst0] at hst hgd ⊢
      have hxH := Lib.hid hx
      have hpg : Hid (ps.getD i 0 = p) := iget_of hp
      have p0 : (0 : Int) ≤ (i : Int) := by omega
      have p1 : (i : Int) < (xss.length : Int) := by omega
      have p2 : (i : Int) < (ps.length : Int) := by have := hlH.out; omega
      have hsW := (hs.up hbr)
      clear hx hp hst0 hall
      by_cases hp0 : p < 0
      · have np : ¬ 0 ≤ p := by omega
        repeat' (first | fail | go_values | go_skip | go_guarded | go_step | go_upon | (simp only []; go_step) | (go_ite <;> go_prune <;> (try go_simp)))
        go_loopw [8, 9, 10, 30] (fun rv cv lv kv wr => ∃ k : Nat, k ≤ xs.length ∧ kv = .int .i64 k ∧ rv = .int .i64 (rwP (rowP miss xss ps i st k)) ∧ cv = .int .i64 (clP (rowP miss xss ps i st k)) ∧ lv = .int .i64 (cstP xss (rowP miss xss ps i st k) miss) ∧ Below W0.heap.size W0 wr) (fun _ _ _ kv _ => xs.length - (intOf kv).toNat)
        case atStart => exact ⟨0, Nat.zero_le _, rfl, rfl, rfl, rfl, by repeat' (first | (with_reducible exact Below.refl _ _) | (with_reducible assumption) | (with_reducible refine Below.new ?_ _) | (with_reducible refine Below.alloc ?_ ?_ _) | (with_reducible refine Below.drew ?_) | (with_reducible refine below_drewN ?_ _) | (with_reducible refine Below.setCell ?_ ?_ _) | (refine Below.next ?_ (by with_reducible assumption)) | (refine Below.row ?_ (by with_reducible assumption) (by omega)) | (refine Below.trans ?_ (by with_reducible assumption)) | (refine Below.after ?_ ?_ (by with_reducible assumption)) | go_size)⟩
        case round =>
          obtain ⟨k, hk, rfl, rfl, rfl, rfl, hbq⟩ := hrel
          by_cases hltk : k < xs.length
          · obtain ⟨y, hy⟩ := get_of_lt hltk
            obtain ⟨b3, o3, rfl, hb3, hc3⟩ := (hi2.up hbq).at_ hy
            have hg2 := good_row (miss := miss) (xss := xss) (ps := ps) (i := i) hxH.out hgd k (by omega)
            have hyb := of_allB hallH.out hy
            have hno : Hid (okP miss ps i k y = false ∨ ¬ y < cstP xss (rowP miss xss ps i st k) miss → rowP miss xss ps i st (k + 1) = rowP miss xss ps i st k) := fun h => step_no hxH.out hy h
            have hyes : Hid (okP miss ps i k y = true → y < cstP xss (rowP miss xss ps i st k) miss → rowP miss xss ps i st (k + 1) = some (i, k)) := fun h h2 => step_yes hxH.out hy h h2
            have hcs : Hid (cstP xss (some (i, k)) miss = y) := cst_some hxH.out hy
            obtain ⟨st2, hst2⟩ : ∃ st2, st2 = rowP miss xss ps i st k := ⟨_, rfl⟩
            rw [← hst2] at hno hyes hg2 ⊢
            have hle := cst_le hg2
            have hge := cst_ge hg2 h0
            have q0 : (0 : Int) ≤ (k : Int) := by omega
            have q1 : (k : Int) < (xs.length : Int) := by omega
            clear hy hst2
            by_cases y0 : 0 ≤ y
            · by_cases y1 : y < cstP xss st2 miss
              · cases y2 : decide ((k : Int) ∈ ps)
                · have e := Lib.hid (hyes.out (by rw [okP, hpg.out, decide_eq_true hp0, y2, decide_eq_true y0, decide_eq_true (show y < miss by omega)]; rfl) y1)
                  clear hno hyes
                  repeat' (first | fail | go_values | go_skip | go_guarded | go_step | go_upon | (simp only []; go_step) | (go_ite <;> go_prune <;> (try go_simp)))
                  refine (slices_ContainsB _ _ _ _ _ _ (hsW.up (by repeat' (first | (with_reducible exact Below.refl _ _) | (with_reducible assumption) | (with_reducible refine Below.new ?_ _) | (with_reducible refine Below.alloc ?_ ?_ _) | (with_reducible refine Below.drew ?_) | (with_reducible refine below_drewN ?_ _) | (with_reducible refine Below.setCell ?_ ?_ _) | (refine Below.next ?_ (by with_reducible assumption)) | (refine Below.row ?_ (by with_reducible assumption) (by omega)) | (refine Below.trans ?_ (by with_reducible assumption)) | (refine Below.after ?_ ?_ (by with_reducible assumption)) | go_size))) (by omega) y2).mono ?_
                  rintro e2 w' ⟨rfl, rfl⟩
                  repeat' (first | fail | go_values | go_skip | go_guarded | go_step | go_upon | (simp only []; go_step) | (go_ite <;> go_prune <;> (try go_simp)))
                  all_goals exact ⟨⟨k + 1, by omega, by go_num, by rw [e.out]; rfl, by rw [e.out]; rfl, by rw [e.out, hcs.out], by repeat' (first | (with_reducible exact Below.refl _ _) | (with_reducible assumption) | (with_reducible refine Below.new ?_ _) | (with_reducible refine Below.alloc ?_ ?_ _) | (with_reducible refine Below.drew ?_) | (with_reducible refine below_drewN ?_ _) | (with_reducible refine Below.setCell ?_ ?_ _) | (refine Below.next ?_ (by with_reducible assumption)) | (refine Below.row ?_ (by with_reducible assumption) (by omega)) | (refine Below.trans ?_ (by with_reducible assumption)) | (refine Below.after ?_ ?_ (by with_reducible assumption)) | go_size)⟩, by simp [intOf]; omega⟩
                · have e := Lib.hid (hno.out (.inl (by rw [okP, y2]; simp)))
                  clear hno hyes
                  repeat' (first | fail | go_values | go_skip | go_guarded | go_step | go_upon | (simp only []; go_step) | (go_ite <;> go_prune <;> (try go_simp)))
                  refine (slices_ContainsB _ _ _ _ _ _ (hsW.up (by repeat' (first | (with_reducible exact Below.refl _ _) | (with_reducible assumption) | (with_reducible refine Below.new ?_ _) | (with_reducible refine Below.alloc ?_ ?_ _) | (with_reducible refine Below.drew ?_) | (with_reducible refine below_drewN ?_ _) | (with_reducible refine Below.setCell ?_ ?_ _) | (refine Below.next ?_ (by with_reducible assumption)) | (refine Below.row ?_ (by with_reducible assumption) (by omega)) | (refine Below.trans ?_ (by with_reducible assumption)) | (refine Below.after ?_ ?_ (by with_reducible assumption)) | go_size))) (by omega) y2).mono ?_
                  rintro e2 w' ⟨rfl, rfl⟩
                  repeat' (first | fail | go_values | go_skip | go_guarded | go_step | go_upon | (simp only []; go_step) | (go_ite <;> go_prune <;> (try go_simp)))
                  all_goals exact ⟨⟨k + 1, by omega, by go_num, by rw [e.out], by rw [e.out], by rw [e.out], by repeat' (first | (with_reducible exact Below.refl _ _) | (with_reducible assumption) | (with_reducible refine Below.new ?_ _) | (with_reducible refine Below.alloc ?_ ?_ _) | (with_reducible refine Below.drew ?_) | (with_reducible refine below_drewN ?_ _) | (with_reducible refine Below.setCell ?_ ?_ _) | (refine Below.next ?_ (by with_reducible assumption)) | (refine Below.row ?_ (by with_reducible assumption) (by omega)) | (refine Below.trans ?_ (by with_reducible assumption)) | (refine Below.after ?_ ?_ (by with_reducible assumption)) | go_size)⟩, by simp [intOf]; omega⟩
              · have e := Lib.hid (hno.out (.inr y1))
                clear hno hyes
                repeat' (first | fail | go_values | go_skip | go_guarded | go_step | go_upon | (simp only []; go_step) | (go_ite <;> go_prune <;> (try go_simp)))
                all_goals exact ⟨⟨k + 1, by omega, by go_num, by rw [e.out], by rw [e.out], by rw [e.out], by repeat' (first | (with_reducible exact Below.refl _ _) | (with_reducible assumption) | (with_reducible refine Below.new ?_ _) | (with_reducible refine Below.alloc ?_ ?_ _) | (with_reducible refine Below.drew ?_) | (with_reducible refine below_drewN ?_ _) | (with_reducible refine Below.setCell ?_ ?_ _) | (refine Below.next ?_ (by with_reducible assumption)) | (refine Below.row ?_ (by with_reducible assumption) (by omega)) | (refine Below.trans ?_ (by with_reducible assumption)) | (refine Below.after ?_ ?_ (by with_reducible assumption)) | go_size)⟩, by simp [intOf]; omega⟩
            · have e := Lib.hid (hno.out (.inl (by rw [okP, decide_eq_false y0]; simp)))
              clear hno hyes
              repeat' (first | fail | go_values | go_skip | go_guarded | go_step | go_upon | (simp only []; go_step) | (go_ite <;> go_prune <;> (try go_simp)))
              all_goals exact ⟨⟨k + 1, by omega, by go_num, by rw [e.out], by rw [e.out], by rw [e.out], by repeat' (first | (with_reducible exact Below.refl _ _) | (with_reducible assumption) | (with_reducible refine Below.new ?_ _) | (with_reducible refine Below.alloc ?_ ?_ _) | (with_reducible refine Below.drew ?_) | (with_reducible refine below_drewN ?_ _) | (with_reducible refine Below.setCell ?_ ?_ _) | (refine Below.next ?_ (by with_reducible assumption)) | (refine Below.row ?_ (by with_reducible assumption) (by omega)) | (refine Below.trans ?_ (by with_reducible assumption)) | (refine Below.after ?_ ?_ (by with_reducible assumption)) | go_size)⟩, by simp [intOf]; omega⟩
          · have e : k = xs.length := by omega
            subst e
            repeat' (first | fail | go_values | go_skip | go_guarded | go_step | go_upon | (simp only []; go_step) | (go_ite <;> go_prune <;> (try go_simp)))
            all_goals exact ⟨⟨i + 1, by omega, by go_num, by rw [hst.out], by rw [hst.out], by rw [hst.out], by repeat' (first | (with_reducible exact Below.refl _ _) | (with_reducible assumption) | (with_reducible refine Below.new ?_ _) | (with_reducible refine Below.alloc ?_ ?_ _) | (with_reducible refine Below.drew ?_) | (with_reducible refine below_drewN ?_ _) | (with_reducible refine Below.setCell ?_ ?_ _) | (refine Below.next ?_ (by with_reducible assumption)) | (refine Below.row ?_ (by with_reducible assumption) (by omega)) | (refine Below.trans ?_ (by with_reducible assumption)) | (refine Below.after ?_ ?_ (by with_reducible assumption)) | go_size)⟩, by simp [intOf]; omega⟩
      · have np : 0 ≤ p := by omega
        have e : Hid (chP miss xss ps (i + 1) = st) := by unfold Hid; rw [hst.out, row_skip (by rw [hpg.out]; exact hp0)]
        clear hst
        repeat' (first | fail | go_values | go_skip | go_guarded | go_step | go_upon | (simp only []; go_step) | (go_ite <;> go_prune <;> (try go_simp)))
        all_goals exact ⟨⟨i + 1, by omega, by go_num, by rw [e.out], by rw [e.out], by rw [e.out], by repeat' (first | (with_reducible exact Below.refl _ _) | (with_reducible assumption) | (with_reducible refine Below.new ?_ _) | (with_reducible refine Below.alloc ?_ ?_ _) | (with_reducible refine Below.drew ?_) | (with_reducible refine below_drewN ?_ _) | (with_reducible refine Below.setCell ?_ ?_ _) | (refine Below.next ?_ (by with_reducible assumption)) | (refine Below.row ?_ (by with_reducible assumption) (by omega)) | (refine Below.trans ?_ (by with_reducible assumption)) | (refine Below.after ?_ ?_ (by with_reducible assumption)) | go_size)⟩, by simp [intOf]; omega⟩
    · have e : i = xss.length := by omega
      subst e
      repeat' (first | fail | go_values | go_skip | go_guarded | go_step | go_upon | (simp only []; go_step) | (go_ite <;> go_prune <;> (try go_simp)))
      all_goals go_returns
      all_goals exact ⟨rfl, hbr⟩
end Go.Proofs.Ytdomghjdnnnifaa
