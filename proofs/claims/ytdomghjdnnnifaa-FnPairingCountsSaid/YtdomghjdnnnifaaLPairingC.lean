/- With one row less there are not more pairings, and without forbidden pairs as many as there are partial matchings: the law's walk. -/
import Derived.Test.YtdomghjdnnnifaaPlC
import Derived.Test.YtdomghjdnnnifaaAllG
import Derived.Test.YtdomghjdnnnifaaDrD
import Derived.Test.YtdomghjdnnnifaaBig
namespace Go.Proofs.Ytdomghjdnnnifaa
open Go.RowKit
set_option linter.unusedVariables false
set_option linter.unusedSimpArgs false
theorem II64.tail {w : World} {B b o : Nat} {css : List (List Int)} (h : II64 w B (some ⟨b, o, none⟩) css) : II64 w B (some ⟨b, o + 1, none⟩) css.tail := by
  rcases h with h | ⟨b', o', e, h2, h3⟩
  · exact .inl (by rw [h]; rfl)
  · simp only [Option.some.injEq, Addr.mk.injEq, and_true] at e
    obtain ⟨e1, e2⟩ := e
    subst e1 e2
    refine .inr ⟨b, o + 1, rfl, h2, fun i xs hx => ?_⟩
    obtain ⟨A', c', h4, h5⟩ := h3 (i + 1) xs (by cases css with | nil => simp at hx | cons a l => simpa using hx)
    exact ⟨A', c', by rw [show o + 1 + i = o + (i + 1) by omega]; exact h4, h5⟩
theorem mk_row {W w12 : World} {lo hi n : Nat} {v : Value} {css : List (List Int)} (oZ : OwnLL W lo hi v css) (hown12 : w12.ownsRow W.heap.size 2 1 (.slice (some ⟨W.heap.size, 0, none⟩) n n) n (madeCells (Value.int .i64 0).cells (n * 1)).toList) (hg12 : W.grownBy w12 none) :
    Below W.heap.size W w12 ∧ OwnI w12 W.heap.size (.slice (some ⟨W.heap.size, 0, none⟩) n n) (List.replicate n 0) ∧ OwnLL w12 lo hi v css := by
  have B12 : Below W.heap.size W w12 := ⟨hg12.os, hg12.tape, hg12.output, hg12.size, fun k hk => hg12.block k hk (by simp)⟩
  exact ⟨B12, ⟨some ⟨W.heap.size, 0, none⟩, n, by rw [List.length_replicate], by simpa [toList_madeCells_one, Value.cells] using hown12⟩, oZ.next B12⟩
set_option maxHeartbeats 3200000 in
set_option maxRecDepth 100000 in
theorem walk_PairingC (A : Option Addr) (c : Nat) (code : List Int) (w : World) (hr : U8 w w.heap.size A code) (hb : ∀ x ∈ code, 0 ≤ x ∧ x ≤ 255) :
    Calls Try.prog 7 #[.slice A code.length c] w fun e w' => e = .returned (.bool true) ∧ Below w.heap.size w w' := by
  obtain ⟨i0, hi, hz0, hz1, hz2⟩ := info_parts int_info
  by_cases hl : code.length ≤ 4096
  · go_enter Try.func7, Try.ntmps7
    go_wp2_with (first | (go_at_call 28; refine (laws_big _ _ _ _).mono ?_; rintro e w' ⟨rfl, rfl⟩) | fail)
    refine (spec_DrawCountPairings _ _ _ _ hr hb hl).mono ?_
    rintro e w1 ⟨v1, css, rfl, oc, hd, hbw1⟩
    obtain ⟨A1, c1, rfl⟩ := oc.form
    have rc := oc.rd.2
    have hcap := oc.cap
    have l7 := hd.1
    have rows : ∀ (i : Nat) (xs : List Int), css[i]? = some xs → xs.length ≤ 1099511627776 := fun i xs h => by have := hd.2 i xs h; omega
    have rowsT : ∀ (i : Nat) (xs : List Int), css.tail[i]? = some xs → xs.length ≤ 1099511627776 := fun i xs h => rows (i + 1) xs (by cases css with | nil => simp at h | cons a l => simpa using h)
    have rowsZ : ∀ (i : Nat) (xs : List Int), (zer css)[i]? = some xs → xs.length ≤ 1099511627776 := fun i xs h => by
      rw [zer, List.getElem?_map, Option.map_eq_some_iff] at h
      obtain ⟨ys, hy, rfl⟩ := h
      have := rows i ys hy
      simpa using this
    have hI1 := fun w' (hb' : Below w1.heap.size w1 w') => impl_CountPairings A1 c1 css w' (rc.up hb') (by omega) rows
    have hS1 := fun w' (hb' : Below w1.heap.size w1 w') => spec_CountPairings A1 c1 css w' (rc.up hb') (by omega) rows
    have hI2 : ∀ (w' : World) (B : Option Addr) (d : Nat), II64 w' w'.heap.size B css.tail → Calls Try.prog 27 #[.slice B (css.length - 1) d] w' fun e w2 => e = .returned (.tuple #[.int .i64 (fCnt css.tail).1, .int .i64 (fCnt css.tail).2]) ∧ Below w'.heap.size w' w2 := fun w' B d h => by
      have e : css.length - 1 = css.tail.length := by simp
      rw [e]; exact impl_CountPairings B d css.tail w' h (by simp; omega) rowsT
    have hI3 : ∀ (w' : World) (B : Option Addr) (d : Nat), II64 w' w'.heap.size B (zer css) → Calls Try.prog 27 #[.slice B css.length d] w' fun e w2 => e = .returned (.tuple #[.int .i64 (fCnt (zer css)).1, .int .i64 (fCnt (zer css)).2]) ∧ Below w'.heap.size w' w2 := fun w' B d h => by
      have h2 := impl_CountPairings B d (zer css) w' h (by rw [zer_len]; omega) rowsZ
      rw [zer_len] at h2; exact h2
    have hD := fun w' (hb' : Below w.heap.size w w') => spec_DrawAreCosts A c code w' (Rd.up hr hb') hb hl
    obtain ⟨nn, hnn⟩ : ∃ nn, nn = (fCnt css).1 := ⟨_, rfl⟩
    obtain ⟨nc, hnc⟩ : ∃ nc, nc = (fCnt css).2 := ⟨_, rfl⟩
    rw [← hnn, ← hnc] at hI1 hS1
    have n1 : (nn != nn) = false := by simp
    have n2 : (nc != nc) = false := by simp
    have H1 := Lib.hid hI1
    have K1 := Lib.hid hS1
    have H2 := Lib.hid hI2
    have H3 := Lib.hid hI3
    have DH := Lib.hid hD
    have nnH := Lib.hid hnn
    have ncH := Lib.hid hnc
    have rcH := Lib.hid rc
    have rowH := Lib.hid hd.2
    clear hI1 hS1 hI2 hI3 hD hnn hnc rc rows rowsT rowsZ oc hd hr hb
    go_wp2_with fail
    refine (H1.out _ (by repeat' (first | (with_reducible exact Below.refl _ _) | (with_reducible assumption) | (with_reducible refine Below.new ?_ _) | (with_reducible refine Below.alloc ?_ ?_ _) | (with_reducible refine Below.drew ?_) | (with_reducible refine below_drewN ?_ _) | (with_reducible refine Below.setCell ?_ ?_ _) | (refine Below.next ?_ (by with_reducible assumption)) | (refine Below.row ?_ (by with_reducible assumption) (by omega)) | (refine Below.trans ?_ (by with_reducible assumption)) | (refine Below.after ?_ ?_ (by with_reducible assumption)) | go_size))).mono ?_; rintro e w2 ⟨rfl, hbw2⟩; have hzw2 := hbw2.size; (try simp only [World.size_alloc, World.size_setCell, World.size_drew] at hzw2)
    repeat' (first | fail | go_values | go_skip | go_guarded | go_step | go_upon | (simp only []; go_step) | (go_ite <;> go_prune <;> (try go_simp)))
    refine (K1.out _ (by repeat' (first | (with_reducible exact Below.refl _ _) | (with_reducible assumption) | (with_reducible refine Below.new ?_ _) | (with_reducible refine Below.alloc ?_ ?_ _) | (with_reducible refine Below.drew ?_) | (with_reducible refine below_drewN ?_ _) | (with_reducible refine Below.setCell ?_ ?_ _) | (refine Below.next ?_ (by with_reducible assumption)) | (refine Below.row ?_ (by with_reducible assumption) (by omega)) | (refine Below.trans ?_ (by with_reducible assumption)) | (refine Below.after ?_ ?_ (by with_reducible assumption)) | go_size))).mono ?_; rintro e w3 ⟨rfl, hbw3⟩; have hzw3 := hbw3.size; (try simp only [World.size_alloc, World.size_setCell, World.size_drew] at hzw3)
    repeat' (first | fail | go_values | go_skip | go_guarded | go_step | go_upon | (simp only []; go_step) | (go_ite <;> go_prune <;> (try go_simp)))
    have B3 : Below w1.heap.size w1 w3 := by repeat' (first | (with_reducible exact Below.refl _ _) | (with_reducible assumption) | (with_reducible refine Below.new ?_ _) | (with_reducible refine Below.alloc ?_ ?_ _) | (with_reducible refine Below.drew ?_) | (with_reducible refine below_drewN ?_ _) | (with_reducible refine Below.setCell ?_ ?_ _) | (refine Below.next ?_ (by with_reducible assumption)) | (refine Below.row ?_ (by with_reducible assumption) (by omega)) | (refine Below.trans ?_ (by with_reducible assumption)) | (refine Below.after ?_ ?_ (by with_reducible assumption)) | go_size)
    have B03 : Below w.heap.size w w3 := hbw1.trans (B3.mono hbw1.size)
    refine (DH.out _ B03).mono ?_; rintro e w4 ⟨v4, css2, rfl, oc2, hd2, hbw4⟩; have hzw4 := hbw4.size; (try simp only [World.size_alloc, World.size_setCell, World.size_drew] at hzw4)
    obtain ⟨A4, c4, rfl⟩ := oc2.form
    have l72 := hd2.1
    have rows2 : ∀ (i : Nat) (xs : List Int), css2[i]? = some xs → xs.length ≤ 1099511627776 := fun i xs h => by have := hd2.2 i xs h; omega
    have hI8 := fun w' (hb' : Below w4.heap.size w4 w') => impl_AreCosts A4 c4 css2 w' (oc2.rd.2.up hb') (by omega) rows2
    have hS8 := fun w' (hb' : Below w4.heap.size w4 w') => spec_AreCosts A4 c4 css2 w' (oc2.rd.2.up hb') (by omega) rows2
    obtain ⟨bb, hbb⟩ : ∃ bb, bb = areB css2 := ⟨_, rfl⟩
    rw [← hbb] at hI8 hS8
    have n9 : (bb != bb) = false := by cases bb <;> rfl
    have H8 := Lib.hid hI8
    have K8 := Lib.hid hS8
    have B4 : Below w1.heap.size w1 w4 := B3.trans (hbw4.mono B3.size)
    clear hI8 hS8 hbb rows2 oc2 hd2 hbw2 hbw3 hzw2 hzw3 B3 B03
    repeat' (first | fail | go_values | go_skip | go_guarded | go_step | go_upon | (simp only []; go_step) | (go_ite <;> go_prune <;> (try go_simp)))
    refine (H8.out _ (by repeat' (first | (with_reducible exact Below.refl _ _) | (with_reducible assumption) | (with_reducible refine Below.new ?_ _) | (with_reducible refine Below.alloc ?_ ?_ _) | (with_reducible refine Below.drew ?_) | (with_reducible refine below_drewN ?_ _) | (with_reducible refine Below.setCell ?_ ?_ _) | (refine Below.next ?_ (by with_reducible assumption)) | (refine Below.row ?_ (by with_reducible assumption) (by omega)) | (refine Below.trans ?_ (by with_reducible assumption)) | (refine Below.after ?_ ?_ (by with_reducible assumption)) | go_size))).mono ?_; rintro e w5 ⟨rfl, hbw5⟩; have hzw5 := hbw5.size; (try simp only [World.size_alloc, World.size_setCell, World.size_drew] at hzw5)
    repeat' (first | fail | go_values | go_skip | go_guarded | go_step | go_upon | (simp only []; go_step) | (go_ite <;> go_prune <;> (try go_simp)))
    refine (K8.out _ (hbw5)).mono ?_; rintro e w6 ⟨rfl, hbw6⟩; have hzw6 := hbw6.size; (try simp only [World.size_alloc, World.size_setCell, World.size_drew] at hzw6)
    have B6 : Below w1.heap.size w1 w6 := B4.trans ((hbw5.trans (hbw6.mono hbw5.size)).mono B4.size)
    have B06 : Below w.heap.size w w6 := hbw1.trans (B6.mono hbw1.size)
    have rc6 := rcH.out.up B6
    clear hbw4 hbw5 hbw6 B4
    by_cases hz : nc = 0
    · have hA : areB css = true := by
        have := ncH.out
        rw [hz, fCnt] at this
        cases h : areB css
        · rw [h] at this; simp at this
        · rfl
      have e1 : nn = ((allP css).length : Int) := by rw [nnH.out, fCnt, hA]; rfl
      subst hz
      by_cases h0 : css.length = 0
      · have hcs : css = [] := List.eq_nil_of_length_eq_zero h0
        have e2 : nn = 1 := by rw [e1, hcs]; rfl
        have h0' : ((css.length : Int) == 0) = true := by simp [h0]
        have h0'' : (css.length == 0) = true := by simp [h0]
        clear H1 K1 H2 H3 DH nnH ncH rcH rowH h0 hcs e1 rc6
        subst e2
        repeat' (first | fail | go_values | go_skip | go_guarded | go_step | go_upon | (simp only []; go_step) | (go_ite <;> go_prune <;> (try go_simp)))
        all_goals go_returns
        all_goals exact ⟨rfl, B06⟩
      · have h0' : ((css.length : Int) == 0) = false := beq_eq_false_iff_ne.2 (by omega)
        have h0'' : (css.length == 0) = false := by simp [h0]
        obtain ⟨xs0, hx0⟩ := get_of_lt (xs := css) (k := 0) (by omega)
        have g0 : css.getD 0 [] = xs0 := by simp [List.getD, hx0]
        obtain ⟨z1, z2⟩ := zer_are hA
        rw [g0] at z2
        obtain ⟨a6, ar⟩ := are_facts hA
        have x6 := (ar 0 xs0 hx0).1
        obtain ⟨wa, wk⟩ := way_all css.length (by omega) xs0.length (by omega)
        have f2 : fCnt css.tail = (((allP css.tail).length : Int), 0) := by rw [fCnt, are_tail hA]; rfl
        have f3 : fCnt (zer css) = (totI css.length xs0.length (min css.length xs0.length + 1), 0) := by rw [fCnt, z1, ← z2]; rfl
        obtain ⟨lt, hlt⟩ : ∃ lt, lt = ((allP css.tail).length : Int) := ⟨_, rfl⟩
        have l1 : lt ≤ nn := by
          rw [hlt, e1]
          cases css with
          | nil => simp at h0
          | cons r rest => have := cnt_less (row := r) (rest := rest); simp only [List.tail_cons]; omega
        obtain ⟨tm, htm⟩ : ∃ tm, tm = totI css.length xs0.length (min css.length xs0.length + 1) := ⟨_, rfl⟩
        have l2 : nn ≤ tm := by
          rw [htm, ← z2, e1]
          have := allR_zer (rest := css) (ps := [])
          have h : (allP css).length ≤ (allP (zer css)).length := this
          omega
        rw [← hlt] at f2
        rw [← htm] at f3
        have hI2 : ∀ (w' : World) (B : Option Addr) (d : Nat), II64 w' w'.heap.size B css.tail → Calls Try.prog 27 #[.slice B (css.length - 1) d] w' fun e w2 => e = .returned (.tuple #[.int .i64 lt, .int .i64 0]) ∧ Below w'.heap.size w' w2 := fun w' B d h => by have := H2.out w' B d h; rw [f2] at this; exact this
        have hI3 : ∀ (w' : World) (B : Option Addr) (d : Nat), II64 w' w'.heap.size B (zer css) → Calls Try.prog 27 #[.slice B css.length d] w' fun e w2 => e = .returned (.tuple #[.int .i64 tm, .int .i64 0]) ∧ Below w'.heap.size w' w2 := fun w' B d h => by have := H3.out w' B d h; rw [f3] at this; exact this
        have G2 := Lib.hid hI2
        have G3 := Lib.hid hI3
        have wkH := Lib.hid wk
        have tmH := Lib.hid htm
        have x0H := Lib.hid hx0
        have hcl : 0 < css.length := by omega
        have hcl1 : (1 : Int) ≤ (css.length : Int) := by omega
        have hcc1 : (1 : Int) ≤ (c1 : Int) := by omega
        have hcc2 : (css.length : Int) ≤ (c1 : Int) := by omega
        have h1tail : css.length = 1 → css.tail = [] := fun h => List.eq_nil_of_length_eq_zero (by simp; omega)
        have tailH := Lib.hid h1tail
        obtain ⟨b, o, A', c', rfl, hbq, hcq, hiq⟩ := rc6.at_ hx0
        have hcq' : w6.cell? ⟨b, o, none⟩ = some (.slice A' xs0.length c') := by simpa using hcq
        clear H1 K1 H2 H3 DH nnH ncH hI2 hI3 wk htm hx0 g0 z1 z2 ar wa f2 f3 hlt e1 h0 h1tail hcq
        have hTL : ∀ w' (hb' : Below w6.heap.size w6 w'), II64 w' w'.heap.size (some ⟨b, o + 1, none⟩) css.tail := fun w' hb' => II64.tail (rc6.up hb')
        have hTLH := Lib.hid hTL
        clear hTL
        by_cases hc1 : c1 = 1
        all_goals
          have hc1H := Lib.hid hc1
          repeat' (first | fail | go_values | go_skip | go_guarded | go_step | go_upon | (simp only []; go_step) | (go_ite <;> go_prune <;> (try go_simp)))
          refine (G2.out w6 _ _ (by first | exact hTLH.out _ (Below.refl _ _) | (rw [tailH.out (by have := hc1H.out; omega)]; exact .inl rfl))).mono ?_
          rintro e w7 ⟨rfl, hbw7⟩
          clear hc1
          have rc7 := rc6.up hbw7
          have B7 : Below w.heap.size w w7 := B06.trans (hbw7.mono B06.size)
          repeat' (first | fail | go_values | go_skip | go_guarded | go_step | go_upon | (simp only []; go_step) | (go_ite <;> go_prune <;> (try go_simp)))
          go_loopw [11, 12] (fun x iv wr => ∃ (v : Value) (i : Nat), v = x ∧ i ≤ css.length ∧ iv = .int .i64 i ∧ OwnLL wr w7.heap.size wr.heap.size v (zer (css.take i)) ∧ Below w7.heap.size w7 wr) (fun _ iv _ => css.length - (intOf iv).toNat)
          case atStart => exact ⟨_, 0, rfl, Nat.zero_le _, rfl, (OwnLL.lit0 (Nat.le_refl _)).mono (Nat.le_refl _) (by simp), by repeat' (first | (with_reducible exact Below.refl _ _) | (with_reducible assumption) | (with_reducible refine Below.new ?_ _) | (with_reducible refine Below.alloc ?_ ?_ _) | (with_reducible refine Below.drew ?_) | (with_reducible refine below_drewN ?_ _) | (with_reducible refine Below.setCell ?_ ?_ _) | (refine Below.next ?_ (by with_reducible assumption)) | (refine Below.row ?_ (by with_reducible assumption) (by omega)) | (refine Below.trans ?_ (by with_reducible assumption)) | (refine Below.after ?_ ?_ (by with_reducible assumption)) | go_size)⟩
          case round =>
            obtain ⟨v, i, rfl, hi1, rfl, oZ, hbr⟩ := hrel
            have rcr := rc7.up hbr
            by_cases hlt : i < css.length
            · obtain ⟨xs, hx⟩ := get_of_lt hlt
              obtain ⟨b5, o5, A5, c5, eb, hb5, hc5, hi5⟩ := rcr.at_ hx
              simp only [Option.some.injEq, Addr.mk.injEq, and_true] at eb
              obtain ⟨eb1, eb2⟩ := eb
              subst eb1 eb2
              have hx7 := rowH.out i xs hx
              have p0 : (0 : Int) ≤ (i : Int) := by omega
              have p1 : (i : Int) < (css.length : Int) := by omega
              have hsn := Lib.hid (zer_snoc hx)
              have htl : (zer (css.take i)).length ≤ 1048576 := by rw [zer_len, List.length_take]; omega
              have hszr := hbr.size
              have hmr := fun (w12 : World) (hown12 : w12.ownsRow _ 2 1 (.slice (some ⟨_, 0, none⟩) xs.length xs.length) xs.length (madeCells (Value.int .i64 0).cells (xs.length * 1)).toList) (hg12 : World.grownBy _ w12 none) => mk_row oZ hown12 hg12
              have hmrH := Lib.hid hmr
              clear hx hmr
              go_wp2_with (first | (at_make; refine wpList_make_full _ rfl _ _ 27 rfl _ 2 i0 _ 1 Try.underlying27 hi hz0 hz1 .i64 .i64 _ _ xs.length rfl rfl rfl rfl (by rw [hz2]; omega) (by simp only [maxLen]; omega) (Nat.le_refl _) ?_; intro w12 hown12 hg12; have hm12 := hmrH.out w12 hown12 hg12; clear hown12 hg12; have B12 := hm12.1; have oR := hm12.2.1; have o12 := hm12.2.2; have hz12 := B12.size; clear hm12) | (at_builtin; refine push_row (lo := w7.heap.size) (by exact o12) (by exact oR) rfl _ _ rfl rfl rfl hszr hz12 htl ?_; intro v4 w9 o9 hg9 hb9))
              go_roundw
              case rel => exact ⟨_, i + 1, rfl, by omega, by go_num, by rw [hsn.out]; exact o9, (hbr.trans (B12.mono hszr)).trans hb9⟩
              case measure => simp [intOf]; omega
            · have ei : i = css.length := by omega
              have et : css.take i = css := List.take_of_length_le (by omega)
              have hzl : (zer (css.take i)).length = css.length := by rw [et, zer_len]
              obtain ⟨Az, cz, hv⟩ := oZ.form
              rw [hzl] at hv
              subst hv
              rw [et] at oZ
              have rZ := oZ.rd.2
              have hcr := bx_keep hbr (bx_keep hbw7 hcq')
              have B07 : Below w.heap.size w wr := B7.trans (hbr.mono B7.size)
              clear hzl et oZ rc7 rcr hbr ei
              go_wp2_with fail
              refine (G3.out _ _ _ (rZ.up (by repeat' (first | (with_reducible exact Below.refl _ _) | (with_reducible assumption) | (with_reducible refine Below.new ?_ _) | (with_reducible refine Below.alloc ?_ ?_ _) | (with_reducible refine Below.drew ?_) | (with_reducible refine below_drewN ?_ _) | (with_reducible refine Below.setCell ?_ ?_ _) | (refine Below.next ?_ (by with_reducible assumption)) | (refine Below.row ?_ (by with_reducible assumption) (by omega)) | (refine Below.trans ?_ (by with_reducible assumption)) | (refine Below.after ?_ ?_ (by with_reducible assumption)) | go_size)))).mono ?_; rintro e w14 ⟨rfl, hbw14⟩; have hzw14 := hbw14.size; (try simp only [World.size_alloc, World.size_setCell, World.size_drew] at hzw14)
              have hcW := bx_keep hbw14 hcr
              have B14 : Below w.heap.size w w14 := B07.trans (hbw14.mono B07.size)
              clear rZ hcr B07 B7 hbw7 hbw14
              have n7 : (tm == tm) = true := by simp
              repeat' (first | fail | go_values | go_skip | go_guarded | go_step | go_upon | (simp only []; go_step) | (go_ite <;> go_prune <;> (try go_simp)))
              go_quiet (fail)
              by_cases hm : (xs0.length : Int) < (css.length : Int)
              all_goals
                repeat' (first | fail | go_values | go_skip | go_guarded | go_step | go_upon | (simp only []; go_step) | (go_ite <;> go_prune <;> (try go_simp)))
                go_loopw [17, 18, 19] (fun tv wv kv wr => ∃ k : Nat, k ≤ min css.length xs0.length + 1 ∧ kv = .int .i64 k ∧ tv = .int .i64 (totI css.length xs0.length k) ∧ wv = .int .i64 (wayI css.length xs0.length k) ∧ Below w.heap.size w wr) (fun _ _ kv _ => 20 - (intOf kv).toNat)
                case atStart => exact ⟨0, by omega, rfl, rfl, rfl, by repeat' (first | (with_reducible exact Below.refl _ _) | (with_reducible assumption) | (with_reducible refine Below.new ?_ _) | (with_reducible refine Below.alloc ?_ ?_ _) | (with_reducible refine Below.drew ?_) | (with_reducible refine below_drewN ?_ _) | (with_reducible refine Below.setCell ?_ ?_ _) | (refine Below.next ?_ (by with_reducible assumption)) | (refine Below.row ?_ (by with_reducible assumption) (by omega)) | (refine Below.trans ?_ (by with_reducible assumption)) | (refine Below.after ?_ ?_ (by with_reducible assumption)) | go_size)⟩
                case round =>
                  obtain ⟨k, hk, rfl, rfl, rfl, hbk⟩ := hrel
                  obtain ⟨⟨q1, q2⟩, q3, q4⟩ := wkH.out k (by omega)
                  obtain ⟨W, hW⟩ : ∃ W, W = wayI css.length xs0.length k := ⟨_, rfl⟩
                  obtain ⟨T, hT⟩ : ∃ T, T = totI css.length xs0.length k := ⟨_, rfl⟩
                  rw [← hW] at q1 q2 ⊢
                  rw [← hT] at q3 q4 ⊢
                  have hWH := Lib.hid hW
                  have hTH := Lib.hid hT
                  clear hW hT
                  by_cases hlt : k ≤ min css.length xs0.length
                  · have d1 : 0 ≤ (css.length : Int) - (k : Int) ∧ (css.length : Int) - (k : Int) ≤ 7 := by omega
                    have d2 : 0 ≤ (xs0.length : Int) - (k : Int) ∧ (xs0.length : Int) - (k : Int) ≤ 7 := by omega
                    have m1 : 0 ≤ W * ((css.length : Int) - (k : Int)) ∧ W * ((css.length : Int) - (k : Int)) ≤ 10000 * 7 := ⟨Int.mul_nonneg q1 d1.1, Int.mul_le_mul q2 d1.2 d1.1 (by omega)⟩
                    have m2 : 0 ≤ W * ((css.length : Int) - (k : Int)) * ((xs0.length : Int) - (k : Int)) ∧ W * ((css.length : Int) - (k : Int)) * ((xs0.length : Int) - (k : Int)) ≤ 70000 * 7 := ⟨Int.mul_nonneg m1.1 d2.1, Int.mul_le_mul (by omega) d2.2 d2.1 (by omega)⟩
                    have t1 : (k : Int) ≤ (css.length : Int) := by omega
                    have t2 : (k : Int) ≤ (xs0.length : Int) := by omega
                    have kp : (0 : Int) < (k : Int) + 1 := by omega
                    repeat' (first | fail | go_values | go_skip | go_guarded | go_step | go_upon | (simp only []; go_step) | (go_ite <;> go_prune <;> (try go_simp)))
                    all_goals exact ⟨⟨k + 1, by omega, by go_num, by rw [hTH.out, hWH.out]; rfl, by rw [hWH.out]; rfl, hbk⟩, by simp [intOf]; omega⟩
                  · have ek : k = min css.length xs0.length + 1 := by omega
                    have eT : T = tm := by rw [hTH.out, tmH.out, ek]
                    have t1 : ¬ ((k : Int) ≤ (css.length : Int) ∧ (k : Int) ≤ (xs0.length : Int)) := by omega
                    subst eT
                    clear ek tmH hTH hWH
                    repeat' (first | fail | go_values | go_skip | go_guarded | go_step | go_upon | (simp only []; go_step) | (go_ite <;> go_prune <;> (try go_simp)))
                    all_goals go_returns
                    all_goals exact ⟨rfl, hbk⟩
    · have hz' : (nc != 0) = true := by simpa using hz
      clear hz
      repeat' (first | fail | go_values | go_skip | go_guarded | go_step | go_upon | (simp only []; go_step) | (go_ite <;> go_prune <;> (try go_simp)))
      all_goals go_returns
      all_goals exact ⟨rfl, B06⟩
  · have hd : decide (4096 < (code.length : Int)) = true := by simp; omega
    go_enter Try.func7, Try.ntmps7
    go_wp2_with (first | (go_at_call 28; refine (laws_big _ _ _ _).mono ?_; rintro e w' ⟨rfl, rfl⟩) | fail)
    all_goals go_returns
    all_goals exact ⟨rfl, Below.refl _ _⟩
end Go.Proofs.Ytdomghjdnnnifaa
