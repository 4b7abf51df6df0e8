/- The draws of the assignment chapter: contracts of a miss, of pairs, of the laws' draws. -/
import Derived.Test.YtdomghjdnnnifaaDrC
namespace Go.Proofs.Ytdomghjdnnnifaa
open Go.RowKit Go.ChangeShapes Go.WideShapes Go.ChangeAt
set_option linter.unusedVariables false
set_option linter.unusedSimpArgs false
theorem Below.row {w W w1 : World} {g : Nat} (h : Below w.heap.size w W) (hg : W.grownBy w1 (some g)) (hB : w.heap.size ≤ g) : Below w.heap.size w w1 :=
  h.trans ⟨hg.os, hg.tape, hg.output, hg.size, fun i hi => hg.block i (by have := h.size; omega) (by simp; omega)⟩
theorem spec_l15DrawMiss (B g : Nat) (w : World) (hs : Src w B g) :
    Calls Try.prog 72 #[.pointer (some ⟨g, 0, none⟩)] w fun e w' => ∃ r, e = .returned (.int .i64 r) ∧ (-1 ≤ r ∧ r ≤ 1000000000001) ∧ Src w' B g ∧ w.grownBy w' (some g) := by
  go_enter Try.func72, Try.ntmps72
  go_wp2_with (first | (go_at_call 80; refine (spec_l01Next _ _ _ _ (by first | assumption | exact Src.alloc (by assumption) _ | exact Src.drewN (by assumption) _) (by omega)).mono ?_; rintro e w1 ⟨r1, rfl, ⟨hr1, ht1⟩, hs1, hg1⟩) | (go_at_call 81; (first | (with_reducible refine (pick2 _ _ _ _ _ _ (by exact Src.alloc (by assumption) _) (by exact heap_alloc_new _ _) (by have := Src.lt (by assumption); omega)).mono ?_) | (with_reducible refine (pick3 _ _ _ _ _ _ _ (by exact Src.alloc (by assumption) _) (by exact heap_alloc_new _ _) (by have := Src.lt (by assumption); omega)).mono ?_) | (with_reducible refine (pick4 _ _ _ _ _ _ _ _ (by exact Src.alloc (by assumption) _) (by exact heap_alloc_new _ _) (by have := Src.lt (by assumption); omega)).mono ?_) | (with_reducible refine (pick5 _ _ _ _ _ _ _ _ _ (by exact Src.alloc (by assumption) _) (by exact heap_alloc_new _ _) (by have := Src.lt (by assumption); omega)).mono ?_) | (with_reducible refine (pick6 _ _ _ _ _ _ _ _ _ _ (by exact Src.alloc (by assumption) _) (by exact heap_alloc_new _ _) (by have := Src.lt (by assumption); omega)).mono ?_) | (with_reducible refine (pick7 _ _ _ _ _ _ _ _ _ _ _ (by exact Src.alloc (by assumption) _) (by exact heap_alloc_new _ _) (by have := Src.lt (by assumption); omega)).mono ?_)); rintro e w1 ⟨r1, rfl, hm1, hs1, hg1⟩))
  all_goals go_ret
  all_goals exact ⟨_, rfl, by omega, hs1, (by repeat' (first | (with_reducible exact World.grownBy.refl _ _) | (with_reducible assumption) | (with_reducible refine grownBy_drewN ?_ _) | (with_reducible refine grownBy_set ?_ _ _) | (with_reducible refine grownBy_alloc' ?_ _) | (refine grownBy_trans ?_ (by with_reducible assumption)) | (refine grownBy_next ?_ (by with_reducible assumption))))⟩
set_option maxRecDepth 100000 in
set_option maxHeartbeats 1600000 in
theorem spec_l15DrawPairs (B g lo hi n c : Nat) (A : Option Addr) (css : List (List Int)) (w : World) (hs : Src w B g) (ho : OwnLL w lo hi (.slice A n c) css) (hlo : g < lo) (hd : drnP css) :
    Calls Try.prog 73 #[.pointer (some ⟨g, 0, none⟩), .slice A n c] w fun e w' => ∃ v ps, e = .returned v ∧ OwnI w' w.heap.size v ps ∧ ps.length ≤ 8 ∧ OwnLL w' lo hi (.slice A n c) css ∧ Src w' B g ∧ w.grownBy w' (some g) := by
  obtain ⟨rfl, _⟩ := ho.rd
  have hgl := hs.lt
  have hl7 := hd.1
  have hdH := Lib.hid hd.2
  have hoH := Lib.hid ho
  clear hd ho
  go_enter Try.func73, Try.ntmps73
  go_wp2_with fail
  go_loopw [5, 6] (fun x iv wr => ∃ (v : Value) (i : Nat) (ps : List Int), v = x ∧ i ≤ css.length ∧ iv = .int .i64 i ∧ Hid (ps.length = i) ∧ OwnI wr w.heap.size v ps ∧ Src wr B g ∧ w.grownBy wr (some g)) (fun _ iv _ => css.length - (intOf iv).toNat)
  case atStart => exact ⟨_, 0, [], rfl, Nat.zero_le _, rfl, rfl, OwnI.lit0 (Nat.le_refl _), hs.alloc _, (by repeat' (first | (with_reducible exact World.grownBy.refl _ _) | (with_reducible assumption) | (with_reducible refine grownBy_drewN ?_ _) | (with_reducible refine grownBy_set ?_ _ _) | (with_reducible refine grownBy_alloc' ?_ _) | (refine grownBy_trans ?_ (by with_reducible assumption)) | (refine grownBy_next ?_ (by with_reducible assumption))))⟩
  case round =>
    obtain ⟨v, i, ps, rfl, hi1, rfl, hpl, oP, hsr, hgr⟩ := hrel
    have hszW := hgr.size
    have hpl7 : ps.length ≤ 7 := by have := hpl.out; omega
    by_cases hlt : i < css.length
    · obtain ⟨xs, hx⟩ := get_of_lt hlt
      have hxl := hdH.out i xs hx
      have cnr := fun (w1 : World) (hg1 : w.grownBy w1 (some g)) => (hoH.out.far hg1 hlo).row hx
      have cnrH := Lib.hid cnr
      obtain ⟨gq, A', c', rfl, hgq, hc, oX⟩ := cnr _ hgr
      have p0 : (0 : Int) ≤ (i : Int) := by omega
      have p1 : (i : Int) < (css.length : Int) := by omega
      clear hx cnr
      go_wp2_with fail
      refine (spec_l01Next _ _ _ _ hsr (by omega)).mono ?_
      rintro e w5 ⟨r5, rfl, ⟨hr5, ht5⟩, hs5, hg5⟩
      have G5 : w.grownBy w5 (some g) := (by repeat' (first | (with_reducible exact World.grownBy.refl _ _) | (with_reducible assumption) | (with_reducible refine grownBy_drewN ?_ _) | (with_reducible refine grownBy_set ?_ _ _) | (with_reducible refine grownBy_alloc' ?_ _) | (refine grownBy_trans ?_ (by with_reducible assumption)) | (refine grownBy_next ?_ (by with_reducible assumption))))
      have o5 := oP.far hg5 hgl.2
      obtain ⟨gq', A2, c2, eg, hgq2, hc2, oX2⟩ := cnrH.out _ G5
      simp only [Option.some.injEq, Addr.mk.injEq, and_true] at eg
      subst eg
      have hz5 := G5.size
      clear hc oX hg5 oP hsr hgr
      by_cases k0 : r5 = 0
      · subst k0
        go_wp2_with (at_builtin; refine push_int o5 rfl _ _ rfl rfl rfl G5.size (by omega) ?_; intro v9 w9 o9 hg9 hb9)
        have hs9 : Src w9 B g := hs5.other hg9 (fun k hk => by have := o5.lt k hk; omega)
        go_roundw
        case rel => exact ⟨_, i + 1, _, rfl, by omega, by go_num, by have := hpl.out; simp [Hid, this], o9, hs9, grown_past G5 hb9⟩
        case measure => simp [intOf]; omega
      · obtain ⟨m, rfl⟩ : ∃ m : Nat, r5 = (m : Int) + 1 := ⟨(r5 - 1).toNat, by omega⟩
        have hm : m < xs.length := by omega
        obtain ⟨y, hy⟩ := get_of_lt hm
        obtain ⟨b3, o3, rfl, hb3, hc3⟩ := oX2.reads.2.at_ hy
        have m0 : (0 : Int) ≤ (m : Int) := by omega
        have m1 : (m : Int) < (xs.length : Int) := by omega
        have me : (m : Int) + 1 - 1 = (m : Int) := by omega
        clear hy
        by_cases y0 : y < 0
        · go_wp2_with fail
          refine (spec_l01Next _ _ _ _ hs5 (by omega)).mono ?_
          rintro e w6 ⟨r6, rfl, ⟨hr6, ht6⟩, hs6, hg6⟩
          have G6 : w.grownBy w6 (some g) := (by repeat' (first | (with_reducible exact World.grownBy.refl _ _) | (with_reducible assumption) | (with_reducible refine grownBy_drewN ?_ _) | (with_reducible refine grownBy_set ?_ _ _) | (with_reducible refine grownBy_alloc' ?_ _) | (refine grownBy_trans ?_ (by with_reducible assumption)) | (refine grownBy_next ?_ (by with_reducible assumption))))
          have o6 := o5.far hg6 hgl.2
          have hz6 := G6.size
          clear hg6
          by_cases r0 : r6 = 0
          · subst r0
            go_wp2_with (at_builtin; refine push_int o6 rfl _ _ rfl rfl rfl G6.size (by omega) ?_; intro v9 w9 o9 hg9 hb9)
            have hs9 : Src w9 B g := hs6.other hg9 (fun k hk => by have := o6.lt k hk; omega)
            go_roundw
            case rel => exact ⟨_, i + 1, _, rfl, by omega, by go_num, by have := hpl.out; simp [Hid, this], o9, hs9, grown_past G6 hb9⟩
            case measure => simp [intOf]; omega
          · have r1 : 0 < r6 := by omega
            go_wp2_with (at_builtin; refine push_int o6 rfl _ _ rfl rfl rfl G6.size (by omega) ?_; intro v9 w9 o9 hg9 hb9)
            have hs9 : Src w9 B g := hs6.other hg9 (fun k hk => by have := o6.lt k hk; omega)
            go_roundw
            case rel => exact ⟨_, i + 1, _, rfl, by omega, by go_num, by have := hpl.out; simp [Hid, this], o9, hs9, grown_past G6 hb9⟩
            case measure => simp [intOf]; omega
        · cases hb : decide ((m : Int) ∈ ps)
          · obtain ⟨Ap, cp, rfl, _⟩ := id o5
            go_wp2_with (first | (go_at_call 69; refine (spec_l01HasB _ _ _ _ _ _ o5.reads.2 (by omega) hb).mono ?_; rintro e w' ⟨rfl, rfl⟩) | (at_builtin; refine push_int o5 rfl _ _ rfl rfl rfl G5.size (by omega) ?_; intro v9 w9 o9 hg9 hb9))
            have hs9 : Src w9 B g := hs5.other hg9 (fun k hk => by have := o5.lt k hk; omega)
            go_roundw
            case rel => exact ⟨_, i + 1, _, rfl, by omega, by go_num, by have := hpl.out; simp [Hid, this], o9, hs9, grown_past G5 hb9⟩
            case measure => simp [intOf]; omega
          · obtain ⟨Ap, cp, rfl, _⟩ := id o5
            go_wp2_with (first | (go_at_call 69; refine (spec_l01HasB _ _ _ _ _ _ o5.reads.2 (by omega) hb).mono ?_; rintro e w' ⟨rfl, rfl⟩) | fail)
            refine (spec_l01Next _ _ _ _ hs5 (by omega)).mono ?_
            rintro e w6 ⟨r6, rfl, ⟨hr6, ht6⟩, hs6, hg6⟩
            have G6 : w.grownBy w6 (some g) := (by repeat' (first | (with_reducible exact World.grownBy.refl _ _) | (with_reducible assumption) | (with_reducible refine grownBy_drewN ?_ _) | (with_reducible refine grownBy_set ?_ _ _) | (with_reducible refine grownBy_alloc' ?_ _) | (refine grownBy_trans ?_ (by with_reducible assumption)) | (refine grownBy_next ?_ (by with_reducible assumption))))
            have o6 := o5.far hg6 hgl.2
            have hz6 := G6.size
            clear hg6
            by_cases r0 : r6 = 0
            · subst r0
              go_wp2_with (at_builtin; refine push_int o6 rfl _ _ rfl rfl rfl G6.size (by omega) ?_; intro v9 w9 o9 hg9 hb9)
              have hs9 : Src w9 B g := hs6.other hg9 (fun k hk => by have := o6.lt k hk; omega)
              go_roundw
              case rel => exact ⟨_, i + 1, _, rfl, by omega, by go_num, by have := hpl.out; simp [Hid, this], o9, hs9, grown_past G6 hb9⟩
              case measure => simp [intOf]; omega
            · have r1 : 0 < r6 := by omega
              go_wp2_with (at_builtin; refine push_int o6 rfl _ _ rfl rfl rfl G6.size (by omega) ?_; intro v9 w9 o9 hg9 hb9)
              have hs9 : Src w9 B g := hs6.other hg9 (fun k hk => by have := o6.lt k hk; omega)
              go_roundw
              case rel => exact ⟨_, i + 1, _, rfl, by omega, by go_num, by have := hpl.out; simp [Hid, this], o9, hs9, grown_past G6 hb9⟩
              case measure => simp [intOf]; omega
    · obtain ⟨Av, cv, rfl, _⟩ := id oP
      go_wp2_with fail
      refine (spec_l01Next _ _ _ _ hsr (by omega)).mono ?_
      rintro e w6 ⟨r6, rfl, ⟨hr6, ht6⟩, hs6, hg6⟩
      have G6 : w.grownBy w6 (some g) := (by repeat' (first | (with_reducible exact World.grownBy.refl _ _) | (with_reducible assumption) | (with_reducible refine grownBy_drewN ?_ _) | (with_reducible refine grownBy_set ?_ _ _) | (with_reducible refine grownBy_alloc' ?_ _) | (refine grownBy_trans ?_ (by with_reducible assumption)) | (refine grownBy_next ?_ (by with_reducible assumption))))
      have o6 := oP.far hg6 hgl.2
      have hz6 := G6.size
      clear hg6
      by_cases r0 : r6 = 0
      · subst r0
        go_wp2_with (at_builtin; refine push_int o6 rfl _ _ rfl rfl rfl hz6 (by omega) ?_; intro v9 w9 o9 hg9 hb9)
        have hs9 : Src w9 B g := hs6.other hg9 (fun k hk => by have := o6.lt k hk; omega)
        have G9 := grown_past G6 hb9
        have oc9 := hoH.out.far G9 hlo
        obtain ⟨A9, c9, rfl, _⟩ := id o9
        all_goals go_returns
        exact ⟨_, _, rfl, o9, by simp; omega, oc9, hs9, G9⟩
      · have e0 : (r6 == 0) = false := by simpa using r0
        go_wp2_with fail
        all_goals go_returns
        exact ⟨_, ps, rfl, o6, by omega, hoH.out.far G6 hlo, hs6, G6⟩
set_option maxHeartbeats 800000 in
theorem spec_DrawSumOfPairs (A : Option Addr) (c : Nat) (code : List Int) (w : World) (hr : U8 w w.heap.size A code) (hb : ∀ x ∈ code, 0 ≤ x ∧ x ≤ 255) (hl : code.length ≤ 4096) :
    Calls Try.prog 44 #[.slice A code.length c] w fun e w' => ∃ v css r u ps, e = .returned (.tuple #[v, .int .i64 r, u]) ∧ OwnLL w' w.heap.size w'.heap.size v css ∧ drnP css ∧ OwnI w' w.heap.size u ps ∧ ps.length ≤ 8 ∧ (-1 ≤ r ∧ r ≤ 1000000000001) ∧ Below w.heap.size w w' := by
  go_enter Try.func44, Try.ntmps44
  go_wp2_with (first | (go_at_call 60; refine (spec_l01From _ _ _ _ hr hb hl).mono ?_; rintro e w1 ⟨g, rfl, hg0, hs1, hb1⟩))
  have hsz1 := hb1.size
  have hgl := hs1.lt
  refine (spec_l15Draw _ _ _ hs1).mono ?_
  rintro e w2 ⟨v2, css, rfl, o2, hd2, hs2, hg2⟩
  have B2 : Below w.heap.size w w2 := by repeat' (first | (with_reducible exact Below.refl _ _) | (with_reducible assumption) | (with_reducible refine Below.new ?_ _) | (with_reducible refine Below.alloc ?_ ?_ _) | (with_reducible refine Below.drew ?_) | (with_reducible refine below_drewN ?_ _) | (with_reducible refine Below.setCell ?_ ?_ _) | (refine Below.next ?_ (by with_reducible assumption)) | (refine Below.row ?_ (by with_reducible assumption) (by omega)) | (refine Below.trans ?_ (by with_reducible assumption)) | (refine Below.after ?_ ?_ (by with_reducible assumption)) | go_size)
  have z2 := hg2.size
  clear hg2 hb1
  obtain ⟨A2, c2, rfl⟩ := o2.form
  go_wp2_with fail
  refine (spec_l15DrawMiss _ _ _ hs2).mono ?_
  rintro e w3 ⟨r3, rfl, hr3, hs3, hg3⟩
  have B3 : Below w.heap.size w w3 := by repeat' (first | (with_reducible exact Below.refl _ _) | (with_reducible assumption) | (with_reducible refine Below.new ?_ _) | (with_reducible refine Below.alloc ?_ ?_ _) | (with_reducible refine Below.drew ?_) | (with_reducible refine below_drewN ?_ _) | (with_reducible refine Below.setCell ?_ ?_ _) | (refine Below.next ?_ (by with_reducible assumption)) | (refine Below.row ?_ (by with_reducible assumption) (by omega)) | (refine Below.trans ?_ (by with_reducible assumption)) | (refine Below.after ?_ ?_ (by with_reducible assumption)) | go_size)
  have o3 := o2.far hg3 hgl.2
  have z3 := hg3.size
  clear hg3 B2 o2
  go_wp2_with fail
  refine (spec_l15DrawPairs _ _ _ _ _ _ _ _ _ hs3 o3 hgl.2 hd2).mono ?_
  rintro e w4 ⟨v4, ps, rfl, o4, hp4, oc4, hs4, hg4⟩
  have B4 : Below w.heap.size w w4 := by repeat' (first | (with_reducible exact Below.refl _ _) | (with_reducible assumption) | (with_reducible refine Below.new ?_ _) | (with_reducible refine Below.alloc ?_ ?_ _) | (with_reducible refine Below.drew ?_) | (with_reducible refine below_drewN ?_ _) | (with_reducible refine Below.setCell ?_ ?_ _) | (refine Below.next ?_ (by with_reducible assumption)) | (refine Below.row ?_ (by with_reducible assumption) (by omega)) | (refine Below.trans ?_ (by with_reducible assumption)) | (refine Below.after ?_ ?_ (by with_reducible assumption)) | go_size)
  have z4 := hg4.size
  clear hg4
  go_wp2_with fail
  all_goals go_returns
  all_goals exact ⟨_, css, _, _, ps, rfl, oc4.mono (by omega) (by omega), hd2, o4.mono (by omega), hp4, hr3, B4⟩
set_option maxHeartbeats 800000 in
theorem spec_DrawBestPairs (A : Option Addr) (c : Nat) (code : List Int) (w : World) (hr : U8 w w.heap.size A code) (hb : ∀ x ∈ code, 0 ≤ x ∧ x ≤ 255) (hl : code.length ≤ 4096) :
    Calls Try.prog 74 #[.slice A code.length c] w fun e w' => ∃ v css r, e = .returned (.tuple #[v, .int .i64 r]) ∧ OwnLL w' w.heap.size w'.heap.size v css ∧ drnP css ∧ (-1 ≤ r ∧ r ≤ 1000000000001) ∧ Below w.heap.size w w' := by
  go_enter Try.func74, Try.ntmps74
  go_wp2_with (first | (go_at_call 60; refine (spec_l01From _ _ _ _ hr hb hl).mono ?_; rintro e w1 ⟨g, rfl, hg0, hs1, hb1⟩))
  have hsz1 := hb1.size
  have hgl := hs1.lt
  refine (spec_l15Draw _ _ _ hs1).mono ?_
  rintro e w2 ⟨v2, css, rfl, o2, hd2, hs2, hg2⟩
  have B2 : Below w.heap.size w w2 := by repeat' (first | (with_reducible exact Below.refl _ _) | (with_reducible assumption) | (with_reducible refine Below.new ?_ _) | (with_reducible refine Below.alloc ?_ ?_ _) | (with_reducible refine Below.drew ?_) | (with_reducible refine below_drewN ?_ _) | (with_reducible refine Below.setCell ?_ ?_ _) | (refine Below.next ?_ (by with_reducible assumption)) | (refine Below.row ?_ (by with_reducible assumption) (by omega)) | (refine Below.trans ?_ (by with_reducible assumption)) | (refine Below.after ?_ ?_ (by with_reducible assumption)) | go_size)
  have z2 := hg2.size
  clear hg2 hb1
  obtain ⟨A2, c2, rfl⟩ := o2.form
  go_wp2_with fail
  refine (spec_l15DrawMiss _ _ _ hs2).mono ?_
  rintro e w3 ⟨r3, rfl, hr3, hs3, hg3⟩
  have B3 : Below w.heap.size w w3 := by repeat' (first | (with_reducible exact Below.refl _ _) | (with_reducible assumption) | (with_reducible refine Below.new ?_ _) | (with_reducible refine Below.alloc ?_ ?_ _) | (with_reducible refine Below.drew ?_) | (with_reducible refine below_drewN ?_ _) | (with_reducible refine Below.setCell ?_ ?_ _) | (refine Below.next ?_ (by with_reducible assumption)) | (refine Below.row ?_ (by with_reducible assumption) (by omega)) | (refine Below.trans ?_ (by with_reducible assumption)) | (refine Below.after ?_ ?_ (by with_reducible assumption)) | go_size)
  have o3 := o2.far hg3 hgl.2
  have z3 := hg3.size
  clear hg3 B2 o2
  go_wp2_with fail
  all_goals go_returns
  all_goals exact ⟨_, css, _, rfl, o3.mono (by omega) (by omega), hd2, hr3, B3⟩
theorem spec_DrawGreedyPairs (A : Option Addr) (c : Nat) (code : List Int) (w : World) (hr : U8 w w.heap.size A code) (hb : ∀ x ∈ code, 0 ≤ x ∧ x ≤ 255) (hl : code.length ≤ 4096) :
    Calls Try.prog 46 #[.slice A code.length c] w fun e w' => ∃ v css r, e = .returned (.tuple #[v, .int .i64 r]) ∧ OwnLL w' w.heap.size w'.heap.size v css ∧ drnP css ∧ (-1 ≤ r ∧ r ≤ 1000000000001) ∧ Below w.heap.size w w' := by
  go_enter Try.func46, Try.ntmps46
  go_wp2_with fail
  refine (spec_DrawBestPairs _ _ _ _ hr hb hl).mono ?_
  rintro e w2 ⟨v2, css, r, rfl, o2, hd2, hr2, hb2⟩
  obtain ⟨A2, c2, rfl⟩ := o2.form
  go_wp2_with fail
  all_goals go_returns
  all_goals exact ⟨_, css, _, rfl, o2, hd2, hr2, hb2⟩
set_option maxHeartbeats 800000 in
theorem spec_DrawIsPairing (A : Option Addr) (c : Nat) (code : List Int) (w : World) (hr : U8 w w.heap.size A code) (hb : ∀ x ∈ code, 0 ≤ x ∧ x ≤ 255) (hl : code.length ≤ 4096) :
    Calls Try.prog 75 #[.slice A code.length c] w fun e w' => ∃ v css u ps, e = .returned (.tuple #[v, u]) ∧ OwnLL w' w.heap.size w'.heap.size v css ∧ drnP css ∧ OwnI w' w.heap.size u ps ∧ ps.length ≤ 8 ∧ Below w.heap.size w w' := by
  go_enter Try.func75, Try.ntmps75
  go_wp2_with (first | (go_at_call 60; refine (spec_l01From _ _ _ _ hr hb hl).mono ?_; rintro e w1 ⟨g, rfl, hg0, hs1, hb1⟩))
  have hsz1 := hb1.size
  have hgl := hs1.lt
  refine (spec_l15Draw _ _ _ hs1).mono ?_
  rintro e w2 ⟨v2, css, rfl, o2, hd2, hs2, hg2⟩
  have B2 : Below w.heap.size w w2 := by repeat' (first | (with_reducible exact Below.refl _ _) | (with_reducible assumption) | (with_reducible refine Below.new ?_ _) | (with_reducible refine Below.alloc ?_ ?_ _) | (with_reducible refine Below.drew ?_) | (with_reducible refine below_drewN ?_ _) | (with_reducible refine Below.setCell ?_ ?_ _) | (refine Below.next ?_ (by with_reducible assumption)) | (refine Below.row ?_ (by with_reducible assumption) (by omega)) | (refine Below.trans ?_ (by with_reducible assumption)) | (refine Below.after ?_ ?_ (by with_reducible assumption)) | go_size)
  have z2 := hg2.size
  clear hg2 hb1
  obtain ⟨A2, c2, rfl⟩ := o2.form
  go_wp2_with fail
  refine (spec_l15DrawPairs _ _ _ _ _ _ _ _ _ hs2 o2 hgl.2 hd2).mono ?_
  rintro e w4 ⟨v4, ps, rfl, o4, hp4, oc4, hs4, hg4⟩
  have B4 : Below w.heap.size w w4 := by repeat' (first | (with_reducible exact Below.refl _ _) | (with_reducible assumption) | (with_reducible refine Below.new ?_ _) | (with_reducible refine Below.alloc ?_ ?_ _) | (with_reducible refine Below.drew ?_) | (with_reducible refine below_drewN ?_ _) | (with_reducible refine Below.setCell ?_ ?_ _) | (refine Below.next ?_ (by with_reducible assumption)) | (refine Below.row ?_ (by with_reducible assumption) (by omega)) | (refine Below.trans ?_ (by with_reducible assumption)) | (refine Below.after ?_ ?_ (by with_reducible assumption)) | go_size)
  have z4 := hg4.size
  clear hg4
  go_wp2_with fail
  all_goals go_returns
  all_goals exact ⟨_, css, _, ps, rfl, oc4.mono (by omega) (by omega), hd2, o4.mono (by omega), hp4, B4⟩
theorem spec_DrawFreeContacts (A : Option Addr) (c : Nat) (code : List Int) (w : World) (hr : U8 w w.heap.size A code) (hb : ∀ x ∈ code, 0 ≤ x ∧ x ≤ 255) (hl : code.length ≤ 4096) :
    Calls Try.prog 47 #[.slice A code.length c] w fun e w' => ∃ v css u ps, e = .returned (.tuple #[v, u]) ∧ OwnLL w' w.heap.size w'.heap.size v css ∧ drnP css ∧ OwnI w' w.heap.size u ps ∧ ps.length ≤ 8 ∧ Below w.heap.size w w' := by
  go_enter Try.func47, Try.ntmps47
  go_wp2_with fail
  refine (spec_DrawIsPairing _ _ _ _ hr hb hl).mono ?_
  rintro e w2 ⟨v2, css, u, ps, rfl, o2, hd2, op, hp, hb2⟩
  obtain ⟨A2, c2, rfl⟩ := o2.form
  obtain ⟨A3, c3, rfl, _⟩ := id op
  go_wp2_with fail
  all_goals go_returns
  all_goals exact ⟨_, css, _, ps, rfl, o2, hd2, op, hp, hb2⟩
theorem spec_DrawCountPairings (A : Option Addr) (c : Nat) (code : List Int) (w : World) (hr : U8 w w.heap.size A code) (hb : ∀ x ∈ code, 0 ≤ x ∧ x ≤ 255) (hl : code.length ≤ 4096) :
    Calls Try.prog 29 #[.slice A code.length c] w fun e w' => ∃ v css, e = .returned v ∧ OwnLL w' w.heap.size w'.heap.size v css ∧ drnP css ∧ Below w.heap.size w w' := by
  go_enter Try.func29, Try.ntmps29
  go_wp2_with (first | (go_at_call 60; refine (spec_l01From _ _ _ _ hr hb hl).mono ?_; rintro e w1 ⟨g, rfl, hg0, hs1, hb1⟩))
  have hsz1 := hb1.size
  have hgl := hs1.lt
  refine (spec_l15Draw _ _ _ hs1).mono ?_
  rintro e w2 ⟨v2, css, rfl, o2, hd2, hs2, hg2⟩
  have B2 : Below w.heap.size w w2 := by repeat' (first | (with_reducible exact Below.refl _ _) | (with_reducible assumption) | (with_reducible refine Below.new ?_ _) | (with_reducible refine Below.alloc ?_ ?_ _) | (with_reducible refine Below.drew ?_) | (with_reducible refine below_drewN ?_ _) | (with_reducible refine Below.setCell ?_ ?_ _) | (refine Below.next ?_ (by with_reducible assumption)) | (refine Below.row ?_ (by with_reducible assumption) (by omega)) | (refine Below.trans ?_ (by with_reducible assumption)) | (refine Below.after ?_ ?_ (by with_reducible assumption)) | go_size)
  have z2 := hg2.size
  clear hg2 hb1
  obtain ⟨A2, c2, rfl⟩ := o2.form
  go_wp2_with fail
  all_goals go_returns
  all_goals exact ⟨_, css, rfl, o2.mono (by omega) (Nat.le_refl _), hd2, B2⟩
theorem spec_DrawAreCosts (A : Option Addr) (c : Nat) (code : List Int) (w : World) (hr : U8 w w.heap.size A code) (hb : ∀ x ∈ code, 0 ≤ x ∧ x ≤ 255) (hl : code.length ≤ 4096) :
    Calls Try.prog 30 #[.slice A code.length c] w fun e w' => ∃ v css, e = .returned v ∧ OwnLL w' w.heap.size w'.heap.size v css ∧ drnP css ∧ Below w.heap.size w w' := by
  go_enter Try.func30, Try.ntmps30
  go_wp2_with (first | (go_at_call 60; refine (spec_l01From _ _ _ _ hr hb hl).mono ?_; rintro e w1 ⟨g, rfl, hg0, hs1, hb1⟩))
  have hsz1 := hb1.size
  have hgl := hs1.lt
  refine (spec_l15Draw _ _ _ hs1).mono ?_
  rintro e w2 ⟨v2, css, rfl, o2, hd2, hs2, hg2⟩
  have B2 : Below w.heap.size w w2 := by repeat' (first | (with_reducible exact Below.refl _ _) | (with_reducible assumption) | (with_reducible refine Below.new ?_ _) | (with_reducible refine Below.alloc ?_ ?_ _) | (with_reducible refine Below.drew ?_) | (with_reducible refine below_drewN ?_ _) | (with_reducible refine Below.setCell ?_ ?_ _) | (refine Below.next ?_ (by with_reducible assumption)) | (refine Below.row ?_ (by with_reducible assumption) (by omega)) | (refine Below.trans ?_ (by with_reducible assumption)) | (refine Below.after ?_ ?_ (by with_reducible assumption)) | go_size)
  have z2 := hg2.size
  clear hg2 hb1
  obtain ⟨A2, c2, rfl⟩ := o2.form
  go_wp2_with fail
  all_goals go_returns
  all_goals exact ⟨_, css, rfl, o2.mono (by omega) (Nat.le_refl _), hd2, B2⟩
end Go.Proofs.Ytdomghjdnnnifaa
