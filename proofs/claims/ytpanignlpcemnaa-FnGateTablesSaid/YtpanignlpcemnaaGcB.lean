/- Costs of contacts for motions: contracts of both GateCosts. -/
import Derived.Test.YtpanignlpcemnaaGcA
namespace Go.Proofs.Ytpanignlpcemnaa
open Go.RowKit Go.ChangeShapes Go.WideShapes Go.ChangeAt
set_option linter.unusedVariables false
set_option linter.unusedSimpArgs false
theorem gCode_ok2 {ms : List Mo} {cs : List (Int × Int)} (h : gCode ms cs = 0) : mssB ms = true ∧ ctsB cs = true ∧ ms.length ≤ 6 ∧ cs.length ≤ 6 := by
  unfold gCode at h
  split at h
  · rename_i h1
    rw [Bool.and_eq_true] at h1
    split at h
    · rename_i h2; exact ⟨h1.1, h1.2, h2.1, h2.2⟩
    · omega
  · omega
theorem gcRows {ms : List Mo} {cs : List (Int × Int)} {i : Nat} {xs : List Int} (h : (gcAll ms cs)[i]? = some xs) : xs.length = cs.length := by
  rw [gcAll, List.getElem?_map, Option.map_eq_some_iff] at h
  obtain ⟨m, _, rfl⟩ := h
  exact gcRow_len
theorem fGc_len {ms : List Mo} {cs : List (Int × Int)} : (fGc ms cs).length ≤ 6 ∧ ∀ (i : Nat) (xs : List Int), (fGc ms cs)[i]? = some xs → xs.length ≤ 6 := by
  unfold fGc
  split
  · exact ⟨by simp, fun i xs h => by simp at h⟩
  · rename_i h
    obtain ⟨_, _, h1, h2⟩ := gCode_ok2 (Decidable.of_not_not h)
    exact ⟨by rw [gcAll_len]; exact h1, fun i xs h => by rw [gcRows h]; exact h2⟩
set_option maxRecDepth 100000 in
set_option maxHeartbeats 1600000 in
theorem impl_GateCosts (A B : Option Addr) (c d : Nat) (ms : List Mo) (cs : List (Int × Int)) (w : World) (hr : M64 w w.heap.size A ms) (hs : C64 w w.heap.size B cs) (hl : ms.length ≤ 1048576) (hlc : cs.length ≤ 1048576) :
    Calls Try.prog 31 #[.slice A ms.length c, .slice B cs.length d] w fun e w' => ∃ v, e = .returned (.tuple #[v, .int .i64 (gCode ms cs)]) ∧ OwnLL w' w.heap.size w'.heap.size v (fGc ms cs) ∧ Below w.heap.size w w' := by
  obtain ⟨g, hg⟩ : ∃ g, g = gCode ms cs := ⟨_, rfl⟩
  by_cases h0 : g = 0
  · subst h0
    obtain ⟨hm, hcs, h6, h7⟩ := gCode_ok2 hg.symm
    have e : fGc ms cs = gcAll ms cs := by simp [fGc, ← hg]
    rw [e, ← hg]
    have hgH := Lib.hid hg
    have hcsH := Lib.hid hcs
    have hmH := Lib.hid hm
    clear e hm hg hcs
    go_enter Try.func31, Try.ntmps31
    repeat' (first | fail | go_values | go_skip | go_guarded | go_step | go_upon | (simp only []; go_step) | (go_ite <;> go_prune <;> (try go_simp)))
    refine (impl_gateCode _ _ _ _ _ _ _ (hr.up (by repeat' (first | (with_reducible exact Below.refl _ _) | (with_reducible assumption) | (with_reducible refine Below.new ?_ _) | (with_reducible refine Below.alloc ?_ ?_ _) | (with_reducible refine Below.drew ?_) | (with_reducible refine below_drewN ?_ _) | (with_reducible refine Below.setCell ?_ ?_ _) | (refine Below.next ?_ (by with_reducible assumption)) | (refine Below.row ?_ (by with_reducible assumption) (by omega)) | (refine Below.trans ?_ (by with_reducible assumption)) | (refine Below.after ?_ ?_ (by with_reducible assumption)) | go_size))) (hs.up (by repeat' (first | (with_reducible exact Below.refl _ _) | (with_reducible assumption) | (with_reducible refine Below.new ?_ _) | (with_reducible refine Below.alloc ?_ ?_ _) | (with_reducible refine Below.drew ?_) | (with_reducible refine below_drewN ?_ _) | (with_reducible refine Below.setCell ?_ ?_ _) | (refine Below.next ?_ (by with_reducible assumption)) | (refine Below.row ?_ (by with_reducible assumption) (by omega)) | (refine Below.trans ?_ (by with_reducible assumption)) | (refine Below.after ?_ ?_ (by with_reducible assumption)) | go_size))) (by omega) (by omega)).mono ?_; rintro e w1 ⟨rfl, hbw1⟩; have hzw1 := hbw1.size; (try simp only [World.size_alloc, World.size_setCell, World.size_drew] at hzw1)
    rw [← hgH.out]
    repeat' (first | fail | go_values | go_skip | go_guarded | go_step | go_upon | (simp only []; go_step) | (go_ite <;> go_prune <;> (try go_simp)))
    go_loopw [7, 18] (fun vv iv wr => ∃ i : Nat, i ≤ ms.length ∧ iv = .int .i64 i ∧ OwnLL wr w.heap.size wr.heap.size vv (gcAll (ms.take i) cs) ∧ Below w.heap.size w wr) (fun _ iv _ => ms.length - (intOf iv).toNat)
    case atStart => exact ⟨0, Nat.zero_le _, rfl, by simpa [gcAll] using OwnLL.nil w1 w.heap.size w1.heap.size, by repeat' (first | (with_reducible exact Below.refl _ _) | (with_reducible assumption) | (with_reducible refine Below.new ?_ _) | (with_reducible refine Below.alloc ?_ ?_ _) | (with_reducible refine Below.drew ?_) | (with_reducible refine below_drewN ?_ _) | (with_reducible refine Below.setCell ?_ ?_ _) | (refine Below.next ?_ (by with_reducible assumption)) | (refine Below.row ?_ (by with_reducible assumption) (by omega)) | (refine Below.trans ?_ (by with_reducible assumption)) | (refine Below.after ?_ ?_ (by with_reducible assumption)) | go_size)⟩
    case round =>
      rename World => W0
      obtain ⟨i, hi, rfl, ho, hbr⟩ := hrel
      have hleni : (gcAll (ms.take i) cs).length ≤ 1048576 := by rw [gcAll_len, List.length_take]; omega
      have hsz := hbr.size
      by_cases hlt : i < ms.length
      · obtain ⟨⟨x, y, p, q, s⟩, hxi⟩ := get_of_lt hlt
        have hmo := mssB_of hmH.out hxi
        have hsu := Lib.hid (gcAll_snoc (cs := cs) hxi)
        obtain ⟨B1, o1, rfl, hB1, hm0, hm1, hm2, hm3, hm4⟩ := M64.at_ (hr.up hbr) hxi
        have p0 : (0 : Int) ≤ (i : Int) := by omega
        have p1 : (i : Int) < (ms.length : Int) := by omega
        obtain ⟨Au, cu, rfl⟩ := ho.form
        have hmoH := Lib.hid hmo
        clear hxi hmo
        repeat' (first | fail | go_values | go_skip | go_guarded | go_step | go_upon | (simp only []; go_step) | (go_ite <;> go_prune <;> (try go_simp)))
        refine (impl_gateCosts _ _ _ _ _ _ _ _ _ (hs.up (by repeat' (first | (with_reducible exact Below.refl _ _) | (with_reducible assumption) | (with_reducible refine Below.new ?_ _) | (with_reducible refine Below.alloc ?_ ?_ _) | (with_reducible refine Below.drew ?_) | (with_reducible refine below_drewN ?_ _) | (with_reducible refine Below.setCell ?_ ?_ _) | (refine Below.next ?_ (by with_reducible assumption)) | (refine Below.row ?_ (by with_reducible assumption) (by omega)) | (refine Below.trans ?_ (by with_reducible assumption)) | (refine Below.after ?_ ?_ (by with_reducible assumption)) | go_size))) hlc hmoH.out hcsH.out).mono ?_; rintro e w2 ⟨v2, rfl, o2, hbw2⟩; have hzw2 := hbw2.size; (try simp only [World.size_alloc, World.size_setCell, World.size_drew] at hzw2)
        obtain ⟨Ar, cr, rfl, _⟩ := id o2
        have ho2 := ho.next (w' := w2) (by repeat' (first | (with_reducible exact Below.refl _ _) | (with_reducible assumption) | (with_reducible refine Below.new ?_ _) | (with_reducible refine Below.alloc ?_ ?_ _) | (with_reducible refine Below.drew ?_) | (with_reducible refine below_drewN ?_ _) | (with_reducible refine Below.setCell ?_ ?_ _) | (refine Below.next ?_ (by with_reducible assumption)) | (refine Below.row ?_ (by with_reducible assumption) (by omega)) | (refine Below.trans ?_ (by with_reducible assumption)) | (refine Below.after ?_ ?_ (by with_reducible assumption)) | go_size))
        have o2' : OwnI w2 W0.heap.size (.slice Ar (gcRow x y s cs).length cr) (gcRow x y s cs) := OwnI.mono o2 (by first | omega | (simp only [World.size_alloc]; omega))
        have B2 : Below W0.heap.size W0 w2 := by repeat' (first | (with_reducible exact Below.refl _ _) | (with_reducible assumption) | (with_reducible refine Below.new ?_ _) | (with_reducible refine Below.alloc ?_ ?_ _) | (with_reducible refine Below.drew ?_) | (with_reducible refine below_drewN ?_ _) | (with_reducible refine Below.setCell ?_ ?_ _) | (refine Below.next ?_ (by with_reducible assumption)) | (refine Below.row ?_ (by with_reducible assumption) (by omega)) | (refine Below.trans ?_ (by with_reducible assumption)) | (refine Below.after ?_ ?_ (by with_reducible assumption)) | go_size)
        have hs2 := B2.size
        go_wp2_with (at_builtin; refine push_row (lo := w.heap.size) (mid := W0.heap.size) (by exact ho2) (by exact o2') rfl _ _ rfl rfl rfl (by omega) (by omega) (by omega) ?_; intro v' w4 ho4 hg4 hb4)
        exact ⟨⟨i + 1, by omega, by go_num, by rw [hsu.out]; exact ho4, (hbr.trans (B2.mono (by omega))).trans hb4⟩, by simp [intOf]; omega⟩
      · have e : ms.take i = ms := take_all hlt
        rw [e] at ho
        repeat' (first | fail | go_values | go_skip | go_guarded | go_step | go_upon | (simp only []; go_step) | (go_ite <;> go_prune <;> (try go_simp)))
        all_goals go_returns
        all_goals exact ⟨_, rfl, ho, hbr⟩
  · have e : fGc ms cs = [] := by simp [fGc, ← hg, h0]
    rw [e, ← hg]
    have hgH := Lib.hid hg
    have h0' : (g != 0) = true := by simp [h0]
    clear e hg
    go_enter Try.func31, Try.ntmps31
    repeat' (first | fail | go_values | go_skip | go_guarded | go_step | go_upon | (simp only []; go_step) | (go_ite <;> go_prune <;> (try go_simp)))
    refine (impl_gateCode _ _ _ _ _ _ _ (hr.up (by repeat' (first | (with_reducible exact Below.refl _ _) | (with_reducible assumption) | (with_reducible refine Below.new ?_ _) | (with_reducible refine Below.alloc ?_ ?_ _) | (with_reducible refine Below.drew ?_) | (with_reducible refine below_drewN ?_ _) | (with_reducible refine Below.setCell ?_ ?_ _) | (refine Below.next ?_ (by with_reducible assumption)) | (refine Below.row ?_ (by with_reducible assumption) (by omega)) | (refine Below.trans ?_ (by with_reducible assumption)) | (refine Below.after ?_ ?_ (by with_reducible assumption)) | go_size))) (hs.up (by repeat' (first | (with_reducible exact Below.refl _ _) | (with_reducible assumption) | (with_reducible refine Below.new ?_ _) | (with_reducible refine Below.alloc ?_ ?_ _) | (with_reducible refine Below.drew ?_) | (with_reducible refine below_drewN ?_ _) | (with_reducible refine Below.setCell ?_ ?_ _) | (refine Below.next ?_ (by with_reducible assumption)) | (refine Below.row ?_ (by with_reducible assumption) (by omega)) | (refine Below.trans ?_ (by with_reducible assumption)) | (refine Below.after ?_ ?_ (by with_reducible assumption)) | go_size))) (by omega) (by omega)).mono ?_; rintro e w1 ⟨rfl, hbw1⟩; have hzw1 := hbw1.size; (try simp only [World.size_alloc, World.size_setCell, World.size_drew] at hzw1)
    rw [← hgH.out]
    repeat' (first | fail | go_values | go_skip | go_guarded | go_step | go_upon | (simp only []; go_step) | (go_ite <;> go_prune <;> (try go_simp)))
    all_goals go_returns
    all_goals exact ⟨_, rfl, OwnLL.nil _ _ _, by repeat' (first | (with_reducible exact Below.refl _ _) | (with_reducible assumption) | (with_reducible refine Below.new ?_ _) | (with_reducible refine Below.alloc ?_ ?_ _) | (with_reducible refine Below.drew ?_) | (with_reducible refine below_drewN ?_ _) | (with_reducible refine Below.setCell ?_ ?_ _) | (refine Below.next ?_ (by with_reducible assumption)) | (refine Below.row ?_ (by with_reducible assumption) (by omega)) | (refine Below.trans ?_ (by with_reducible assumption)) | (refine Below.after ?_ ?_ (by with_reducible assumption)) | go_size)⟩
set_option maxRecDepth 100000 in
set_option maxHeartbeats 1600000 in
theorem spec_GateCosts (A B : Option Addr) (c d : Nat) (ms : List Mo) (cs : List (Int × Int)) (w : World) (hr : M64 w w.heap.size A ms) (hs : C64 w w.heap.size B cs) (hl : ms.length ≤ 1048576) (hlc : cs.length ≤ 1048576) :
    Calls Try.prog 32 #[.slice A ms.length c, .slice B cs.length d] w fun e w' => ∃ v, e = .returned (.tuple #[v, .int .i64 (gCode ms cs)]) ∧ OwnLL w' w.heap.size w'.heap.size v (fGc ms cs) ∧ Below w.heap.size w w' := by
  obtain ⟨g, hg⟩ : ∃ g, g = gCode ms cs := ⟨_, rfl⟩
  obtain ⟨zss, hz⟩ : ∃ zss, zss = fGc ms cs := ⟨_, rfl⟩
  rw [← hg, ← hz]
  have hgH := Lib.hid hg
  have hzH := Lib.hid hz
  clear hg hz
  go_enter Try.func32, Try.ntmps32
  repeat' (first | fail | go_values | go_skip | go_guarded | go_step | go_upon | (simp only []; go_step) | (go_ite <;> go_prune <;> (try go_simp)))
  go_loopw [6] (fun iv wr => ∃ i : Nat, i ≤ ms.length ∧ iv = .int .i64 i ∧ Hid (mssB (ms.take i) = true) ∧ Below w.heap.size w wr) (fun iv _ => ms.length - (intOf iv).toNat)
  case atStart => exact ⟨0, Nat.zero_le _, rfl, by simp [mssB, Hid], by repeat' (first | (with_reducible exact Below.refl _ _) | (with_reducible assumption) | (with_reducible refine Below.new ?_ _) | (with_reducible refine Below.alloc ?_ ?_ _) | (with_reducible refine Below.drew ?_) | (with_reducible refine below_drewN ?_ _) | (with_reducible refine Below.setCell ?_ ?_ _) | (refine Below.next ?_ (by with_reducible assumption)) | (refine Below.row ?_ (by with_reducible assumption) (by omega)) | (refine Below.trans ?_ (by with_reducible assumption)) | (refine Below.after ?_ ?_ (by with_reducible assumption)) | go_size)⟩
  case round =>
    obtain ⟨i, hi, rfl, ha, hbr⟩ := hrel
    by_cases hlt : i < ms.length
    · obtain ⟨⟨x, y, p, q, s⟩, hxi⟩ := get_of_lt hlt
      obtain ⟨B1, o1, rfl, hB1, hm0, hm1, hm2, hm3, hm4⟩ := M64.at_ (hr.up hbr) hxi
      have hx' := Lib.hid hxi
      have p0 : (0 : Int) ≤ (i : Int) := by omega
      have p1 : (i : Int) < (ms.length : Int) := by omega
      clear hxi
      cases h1 : moB x y p q s
      · have e1 : gCode ms cs = 1 := by simp [gCode, mssB_no hx'.out h1]
        have e2 : fGc ms cs = [] := by simp [fGc, e1]
        obtain rfl := hgH.out.trans e1
        obtain rfl := hzH.out.trans e2
        clear e1 e2
        repeat' (first | fail | go_values | go_skip | go_guarded | go_step | go_upon | (simp only []; go_step) | (go_ite <;> go_prune <;> (try go_simp)))
        refine (spec_IsMotion _ _ _ _ _ _).mono ?_; rintro e w1 ⟨rfl, hbw1⟩; have hzw1 := hbw1.size; (try simp only [World.size_alloc, World.size_setCell, World.size_drew] at hzw1)
        rw [h1]
        repeat' (first | fail | go_values | go_skip | go_guarded | go_step | go_upon | (simp only []; go_step) | (go_ite <;> go_prune <;> (try go_simp)))
        all_goals go_returns
        all_goals exact ⟨_, rfl, OwnLL.nil _ _ _, by repeat' (first | (with_reducible exact Below.refl _ _) | (with_reducible assumption) | (with_reducible refine Below.new ?_ _) | (with_reducible refine Below.alloc ?_ ?_ _) | (with_reducible refine Below.drew ?_) | (with_reducible refine below_drewN ?_ _) | (with_reducible refine Below.setCell ?_ ?_ _) | (refine Below.next ?_ (by with_reducible assumption)) | (refine Below.row ?_ (by with_reducible assumption) (by omega)) | (refine Below.trans ?_ (by with_reducible assumption)) | (refine Below.after ?_ ?_ (by with_reducible assumption)) | go_size)⟩
      · repeat' (first | fail | go_values | go_skip | go_guarded | go_step | go_upon | (simp only []; go_step) | (go_ite <;> go_prune <;> (try go_simp)))
        refine (spec_IsMotion _ _ _ _ _ _).mono ?_; rintro e w1 ⟨rfl, hbw1⟩; have hzw1 := hbw1.size; (try simp only [World.size_alloc, World.size_setCell, World.size_drew] at hzw1)
        rw [h1]
        repeat' (first | fail | go_values | go_skip | go_guarded | go_step | go_upon | (simp only []; go_step) | (go_ite <;> go_prune <;> (try go_simp)))
        exact ⟨⟨i + 1, by omega, by go_num, by unfold Hid; rw [mssB_snoc hx'.out, ha.out, h1]; rfl, by repeat' (first | (with_reducible exact Below.refl _ _) | (with_reducible assumption) | (with_reducible refine Below.new ?_ _) | (with_reducible refine Below.alloc ?_ ?_ _) | (with_reducible refine Below.drew ?_) | (with_reducible refine below_drewN ?_ _) | (with_reducible refine Below.setCell ?_ ?_ _) | (refine Below.next ?_ (by with_reducible assumption)) | (refine Below.row ?_ (by with_reducible assumption) (by omega)) | (refine Below.trans ?_ (by with_reducible assumption)) | (refine Below.after ?_ ?_ (by with_reducible assumption)) | go_size)⟩, by simp [intOf]; omega⟩
    · have hm : mssB ms = true := by have := ha.out; rw [take_all hlt] at this; exact this
      have hmH := Lib.hid hm
      clear ha
      by_cases h6 : (6 : Int) < (ms.length : Int)
      · repeat' (first | fail | go_values | go_skip | go_guarded | go_step | go_upon | (simp only []; go_step) | (go_ite <;> go_prune <;> (try go_simp)))
        refine (spec_l14Contacts _ _ _ _ (hs.up (by repeat' (first | (with_reducible exact Below.refl _ _) | (with_reducible assumption) | (with_reducible refine Below.new ?_ _) | (with_reducible refine Below.alloc ?_ ?_ _) | (with_reducible refine Below.drew ?_) | (with_reducible refine below_drewN ?_ _) | (with_reducible refine Below.setCell ?_ ?_ _) | (refine Below.next ?_ (by with_reducible assumption)) | (refine Below.row ?_ (by with_reducible assumption) (by omega)) | (refine Below.trans ?_ (by with_reducible assumption)) | (refine Below.after ?_ ?_ (by with_reducible assumption)) | go_size))) (by omega)).mono ?_; rintro e w1 ⟨rfl, hbw1⟩; have hzw1 := hbw1.size; (try simp only [World.size_alloc, World.size_setCell, World.size_drew] at hzw1)
        cases hc : ctsB cs
        · have e1 : gCode ms cs = 1 := by simp [gCode, hc]
          have e2 : fGc ms cs = [] := by simp [fGc, e1]
          have e3 : ctCode cs = 1 := by simp [ctCode, hc]
          obtain rfl := hgH.out.trans e1
          obtain rfl := hzH.out.trans e2
          clear e1 e2
          rw [e3]
          repeat' (first | fail | go_values | go_skip | go_guarded | go_step | go_upon | (simp only []; go_step) | (go_ite <;> go_prune <;> (try go_simp)))
          all_goals go_returns
          all_goals exact ⟨_, rfl, OwnLL.nil _ _ _, by repeat' (first | (with_reducible exact Below.refl _ _) | (with_reducible assumption) | (with_reducible refine Below.new ?_ _) | (with_reducible refine Below.alloc ?_ ?_ _) | (with_reducible refine Below.drew ?_) | (with_reducible refine below_drewN ?_ _) | (with_reducible refine Below.setCell ?_ ?_ _) | (refine Below.next ?_ (by with_reducible assumption)) | (refine Below.row ?_ (by with_reducible assumption) (by omega)) | (refine Below.trans ?_ (by with_reducible assumption)) | (refine Below.after ?_ ?_ (by with_reducible assumption)) | go_size)⟩
        · have e1 : gCode ms cs = 3 := by
            rw [gCode, hmH.out, hc, Bool.true_and, if_pos rfl, if_neg (by omega)]
          have e2 : fGc ms cs = [] := by simp [fGc, e1]
          obtain rfl := hgH.out.trans e1
          obtain rfl := hzH.out.trans e2
          clear e1 e2
          by_cases h7 : cs.length ≤ 6
          · have e3 : ctCode cs = 0 := by simp [ctCode, hc, h7]
            rw [e3]
            repeat' (first | fail | go_values | go_skip | go_guarded | go_step | go_upon | (simp only []; go_step) | (go_ite <;> go_prune <;> (try go_simp)))
            all_goals go_returns
            all_goals exact ⟨_, rfl, OwnLL.nil _ _ _, by repeat' (first | (with_reducible exact Below.refl _ _) | (with_reducible assumption) | (with_reducible refine Below.new ?_ _) | (with_reducible refine Below.alloc ?_ ?_ _) | (with_reducible refine Below.drew ?_) | (with_reducible refine below_drewN ?_ _) | (with_reducible refine Below.setCell ?_ ?_ _) | (refine Below.next ?_ (by with_reducible assumption)) | (refine Below.row ?_ (by with_reducible assumption) (by omega)) | (refine Below.trans ?_ (by with_reducible assumption)) | (refine Below.after ?_ ?_ (by with_reducible assumption)) | go_size)⟩
          · have e3 : ctCode cs = 3 := by simp [ctCode, hc, h7]
            rw [e3]
            repeat' (first | fail | go_values | go_skip | go_guarded | go_step | go_upon | (simp only []; go_step) | (go_ite <;> go_prune <;> (try go_simp)))
            all_goals go_returns
            all_goals exact ⟨_, rfl, OwnLL.nil _ _ _, by repeat' (first | (with_reducible exact Below.refl _ _) | (with_reducible assumption) | (with_reducible refine Below.new ?_ _) | (with_reducible refine Below.alloc ?_ ?_ _) | (with_reducible refine Below.drew ?_) | (with_reducible refine below_drewN ?_ _) | (with_reducible refine Below.setCell ?_ ?_ _) | (refine Below.next ?_ (by with_reducible assumption)) | (refine Below.row ?_ (by with_reducible assumption) (by omega)) | (refine Below.trans ?_ (by with_reducible assumption)) | (refine Below.after ?_ ?_ (by with_reducible assumption)) | go_size)⟩
      · repeat' (first | fail | go_values | go_skip | go_guarded | go_step | go_upon | (simp only []; go_step) | (go_ite <;> go_prune <;> (try go_simp)))
        refine (spec_l14Contacts _ _ _ _ (hs.up (by repeat' (first | (with_reducible exact Below.refl _ _) | (with_reducible assumption) | (with_reducible refine Below.new ?_ _) | (with_reducible refine Below.alloc ?_ ?_ _) | (with_reducible refine Below.drew ?_) | (with_reducible refine below_drewN ?_ _) | (with_reducible refine Below.setCell ?_ ?_ _) | (refine Below.next ?_ (by with_reducible assumption)) | (refine Below.row ?_ (by with_reducible assumption) (by omega)) | (refine Below.trans ?_ (by with_reducible assumption)) | (refine Below.after ?_ ?_ (by with_reducible assumption)) | go_size))) (by omega)).mono ?_; rintro e w1 ⟨rfl, hbw1⟩; have hzw1 := hbw1.size; (try simp only [World.size_alloc, World.size_setCell, World.size_drew] at hzw1)
        cases hc : ctsB cs
        · have e1 : gCode ms cs = 1 := by simp [gCode, hc]
          have e2 : fGc ms cs = [] := by simp [fGc, e1]
          have e3 : ctCode cs = 1 := by simp [ctCode, hc]
          obtain rfl := hgH.out.trans e1
          obtain rfl := hzH.out.trans e2
          clear e1 e2
          rw [e3]
          repeat' (first | fail | go_values | go_skip | go_guarded | go_step | go_upon | (simp only []; go_step) | (go_ite <;> go_prune <;> (try go_simp)))
          all_goals go_returns
          all_goals exact ⟨_, rfl, OwnLL.nil _ _ _, by repeat' (first | (with_reducible exact Below.refl _ _) | (with_reducible assumption) | (with_reducible refine Below.new ?_ _) | (with_reducible refine Below.alloc ?_ ?_ _) | (with_reducible refine Below.drew ?_) | (with_reducible refine below_drewN ?_ _) | (with_reducible refine Below.setCell ?_ ?_ _) | (refine Below.next ?_ (by with_reducible assumption)) | (refine Below.row ?_ (by with_reducible assumption) (by omega)) | (refine Below.trans ?_ (by with_reducible assumption)) | (refine Below.after ?_ ?_ (by with_reducible assumption)) | go_size)⟩
        · by_cases h7 : cs.length ≤ 6
          · have e1 : gCode ms cs = 0 := by
              rw [gCode, hmH.out, hc, Bool.true_and, if_pos rfl, if_pos (by omega)]
            have e2 : fGc ms cs = gcAll ms cs := by simp [fGc, e1]
            have e3 : ctCode cs = 0 := by simp [ctCode, hc, h7]
            obtain rfl := hgH.out.trans e1
            obtain rfl := hzH.out.trans e2
            clear e1 e2
            rw [e3]
            have hcH := Lib.hid hc
            clear e3 hc
            repeat' (first | fail | go_values | go_skip | go_guarded | go_step | go_upon | (simp only []; go_step) | (go_ite <;> go_prune <;> (try go_simp)))
            refine (spec_l14Costs _ _ _ _ _ _ _ (hr.up (by repeat' (first | (with_reducible exact Below.refl _ _) | (with_reducible assumption) | (with_reducible refine Below.new ?_ _) | (with_reducible refine Below.alloc ?_ ?_ _) | (with_reducible refine Below.drew ?_) | (with_reducible refine below_drewN ?_ _) | (with_reducible refine Below.setCell ?_ ?_ _) | (refine Below.next ?_ (by with_reducible assumption)) | (refine Below.row ?_ (by with_reducible assumption) (by omega)) | (refine Below.trans ?_ (by with_reducible assumption)) | (refine Below.after ?_ ?_ (by with_reducible assumption)) | go_size))) (hs.up (by repeat' (first | (with_reducible exact Below.refl _ _) | (with_reducible assumption) | (with_reducible refine Below.new ?_ _) | (with_reducible refine Below.alloc ?_ ?_ _) | (with_reducible refine Below.drew ?_) | (with_reducible refine below_drewN ?_ _) | (with_reducible refine Below.setCell ?_ ?_ _) | (refine Below.next ?_ (by with_reducible assumption)) | (refine Below.row ?_ (by with_reducible assumption) (by omega)) | (refine Below.trans ?_ (by with_reducible assumption)) | (refine Below.after ?_ ?_ (by with_reducible assumption)) | go_size))) hl hlc hmH.out hcH.out).mono ?_; rintro e w2 ⟨v2, rfl, o2, hbw2⟩; have hzw2 := hbw2.size; (try simp only [World.size_alloc, World.size_setCell, World.size_drew] at hzw2)
            repeat' (first | fail | go_values | go_skip | go_guarded | go_step | go_upon | (simp only []; go_step) | (go_ite <;> go_prune <;> (try go_simp)))
            all_goals go_returns
            all_goals exact ⟨_, rfl, OwnLL.mono (lo' := w.heap.size) o2 (by have := hbr.size; have := hbw1.size; omega) (Nat.le_refl _), by repeat' (first | (with_reducible exact Below.refl _ _) | (with_reducible assumption) | (with_reducible refine Below.new ?_ _) | (with_reducible refine Below.alloc ?_ ?_ _) | (with_reducible refine Below.drew ?_) | (with_reducible refine below_drewN ?_ _) | (with_reducible refine Below.setCell ?_ ?_ _) | (refine Below.next ?_ (by with_reducible assumption)) | (refine Below.row ?_ (by with_reducible assumption) (by omega)) | (refine Below.trans ?_ (by with_reducible assumption)) | (refine Below.after ?_ ?_ (by with_reducible assumption)) | go_size)⟩
          · have e1 : gCode ms cs = 3 := by
              rw [gCode, hmH.out, hc, Bool.true_and, if_pos rfl, if_neg (by omega)]
            have e2 : fGc ms cs = [] := by simp [fGc, e1]
            have e3 : ctCode cs = 3 := by simp [ctCode, hc, h7]
            obtain rfl := hgH.out.trans e1
            obtain rfl := hzH.out.trans e2
            clear e1 e2
            rw [e3]
            repeat' (first | fail | go_values | go_skip | go_guarded | go_step | go_upon | (simp only []; go_step) | (go_ite <;> go_prune <;> (try go_simp)))
            all_goals go_returns
            all_goals exact ⟨_, rfl, OwnLL.nil _ _ _, by repeat' (first | (with_reducible exact Below.refl _ _) | (with_reducible assumption) | (with_reducible refine Below.new ?_ _) | (with_reducible refine Below.alloc ?_ ?_ _) | (with_reducible refine Below.drew ?_) | (with_reducible refine below_drewN ?_ _) | (with_reducible refine Below.setCell ?_ ?_ _) | (refine Below.next ?_ (by with_reducible assumption)) | (refine Below.row ?_ (by with_reducible assumption) (by omega)) | (refine Below.trans ?_ (by with_reducible assumption)) | (refine Below.after ?_ ?_ (by with_reducible assumption)) | go_size)⟩
end Go.Proofs.Ytpanignlpcemnaa
