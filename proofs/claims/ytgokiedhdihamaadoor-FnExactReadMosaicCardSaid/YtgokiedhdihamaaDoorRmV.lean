/- The reference's readers of numbers: contracts. -/
import Derived.Test.YtgokiedhdihamaaDoorRmB
import Derived.Test.YtgokiedhdihamaaDoorTxS
namespace Go.Proofs.YtgokiedhdihamaaDoor
open Go.RowKit Go.ChangeShapes Go.WideShapes Go.ChangeAt
set_option linter.unusedVariables false
set_option linter.unusedSimpArgs false
theorem dval_take {l : List UInt8} {j : Nat} {b : UInt8} (h : l[j]? = some b) : dval 0 (l.take (j + 1)) = dstep (dval 0 (l.take j)) b := by
  rw [List.take_add_one, h, Option.toList_some, dv_snoc]
theorem all_take {l : List UInt8} {j : Nat} {b : UInt8} (h : l[j]? = some b) : (l.take (j + 1)).all dgB = ((l.take j).all dgB && dgB b) := by
  rw [List.take_add_one, h, Option.toList_some, List.all_append]; simp
theorem mkT_get {l : List UInt8} {j : Nat} {b : UInt8} (h : l[j]? = some b) (h2 : j < (mkT l).size) : (mkT l)[j]'h2 = b := by
  have h3 := lt_of_get h
  rw [List.getElem?_eq_getElem h3] at h
  injection h with h
theorem mkT_ext (l : List UInt8) (i j : Nat) : (mkT l).extract i j = mkT ((l.drop i).take (j - i)) := by
  apply bytes_inj
  simp [mkT, ByteArray.data_extract, Array.toList_extract, List.extract_eq_take_drop]
theorem eqT (a b : List UInt8) : ((mkT a).toList == (mkT b).toList) = decide (a = b) := by
  rw [ByteArray.toList_eq, ByteArray.toList_eq]
  show (a == b) = _
  by_cases h : a = b
  · subst h; simp
  · simp [h]
theorem dval_bd {l : List UInt8} {j : Nat} (h : (l.take j).all dgB = true) (hl : l.length ≤ 12) : dval 0 (l.take j) < 1000000000000 := by
  have h1 := dv_lt (l.take j) 0 h
  have h2 : 10 ^ (l.take j).length ≤ 10 ^ 12 := Nat.pow_le_pow_right (by omega) (by rw [List.length_take]; omega)
  have : (10 : Nat) ^ 12 = 1000000000000 := rfl
  omega
theorem not_dg {l : List UInt8} {j : Nat} {b : UInt8} (h : l[j]? = some b) (hd : dgB b = false) : l.all dgB = false := by
  rw [List.all_eq_false]
  exact ⟨b, List.mem_of_getElem? h, by rw [hd]; decide⟩
set_option maxRecDepth 100000 in
set_option maxHeartbeats 3200000 in
theorem spec_l01Value (l : List UInt8) (w : World) (hl : l.length ≤ 1099511627776) :
    Calls Tryd.prog 42 #[.string (mkT l)] w fun e w' => e = .returned (.tuple #[.int .i64 (vS l).1, .bool (vS l).2]) ∧ Below w.heap.size w w' := by
  have hsz := mkT_size l
  by_cases h0 : l.length < 1 ∨ 12 < l.length
  · have e : vS l = (0, false) := by unfold vS; rw [if_pos h0]
    rw [e]
    have q0 : ((l.length : Int) < 1) ∨ (12 : Int) < (l.length : Int) := by omega
    clear e h0
    rcases q0 with q0 | q0
    · go_enter Tryd.func42, Tryd.ntmps42
      go_wp2_with fail
      go_returns
      exact ⟨rfl, Below.refl _ _⟩
    · have q1 : ¬ (l.length : Int) < 1 := by omega
      go_enter Tryd.func42, Tryd.ntmps42
      go_wp2_with fail
      go_returns
      exact ⟨rfl, Below.refl _ _⟩
  · have q0 : ¬ (l.length : Int) < 1 := by omega
    have q1 : ¬ (12 : Int) < (l.length : Int) := by omega
    go_enter Tryd.func42, Tryd.ntmps42
    go_wp2_with fail
    go_loopw [4, 5] (fun n i wr => ∃ j : Nat, j ≤ l.length ∧ n = .int .i64 ((dval 0 (l.take j) : Nat) : Int) ∧ i = .int .i64 (j : Int) ∧ (l.take j).all dgB = true ∧ Below w.heap.size w wr) (fun n i _ => l.length - (intOf i).toNat)
    case atStart => exact ⟨0, Nat.zero_le _, by simp [dval], rfl, by simp, Below.refl _ _⟩
    case round =>
      obtain ⟨j, hj, rfl, rfl, hd, hbr⟩ := hrel
      by_cases hlt : j < l.length
      · obtain ⟨b, hb⟩ := get_of_lt hlt
        have p1 : (j : Int) < (l.length : Int) := by omega
        have hget : ∀ h2, (mkT l)[j]'h2 = b := fun h2 => mkT_get hb h2
        have hN := dval_bd hd (by omega)
        have s1 := dval_take hb
        have s2 := all_take hb
        obtain ⟨N, hNe⟩ : ∃ z, z = dval 0 (l.take j) := ⟨_, rfl⟩
        rw [← hNe] at hN s1
        by_cases c : dgB b = true
        · have c0 := of_decide_eq_true c
          have c1 : ¬ ((b.toNat : Int)) < 48 := by omega
          have c2 : ¬ (57 : Int) < (b.toNat : Int) := by omega
          rw [hd, c] at s2
          clear hb c
          go_wp2_with fail
          refine ⟨⟨j + 1, by omega, ?_, rfl, s2, hbr⟩, ?_⟩
          · rw [s1, ← hNe]
            unfold dstep
            congr 1
            omega
          · simp only [intOf]; omega
        · have c := Bool.eq_false_iff.2 c
          have ev : vS l = (0, false) := by unfold vS; rw [if_neg (by omega), not_dg hb c]; rfl
          have c0 := of_decide_eq_false c
          clear c hb s1 s2 hN hNe
          by_cases c1 : ((b.toNat : Int)) < 48
          · go_wp2_with fail
            all_goals go_returns
            all_goals exact ⟨by first | rfl | (rw [ev]; rfl), hbr⟩
          · have c2 : (57 : Int) < (b.toNat : Int) := by omega
            go_wp2_with fail
            all_goals go_returns
            all_goals exact ⟨by first | rfl | (rw [ev]; rfl), hbr⟩
      · have e : j = l.length := by omega
        subst e
        have p1 : ¬ (l.length : Int) < (l.length : Int) := by omega
        rw [List.take_length] at hd
        have hN := dval_bd (l := l) (j := l.length) (by rw [List.take_length]; exact hd) (by omega)
        rw [List.take_length] at hN
        have ev : vS l = ((dval 0 l : Int), decide (Lib.itoa (dval 0 l : Int) = l)) := by unfold vS; rw [if_neg (by omega), if_pos hd]
        rw [Lib.itoa_nonneg] at ev
        have evH := Lib.hid ev
        clear ev hd
        have et : l.take l.length = l := List.take_length
        go_wp2_with fail
        refine (spec_l01Dec _ _ (by omega)).mono ?_
        rintro e w1 ⟨rfl, hb1⟩
        go_wp2_with fail
        all_goals go_returns
        all_goals exact ⟨by rw [evH.out, ← eqT]; first | done | rfl, by exact bgr⟩
set_option maxRecDepth 100000 in
set_option maxHeartbeats 3200000 in
theorem spec_l01Signed (l : List UInt8) (w : World) (hl : l.length ≤ 1099511627776) :
    Calls Tryd.prog 29 #[.string (mkT l)] w fun e w' => e = .returned (.tuple #[.int .i64 (sS l).1, .bool (sS l).2]) ∧ Below w.heap.size w w' := by
  have hsz := mkT_size l
  cases l with
  | nil =>
    have ev : sS [] = vS [] := sS_plain (fun r e => by cases e)
    have evH := Lib.hid ev
    clear ev
    go_enter Tryd.func29, Tryd.ntmps29
    go_wp2_with fail
    refine (spec_l01Value _ _ hl).mono ?_
    rintro e w1 ⟨rfl, hb1⟩
    go_wp2_with fail
    all_goals go_returns
    all_goals exact ⟨by rw [evH.out]; first | done | rfl, by exact bgr⟩
  | cons b r =>
    have hg : ∀ h2, (mkT (b :: r))[0]'h2 = b := fun h2 => rfl
    have p1 : (0 : Int) < ((b :: r).length : Int) := by rw [List.length_cons]; omega
    by_cases hb : b = 45
    · subst hb
      have evH := Lib.hid (sS_minus (r := r))
      have bd := vS_bd r
      have hv := fun w => spec_l01Value r w (by simp at hl; omega)
      have e1 : (mkT (45 :: r)).extract 1 (r.length + 1) = mkT r := by rw [mkT_ext]; simp
      obtain ⟨z, hz⟩ : ∃ z, z = (vS r).1 := ⟨_, rfl⟩
      obtain ⟨o, ho⟩ : ∃ o, o = (vS r).2 := ⟨_, rfl⟩
      rw [← hz, ← ho] at hv
      rw [← hz] at bd
      rw [← hz, ← ho] at evH
      have hvH := Lib.hid hv
      clear hv hz ho
      cases o
      · go_enter Tryd.func29, Tryd.ntmps29
        go_wp2_with fail
        refine (hvH.out _).mono ?_
        rintro e w1 ⟨rfl, hb1⟩
        go_wp2_with fail
        all_goals go_returns
        all_goals exact ⟨by rw [evH.out]; first | done | rfl, by exact bgr⟩
      · by_cases c : 0 < z
        · have cT : decide (0 < z) = true := decide_eq_true c
          go_enter Tryd.func29, Tryd.ntmps29
          go_wp2_with fail
          refine (hvH.out _).mono ?_
          rintro e w1 ⟨rfl, hb1⟩
          go_wp2_with fail
          all_goals go_returns
          all_goals exact ⟨by rw [evH.out, cT]; first | done | rfl, by exact bgr⟩
        · have cT : decide (0 < z) = false := decide_eq_false c
          go_enter Tryd.func29, Tryd.ntmps29
          go_wp2_with fail
          refine (hvH.out _).mono ?_
          rintro e w1 ⟨rfl, hb1⟩
          go_wp2_with fail
          all_goals go_returns
          all_goals exact ⟨by rw [evH.out, cT]; first | done | rfl, by exact bgr⟩
    · have ev : sS (b :: r) = vS (b :: r) := sS_plain (fun r e => by injection e with e1; exact hb e1)
      have evH := Lib.hid ev
      have hb2 : ((b.toNat : Int) == 45) = false := by
        rw [beq_eq_false_iff_ne]
        intro e
        apply hb
        apply UInt8.toNat_inj.1
        show b.toNat = 45
        omega
      clear ev hb
      go_enter Tryd.func29, Tryd.ntmps29
      go_wp2_with fail
      refine (spec_l01Value _ _ hl).mono ?_
      rintro e w1 ⟨rfl, hb1⟩
      go_wp2_with fail
      all_goals go_returns
      all_goals exact ⟨by rw [evH.out]; first | done | rfl, by exact bgr⟩
end Go.Proofs.YtgokiedhdihamaaDoor
