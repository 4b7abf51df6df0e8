/- The program's readers of a number and of a cell: contracts. -/
import Derived.Test.YtgokiedhdihamaaDoorRmV
import Derived.Test.YtgokiedhdihamaaDoorShelf
import Derived.Test.YtgokiedhdihamaaDoorMosA
import Derived.Test.YtgokiedhdihamaaDoorStrI
import Derived.Lib.SmallJoins
namespace Go.Proofs.YtgokiedhdihamaaDoor
open Go.RowKit Go.ChangeShapes Go.WideShapes Go.ChangeAt
set_option linter.unusedVariables false
set_option linter.unusedSimpArgs false
theorem eqT1 (a b : List UInt8) : ((mkT a).toList == b) = decide (a = b) := by
  rw [ByteArray.toList_eq]
  show (a == b) = _
  by_cases h : a = b
  · subst h; simp
  · simp [h]
/-- what the library's readers want of the world: the table of powers of ten, the two errors, a number -/
def Env (w : World) : Prop := Pow w ∧ (∃ tp p, w.cell? ⟨3, 0, none⟩ = some (.iface tp p)) ∧ (∃ tp p, w.cell? ⟨4, 0, none⟩ = some (.iface tp p)) ∧ (∃ m, w.cell? ⟨0, 0, none⟩ = some (.int .i64 m)) ∧ 4 < w.heap.size
theorem Env.up {w w' : World} (h : Env w) (hb : Below w.heap.size w w') : Env w' := by
  obtain ⟨h1, ⟨t3, p3, h3⟩, ⟨t4, p4, h4⟩, ⟨m, h0⟩, hs⟩ := h
  exact ⟨h1.up hb, ⟨t3, p3, (hb.cell (p := ⟨3, 0, none⟩) (by show 3 < _; omega)).trans h3⟩, ⟨t4, p4, (hb.cell (p := ⟨4, 0, none⟩) (by show 4 < _; omega)).trans h4⟩, ⟨m, (hb.cell (p := ⟨0, 0, none⟩) (by show 0 < _; omega)).trans h0⟩, Nat.lt_of_lt_of_le hs hb.size⟩
set_option maxRecDepth 100000 in
set_option maxHeartbeats 3200000 in
theorem impl_readNumber (l : List UInt8) (w : World) (hl : l.length ≤ 1048576) (hv : Env w) :
    Calls Tryd.prog 32 #[.string (mkT l)] w fun e w' => ∃ v : Int, e = .returned (.tuple #[.int .i64 v, .bool (nI l).isSome]) ∧ (∀ x, nI l = some x → v = x) ∧ Below w.heap.size w w' := by
  have hsz := mkT_size l
  have hd : (mkT l).data.toList = l := by simp [mkT]
  have hvH := Lib.hid hv
  clear hv
  cases hp : Lib.parseIntB 64 l with
  | ok v =>
    have hbd := Lib.parseIntB_bounds hp
    have hP := fun w => Tryd.strconv_ParseInt_10_at64_ok (mkT l) (by omega) v (by rw [hd]; exact hp) w
    have hD := fun w (h : Pow w) => impl_decimal v w (by omega) (by omega) h
    have hn : nI l = if Lib.itoa v = l then some v else none := by unfold nI; rw [hp]
    have hnH := Lib.hid hn
    have hPH := Lib.hid hP
    have hDH := Lib.hid hD
    have hdH := Lib.hid hd
    clear hn hP hD hd hp
    go_enter Tryd.func32, Tryd.ntmps32
    go_wp2_with fail
    refine (hPH.out _).mono ?_
    rintro e w1 ⟨rfl, hw1⟩
    have hb1 : Below w.heap.size w w1 := by
      rcases hw1 with rfl | ⟨t, rfl⟩
      · exact Below.refl _ _
      · exact Go.Joins.below_bytesWorld _ _ _ _ (Nat.le_refl _)
    clear hw1
    go_wp2_with fail
    refine (hDH.out _ (hvH.out.up hb1).1).mono ?_
    rintro e w2 ⟨rfl, hb2⟩
    go_wp2_with fail
    all_goals go_returns
    all_goals refine ⟨v, ?_, ?_, by exact bgr⟩
    · rw [hnH.out, eqT]
      by_cases e : Lib.itoa v = l
      · rw [if_pos e, decide_eq_true e]; rfl
      · rw [if_neg e, decide_eq_false e]; rfl
    · intro x hx
      rw [hnH.out] at hx
      split at hx
      · injection hx
      · cases hx
  | «syntax» =>
    obtain ⟨h1, ⟨t3, p3, h3⟩, ⟨t4, p4, h4⟩, ⟨m, h0⟩, hs⟩ := hvH.out
    have hP := Tryd.strconv_ParseInt_10_at64_syntax (mkT l) (by omega) (by rw [hd]; exact hp) _ w h3 (.inr ⟨_, _, rfl⟩)
    have hn : nI l = none := by unfold nI; rw [hp]
    have hnH := Lib.hid hn
    have hPH := Lib.hid hP
    clear hn hP hd hp h1 h3 h4 h0
    go_enter Tryd.func32, Tryd.ntmps32
    go_wp2_with fail
    refine hPH.out.mono ?_
    rintro e w1 ⟨N, rfl, _, _, hb1⟩
    go_wp2_with fail
    all_goals go_returns
    all_goals exact ⟨_, by rw [hnH.out]; first | done | rfl, fun x hx => (by rw [hnH.out] at hx; cases hx), hb1⟩
  | range =>
    obtain ⟨h1, ⟨t3, p3, h3⟩, ⟨t4, p4, h4⟩, ⟨m, h0⟩, hs⟩ := hvH.out
    have hP := Tryd.strconv_ParseInt_10_at64_range (mkT l) (by omega) (by rw [hd]; exact hp) _ w h4 (.inr ⟨_, _, rfl⟩)
    have hn : nI l = none := by unfold nI; rw [hp]
    have hnH := Lib.hid hn
    have hPH := Lib.hid hP
    clear hn hP hd hp h1 h3 h4 h0
    go_enter Tryd.func32, Tryd.ntmps32
    go_wp2_with fail
    refine hPH.out.mono ?_
    rintro e w1 ⟨N, rfl, _, _, hb1⟩
    go_wp2_with fail
    all_goals go_returns
    all_goals exact ⟨_, by rw [hnH.out]; first | done | rfl, fun x hx => (by rw [hnH.out] at hx; cases hx), hb1⟩
set_option maxRecDepth 100000 in
set_option maxHeartbeats 3200000 in
theorem impl_readCell (l : List UInt8) (w : World) (hl : l.length ≤ 1048576) (hv : Env w) :
    Calls Tryd.prog 18 #[.string (mkT l)] w fun e w' => ∃ v g : Int, e = .returned (.tuple #[.int .i64 v, .int .i64 g, .bool (cI l).isSome]) ∧ (∀ z, cI l = some z → v = z.1 ∧ g = z.2) ∧ Below w.heap.size w w' := by
  have hsz := mkT_size l
  have hq : ((mkT l).toList == [45]) = decide (l = [45]) := eqT1 l [45]
  by_cases h45 : l = [45]
  · subst h45
    have hc : cI [45] = some (-1, 0) := by unfold cI; rw [if_pos rfl]
    have hcH := Lib.hid hc
    rw [decide_eq_true rfl] at hq
    clear hc
    go_enter Tryd.func18, Tryd.ntmps18
    go_wp2_with fail
    all_goals go_returns
    all_goals exact ⟨-1, 0, by rw [hcH.out]; first | done | rfl, fun z hz => (by rw [hcH.out] at hz; injection hz with hz; subst hz; exact ⟨rfl, rfl⟩), Below.refl _ _⟩
  · rw [decide_eq_false h45] at hq
    have hd : (mkT l).data.toList = l := by simp [mkT]
    obtain ⟨m, hm⟩ := hv.2.2.2.1
    have hvH := Lib.hid hv
    have hP := Tryd.strings_Cut (mkT l) ⟨#[58]⟩ m w (by omega) hm
    have e58 : (ByteArray.mk #[58]).data.toList = [58] := rfl
    rw [hd, e58] at hP
    have hc : cI l = match nI (Lib.cut l [58]).1, nI (Lib.cut l [58]).2.1 with
      | some v, some g => if inB v 0 1000 && inB g 1 9 then some (v, g) else none
      | _, _ => none := by unfold cI; rw [if_neg h45]; rfl
    have hlen : (Lib.cut l [58]).1.length ≤ 1048576 ∧ (Lib.cut l [58]).2.1.length ≤ 1048576 := by
      unfold Lib.cut
      split
      · simp; omega
      · simp; omega
    obtain ⟨a, ha⟩ : ∃ a, a = (Lib.cut l [58]).1 := ⟨_, rfl⟩
    obtain ⟨b, hb⟩ : ∃ b, b = (Lib.cut l [58]).2.1 := ⟨_, rfl⟩
    obtain ⟨f, hf⟩ : ∃ f, f = (Lib.cut l [58]).2.2 := ⟨_, rfl⟩
    rw [← ha, ← hb, ← hf] at hP
    rw [← ha, ← hb] at hc hlen
    have hA := fun w h => impl_readNumber a w hlen.1 h
    have hB := fun w h => impl_readNumber b w hlen.2 h
    have hPH : Hid (Calls Tryd.prog 31 #[.string (mkT l), .string ⟨#[58]⟩] w fun e w' => e = .returned (.tuple #[.string (mkT a), .string (mkT b), .bool f]) ∧ ∃ n, w' = w.drewN n) := hP
    have hcH := Lib.hid hc
    have hAH := Lib.hid hA
    have hBH := Lib.hid hB
    clear hc hA hB hP hv hm h45 hd ha hb hf e58 hlen
    go_enter Tryd.func18, Tryd.ntmps18
    go_wp2_with fail
    refine hPH.out.mono ?_
    rintro e w1 ⟨rfl, n, rfl⟩
    have hb1 : Below w.heap.size w (w.drewN n) := ⟨rfl, rfl, rfl, Nat.le_refl _, fun _ _ => rfl⟩
    go_wp2_with fail
    refine (hAH.out _ (hvH.out.up hb1)).mono ?_
    rintro e w2 ⟨v, rfl, hvv, hb2⟩
    have hvvH := Lib.hid hvv
    have hB2 : Below w.heap.size w w2 := hb1.trans hb2
    clear hvv hb2
    go_wp2_with fail
    refine (hBH.out _ (hvH.out.up hB2)).mono ?_
    rintro e w3 ⟨g, rfl, hgg, hb3⟩
    have hggH := Lib.hid hgg
    have hB3 : Below w.heap.size w w3 := hB2.trans (hb3.mono hB2.size)
    clear hgg hb3
    cases hna : nI a with
    | none =>
      rw [hna] at hcH
      have ho : (nI a).isSome = false := by rw [hna]; rfl
      have hcn : Hid (cI l = none) := hcH.out
      clear hna hcH hAH hBH hvvH hggH hPH
      go_wp2_with fail
      all_goals go_returns
      all_goals exact ⟨v, g, by rw [hcn.out]; first | done | rfl, fun z hz => (by rw [hcn.out] at hz; cases hz), by exact bgr⟩
    | some x =>
      have hvx := hvvH.out x hna
      subst hvx
      have ho : (nI a).isSome = true := by rw [hna]; rfl
      cases hnb : nI b with
      | none =>
        rw [hna, hnb] at hcH
        have ho2 : (nI b).isSome = false := by rw [hnb]; rfl
        have hcn : Hid (cI l = none) := hcH.out
        clear hna hnb hcH hAH hBH hvvH hggH hPH
        go_wp2_with fail
        all_goals go_returns
        all_goals exact ⟨v, g, by rw [hcn.out]; first | done | rfl, fun z hz => (by rw [hcn.out] at hz; cases hz), by exact bgr⟩
      | some y =>
        have hgy := hggH.out y hnb
        subst hgy
        have ho2 : (nI b).isSome = true := by rw [hnb]; rfl
        rw [hna, hnb] at hcH
        cases hgr : (inB v 0 1000 && inB g 1 9)
        · have hcn : Hid (cI l = none) := by
            show _ = _
            rw [hcH.out]; simp only [hgr]; rfl
          have hgrH := Lib.hid hgr
          clear hna hnb hcH hAH hBH hvvH hggH hPH hgr
          go_wp2_with fail
          refine (impl_isGraded' _ _ _ _ hgrH.out).mono ?_
          rintro e w4 ⟨rfl, rfl⟩
          go_wp2_with fail
          all_goals go_returns
          all_goals exact ⟨v, g, by rw [hcn.out]; first | done | rfl, fun z hz => (by rw [hcn.out] at hz; cases hz), by exact bgr⟩
        · have hcn : Hid (cI l = some (v, g)) := by
            show _ = _
            rw [hcH.out]; simp only [hgr]; rfl
          have hgrH := Lib.hid hgr
          clear hna hnb hcH hAH hBH hvvH hggH hPH hgr
          go_wp2_with fail
          refine (impl_isGraded' _ _ _ _ hgrH.out).mono ?_
          rintro e w4 ⟨rfl, rfl⟩
          go_wp2_with fail
          all_goals go_returns
          all_goals exact ⟨v, g, by rw [hcn.out]; first | done | rfl, fun z hz => (by rw [hcn.out] at hz; injection hz with hz; subst hz; exact ⟨rfl, rfl⟩), by exact bgr⟩
end Go.Proofs.YtgokiedhdihamaaDoor
