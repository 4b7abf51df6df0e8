/- The reference's cut of a text: contract. -/
import Derived.Test.YtgokiedhdihamaaDoorRmV
import Derived.Test.YtgokiedhdihamaaDoorStrO
namespace Go.Proofs.YtgokiedhdihamaaDoor
open Go.RowKit Go.ChangeShapes Go.WideShapes Go.ChangeAt
set_option linter.unusedVariables false
set_option linter.unusedSimpArgs false
/-- what is read of a piece -/
def curp (l : List UInt8) (f i : Nat) : List UInt8 := (l.drop f).take (i - f)
theorem curp_next {l : List UInt8} {f i : Nat} {b : UInt8} (h : l[i]? = some b) (hf : f ≤ i) : curp l f (i + 1) = curp l f i ++ [b] := by
  unfold curp
  rw [show i + 1 - f = (i - f) + 1 by omega, List.take_add_one, List.getElem?_drop, show f + (i - f) = i by omega, h]; rfl
theorem drop_at {l : List UInt8} {i : Nat} {b : UInt8} (h : l[i]? = some b) : l.drop i = b :: l.drop (i + 1) := by
  have h3 := lt_of_get h
  rw [List.drop_eq_getElem_cons h3]
  rw [List.getElem?_eq_getElem h3] at h
  injection h with h
  rw [h]
set_option maxRecDepth 100000 in
set_option maxHeartbeats 3200000 in
theorem spec_l01Split (l : List UInt8) (c : UInt8) (w : World) (hl : l.length ≤ 1048576) :
    Calls Tryd.prog 14 #[.string (mkT l), .int .u8 (c.toNat : Int)] w fun e w' => ∃ v, e = .returned v ∧ OwnX w' w.heap.size v (spl c l) ∧ Below w.heap.size w w' := by
  have hsz := mkT_size l
  have hext := mkT_ext l
  have hsl : (spl c l).length ≤ l.length + 1 := sp_len l []
  go_enter Tryd.func14, Tryd.ntmps14
  go_wp2_with fail
  go_loopw [5, 6, 7] (fun out from_ iv wr => ∃ (ls : List (List UInt8)) (f i : Nat), iv = .int .i64 (i : Int) ∧ from_ = .int .i64 (f : Int) ∧ OwnX wr w.heap.size out ls ∧ Below w.heap.size w wr ∧ ls.length ≤ 1048577 ∧ ((i ≤ l.length ∧ f ≤ i ∧ Hid (spl c l = ls ++ sp c (curp l f i) (l.drop i))) ∨ (i = l.length + 1 ∧ Hid (spl c l = ls)))) (fun _ _ iv _ => l.length + 1 - (intOf iv).toNat)
  case atStart => exact ⟨[], 0, 0, rfl, rfl, OwnX.lit0 (Nat.le_refl _), Below.new (Below.refl _ _) _, by simp, .inl ⟨Nat.zero_le _, Nat.le_refl _, by simp [Hid, curp, spl]⟩⟩
  case round =>
    obtain ⟨ls, f, i, rfl, rfl, ox, hbr, hls, hr⟩ := hrel
    rcases hr with ⟨hi, hf, hin⟩ | ⟨hi, hin⟩
    · have p1 : (i : Int) ≤ (l.length : Int) := by omega
      have zr := hbr.size
      by_cases hlt : i < l.length
      · have p2 : ((i : Int) == (l.length : Int)) = false := by rw [beq_eq_false_iff_ne]; omega
        obtain ⟨b, hb⟩ := get_of_lt hlt
        have hget : ∀ h2, (mkT l)[i]'h2 = b := fun h2 => mkT_get hb h2
        by_cases hbc : b = c
        · subst hbc
          have hin2 : Hid (spl b l = (ls ++ [curp l f i]) ++ sp b (curp l (i + 1) (i + 1)) (l.drop (i + 1))) := by
            show _ = _
            rw [hin.out, drop_at hb, sp_hit]; simp [curp]
          have e1 : (mkT l).extract f i = mkT (curp l f i) := mkT_ext l f i
          have hlen : (ls ++ [curp l f i]).length ≤ 1048577 := by
            have := congrArg List.length hin2.out
            rw [List.length_append] at this
            have := List.length_pos_iff.2 (sp_ne (c := b) (l.drop (i + 1)) (curp l (i + 1) (i + 1)))
            omega
          clear hin hb
          go_wp2_with (at_builtin; refine push_X wr.heap.size (by simp) ox (by first | exact e1 | rfl) (by rfl) _ _ (by rfl) (by rfl) (by rfl) (by omega) (by omega) ?_; intro v6 w6 ox6 hg6 hb6)
          refine ⟨⟨ls ++ [curp l f i], i + 1, i + 1, rfl, rfl, ox6, hbr.trans hb6, hlen, .inl ⟨by omega, Nat.le_refl _, hin2⟩⟩, ?_⟩
          simp only [intOf]; omega
        · have hbc2 : ((b.toNat : Int) == (c.toNat : Int)) = false := by
            rw [beq_eq_false_iff_ne]
            intro e
            apply hbc
            apply UInt8.toNat_inj.1
            omega
          have hin2 : Hid (spl c l = ls ++ sp c (curp l f (i + 1)) (l.drop (i + 1))) := by
            show _ = _
            rw [hin.out, drop_at hb, sp_miss hbc, curp_next hb hf]
          clear hin hb
          go_wp2_with fail
          refine ⟨⟨ls, f, i + 1, rfl, rfl, ox, hbr, hls, .inl ⟨by omega, by omega, hin2⟩⟩, ?_⟩
          simp only [intOf]; omega
      · have he : i = l.length := by omega
        subst he
        have p2 : ((l.length : Int) == (l.length : Int)) = true := by simp
        have hin2 : Hid (spl c l = ls ++ [curp l f l.length]) := by
          show _ = _
          rw [hin.out, List.drop_length, sp_nil]
        have e1 : (mkT l).extract f l.length = mkT (curp l f l.length) := mkT_ext l f l.length
        have hlen : (ls ++ [curp l f l.length]).length ≤ 1048577 := by
          have := congrArg List.length hin2.out
          omega
        clear hin
        go_wp2_with (at_builtin; refine push_X wr.heap.size (by simp) ox (by first | exact e1 | rfl) (by rfl) _ _ (by rfl) (by rfl) (by rfl) (by omega) (by omega) ?_; intro v6 w6 ox6 hg6 hb6)
        refine ⟨⟨ls ++ [curp l f l.length], l.length + 1, l.length + 1, rfl, rfl, ox6, hbr.trans hb6, hlen, .inr ⟨rfl, hin2⟩⟩, ?_⟩
        simp only [intOf]; omega
    · have p1 : ¬ (i : Int) ≤ (l.length : Int) := by omega
      rw [← hin.out] at ox
      go_wp2_with fail
      go_ret
      exact ⟨_, rfl, ox, hbr⟩
end Go.Proofs.YtgokiedhdihamaaDoor
