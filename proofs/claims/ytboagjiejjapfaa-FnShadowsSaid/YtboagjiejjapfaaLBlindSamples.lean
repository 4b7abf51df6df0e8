/- The program's BlindSamples returns what the reference's returns, for all arguments; no condition. -/
import Derived.Test.YtboagjiejjapfaaNum
namespace Go.Proofs.Ytboagjiejjapfaa
open Go.RowKit
set_option linter.unusedVariables false

def fBlind (s a : Int) : Int × Int := if inB s 1 5000 && inB a 0 1000000 then (Pl.cdv a s, 0) else (0, 2)

theorem impl_BlindSamples (s a : Int) (w : World) : Calls Try.prog 16 #[.int .i64 s, .int .i64 a] w fun e w' => e = .returned (.tuple #[.int .i64 (fBlind s a).1, .int .i64 (fBlind s a).2]) ∧ w = w' := by
  cases h1 : inB s 1 5000
  · go_enter Try.func16, Try.ntmps16
    go_wp2_with (first | (go_at_call 53; refine (impl_isSideStep _ _).mono ?_; rintro e w' ⟨rfl, rfl⟩) | (go_at_call 54; refine (impl_isSlant _ _).mono ?_; rintro e w' ⟨rfl, rfl⟩))
    go_ret2
    exact ⟨ret_ii (by simp [fBlind, h1]) (by simp [fBlind, h1]), rfl⟩
  · cases h2 : inB a 0 1000000
    · go_enter Try.func16, Try.ntmps16
      go_wp2_with (first | (go_at_call 53; refine (impl_isSideStep _ _).mono ?_; rintro e w' ⟨rfl, rfl⟩) | (go_at_call 54; refine (impl_isSlant _ _).mono ?_; rintro e w' ⟨rfl, rfl⟩))
      go_ret2
      exact ⟨ret_ii (by simp [fBlind, h1, h2]) (by simp [fBlind, h1, h2]), rfl⟩
    · have b1 := of_inB h1
      have b2 := of_inB h2
      go_enter Try.func16, Try.ntmps16
      go_wp2_with (first | (go_at_call 53; refine (impl_isSideStep _ _).mono ?_; rintro e w' ⟨rfl, rfl⟩) | (go_at_call 54; refine (impl_isSlant _ _).mono ?_; rintro e w' ⟨rfl, rfl⟩) | (go_at_call 55; refine (impl_ceilDiv _ _ _ (by omega) (by omega) (by omega)).mono ?_; rintro e w' ⟨rfl, rfl⟩))
      go_ret2
      exact ⟨ret_ii (by simp [fBlind, h1, h2]) (by simp [fBlind, h1, h2]), rfl⟩
theorem spec_BlindSamples (s a : Int) (w : World) : Calls Try.prog 15 #[.int .i64 s, .int .i64 a] w fun e w' => e = .returned (.tuple #[.int .i64 (fBlind s a).1, .int .i64 (fBlind s a).2]) ∧ w = w' := by
  cases h1 : inB s 1 5000 && inB a 0 1000000
  · go_enter Try.func15, Try.ntmps15
    go_wp2_with (first | (go_at_call 51; refine (spec_l18Step _ _ _).mono ?_; rw [h1]; rintro e w' ⟨rfl, rfl⟩))
    go_ret2
    exact ⟨ret_ii (by simp [fBlind, h1]) (by simp [fBlind, h1]), rfl⟩
  · have b0 := h1
    rw [Bool.and_eq_true] at b0
    have b1 := of_inB b0.1
    have b2 := of_inB b0.2
    clear b0
    go_enter Try.func15, Try.ntmps15
    go_wp2_with (first | (go_at_call 51; refine (spec_l18Step _ _ _).mono ?_; rw [h1]; rintro e w' ⟨rfl, rfl⟩) | (go_at_call 52; refine (spec_l01Ceil _ _ _ (by omega) (by omega) (by omega)).mono ?_; rintro e w' ⟨rfl, rfl⟩))
    go_ret2
    exact ⟨ret_ii (by simp [fBlind, h1]) (by simp [fBlind, h1]), rfl⟩
namespace blindSamples
open Go.ChangeShapes Go.WideShapes Go.ChangeAt
theorem walk (s a : Int) (w : World) : Calls Try.prog 3 #[.int .i64 s, .int .i64 a] w fun e w' => e = .returned (.bool true) ∧ w = w' := by
  go_enter Try.func3, Try.ntmps3
  go_wp2_with (first | (go_at_call 15; refine (spec_BlindSamples _ _ _).mono ?_; rintro e w' ⟨rfl, rfl⟩) | (go_at_call 16; refine (impl_BlindSamples _ _ _).mono ?_; rintro e w' ⟨rfl, rfl⟩))
  all_goals go_ret
  all_goals exact ⟨rfl, rfl⟩
set_option maxRecDepth 100000 in
theorem lifted (os : Os) (started : os.Started) (H : Type) (enc : TypeId × Value → H) :
    ReturnsInHanded {} Try.checked os 3 .any (Rows.fnExactBlindSamplesSpec.pre6 enc Try.prog Try.f3 Rows.fnExactBlindSamplesRow.domain false) (Rows.fnExactBlindSamplesSpec.post enc Try.prog Try.f3 false true false false) := by
  refine returnsInHanded_of_change (C := Try.checked) own started (by kernel_rfl) Try.func3
    (ChangeSpec.witness6 (enc := enc) (C := Try.checked) false ⟨#[], #[.int .i64 0, .int .i64 0], []⟩ 8 (by kernel_rfl) (by kernel_rfl) (by kernel_rfl) (by kernel_rfl)) ?_
  intro W base args ds gs before hval0 hW hcnd _
  have hval := hval0
  clear hval0
  obtain ⟨p, q, hA, hV, hbf, hfz, hnd⟩ := id hW
  rw [Try.params3] at hA hval
  obtain ⟨v0, vs0, d0, ds0, p0, q0, hargs, rfl, rfl, h0, r0⟩ := trodAll_cons hA
  obtain ⟨v1, vs1, d1, ds1, p1, q1, rfl, rfl, rfl, h1, r1⟩ := trodAll_cons r0
  obtain ⟨rfl, rfl, rfl⟩ := trodAll_nil r1
  obtain rfl : args = #[v0, v1] := by cases args; simp_all
  obtain ⟨rfl, rfl⟩ := trodVars_none hV
  clear hV hnd hbf hcnd
  obtain ⟨a0, rfl, rfl, rfl, w0⟩ := open_int Try.underlying2 (hval 0 2 v0 rfl rfl) h0
  obtain ⟨a1, rfl, rfl, rfl, w1⟩ := open_int Try.underlying2 (hval 1 2 v1 rfl rfl) h1
  refine (walk a0 a1 W).mono fun e W' ⟨he, hw⟩ => ?_
  subst he hw
  have hb := Below.refl W.heap.size W
  exact ⟨_, rfl, law_post laidOut (by kernel_rfl) rfl Try.underlying4 rfl rfl hW hb⟩
theorem over : Rows.fnExactBlindSamplesRow.holds Try.pinned (OpenSpec.ofChange Rows.fnExactBlindSamplesSpec) :=
  OpenClaim.holds_of_wide 3 Try.f3 rfl rfl rfl rfl rfl rfl rfl ⟨rfl, rfl, rfl, rfl, rfl⟩ rfl rfl rfl rfl rfl (by kernel_rfl) Try.func3 (by kernel_rfl)
    (of_decide_eq_true (by kernel_rfl)) (by unfold Func.isWrapper; first | (rw [if_pos (by decide +kernel)]; kernel_rfl) | (rw [if_neg (by decide +kernel)]; exact ⟨rfl, rfl⟩))
    (fun os started H enc _ => lifted os started H enc)

/-- The given statement. -/
theorem proved : Rows.FnExactBlindSamplesSaid := over
#print axioms proved
end blindSamples
end Go.Proofs.Ytboagjiejjapfaa
