/- The program's StepPicture returns what the reference's returns, for all arguments; no condition. -/
import Derived.Test.YtmojjdflihakkaaLStepPicture
namespace Go.Proofs.Ytmojjdflihakkaa.fnExactStepPicture
open Go.ChangeShapes Go.WideShapes Go.ChangeAt Go.RowKit
open Go.ChangeMaps (open_string)
set_option linter.unusedVariables false
set_option maxRecDepth 100000 in
theorem lifted (os : Os) (started : os.Started) (H : Type) (enc : TypeId × Value → H) :
    ReturnsInHanded {} Try.checked os 11 .any (Rows.fnExactStepPictureSpec.pre6 enc Try.prog Try.f11 Rows.fnExactStepPictureRow.domain false) (Rows.fnExactStepPictureSpec.post enc Try.prog Try.f11 false true false false) := by
  refine returnsInHanded_of_change (C := Try.checked) own started (by kernel_rfl) Try.func11
    (ChangeSpec.witness6 (enc := enc) (C := Try.checked) false ⟨#[], #[.agg #[.slice none 0 0, .int .i64 0, .int .i64 0], .slice none 0 0], []⟩ 8 (by kernel_rfl) (by kernel_rfl) (by kernel_rfl) (by kernel_rfl)) ?_
  intro W base args ds gs before hval0 hW hcnd _
  have hval := hval0
  clear hval0
  obtain ⟨p, q, hA, hV, hbf, hfz, hnd⟩ := id hW
  rw [Try.params11] at hA hval
  obtain ⟨v0, vs0, d0, ds0, p0, q0, hargs, rfl, rfl, h0, r0⟩ := trodAll_cons hA
  obtain ⟨v1, vs1, d1, ds1, p1, q1, rfl, rfl, rfl, h1, r1⟩ := trodAll_cons r0
  obtain ⟨rfl, rfl, rfl⟩ := trodAll_nil r1
  obtain rfl : args = #[v0, v1] := by cases args; simp_all
  obtain ⟨rfl, rfl⟩ := trodVars_none hV
  clear hV hnd hbf hcnd
  obtain ⟨A0, c0, x0, p0_, q0_, rfl, hr0, hl0, hp0, hq0⟩ := open_picture (hval 0 57 v0 rfl rfl) h0
  obtain ⟨A1, k1, x1, rfl, hr1, hl1⟩ := open_contacts (hval 1 72 v1 rfl rfl) h1
  refine (walk_StepPicture _ _ _ _ _ _ _ _ W hr0 hr1 hl0 hl1).mono fun e W' ⟨he, hb⟩ => ?_
  subst he
  exact ⟨_, rfl, law_post laidOut (by kernel_rfl) rfl Try.underlying4 rfl rfl hW hb⟩
end Go.Proofs.Ytmojjdflihakkaa.fnExactStepPicture
