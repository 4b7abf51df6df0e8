/- The program's ContactsIn returns what the reference's returns, for all arguments; no condition. -/
import Derived.Test.YtgjdahgecbdclaaLContactsIn
namespace Go.Proofs.Ytgjdahgecbdclaa.fnExactContactsIn
open Go.ChangeShapes Go.WideShapes Go.ChangeAt Go.RowKit
open Go.ChangeMaps (open_string)
set_option linter.unusedVariables false
set_option maxRecDepth 100000 in
theorem lifted (os : Os) (started : os.Started) (H : Type) (enc : TypeId × Value → H) :
    ReturnsInHanded {} Try.checked os 7 .any (Rows.fnExactContactsInSpec.pre6 enc Try.prog Try.f7 Rows.fnExactContactsInRow.domain false) (Rows.fnExactContactsInSpec.post enc Try.prog Try.f7 false true false false) := by
  refine returnsInHanded_of_change (C := Try.checked) own started (by kernel_rfl) Try.func7
    (ChangeSpec.witness6 (enc := enc) (C := Try.checked) false ⟨#[], #[.agg #[.int .i64 0, .int .i64 0, .int .i64 0, .int .i64 0, .int .i64 0], .slice none 0 0], []⟩ 8 (by kernel_rfl) (by kernel_rfl) (by kernel_rfl) (by kernel_rfl)) ?_
  intro W base args ds gs before hval0 hW hcnd _
  have hval := hval0
  clear hval0
  obtain ⟨p, q, hA, hV, hbf, hfz, hnd⟩ := id hW
  rw [Try.params7] at hA hval
  obtain ⟨v0, vs0, d0, ds0, p0, q0, hargs, rfl, rfl, h0, r0⟩ := trodAll_cons hA
  obtain ⟨v1, vs1, d1, ds1, p1, q1, rfl, rfl, rfl, h1, r1⟩ := trodAll_cons r0
  obtain ⟨rfl, rfl, rfl⟩ := trodAll_nil r1
  obtain rfl : args = #[v0, v1] := by cases args; simp_all
  obtain ⟨rfl, rfl⟩ := trodVars_none hV
  clear hV hnd hbf hcnd
  obtain ⟨c0_0, c0_1, c0_2, c0_3, c0_4, rfl⟩ := open_motion (hval 0 23 v0 rfl rfl) h0
  obtain ⟨A1, k1, x1, rfl, hr1, hl1⟩ := open_contacts (hval 1 42 v1 rfl rfl) h1
  refine (walk_ContactsIn _ _ _ _ _ _ _ _ W hr1 hl1).mono fun e W' ⟨he, hb⟩ => ?_
  subst he
  exact ⟨_, rfl, law_post laidOut (by kernel_rfl) rfl Try.underlying4 rfl rfl hW hb⟩
end Go.Proofs.Ytgjdahgecbdclaa.fnExactContactsIn
