/- Shrinking by 1 changes nothing, and no value of a shrunk mosaic lies outside of those of the mosaic; no condition. -/
import Derived.Test.YtdedmiennpbfcaaLShrunk
namespace Go.Proofs.Ytdedmiennpbfcaa.fnShrunk
open Go.ChangeShapes Go.WideShapes Go.ChangeAt Go.RowKit
open Go.ChangeMaps (open_string)
set_option linter.unusedVariables false
set_option maxRecDepth 100000 in
theorem lifted (os : Os) (started : os.Started) (H : Type) (enc : TypeId × Value → H) :
    ReturnsInHanded {} Try.checked os 3 .any (Rows.fnShrunkSpec.pre6 enc Try.prog Try.f3 Rows.fnShrunkRow.domain false) (Rows.fnShrunkSpec.post enc Try.prog Try.f3 false true false false) := by
  refine returnsInHanded_of_change (C := Try.checked) own started (by kernel_rfl) Try.func3
    (ChangeSpec.witness6 (enc := enc) (C := Try.checked) false ⟨#[], #[.slice none 0 0], []⟩ 8 (by kernel_rfl) (by kernel_rfl) (by kernel_rfl) (by kernel_rfl)) ?_
  intro W base args ds gs before hval0 hW hcnd _
  have hval := hval0
  clear hval0
  obtain ⟨p, q, hA, hV, hbf, hfz, hnd⟩ := id hW
  rw [Try.params3] at hA hval
  obtain ⟨v0, vs0, d0, ds0, p0, q0, hargs, rfl, rfl, h0, r0⟩ := trodAll_cons hA
  obtain ⟨rfl, rfl, rfl⟩ := trodAll_nil r0
  obtain rfl : args = #[v0] := by cases args; simp_all
  obtain ⟨rfl, rfl⟩ := trodVars_none hV
  clear hV hnd hbf hcnd
  obtain ⟨A0, k0, x0, rfl, z0, f0, l0⟩ := open_U8 Try.underlying22 Try.underlying5 (by kernel_rfl) (hval 0 22 v0 rfl rfl) h0
  refine (walk_Shrunk _ _ _ W z0 f0).mono fun e W' ⟨he, hb⟩ => ?_
  subst he
  exact ⟨_, rfl, law_post laidOut (by kernel_rfl) rfl Try.underlying4 rfl rfl hW hb⟩
end Go.Proofs.Ytdedmiennpbfcaa.fnShrunk
