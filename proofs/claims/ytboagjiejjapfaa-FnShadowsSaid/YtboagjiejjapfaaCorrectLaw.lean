/- Corrected lines: the law's walk. -/
import Derived.Test.YtboagjiejjapfaaCorrect
import Derived.Test.YtboagjiejjapfaaLawKit
namespace Go.Proofs.Ytboagjiejjapfaa
open Go.RowKit
set_option linter.unusedVariables false
set_option linter.unusedSimpArgs false
theorem corrRow_len (xs : List Int) (s a : Int) : (corrRow xs s a).length ≤ 200 := by
  unfold corrRow
  split
  · rename_i h
    rw [Bool.and_eq_true] at h
    have := line_len h.1
    simp [corrAll]; omega
  · simp
theorem walk_CorrectLine (A : Option Addr) (c : Nat) (xs : List Int) (s a : Int) (w : World) (hr : I64 w w.heap.size A xs) (hl : xs.length ≤ 9223372036854775807) :
    Calls Try.prog 12 #[.slice A xs.length c, .int .i64 s, .int .i64 a] w fun e w' => e = .returned (.bool true) ∧ Below w.heap.size w w' := by
  by_cases h : 1048576 < xs.length
  · go_enter Try.func12, Try.ntmps12
    go_wp2
    go_ret
    exact ⟨rfl, Below.refl _ _⟩
  · have hR := corrRow_len xs s a
    go_enter Try.func12, Try.ntmps12
    have hB0 : Below w.heap.size w w := Below.refl _ _
    go_wp2_with fail
    refine (toR hr hB0 (by omega)).mono ?_
    rintro e w1 ⟨ga, rfl, oa, hb1⟩
    have sz1 := hb1.size
    have hB1 := Below.next hB0 hb1
    clear hB0 hb1
    go_wp2_with fail
    refine (spec_CorrectLine _ _ _ _ _ _ oa.rd (by omega)).mono ?_
    rintro e w2 ⟨vs, rfl, os, hb2⟩
    have sz2 := hb2.size
    have hB2 := Below.next hB1 hb2
    have oa := oa.next hb2
    clear hB1 hb2
    have os := OwnI.inR os
    obtain ⟨As, cs, rfl⟩ := os.form
    go_wp2_with fail
    refine (toR hr hB2 (by omega)).mono ?_
    rintro e w3 ⟨gx, rfl, ox, hb3⟩
    have sz3 := hb3.size
    have hB3 := Below.next hB2 hb3
    have oa := oa.next hb3
    have os := os.next hb3
    clear hB2 hb3
    go_wp2_with fail
    refine (impl_CorrectLine _ _ _ _ _ _ ox.rd (by omega)).mono ?_
    rintro e w4 ⟨vg, rfl, og, hb4⟩
    have sz4 := hb4.size
    have hB4 := Below.next hB3 hb4
    have oa := oa.next hb4
    have os := os.next hb4
    have ox := ox.next hb4
    clear hB3 hb4
    have og := OwnI.inR og
    obtain ⟨Ag, cg, rfl⟩ := og.form
    go_wp2_with fail
    refine (eqR og os (by omega) (by omega)).mono ?_
    rintro e w5 ⟨rfl, hb5⟩
    have sz5 := hb5.size
    have hB5 := Below.next hB4 hb5
    have oa := oa.next hb5
    have os := os.next hb5
    have ox := ox.next hb5
    have og := og.next hb5
    clear hB4 hb5
    go_wp2_with fail
    refine (toR hr hB5 (by omega)).mono ?_
    rintro e w6 ⟨gc, rfl, oc, hb6⟩
    have sz6 := hb6.size
    have hB6 := Below.next hB5 hb6
    have oa := oa.next hb6
    have os := os.next hb6
    have ox := ox.next hb6
    have og := og.next hb6
    clear hB5 hb6
    go_wp2_with fail
    refine (eqR ox oc (by omega) (by omega)).mono ?_
    rintro e w7 ⟨rfl, hb7⟩
    have sz7 := hb7.size
    have hB7 := Below.next hB6 hb7
    have oa := oa.next hb7
    have os := os.next hb7
    have ox := ox.next hb7
    have og := og.next hb7
    have oc := oc.next hb7
    clear hB6 hb7
    go_wp2_with fail
    refine (markR ox (by omega) (by omega) (by omega)).mono ?_
    rintro e w8 ⟨rfl, mx, hw8⟩
    have sz8 := hw8.size
    have hB8 := hB7.trans (hw8.below (by omega) hB7.size)
    have oa := oa.apart hw8 (by omega)
    have os := os.apart hw8 (by omega)
    have og := og.apart hw8 (by omega)
    have oc := oc.apart hw8 (by omega)
    clear ox hB7 hw8
    have ox := mx
    clear mx
    go_wp2_with fail
    refine (eqR og os (by omega) (by omega)).mono ?_
    rintro e w9 ⟨rfl, hb9⟩
    have sz9 := hb9.size
    have hB9 := Below.next hB8 hb9
    have oa := oa.next hb9
    have os := os.next hb9
    have ox := ox.next hb9
    have og := og.next hb9
    have oc := oc.next hb9
    clear hB8 hb9
    go_wp2_with fail
    refine (markR og (by omega) (by omega) (by omega)).mono ?_
    rintro e w10 ⟨rfl, mg, hw10⟩
    have sz10 := hw10.size
    have hB10 := hB9.trans (hw10.below (by omega) hB9.size)
    have oa := oa.apart hw10 (by omega)
    have os := os.apart hw10 (by omega)
    have ox := ox.apart hw10 (by omega)
    have oc := oc.apart hw10 (by omega)
    clear og hB9 hw10
    have og := mg
    clear mg
    go_wp2_with fail
    refine (heldR og (by omega) (by omega) (by omega)).mono ?_
    rintro e w' ⟨rfl, rfl⟩
    go_wp2_with fail
    refine (toR hr hB10 (by omega)).mono ?_
    rintro e w11 ⟨ge, rfl, oe, hb11⟩
    have sz11 := hb11.size
    have hB11 := Below.next hB10 hb11
    have oa := oa.next hb11
    have os := os.next hb11
    have ox := ox.next hb11
    have og := og.next hb11
    have oc := oc.next hb11
    clear hB10 hb11
    go_wp2_with fail
    refine (impl_CorrectLine _ _ _ _ _ _ oe.rd (by omega)).mono ?_
    rintro e w12 ⟨vh, rfl, oh, hb12⟩
    have sz12 := hb12.size
    have hB12 := Below.next hB11 hb12
    have oa := oa.next hb12
    have os := os.next hb12
    have ox := ox.next hb12
    have og := og.next hb12
    have oc := oc.next hb12
    have oe := oe.next hb12
    clear hB11 hb12
    have oh := OwnI.inR oh
    obtain ⟨Ah, ch, rfl⟩ := oh.form
    go_wp2_with fail
    refine (eqR oh os (by omega) (by omega)).mono ?_
    rintro e w13 ⟨rfl, hb13⟩
    have sz13 := hb13.size
    have hB13 := Below.next hB12 hb13
    have oa := oa.next hb13
    have os := os.next hb13
    have ox := ox.next hb13
    have og := og.next hb13
    have oc := oc.next hb13
    have oe := oe.next hb13
    have oh := oh.next hb13
    clear hB12 hb13
    go_wp2_with fail
    refine (heldR og (by omega) (by omega) (by omega)).mono ?_
    rintro e w' ⟨rfl, rfl⟩
    go_wp2
    go_ret
    exact ⟨rfl, hB13⟩
end Go.Proofs.Ytboagjiejjapfaa
