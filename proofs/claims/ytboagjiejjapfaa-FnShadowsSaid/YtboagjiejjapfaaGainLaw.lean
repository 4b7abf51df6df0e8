/- Gains of a line: the law's walk. -/
import Derived.Test.YtboagjiejjapfaaGain
import Derived.Test.YtboagjiejjapfaaLawKit
namespace Go.Proofs.Ytboagjiejjapfaa
open Go.RowKit
set_option linter.unusedVariables false
set_option linter.unusedSimpArgs false
theorem gainRow_len (xs gs : List Int) : (gainRow xs gs).length ≤ 200 := by
  unfold gainRow
  split
  · rename_i h
    rw [Bool.and_eq_true] at h
    have := line_len h.1
    simp [gainAll]; omega
  · simp
theorem walk_GainLine (A B : Option Addr) (c d : Nat) (xs gs : List Int) (w : World) (hr : I64 w w.heap.size A xs) (hs : I64 w w.heap.size B gs) (hl : xs.length ≤ 9223372036854775807) (hm : gs.length ≤ 9223372036854775807) :
    Calls Try.prog 9 #[.slice A xs.length c, .slice B gs.length d] w fun e w' => e = .returned (.bool true) ∧ Below w.heap.size w w' := by
  by_cases h : 1048576 < xs.length
  · go_enter Try.func9, Try.ntmps9
    go_wp2
    go_ret
    exact ⟨rfl, Below.refl _ _⟩
  · by_cases h' : 1048576 < gs.length
    · go_enter Try.func9, Try.ntmps9
      go_wp2
      go_ret
      exact ⟨rfl, Below.refl _ _⟩
    · have hR := gainRow_len xs gs
      go_enter Try.func9, Try.ntmps9
      have hB0 : Below w.heap.size w w := Below.refl _ _
      go_wp2_with fail
      refine (toR hr hB0 (by omega)).mono ?_
      rintro e w1 ⟨ga, rfl, oa, hb1⟩
      have sz1 := hb1.size
      have hB1 := Below.next hB0 hb1
      clear hB0 hb1
      go_wp2_with fail
      refine (toR hs hB1 (by omega)).mono ?_
      rintro e w2 ⟨gb, rfl, ob, hb2⟩
      have sz2 := hb2.size
      have hB2 := Below.next hB1 hb2
      have oa := oa.next hb2
      clear hB1 hb2
      go_wp2_with fail
      refine (spec_GainLine _ _ _ _ _ _ _ oa.rd ob.rd (by omega) (by omega)).mono ?_
      rintro e w3 ⟨vs, rfl, os, hb3⟩
      have sz3 := hb3.size
      have hB3 := Below.next hB2 hb3
      have oa := oa.next hb3
      have ob := ob.next hb3
      clear hB2 hb3
      have os := OwnI.inR os
      obtain ⟨As, cs, rfl⟩ := os.form
      go_wp2_with fail
      refine (toR hr hB3 (by omega)).mono ?_
      rintro e w4 ⟨gx, rfl, ox, hb4⟩
      have sz4 := hb4.size
      have hB4 := Below.next hB3 hb4
      have oa := oa.next hb4
      have ob := ob.next hb4
      have os := os.next hb4
      clear hB3 hb4
      go_wp2_with fail
      refine (toR hs hB4 (by omega)).mono ?_
      rintro e w5 ⟨gy, rfl, oy, hb5⟩
      have sz5 := hb5.size
      have hB5 := Below.next hB4 hb5
      have oa := oa.next hb5
      have ob := ob.next hb5
      have os := os.next hb5
      have ox := ox.next hb5
      clear hB4 hb5
      go_wp2_with fail
      refine (impl_GainLine _ _ _ _ _ _ _ ox.rd oy.rd (by omega) (by omega)).mono ?_
      rintro e w6 ⟨vg, rfl, og, hb6⟩
      have sz6 := hb6.size
      have hB6 := Below.next hB5 hb6
      have oa := oa.next hb6
      have ob := ob.next hb6
      have os := os.next hb6
      have ox := ox.next hb6
      have oy := oy.next hb6
      clear hB5 hb6
      have og := OwnI.inR og
      obtain ⟨Ag, cg, rfl⟩ := og.form
      go_wp2_with fail
      refine (eqR og os (by omega) (by omega)).mono ?_
      rintro e w7 ⟨rfl, hb7⟩
      have sz7 := hb7.size
      have hB7 := Below.next hB6 hb7
      have oa := oa.next hb7
      have ob := ob.next hb7
      have os := os.next hb7
      have ox := ox.next hb7
      have oy := oy.next hb7
      have og := og.next hb7
      clear hB6 hb7
      go_wp2_with fail
      refine (toR hr hB7 (by omega)).mono ?_
      rintro e w8 ⟨gc, rfl, oc, hb8⟩
      have sz8 := hb8.size
      have hB8 := Below.next hB7 hb8
      have oa := oa.next hb8
      have ob := ob.next hb8
      have os := os.next hb8
      have ox := ox.next hb8
      have oy := oy.next hb8
      have og := og.next hb8
      clear hB7 hb8
      go_wp2_with fail
      refine (eqR ox oc (by omega) (by omega)).mono ?_
      rintro e w9 ⟨rfl, hb9⟩
      have sz9 := hb9.size
      have hB9 := Below.next hB8 hb9
      have oa := oa.next hb9
      have ob := ob.next hb9
      have os := os.next hb9
      have ox := ox.next hb9
      have oy := oy.next hb9
      have og := og.next hb9
      have oc := oc.next hb9
      clear hB8 hb9
      go_wp2_with fail
      refine (toR hs hB9 (by omega)).mono ?_
      rintro e w10 ⟨gd, rfl, od, hb10⟩
      have sz10 := hb10.size
      have hB10 := Below.next hB9 hb10
      have oa := oa.next hb10
      have ob := ob.next hb10
      have os := os.next hb10
      have ox := ox.next hb10
      have oy := oy.next hb10
      have og := og.next hb10
      have oc := oc.next hb10
      clear hB9 hb10
      go_wp2_with fail
      refine (eqR oy od (by omega) (by omega)).mono ?_
      rintro e w11 ⟨rfl, hb11⟩
      have sz11 := hb11.size
      have hB11 := Below.next hB10 hb11
      have oa := oa.next hb11
      have ob := ob.next hb11
      have os := os.next hb11
      have ox := ox.next hb11
      have oy := oy.next hb11
      have og := og.next hb11
      have oc := oc.next hb11
      have od := od.next hb11
      clear hB10 hb11
      go_wp2_with fail
      refine (markR ox (by omega) (by omega) (by omega)).mono ?_
      rintro e w12 ⟨rfl, mx, hw12⟩
      have sz12 := hw12.size
      have hB12 := hB11.trans (hw12.below (by omega) hB11.size)
      have oa := oa.apart hw12 (by omega)
      have ob := ob.apart hw12 (by omega)
      have os := os.apart hw12 (by omega)
      have oy := oy.apart hw12 (by omega)
      have og := og.apart hw12 (by omega)
      have oc := oc.apart hw12 (by omega)
      have od := od.apart hw12 (by omega)
      clear ox hB11 hw12
      have ox := mx
      clear mx
      go_wp2_with fail
      refine (markR oy (by omega) (by omega) (by omega)).mono ?_
      rintro e w13 ⟨rfl, my, hw13⟩
      have sz13 := hw13.size
      have hB13 := hB12.trans (hw13.below (by omega) hB12.size)
      have oa := oa.apart hw13 (by omega)
      have ob := ob.apart hw13 (by omega)
      have os := os.apart hw13 (by omega)
      have ox := ox.apart hw13 (by omega)
      have og := og.apart hw13 (by omega)
      have oc := oc.apart hw13 (by omega)
      have od := od.apart hw13 (by omega)
      clear oy hB12 hw13
      have oy := my
      clear my
      go_wp2_with fail
      refine (eqR og os (by omega) (by omega)).mono ?_
      rintro e w14 ⟨rfl, hb14⟩
      have sz14 := hb14.size
      have hB14 := Below.next hB13 hb14
      have oa := oa.next hb14
      have ob := ob.next hb14
      have os := os.next hb14
      have ox := ox.next hb14
      have oy := oy.next hb14
      have og := og.next hb14
      have oc := oc.next hb14
      have od := od.next hb14
      clear hB13 hb14
      go_wp2_with fail
      refine (markR og (by omega) (by omega) (by omega)).mono ?_
      rintro e w15 ⟨rfl, mg, hw15⟩
      have sz15 := hw15.size
      have hB15 := hB14.trans (hw15.below (by omega) hB14.size)
      have oa := oa.apart hw15 (by omega)
      have ob := ob.apart hw15 (by omega)
      have os := os.apart hw15 (by omega)
      have ox := ox.apart hw15 (by omega)
      have oy := oy.apart hw15 (by omega)
      have oc := oc.apart hw15 (by omega)
      have od := od.apart hw15 (by omega)
      clear og hB14 hw15
      have og := mg
      clear mg
      go_wp2_with fail
      refine (heldR og (by omega) (by omega) (by omega)).mono ?_
      rintro e w' ⟨rfl, rfl⟩
      go_wp2_with fail
      refine (toR hr hB15 (by omega)).mono ?_
      rintro e w16 ⟨ge, rfl, oe, hb16⟩
      have sz16 := hb16.size
      have hB16 := Below.next hB15 hb16
      have oa := oa.next hb16
      have ob := ob.next hb16
      have os := os.next hb16
      have ox := ox.next hb16
      have oy := oy.next hb16
      have og := og.next hb16
      have oc := oc.next hb16
      have od := od.next hb16
      clear hB15 hb16
      go_wp2_with fail
      refine (toR hs hB16 (by omega)).mono ?_
      rintro e w17 ⟨gf, rfl, of, hb17⟩
      have sz17 := hb17.size
      have hB17 := Below.next hB16 hb17
      have oa := oa.next hb17
      have ob := ob.next hb17
      have os := os.next hb17
      have ox := ox.next hb17
      have oy := oy.next hb17
      have og := og.next hb17
      have oc := oc.next hb17
      have od := od.next hb17
      have oe := oe.next hb17
      clear hB16 hb17
      go_wp2_with fail
      refine (impl_GainLine _ _ _ _ _ _ _ oe.rd of.rd (by omega) (by omega)).mono ?_
      rintro e w18 ⟨vh, rfl, oh, hb18⟩
      have sz18 := hb18.size
      have hB18 := Below.next hB17 hb18
      have oa := oa.next hb18
      have ob := ob.next hb18
      have os := os.next hb18
      have ox := ox.next hb18
      have oy := oy.next hb18
      have og := og.next hb18
      have oc := oc.next hb18
      have od := od.next hb18
      have oe := oe.next hb18
      have of := of.next hb18
      clear hB17 hb18
      have oh := OwnI.inR oh
      obtain ⟨Ah, ch, rfl⟩ := oh.form
      go_wp2_with fail
      refine (eqR oh os (by omega) (by omega)).mono ?_
      rintro e w19 ⟨rfl, hb19⟩
      have sz19 := hb19.size
      have hB19 := Below.next hB18 hb19
      have oa := oa.next hb19
      have ob := ob.next hb19
      have os := os.next hb19
      have ox := ox.next hb19
      have oy := oy.next hb19
      have og := og.next hb19
      have oc := oc.next hb19
      have od := od.next hb19
      have oe := oe.next hb19
      have of := of.next hb19
      have oh := oh.next hb19
      clear hB18 hb19
      go_wp2_with fail
      refine (heldR og (by omega) (by omega) (by omega)).mono ?_
      rintro e w' ⟨rfl, rfl⟩
      go_wp2
      go_ret
      exact ⟨rfl, hB19⟩
end Go.Proofs.Ytboagjiejjapfaa
