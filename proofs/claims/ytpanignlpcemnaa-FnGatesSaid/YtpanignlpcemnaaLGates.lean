/- Contacts in the gate are those with a small enough cost, and the nearest one is one of them: the law's walk. Printed by gen_gates.py. -/
import Derived.Test.YtpanignlpcemnaaGtA
import Derived.Test.YtpanignlpcemnaaDrV
import Derived.Test.YtpanignlpcemnaaLike
import Derived.Test.YtpanignlpcemnaaBig
namespace Go.Proofs.Ytpanignlpcemnaa
open Go.RowKit Go.ChangeShapes Go.WideShapes Go.ChangeAt
set_option linter.unusedVariables false
set_option linter.unusedSimpArgs false
/-- what the law asks of the contacts in the gate -/
theorem gates_law {x y p q s n0 cn : Int} {cs : List (Int × Int)} (h0 : gCode [⟨x, y, p, q, s⟩] cs = 0) (hn : fNear x y p q s cs = (n0, cn)) :
    (cn ≠ 0 → fCts x y p q s cs = []) ∧ (cn = 0 → ∃ k : Nat, n0 = (k : Int) ∧ k < cs.length ∧ n0 ∈ fCts x y p q s cs ∧ ∀ (i : Nat) (z : Int), (fCts x y p q s cs)[i]? = some z → ∃ j : Nat, z = (j : Int) ∧ j < cs.length ∧ cstA x y cs k ≤ cstA x y cs j) := by
  have e1 : fCts x y p q s cs = cik x y s cs cs.length := by simp [fCts, h0]
  have hsp := nrk_spec (x := x) (y := y) (s := s) (cs := cs) cs.length (Nat.le_refl _)
  have hbd := nrk_bd (x := x) (y := y) (s := s) (cs := cs) cs.length
  rw [fNear, if_neg (by simp [h0])] at hn
  rw [e1]
  split at hn
  · rename_i hneg
    injection hn with h1 h2
    exact ⟨fun _ => cik_none (Nat.le_refl _) hneg, fun h => by omega⟩
  · rename_i hpos
    injection hn with h1 h2
    refine ⟨fun h => absurd h2.symm h, fun _ => ?_⟩
    obtain ⟨k, hk⟩ := Int.eq_ofNat_of_zero_le (show 0 ≤ nrk x y s cs cs.length by omega)
    obtain ⟨g1, g2⟩ := hsp.2 k hk
    have hkl : k < cs.length := by omega
    refine ⟨k, by rw [← h1]; exact hk, hkl, ?_, fun i z hz => ?_⟩
    · rw [← h1, hk]; exact cik_mem.2 ⟨k, hkl, g1, rfl⟩
    · obtain ⟨j, h1, h2, rfl⟩ := cik_mem.1 (List.mem_of_getElem? hz)
      exact ⟨j, rfl, h1, g2 j h1 h2⟩
set_option maxHeartbeats 6400000 in
set_option maxRecDepth 100000 in
theorem walk_Gates (A : Option Addr) (c : Nat) (code : List Int) (w : World) (hr : U8 w w.heap.size A code) (hb : ∀ x ∈ code, 0 ≤ x ∧ x ≤ 255) :
    Calls Try.prog 4 #[.slice A code.length c] w fun e w' => e = .returned (.bool true) ∧ Below w.heap.size w w' := by
  by_cases hl : ¬ code.length ≤ 4096
  · have hl2 : (4096 : Int) < (code.length : Int) := by omega
    go_enter Try.func4, Try.ntmps4
    go_wp2_with (first | (go_at_call 7; refine (laws_big _ _ _ _).mono ?_; rintro e w' ⟨rfl, rfl⟩) | fail)
    all_goals go_returns
    all_goals exact ⟨rfl, Below.refl _ _⟩
  have hl : code.length ≤ 4096 := by omega
  have hl2 : ¬ (4096 : Int) < (code.length : Int) := by omega
  have B : Below w.heap.size w w := Below.refl _ _
  have hrH := Lib.hid hr
  have hbH := Lib.hid hb
  clear hr hb
  go_enter Try.func4, Try.ntmps4
  go_wp2_with (first | (go_at_call 7; refine (laws_big _ _ _ _).mono ?_; rintro e w' ⟨rfl, rfl⟩) | fail)
  refine (spec_DrawContactsIn _ _ _ _ hrH.out hbH.out hl).mono ?_
  rintro e w1 ⟨x, y, p, q, s, vc, cs, rfl, oc, hc7, hb1⟩
  obtain ⟨Ac, kc, rfl⟩ := OwnS.form oc
  obtain ⟨lo, hlo⟩ : ∃ lo, lo = w.heap.size := ⟨_, rfl⟩
  obtain ⟨hi, hhi⟩ : ∃ hi, hi = w1.heap.size := ⟨_, rfl⟩
  rw [← hlo, ← hhi] at oc
  have zlo : lo ≤ w.heap.size := by omega
  have B : Below w.heap.size w w1 := B.trans hb1
  clear hb1 hlo hhi
  go_wp2_with fail
  refine calls_gen (fun W1 hW1 => ?_)
  have bm : IBox W1 25 (w1.heap.size) [x, y, p, q, s] := by rw [hW1]; exact (IBox.new (w := w1) (T := 25) (l := [x, y, p, q, s]) rfl)
  have oc : OwnCt W1 lo hi (.slice Ac cs.length kc) cs := by rw [hW1]; exact OwnS.next oc (Below.new (Below.refl _ _) _)
  have B : Below w.heap.size w W1 := by rw [hW1]; exact (Below.new B _)
  clear hW1
  obtain ⟨zs, hzs⟩ : ∃ zs, zs = fCts x y p q s cs := ⟨_, rfl⟩
  obtain ⟨g, hg⟩ : ∃ g, g = gCode [⟨x, y, p, q, s⟩] cs := ⟨_, rfl⟩
  rcases hn : fNear x y p q s cs with ⟨n0, cn⟩
  have hCI := fun A' c' w' h => impl_ContactsIn x y p q s A' c' cs w' h (by omega)
  have hCS := fun A' c' w' h => spec_ContactsIn x y p q s A' c' cs w' h (by omega)
  have hNI := fun A' c' w' h => impl_NearestIn x y p q s A' c' cs w' h (by omega)
  have hNS := fun A' c' w' h => spec_NearestIn x y p q s A' c' cs w' h (by omega)
  have hzl : zs.length ≤ 7 := by rw [hzs]; exact Nat.le_trans fCts_len hc7
  rw [← hzs, ← hg] at hCI hCS
  rw [hn] at hNI hNS
  have hCIH := Lib.hid hCI
  have hCSH := Lib.hid hCS
  have hNIH := Lib.hid hNI
  have hNSH := Lib.hid hNS
  have hL := fun h0 => gates_law (x := x) (y := y) (p := p) (q := q) (s := s) (cs := cs) h0 hn
  rw [← hzs, ← hg] at hL
  have hLH := Lib.hid hL
  have hgH := Lib.hid hg
  clear hCI hCS hNI hNS hL hzs hg hn
  have zB := B.size
  refine (hCIH.out _ _ _ (OwnS.rd oc)).mono ?_
  rintro e w2 ⟨v2, rfl, ol, hb2⟩
  have bm := bm.next hb2
  have oc : OwnCt w2 lo hi (.slice Ac cs.length kc) cs := OwnS.next oc hb2
  have B : Below w.heap.size w w2 := B.trans (hb2.mono B.size)
  clear hb2
  have ol : OwnI w2 lo v2 zs := OwnI.mono ol (by omega)
  obtain ⟨Al, cl, rfl, _⟩ := id ol
  have cbm0 := bm.cell (j := 0) rfl
  have cbm1 := bm.cell (j := 1) rfl
  have cbm2 := bm.cell (j := 2) rfl
  have cbm3 := bm.cell (j := 3) rfl
  have cbm4 := bm.cell (j := 4) rfl
  have cbmf := bm.fz
  go_wp2_with fail
  clear cbm0 cbm1 cbm2 cbm3 cbm4 cbmf
  have zB := B.size
  refine (hCSH.out _ _ _ (OwnS.rd oc)).mono ?_
  rintro e w3 ⟨v3, rfl, os, hb3⟩
  have bm := bm.next hb3
  have oc : OwnCt w3 lo hi (.slice Ac cs.length kc) cs := OwnS.next oc hb3
  have ol : OwnI w3 lo (.slice Al zs.length cl) zs := OwnI.below ol hb3
  have B : Below w.heap.size w w3 := B.trans (hb3.mono B.size)
  clear hb3
  have os : OwnI w3 lo v3 zs := OwnI.mono os (by omega)
  obtain ⟨As, cs1, rfl, _⟩ := id os
  have cbm0 := bm.cell (j := 0) rfl
  have cbm1 := bm.cell (j := 1) rfl
  have cbm2 := bm.cell (j := 2) rfl
  have cbm3 := bm.cell (j := 3) rfl
  have cbm4 := bm.cell (j := 4) rfl
  have cbmf := bm.fz
  go_wp2_with fail
  clear cbm0 cbm1 cbm2 cbm3 cbm4 cbmf
  refine (hNIH.out _ _ _ (OwnS.rd oc)).mono ?_
  rintro e w4 ⟨rfl, hb4⟩
  have bm := bm.next hb4
  have oc : OwnCt w4 lo hi (.slice Ac cs.length kc) cs := OwnS.next oc hb4
  have ol : OwnI w4 lo (.slice Al zs.length cl) zs := OwnI.below ol hb4
  have os : OwnI w4 lo (.slice As zs.length cs1) zs := OwnI.below os hb4
  have B : Below w.heap.size w w4 := B.trans (hb4.mono B.size)
  clear hb4
  have cbm0 := bm.cell (j := 0) rfl
  have cbm1 := bm.cell (j := 1) rfl
  have cbm2 := bm.cell (j := 2) rfl
  have cbm3 := bm.cell (j := 3) rfl
  have cbm4 := bm.cell (j := 4) rfl
  have cbmf := bm.fz
  go_wp2_with fail
  clear cbm0 cbm1 cbm2 cbm3 cbm4 cbmf
  refine (hNSH.out _ _ _ (OwnS.rd oc)).mono ?_
  rintro e w5 ⟨rfl, hb5⟩
  have bm := bm.next hb5
  have oc : OwnCt w5 lo hi (.slice Ac cs.length kc) cs := OwnS.next oc hb5
  have ol : OwnI w5 lo (.slice Al zs.length cl) zs := OwnI.below ol hb5
  have os : OwnI w5 lo (.slice As zs.length cs1) zs := OwnI.below os hb5
  have B : Below w.heap.size w w5 := B.trans (hb5.mono B.size)
  clear hb5
  go_wp2_with fail
  refine (spec_DrawGateCost _ _ _ _ (Rd.up hrH.out B) hbH.out hl).mono ?_
  rintro e w6 ⟨xx, yy, pp, qq, ss, a, b, rfl, hb6⟩
  have bm := bm.next hb6
  have oc : OwnCt w6 lo hi (.slice Ac cs.length kc) cs := OwnS.next oc hb6
  have ol : OwnI w6 lo (.slice Al zs.length cl) zs := OwnI.below ol hb6
  have os : OwnI w6 lo (.slice As zs.length cs1) zs := OwnI.below os hb6
  have B : Below w.heap.size w w6 := B.trans (hb6.mono B.size)
  clear hb6
  go_wp2_with fail
  refine calls_gen (fun W6 hW6 => ?_)
  have bx : IBox W6 25 (w6.heap.size) [xx, yy, pp, qq, ss] := by rw [hW6]; exact ((IBox.new (w := w6) (T := 25) (l := [xx, yy, pp, qq, ss]) rfl).alloc _)
  have bc : IBox W6 45 (w6.heap.size + 1) [a, b] := by rw [hW6]; exact (IBox.new (w := w6.alloc _) (T := 45) (l := [a, b]) (by rw [World.size_alloc]))
  have bm : IBox W6 25 (w1.heap.size) [x, y, p, q, s] := by rw [hW6]; exact ((bm.alloc _).alloc _)
  have oc : OwnCt W6 lo hi (.slice Ac cs.length kc) cs := by rw [hW6]; exact OwnS.next oc (Below.new (Below.new (Below.refl _ _) _) _)
  have ol : OwnI W6 lo (.slice Al zs.length cl) zs := by rw [hW6]; exact OwnI.below ol (Below.new (Below.new (Below.refl _ _) _) _)
  have os : OwnI W6 lo (.slice As zs.length cs1) zs := by rw [hW6]; exact OwnI.below os (Below.new (Below.new (Below.refl _ _) _) _)
  have B : Below w.heap.size w W6 := by rw [hW6]; exact (Below.new (Below.new B _) _)
  clear hW6
  rcases hgc : fGC xx yy pp qq ss a b with ⟨n3, c3⟩
  rcases hig : fIG xx yy pp qq ss a b with ⟨i5, c5⟩
  have hGI := fun w => impl_GateCost xx yy pp qq ss a b w
  have hGS := fun w => spec_GateCost xx yy pp qq ss a b w
  have hII := fun w => impl_InGate xx yy pp qq ss a b w
  have hIS := fun w => spec_InGate xx yy pp qq ss a b w
  rw [hgc] at hGI hGS
  rw [hig] at hII hIS
  have hGIH := Lib.hid hGI
  have hGSH := Lib.hid hGS
  have hIIH := Lib.hid hII
  have hISH := Lib.hid hIS
  have hGM : c3 = 0 → (0 ≤ ss * ss ∧ ss * ss ≤ 100000000) ∧ i5 = decide (n3 ≤ ss * ss) := fun h0 => by
    unfold fGC at hgc
    unfold fIG at hig
    split at hgc
    · rename_i h1
      rw [if_pos h1] at hig
      split at hgc
      · rename_i h2
        rw [if_pos h2] at hig
        injection hgc with e1 e2
        injection hig with e3 e4
        exact ⟨sp_bd (mo_bds h1).2.2.2.2, by rw [← e3, ← e1]; rfl⟩
      · injection hgc with e1 e2; omega
    · injection hgc with e1 e2; omega
  have hGMH := Lib.hid hGM
  clear hGI hGS hII hIS hGM hgc hig
  refine (hGIH.out _).mono ?_
  rintro e w7 ⟨rfl, hb7⟩
  have bm := bm.next hb7
  have bx := bx.next hb7
  have bc := bc.next hb7
  have oc : OwnCt w7 lo hi (.slice Ac cs.length kc) cs := OwnS.next oc hb7
  have ol : OwnI w7 lo (.slice Al zs.length cl) zs := OwnI.below ol hb7
  have os : OwnI w7 lo (.slice As zs.length cs1) zs := OwnI.below os hb7
  have B : Below w.heap.size w w7 := B.trans (hb7.mono B.size)
  clear hb7
  have cbx0 := bx.cell (j := 0) rfl
  have cbx1 := bx.cell (j := 1) rfl
  have cbx2 := bx.cell (j := 2) rfl
  have cbx3 := bx.cell (j := 3) rfl
  have cbx4 := bx.cell (j := 4) rfl
  have cbxf := bx.fz
  have cbc0 := bc.cell (j := 0) rfl
  have cbc1 := bc.cell (j := 1) rfl
  have cbcf := bc.fz
  go_wp2_with fail
  clear cbx0 cbx1 cbx2 cbx3 cbx4 cbxf
  clear cbc0 cbc1 cbcf
  refine (hGSH.out _).mono ?_
  rintro e w8 ⟨rfl, hb7⟩
  have bm := bm.next hb7
  have bx := bx.next hb7
  have bc := bc.next hb7
  have oc : OwnCt w8 lo hi (.slice Ac cs.length kc) cs := OwnS.next oc hb7
  have ol : OwnI w8 lo (.slice Al zs.length cl) zs := OwnI.below ol hb7
  have os : OwnI w8 lo (.slice As zs.length cs1) zs := OwnI.below os hb7
  have B : Below w.heap.size w w8 := B.trans (hb7.mono B.size)
  clear hb7
  have cbx0 := bx.cell (j := 0) rfl
  have cbx1 := bx.cell (j := 1) rfl
  have cbx2 := bx.cell (j := 2) rfl
  have cbx3 := bx.cell (j := 3) rfl
  have cbx4 := bx.cell (j := 4) rfl
  have cbxf := bx.fz
  have cbc0 := bc.cell (j := 0) rfl
  have cbc1 := bc.cell (j := 1) rfl
  have cbcf := bc.fz
  go_wp2_with fail
  clear cbx0 cbx1 cbx2 cbx3 cbx4 cbxf
  clear cbc0 cbc1 cbcf
  refine (hIIH.out _).mono ?_
  rintro e w9 ⟨rfl, hb7⟩
  have bm := bm.next hb7
  have bx := bx.next hb7
  have bc := bc.next hb7
  have oc : OwnCt w9 lo hi (.slice Ac cs.length kc) cs := OwnS.next oc hb7
  have ol : OwnI w9 lo (.slice Al zs.length cl) zs := OwnI.below ol hb7
  have os : OwnI w9 lo (.slice As zs.length cs1) zs := OwnI.below os hb7
  have B : Below w.heap.size w w9 := B.trans (hb7.mono B.size)
  clear hb7
  have cbx0 := bx.cell (j := 0) rfl
  have cbx1 := bx.cell (j := 1) rfl
  have cbx2 := bx.cell (j := 2) rfl
  have cbx3 := bx.cell (j := 3) rfl
  have cbx4 := bx.cell (j := 4) rfl
  have cbxf := bx.fz
  have cbc0 := bc.cell (j := 0) rfl
  have cbc1 := bc.cell (j := 1) rfl
  have cbcf := bc.fz
  go_wp2_with fail
  clear cbx0 cbx1 cbx2 cbx3 cbx4 cbxf
  clear cbc0 cbc1 cbcf
  refine (hISH.out _).mono ?_
  rintro e w10 ⟨rfl, hb7⟩
  have bm := bm.next hb7
  have bx := bx.next hb7
  have bc := bc.next hb7
  have oc : OwnCt w10 lo hi (.slice Ac cs.length kc) cs := OwnS.next oc hb7
  have ol : OwnI w10 lo (.slice Al zs.length cl) zs := OwnI.below ol hb7
  have os : OwnI w10 lo (.slice As zs.length cs1) zs := OwnI.below os hb7
  have B : Below w.heap.size w w10 := B.trans (hb7.mono B.size)
  clear hb7
  have n1 : (g != g) = false := by simp
  have n2 : (cn != cn) = false := by simp
  have n3' : (n0 != n0) = false := by simp
  have n4 : (c3 != c3) = false := by simp
  have n5 : (n3 != n3) = false := by simp
  have n6 : (c5 != c5) = false := by simp
  have n7 : (i5 != i5) = false := by simp
  have hlk := fun w h1 h2 => laws_likeInts Al As cl cs1 zs zs w h1 h2 (by omega) (by omega)
  rw [show decide (zs = zs) = true by simp] at hlk
  have hlkH := Lib.hid hlk
  clear hlk
  have qlH := Lib.hid ((OwnI.reads ol).2)
  have qsH := Lib.hid ((OwnI.reads os).2)
  go_wp2_with fail
  refine (hlkH.out _ qlH.out qsH.out).mono ?_
  rintro e w11 ⟨rfl, hb8⟩
  have bm := bm.next hb8
  have bx := bx.next hb8
  have bc := bc.next hb8
  have oc : OwnCt w11 lo hi (.slice Ac cs.length kc) cs := OwnS.next oc hb8
  have ol : OwnI w11 lo (.slice Al zs.length cl) zs := OwnI.below ol hb8
  have os : OwnI w11 lo (.slice As zs.length cs1) zs := OwnI.below os hb8
  have B : Below w.heap.size w w11 := B.trans (hb8.mono B.size)
  clear hb8
  have rl := (OwnI.reads ol).2
  have rc := OwnS.rd oc
  by_cases h3 : c3 = 0
  · obtain ⟨⟨s0, s1⟩, i5e⟩ := hGMH.out h3
    subst h3 i5e
    have nd : (decide (n3 ≤ ss * ss) != decide (n3 ≤ ss * ss)) = false := by simp
    have cbx0 := bx.cell (j := 0) rfl
    have cbx1 := bx.cell (j := 1) rfl
    have cbx2 := bx.cell (j := 2) rfl
    have cbx3 := bx.cell (j := 3) rfl
    have cbx4 := bx.cell (j := 4) rfl
    have cbxf := bx.fz
    by_cases hg0 : g = 0
    · subst hg0
      by_cases hn0 : cn = 0
      · subst hn0
        obtain ⟨k, e9, hkl, hmem, hmin⟩ := (hLH.out rfl).2 rfl
        subst e9
        obtain ⟨hm, hcs, h6⟩ := gCode_ok hgH.out.symm
        obtain ⟨⟨ak, bk⟩, hab⟩ := get_of_lt (xs := cs) (k := k) hkl
        obtain ⟨bq, oq, rfl, hbq, hq0, hq1⟩ := C64.at_ rc hab
        have hGk : Hid (∀ w, Calls Try.prog 24 #[.agg #[.int .i64 x, .int .i64 y, .int .i64 p, .int .i64 q, .int .i64 s], .agg #[.int .i64 ak, .int .i64 bk]] w fun e w' => e = .returned (.tuple #[.int .i64 (cstA x y cs k), .int .i64 0]) ∧ Below w.heap.size w w') := fun w => by
          have := impl_GateCost x y p q s ak bk w
          rw [fGC, if_pos hm, if_pos (ctsB_of hcs hab), ← cstA_of hab] at this
          exact this
        have p0 : (0 : Int) ≤ (k : Int) := by omega
        have p1 : (k : Int) < (cs.length : Int) := by omega
        have hmemH := Lib.hid hmem
        have hminH := Lib.hid hmin
        have hmH := Lib.hid hm
        have hcsH := Lib.hid hcs
        clear hab hmem hmin hm hcs
        go_wp2_with fail
        have cbm0 := bm.cell (j := 0) rfl
        have cbm1 := bm.cell (j := 1) rfl
        have cbm2 := bm.cell (j := 2) rfl
        have cbm3 := bm.cell (j := 3) rfl
        have cbm4 := bm.cell (j := 4) rfl
        have cbmf := bm.fz
        (refine wp_region_noPanic ?_; refine wp_region_held_drew (S := (fun w' => w'.cell? ⟨w1.heap.size, 0, none⟩ = some (.int .i64 x) ∧ w'.cell? ⟨w1.heap.size, 1, none⟩ = some (.int .i64 y) ∧ w'.cell? ⟨w1.heap.size, 2, none⟩ = some (.int .i64 p) ∧ w'.cell? ⟨w1.heap.size, 3, none⟩ = some (.int .i64 q) ∧ w'.cell? ⟨w1.heap.size, 4, none⟩ = some (.int .i64 s) ∧ w'.cell? ⟨bq, oq + k * 2, none⟩ = some (.int .i64 ak) ∧ w'.cell? ⟨bq, oq + k * 2 + 1, none⟩ = some (.int .i64 bk))) (by kernel_rfl) ?_ (fun hHeld => ?_); (focus ((try dsimp only); (refine ⟨?_, ?_, ?_, ?_, ?_, ?_, ?_⟩ <;> repeat' (first | (with_reducible assumption) | ((with_reducible apply bx_new) <;> first | (simp only [World.size_alloc, World.size_setCell]; done) | rfl) | (with_reducible apply bx_alloc) | (with_reducible apply bx_other; (first | (simp only [World.size_alloc, World.size_setCell]; omega) | omega)) | (with_reducible apply bx_same) | (with_reducible apply bx_drew) | (with_reducible apply bx_drew1) | (with_reducible apply bx_keep; with_reducible assumption) | fail)))); (refine takeT (i := 0) (d := 148) rfl rfl (by kernel_rfl) (by kernel_rfl) (by kernel_rfl) (by rfl) (by assumption) (v := ?_) ?_ ?_; rotate_left; (focus (intro wq hSw; (try dsimp only at hSw); go_simp; (try (with_reducible rfl)); done)); (try simp only [Act.put, List.setIfInBounds_toArray, List.set_cons_zero, List.set_cons_succ])); (refine takeT (i := 1) (d := 149) rfl rfl (by kernel_rfl) (by kernel_rfl) (by kernel_rfl) (by rfl) (by assumption) (v := ?_) ?_ ?_; rotate_left; (focus (intro wq hSw; (try dsimp only at hSw); go_simp; (try (with_reducible rfl)); done)); (try simp only [Act.put, List.setIfInBounds_toArray, List.set_cons_zero, List.set_cons_succ])); (refine takeT (i := 2) (d := 150) rfl rfl (by kernel_rfl) (by kernel_rfl) (by kernel_rfl) (by rfl) (by assumption) (v := ?_) ?_ ?_; rotate_left; (focus (intro wq hSw; (try dsimp only at hSw); go_simp; (try (with_reducible rfl)); done)); (try simp only [Act.put, List.setIfInBounds_toArray, List.set_cons_zero, List.set_cons_succ])); (refine takeT (i := 3) (d := 151) rfl rfl (by kernel_rfl) (by kernel_rfl) (by kernel_rfl) (by rfl) (by assumption) (v := ?_) ?_ ?_; rotate_left; (focus (intro wq hSw; (try dsimp only at hSw); go_simp; (try (with_reducible rfl)); done)); (try simp only [Act.put, List.setIfInBounds_toArray, List.set_cons_zero, List.set_cons_succ])); (refine takeT (i := 4) (d := 152) rfl rfl (by kernel_rfl) (by kernel_rfl) (by kernel_rfl) (by rfl) (by assumption) (v := ?_) ?_ ?_; rotate_left; (focus (intro wq hSw; (try dsimp only at hSw); go_simp; (try (with_reducible rfl)); done)); (try simp only [Act.put, List.setIfInBounds_toArray, List.set_cons_zero, List.set_cons_succ])); (refine wpAnyH_ready (rs := [5]) (by kernel_rfl) (by simp) ?_; refine AllReadyH.cons rfl (fun K hK => ?_) AllReadyH.nil; go_simp; (first | (go_at_call 24; refine (hGk.out _).mono ?_; rintro e w12 ⟨rfl, hb12⟩; have bm := IBox.next (w := w11.drew) bm hb12; have oc : OwnCt w12 lo hi (.slice (some ⟨bq, oq, none⟩) cs.length kc) cs := OwnS.next (w := w11.drew) oc hb12; have ol : OwnI w12 lo (.slice Al zs.length cl) zs := OwnI.below (w := w11.drew) ol hb12; have os : OwnI w12 lo (.slice As zs.length cs1) zs := OwnI.below (w := w11.drew) os hb12; have B : Below w.heap.size w w12 := Below.trans (below_drew B) (hb12.mono (by have := B.size; exact this)); have k0 := bx_keep (W := w11.drew) hb12 hq0; have k1 := bx_keep (W := w11.drew) hb12 hq1; have cbm0 := bm.cell (j := 0) rfl; have cbm1 := bm.cell (j := 1) rfl; have cbm2 := bm.cell (j := 2) rfl; have cbm3 := bm.cell (j := 3) rfl; have cbm4 := bm.cell (j := 4) rfl; have cbmf := bm.fz) | skip); (try go_wp2_with fail); refine hK.out _ _ ?_ (fun hHeld => ?_); (focus ((try dsimp only); (refine ⟨?_, ?_, ?_, ?_, ?_, ?_, ?_⟩ <;> repeat' (first | (with_reducible assumption) | ((with_reducible apply bx_new) <;> first | (simp only [World.size_alloc, World.size_setCell]; done) | rfl) | (with_reducible apply bx_alloc) | (with_reducible apply bx_other; (first | (simp only [World.size_alloc, World.size_setCell]; omega) | omega)) | (with_reducible apply bx_same) | (with_reducible apply bx_drew) | (with_reducible apply bx_drew1) | (with_reducible apply bx_keep; with_reducible assumption) | fail)))); clear hK K; (try simp only [Act.put, List.setIfInBounds_toArray, List.set_cons_zero, List.set_cons_succ])); (refine takeT (i := 6) (d := 147) rfl rfl (by kernel_rfl) (by kernel_rfl) (by kernel_rfl) (by rfl) (by assumption) (v := ?_) ?_ ?_; rotate_left; (focus (intro wq hSw; (try dsimp only at hSw); go_simp; (try (with_reducible rfl)); done)); (try simp only [Act.put, List.setIfInBounds_toArray, List.set_cons_zero, List.set_cons_succ])); (refine takeT (i := 7) (d := 154) rfl rfl (by kernel_rfl) (by kernel_rfl) (by kernel_rfl) (by rfl) (by assumption) (v := ?_) ?_ ?_; rotate_left; (focus (intro wq hSw; (try dsimp only at hSw); go_simp; (try (with_reducible rfl)); done)); (try simp only [Act.put, List.setIfInBounds_toArray, List.set_cons_zero, List.set_cons_succ])); (refine takeT (i := 8) (d := 155) rfl rfl (by kernel_rfl) (by kernel_rfl) (by kernel_rfl) (by rfl) (by assumption) (v := ?_) ?_ ?_; rotate_left; (focus (intro wq hSw; (try dsimp only at hSw); go_simp; (try (with_reducible rfl)); done)); (try simp only [Act.put, List.setIfInBounds_toArray, List.set_cons_zero, List.set_cons_succ])); (refine takeT (i := 9) (d := 23) rfl rfl (by kernel_rfl) (by kernel_rfl) (by kernel_rfl) (by rfl) (by assumption) (v := ?_) ?_ ?_; rotate_left; (focus (intro wq hSw; (try dsimp only at hSw); go_simp; (try (with_reducible rfl)); done)); (try simp only [Act.put, List.setIfInBounds_toArray, List.set_cons_zero, List.set_cons_succ])); (refine takeT (i := 10) (d := 24) rfl rfl (by kernel_rfl) (by kernel_rfl) (by kernel_rfl) (by rfl) (by assumption) (v := ?_) ?_ ?_; rotate_left; (focus (intro wq hSw; (try dsimp only at hSw); go_simp; (try (with_reducible rfl)); done)); (try simp only [Act.put, List.setIfInBounds_toArray, List.set_cons_zero, List.set_cons_succ])); refine wpAnyH_done (by kernel_rfl) ?_ _; refine NoPanic.normal ?_)
        go_wp2_with fail
        go_loopw [25] (fun iv wr => ∃ i : Nat, i ≤ zs.length ∧ iv = .int .i64 i ∧ IBox wr 25 w1.heap.size [x, y, p, q, s] ∧ OwnCt wr lo hi (.slice (some ⟨bq, oq, none⟩) cs.length kc) cs ∧ OwnI wr lo (.slice Al zs.length cl) zs ∧ OwnI wr lo (.slice As zs.length cs1) zs ∧ Below w.heap.size w wr) (fun iv _ => zs.length - (intOf iv).toNat)
        case atStart => exact ⟨0, Nat.zero_le _, rfl, bm, oc, ol, os, B⟩
        case round =>
          clear k0 k1 hq0 hq1 cbm0 cbm1 cbm2 cbm3 cbm4 cbmf
          obtain ⟨i, hi2, rfl, bm, oc, ol, os, B⟩ := hrel
          have dbm0 := bm.cell (j := 0) rfl
          have dbm1 := bm.cell (j := 1) rfl
          have dbm2 := bm.cell (j := 2) rfl
          have dbm3 := bm.cell (j := 3) rfl
          have dbm4 := bm.cell (j := 4) rfl
          have dbmf := bm.fz
          by_cases hlt : i < zs.length
          · obtain ⟨z, hz⟩ := get_of_lt hlt
            obtain ⟨j, rfl, hj, hle⟩ := hminH.out i z hz
            obtain ⟨⟨aj, bj⟩, hab⟩ := get_of_lt (xs := cs) (k := j) hj
            obtain ⟨bz, oz, eA, hbz, hq0, hq1⟩ := C64.at_ (OwnS.rd oc) hab
            injection eA with eA
            injection eA with eA1 eA2
            subst eA1 eA2
            obtain ⟨b3, q3, rfl, hb3, hc3⟩ := (OwnI.reads os).2.at_ hz
            have hGj : Hid (∀ w, Calls Try.prog 24 #[.agg #[.int .i64 x, .int .i64 y, .int .i64 p, .int .i64 q, .int .i64 s], .agg #[.int .i64 aj, .int .i64 bj]] w fun e w' => e = .returned (.tuple #[.int .i64 (cstA x y cs j), .int .i64 0]) ∧ Below w.heap.size w w') := fun w => by
              have := impl_GateCost x y p q s aj bj w
              rw [fGC, if_pos hmH.out, if_pos (ctsB_of hcsH.out hab), ← cstA_of hab] at this
              exact this
            have q0 : (0 : Int) ≤ (j : Int) := by omega
            have q1 : (j : Int) < (cs.length : Int) := by omega
            have q2 : (0 : Int) ≤ (i : Int) := by omega
            have q3' : (i : Int) < (zs.length : Int) := by omega
            have q4 : ¬ cstA x y cs j < cstA x y cs k := by omega
            clear hz hab
            go_wp2_with fail
            (refine wp_region_noPanic ?_; refine wp_region_held_drew (S := (fun w' => w'.cell? ⟨w1.heap.size, 0, none⟩ = some (.int .i64 x) ∧ w'.cell? ⟨w1.heap.size, 1, none⟩ = some (.int .i64 y) ∧ w'.cell? ⟨w1.heap.size, 2, none⟩ = some (.int .i64 p) ∧ w'.cell? ⟨w1.heap.size, 3, none⟩ = some (.int .i64 q) ∧ w'.cell? ⟨w1.heap.size, 4, none⟩ = some (.int .i64 s) ∧ w'.cell? ⟨bq, oq + j * 2, none⟩ = some (.int .i64 aj) ∧ w'.cell? ⟨bq, oq + j * 2 + 1, none⟩ = some (.int .i64 bj) ∧ w'.cell? ⟨b3, q3 + i, none⟩ = some (.int .i64 ((j : Int))))) (by kernel_rfl) ?_ (fun hHeld => ?_); (focus ((try dsimp only); (refine ⟨?_, ?_, ?_, ?_, ?_, ?_, ?_, ?_⟩ <;> repeat' (first | (with_reducible assumption) | ((with_reducible apply bx_new) <;> first | (simp only [World.size_alloc, World.size_setCell]; done) | rfl) | (with_reducible apply bx_alloc) | (with_reducible apply bx_other; (first | (simp only [World.size_alloc, World.size_setCell]; omega) | omega)) | (with_reducible apply bx_same) | (with_reducible apply bx_drew) | (with_reducible apply bx_drew1) | (with_reducible apply bx_keep; with_reducible assumption) | fail)))); (refine takeT (i := 0) (d := 163) rfl rfl (by kernel_rfl) (by kernel_rfl) (by kernel_rfl) (by rfl) (by assumption) (v := ?_) ?_ ?_; rotate_left; (focus (intro wq hSw; (try dsimp only at hSw); go_simp; (try (with_reducible rfl)); done)); (try simp only [Act.put, List.setIfInBounds_toArray, List.set_cons_zero, List.set_cons_succ])); (refine takeT (i := 1) (d := 164) rfl rfl (by kernel_rfl) (by kernel_rfl) (by kernel_rfl) (by rfl) (by assumption) (v := ?_) ?_ ?_; rotate_left; (focus (intro wq hSw; (try dsimp only at hSw); go_simp; (try (with_reducible rfl)); done)); (try simp only [Act.put, List.setIfInBounds_toArray, List.set_cons_zero, List.set_cons_succ])); (refine takeT (i := 2) (d := 165) rfl rfl (by kernel_rfl) (by kernel_rfl) (by kernel_rfl) (by rfl) (by assumption) (v := ?_) ?_ ?_; rotate_left; (focus (intro wq hSw; (try dsimp only at hSw); go_simp; (try (with_reducible rfl)); done)); (try simp only [Act.put, List.setIfInBounds_toArray, List.set_cons_zero, List.set_cons_succ])); (refine takeT (i := 3) (d := 166) rfl rfl (by kernel_rfl) (by kernel_rfl) (by kernel_rfl) (by rfl) (by assumption) (v := ?_) ?_ ?_; rotate_left; (focus (intro wq hSw; (try dsimp only at hSw); go_simp; (try (with_reducible rfl)); done)); (try simp only [Act.put, List.setIfInBounds_toArray, List.set_cons_zero, List.set_cons_succ])); (refine takeT (i := 4) (d := 167) rfl rfl (by kernel_rfl) (by kernel_rfl) (by kernel_rfl) (by rfl) (by assumption) (v := ?_) ?_ ?_; rotate_left; (focus (intro wq hSw; (try dsimp only at hSw); go_simp; (try (with_reducible rfl)); done)); (try simp only [Act.put, List.setIfInBounds_toArray, List.set_cons_zero, List.set_cons_succ])); (refine takeT (i := 5) (d := 168) rfl rfl (by kernel_rfl) (by kernel_rfl) (by kernel_rfl) (by rfl) (by assumption) (v := ?_) ?_ ?_; rotate_left; (focus (intro wq hSw; (try dsimp only at hSw); go_simp; (try (with_reducible rfl)); done)); (try simp only [Act.put, List.setIfInBounds_toArray, List.set_cons_zero, List.set_cons_succ])); (refine takeT (i := 6) (d := 169) rfl rfl (by kernel_rfl) (by kernel_rfl) (by kernel_rfl) (by rfl) (by assumption) (v := ?_) ?_ ?_; rotate_left; (focus (intro wq hSw; (try dsimp only at hSw); go_simp; (try (with_reducible rfl)); done)); (try simp only [Act.put, List.setIfInBounds_toArray, List.set_cons_zero, List.set_cons_succ])); (refine takeT (i := 7) (d := 170) rfl rfl (by kernel_rfl) (by kernel_rfl) (by kernel_rfl) (by rfl) (by assumption) (v := ?_) ?_ ?_; rotate_left; (focus (intro wq hSw; (try dsimp only at hSw); go_simp; (try (with_reducible rfl)); done)); (try simp only [Act.put, List.setIfInBounds_toArray, List.set_cons_zero, List.set_cons_succ])); (refine wpAnyH_ready (rs := [8]) (by kernel_rfl) (by simp) ?_; refine AllReadyH.cons rfl (fun K hK => ?_) AllReadyH.nil; go_simp; (first | (go_at_call 24; refine (hGj.out _).mono ?_; rintro e w13 ⟨rfl, hb13⟩; have bm := IBox.next (w := wr.drew) bm hb13; have oc : OwnCt w13 lo hi (.slice (some ⟨bq, oq, none⟩) cs.length kc) cs := OwnS.next (w := wr.drew) oc hb13; have ol : OwnI w13 lo (.slice Al zs.length cl) zs := OwnI.below (w := wr.drew) ol hb13; have os : OwnI w13 lo (.slice (some ⟨b3, q3, none⟩) zs.length cs1) zs := OwnI.below (w := wr.drew) os hb13; have B : Below w.heap.size w w13 := Below.trans (below_drew B) (hb13.mono (by have := B.size; exact this)); have k0 := bx_keep (W := wr.drew) hb13 hq0; have k1 := bx_keep (W := wr.drew) hb13 hq1; have k2 := bx_keep (W := wr.drew) hb13 hc3; have dbm0 := bm.cell (j := 0) rfl; have dbm1 := bm.cell (j := 1) rfl; have dbm2 := bm.cell (j := 2) rfl; have dbm3 := bm.cell (j := 3) rfl; have dbm4 := bm.cell (j := 4) rfl; have dbmf := bm.fz) | skip); (try go_wp2_with fail); refine hK.out _ _ ?_ (fun hHeld => ?_); (focus ((try dsimp only); (refine ⟨?_, ?_, ?_, ?_, ?_, ?_, ?_, ?_⟩ <;> repeat' (first | (with_reducible assumption) | ((with_reducible apply bx_new) <;> first | (simp only [World.size_alloc, World.size_setCell]; done) | rfl) | (with_reducible apply bx_alloc) | (with_reducible apply bx_other; (first | (simp only [World.size_alloc, World.size_setCell]; omega) | omega)) | (with_reducible apply bx_same) | (with_reducible apply bx_drew) | (with_reducible apply bx_drew1) | (with_reducible apply bx_keep; with_reducible assumption) | fail)))); clear hK K; (try simp only [Act.put, List.setIfInBounds_toArray, List.set_cons_zero, List.set_cons_succ])); (refine takeT (i := 9) (d := 162) rfl rfl (by kernel_rfl) (by kernel_rfl) (by kernel_rfl) (by rfl) (by assumption) (v := ?_) ?_ ?_; rotate_left; (focus (intro wq hSw; (try dsimp only at hSw); go_simp; (try (with_reducible rfl)); done)); (try simp only [Act.put, List.setIfInBounds_toArray, List.set_cons_zero, List.set_cons_succ])); (refine takeT (i := 10) (d := 172) rfl rfl (by kernel_rfl) (by kernel_rfl) (by kernel_rfl) (by rfl) (by assumption) (v := ?_) ?_ ?_; rotate_left; (focus (intro wq hSw; (try dsimp only at hSw); go_simp; (try (with_reducible rfl)); done)); (try simp only [Act.put, List.setIfInBounds_toArray, List.set_cons_zero, List.set_cons_succ])); (refine takeT (i := 11) (d := 173) rfl rfl (by kernel_rfl) (by kernel_rfl) (by kernel_rfl) (by rfl) (by assumption) (v := ?_) ?_ ?_; rotate_left; (focus (intro wq hSw; (try dsimp only at hSw); go_simp; (try (with_reducible rfl)); done)); (try simp only [Act.put, List.setIfInBounds_toArray, List.set_cons_zero, List.set_cons_succ])); (refine takeT (i := 12) (d := 26) rfl rfl (by kernel_rfl) (by kernel_rfl) (by kernel_rfl) (by rfl) (by assumption) (v := ?_) ?_ ?_; rotate_left; (focus (intro wq hSw; (try dsimp only at hSw); go_simp; (try (with_reducible rfl)); done)); (try simp only [Act.put, List.setIfInBounds_toArray, List.set_cons_zero, List.set_cons_succ])); (refine takeT (i := 13) (d := 27) rfl rfl (by kernel_rfl) (by kernel_rfl) (by kernel_rfl) (by rfl) (by assumption) (v := ?_) ?_ ?_; rotate_left; (focus (intro wq hSw; (try dsimp only at hSw); go_simp; (try (with_reducible rfl)); done)); (try simp only [Act.put, List.setIfInBounds_toArray, List.set_cons_zero, List.set_cons_succ])); refine wpAnyH_done (by kernel_rfl) ?_ _; refine NoPanic.normal ?_)
            go_wp2_with fail
            go_roundw
            case rel => exact ⟨i + 1, by omega, by go_num, bm, oc, ol, os, B⟩
            case measure => simp [intOf]; omega
          · have hqn := Lib.hid ((OwnI.reads ol).2)
            have hmd : decide ((k : Int) ∈ zs) = true := by simpa using hmemH.out
            have hhas := fun w h1 => laws_hasInt Al cl zs (k : Int) w h1 (by omega)
            rw [hmd] at hhas
            have hhasH := Lib.hid hhas
            clear hhas hmd
            go_wp2_with fail
            refine (hhasH.out _ hqn.out).mono ?_
            rintro e w' ⟨rfl, rfl⟩
            go_wp2_with fail
            all_goals go_returns
            all_goals exact ⟨rfl, B⟩
      · have ez := (hLH.out rfl).1 hn0
        subst ez
        have e0 : ((([] : List Int).length : Int) == 0) = true := rfl
        go_wp2_with fail
        all_goals go_returns
        all_goals exact ⟨rfl, B⟩
    · go_wp2_with fail
      all_goals go_returns
      all_goals exact ⟨rfl, B⟩
  · have h3' : (c3 == 0) = false := by simpa using h3
    by_cases hg0 : g = 0
    · subst hg0
      by_cases hn0 : cn = 0
      · subst hn0
        obtain ⟨k, e9, hkl, hmem, hmin⟩ := (hLH.out rfl).2 rfl
        subst e9
        obtain ⟨hm, hcs, h6⟩ := gCode_ok hgH.out.symm
        obtain ⟨⟨ak, bk⟩, hab⟩ := get_of_lt (xs := cs) (k := k) hkl
        obtain ⟨bq, oq, rfl, hbq, hq0, hq1⟩ := C64.at_ rc hab
        have hGk : Hid (∀ w, Calls Try.prog 24 #[.agg #[.int .i64 x, .int .i64 y, .int .i64 p, .int .i64 q, .int .i64 s], .agg #[.int .i64 ak, .int .i64 bk]] w fun e w' => e = .returned (.tuple #[.int .i64 (cstA x y cs k), .int .i64 0]) ∧ Below w.heap.size w w') := fun w => by
          have := impl_GateCost x y p q s ak bk w
          rw [fGC, if_pos hm, if_pos (ctsB_of hcs hab), ← cstA_of hab] at this
          exact this
        have p0 : (0 : Int) ≤ (k : Int) := by omega
        have p1 : (k : Int) < (cs.length : Int) := by omega
        have hmemH := Lib.hid hmem
        have hminH := Lib.hid hmin
        have hmH := Lib.hid hm
        have hcsH := Lib.hid hcs
        clear hab hmem hmin hm hcs
        go_wp2_with fail
        have cbm0 := bm.cell (j := 0) rfl
        have cbm1 := bm.cell (j := 1) rfl
        have cbm2 := bm.cell (j := 2) rfl
        have cbm3 := bm.cell (j := 3) rfl
        have cbm4 := bm.cell (j := 4) rfl
        have cbmf := bm.fz
        (refine wp_region_noPanic ?_; refine wp_region_held_drew (S := (fun w' => w'.cell? ⟨w1.heap.size, 0, none⟩ = some (.int .i64 x) ∧ w'.cell? ⟨w1.heap.size, 1, none⟩ = some (.int .i64 y) ∧ w'.cell? ⟨w1.heap.size, 2, none⟩ = some (.int .i64 p) ∧ w'.cell? ⟨w1.heap.size, 3, none⟩ = some (.int .i64 q) ∧ w'.cell? ⟨w1.heap.size, 4, none⟩ = some (.int .i64 s) ∧ w'.cell? ⟨bq, oq + k * 2, none⟩ = some (.int .i64 ak) ∧ w'.cell? ⟨bq, oq + k * 2 + 1, none⟩ = some (.int .i64 bk))) (by kernel_rfl) ?_ (fun hHeld => ?_); (focus ((try dsimp only); (refine ⟨?_, ?_, ?_, ?_, ?_, ?_, ?_⟩ <;> repeat' (first | (with_reducible assumption) | ((with_reducible apply bx_new) <;> first | (simp only [World.size_alloc, World.size_setCell]; done) | rfl) | (with_reducible apply bx_alloc) | (with_reducible apply bx_other; (first | (simp only [World.size_alloc, World.size_setCell]; omega) | omega)) | (with_reducible apply bx_same) | (with_reducible apply bx_drew) | (with_reducible apply bx_drew1) | (with_reducible apply bx_keep; with_reducible assumption) | fail)))); (refine takeT (i := 0) (d := 148) rfl rfl (by kernel_rfl) (by kernel_rfl) (by kernel_rfl) (by rfl) (by assumption) (v := ?_) ?_ ?_; rotate_left; (focus (intro wq hSw; (try dsimp only at hSw); go_simp; (try (with_reducible rfl)); done)); (try simp only [Act.put, List.setIfInBounds_toArray, List.set_cons_zero, List.set_cons_succ])); (refine takeT (i := 1) (d := 149) rfl rfl (by kernel_rfl) (by kernel_rfl) (by kernel_rfl) (by rfl) (by assumption) (v := ?_) ?_ ?_; rotate_left; (focus (intro wq hSw; (try dsimp only at hSw); go_simp; (try (with_reducible rfl)); done)); (try simp only [Act.put, List.setIfInBounds_toArray, List.set_cons_zero, List.set_cons_succ])); (refine takeT (i := 2) (d := 150) rfl rfl (by kernel_rfl) (by kernel_rfl) (by kernel_rfl) (by rfl) (by assumption) (v := ?_) ?_ ?_; rotate_left; (focus (intro wq hSw; (try dsimp only at hSw); go_simp; (try (with_reducible rfl)); done)); (try simp only [Act.put, List.setIfInBounds_toArray, List.set_cons_zero, List.set_cons_succ])); (refine takeT (i := 3) (d := 151) rfl rfl (by kernel_rfl) (by kernel_rfl) (by kernel_rfl) (by rfl) (by assumption) (v := ?_) ?_ ?_; rotate_left; (focus (intro wq hSw; (try dsimp only at hSw); go_simp; (try (with_reducible rfl)); done)); (try simp only [Act.put, List.setIfInBounds_toArray, List.set_cons_zero, List.set_cons_succ])); (refine takeT (i := 4) (d := 152) rfl rfl (by kernel_rfl) (by kernel_rfl) (by kernel_rfl) (by rfl) (by assumption) (v := ?_) ?_ ?_; rotate_left; (focus (intro wq hSw; (try dsimp only at hSw); go_simp; (try (with_reducible rfl)); done)); (try simp only [Act.put, List.setIfInBounds_toArray, List.set_cons_zero, List.set_cons_succ])); (refine wpAnyH_ready (rs := [5]) (by kernel_rfl) (by simp) ?_; refine AllReadyH.cons rfl (fun K hK => ?_) AllReadyH.nil; go_simp; (first | (go_at_call 24; refine (hGk.out _).mono ?_; rintro e w12 ⟨rfl, hb12⟩; have bm := IBox.next (w := w11.drew) bm hb12; have oc : OwnCt w12 lo hi (.slice (some ⟨bq, oq, none⟩) cs.length kc) cs := OwnS.next (w := w11.drew) oc hb12; have ol : OwnI w12 lo (.slice Al zs.length cl) zs := OwnI.below (w := w11.drew) ol hb12; have os : OwnI w12 lo (.slice As zs.length cs1) zs := OwnI.below (w := w11.drew) os hb12; have B : Below w.heap.size w w12 := Below.trans (below_drew B) (hb12.mono (by have := B.size; exact this)); have k0 := bx_keep (W := w11.drew) hb12 hq0; have k1 := bx_keep (W := w11.drew) hb12 hq1; have cbm0 := bm.cell (j := 0) rfl; have cbm1 := bm.cell (j := 1) rfl; have cbm2 := bm.cell (j := 2) rfl; have cbm3 := bm.cell (j := 3) rfl; have cbm4 := bm.cell (j := 4) rfl; have cbmf := bm.fz) | skip); (try go_wp2_with fail); refine hK.out _ _ ?_ (fun hHeld => ?_); (focus ((try dsimp only); (refine ⟨?_, ?_, ?_, ?_, ?_, ?_, ?_⟩ <;> repeat' (first | (with_reducible assumption) | ((with_reducible apply bx_new) <;> first | (simp only [World.size_alloc, World.size_setCell]; done) | rfl) | (with_reducible apply bx_alloc) | (with_reducible apply bx_other; (first | (simp only [World.size_alloc, World.size_setCell]; omega) | omega)) | (with_reducible apply bx_same) | (with_reducible apply bx_drew) | (with_reducible apply bx_drew1) | (with_reducible apply bx_keep; with_reducible assumption) | fail)))); clear hK K; (try simp only [Act.put, List.setIfInBounds_toArray, List.set_cons_zero, List.set_cons_succ])); (refine takeT (i := 6) (d := 147) rfl rfl (by kernel_rfl) (by kernel_rfl) (by kernel_rfl) (by rfl) (by assumption) (v := ?_) ?_ ?_; rotate_left; (focus (intro wq hSw; (try dsimp only at hSw); go_simp; (try (with_reducible rfl)); done)); (try simp only [Act.put, List.setIfInBounds_toArray, List.set_cons_zero, List.set_cons_succ])); (refine takeT (i := 7) (d := 154) rfl rfl (by kernel_rfl) (by kernel_rfl) (by kernel_rfl) (by rfl) (by assumption) (v := ?_) ?_ ?_; rotate_left; (focus (intro wq hSw; (try dsimp only at hSw); go_simp; (try (with_reducible rfl)); done)); (try simp only [Act.put, List.setIfInBounds_toArray, List.set_cons_zero, List.set_cons_succ])); (refine takeT (i := 8) (d := 155) rfl rfl (by kernel_rfl) (by kernel_rfl) (by kernel_rfl) (by rfl) (by assumption) (v := ?_) ?_ ?_; rotate_left; (focus (intro wq hSw; (try dsimp only at hSw); go_simp; (try (with_reducible rfl)); done)); (try simp only [Act.put, List.setIfInBounds_toArray, List.set_cons_zero, List.set_cons_succ])); (refine takeT (i := 9) (d := 23) rfl rfl (by kernel_rfl) (by kernel_rfl) (by kernel_rfl) (by rfl) (by assumption) (v := ?_) ?_ ?_; rotate_left; (focus (intro wq hSw; (try dsimp only at hSw); go_simp; (try (with_reducible rfl)); done)); (try simp only [Act.put, List.setIfInBounds_toArray, List.set_cons_zero, List.set_cons_succ])); (refine takeT (i := 10) (d := 24) rfl rfl (by kernel_rfl) (by kernel_rfl) (by kernel_rfl) (by rfl) (by assumption) (v := ?_) ?_ ?_; rotate_left; (focus (intro wq hSw; (try dsimp only at hSw); go_simp; (try (with_reducible rfl)); done)); (try simp only [Act.put, List.setIfInBounds_toArray, List.set_cons_zero, List.set_cons_succ])); refine wpAnyH_done (by kernel_rfl) ?_ _; refine NoPanic.normal ?_)
        go_wp2_with fail
        go_loopw [25] (fun iv wr => ∃ i : Nat, i ≤ zs.length ∧ iv = .int .i64 i ∧ IBox wr 25 w1.heap.size [x, y, p, q, s] ∧ OwnCt wr lo hi (.slice (some ⟨bq, oq, none⟩) cs.length kc) cs ∧ OwnI wr lo (.slice Al zs.length cl) zs ∧ OwnI wr lo (.slice As zs.length cs1) zs ∧ Below w.heap.size w wr) (fun iv _ => zs.length - (intOf iv).toNat)
        case atStart => exact ⟨0, Nat.zero_le _, rfl, bm, oc, ol, os, B⟩
        case round =>
          clear k0 k1 hq0 hq1 cbm0 cbm1 cbm2 cbm3 cbm4 cbmf
          obtain ⟨i, hi2, rfl, bm, oc, ol, os, B⟩ := hrel
          have dbm0 := bm.cell (j := 0) rfl
          have dbm1 := bm.cell (j := 1) rfl
          have dbm2 := bm.cell (j := 2) rfl
          have dbm3 := bm.cell (j := 3) rfl
          have dbm4 := bm.cell (j := 4) rfl
          have dbmf := bm.fz
          by_cases hlt : i < zs.length
          · obtain ⟨z, hz⟩ := get_of_lt hlt
            obtain ⟨j, rfl, hj, hle⟩ := hminH.out i z hz
            obtain ⟨⟨aj, bj⟩, hab⟩ := get_of_lt (xs := cs) (k := j) hj
            obtain ⟨bz, oz, eA, hbz, hq0, hq1⟩ := C64.at_ (OwnS.rd oc) hab
            injection eA with eA
            injection eA with eA1 eA2
            subst eA1 eA2
            obtain ⟨b3, q3, rfl, hb3, hc3⟩ := (OwnI.reads os).2.at_ hz
            have hGj : Hid (∀ w, Calls Try.prog 24 #[.agg #[.int .i64 x, .int .i64 y, .int .i64 p, .int .i64 q, .int .i64 s], .agg #[.int .i64 aj, .int .i64 bj]] w fun e w' => e = .returned (.tuple #[.int .i64 (cstA x y cs j), .int .i64 0]) ∧ Below w.heap.size w w') := fun w => by
              have := impl_GateCost x y p q s aj bj w
              rw [fGC, if_pos hmH.out, if_pos (ctsB_of hcsH.out hab), ← cstA_of hab] at this
              exact this
            have q0 : (0 : Int) ≤ (j : Int) := by omega
            have q1 : (j : Int) < (cs.length : Int) := by omega
            have q2 : (0 : Int) ≤ (i : Int) := by omega
            have q3' : (i : Int) < (zs.length : Int) := by omega
            have q4 : ¬ cstA x y cs j < cstA x y cs k := by omega
            clear hz hab
            go_wp2_with fail
            (refine wp_region_noPanic ?_; refine wp_region_held_drew (S := (fun w' => w'.cell? ⟨w1.heap.size, 0, none⟩ = some (.int .i64 x) ∧ w'.cell? ⟨w1.heap.size, 1, none⟩ = some (.int .i64 y) ∧ w'.cell? ⟨w1.heap.size, 2, none⟩ = some (.int .i64 p) ∧ w'.cell? ⟨w1.heap.size, 3, none⟩ = some (.int .i64 q) ∧ w'.cell? ⟨w1.heap.size, 4, none⟩ = some (.int .i64 s) ∧ w'.cell? ⟨bq, oq + j * 2, none⟩ = some (.int .i64 aj) ∧ w'.cell? ⟨bq, oq + j * 2 + 1, none⟩ = some (.int .i64 bj) ∧ w'.cell? ⟨b3, q3 + i, none⟩ = some (.int .i64 ((j : Int))))) (by kernel_rfl) ?_ (fun hHeld => ?_); (focus ((try dsimp only); (refine ⟨?_, ?_, ?_, ?_, ?_, ?_, ?_, ?_⟩ <;> repeat' (first | (with_reducible assumption) | ((with_reducible apply bx_new) <;> first | (simp only [World.size_alloc, World.size_setCell]; done) | rfl) | (with_reducible apply bx_alloc) | (with_reducible apply bx_other; (first | (simp only [World.size_alloc, World.size_setCell]; omega) | omega)) | (with_reducible apply bx_same) | (with_reducible apply bx_drew) | (with_reducible apply bx_drew1) | (with_reducible apply bx_keep; with_reducible assumption) | fail)))); (refine takeT (i := 0) (d := 163) rfl rfl (by kernel_rfl) (by kernel_rfl) (by kernel_rfl) (by rfl) (by assumption) (v := ?_) ?_ ?_; rotate_left; (focus (intro wq hSw; (try dsimp only at hSw); go_simp; (try (with_reducible rfl)); done)); (try simp only [Act.put, List.setIfInBounds_toArray, List.set_cons_zero, List.set_cons_succ])); (refine takeT (i := 1) (d := 164) rfl rfl (by kernel_rfl) (by kernel_rfl) (by kernel_rfl) (by rfl) (by assumption) (v := ?_) ?_ ?_; rotate_left; (focus (intro wq hSw; (try dsimp only at hSw); go_simp; (try (with_reducible rfl)); done)); (try simp only [Act.put, List.setIfInBounds_toArray, List.set_cons_zero, List.set_cons_succ])); (refine takeT (i := 2) (d := 165) rfl rfl (by kernel_rfl) (by kernel_rfl) (by kernel_rfl) (by rfl) (by assumption) (v := ?_) ?_ ?_; rotate_left; (focus (intro wq hSw; (try dsimp only at hSw); go_simp; (try (with_reducible rfl)); done)); (try simp only [Act.put, List.setIfInBounds_toArray, List.set_cons_zero, List.set_cons_succ])); (refine takeT (i := 3) (d := 166) rfl rfl (by kernel_rfl) (by kernel_rfl) (by kernel_rfl) (by rfl) (by assumption) (v := ?_) ?_ ?_; rotate_left; (focus (intro wq hSw; (try dsimp only at hSw); go_simp; (try (with_reducible rfl)); done)); (try simp only [Act.put, List.setIfInBounds_toArray, List.set_cons_zero, List.set_cons_succ])); (refine takeT (i := 4) (d := 167) rfl rfl (by kernel_rfl) (by kernel_rfl) (by kernel_rfl) (by rfl) (by assumption) (v := ?_) ?_ ?_; rotate_left; (focus (intro wq hSw; (try dsimp only at hSw); go_simp; (try (with_reducible rfl)); done)); (try simp only [Act.put, List.setIfInBounds_toArray, List.set_cons_zero, List.set_cons_succ])); (refine takeT (i := 5) (d := 168) rfl rfl (by kernel_rfl) (by kernel_rfl) (by kernel_rfl) (by rfl) (by assumption) (v := ?_) ?_ ?_; rotate_left; (focus (intro wq hSw; (try dsimp only at hSw); go_simp; (try (with_reducible rfl)); done)); (try simp only [Act.put, List.setIfInBounds_toArray, List.set_cons_zero, List.set_cons_succ])); (refine takeT (i := 6) (d := 169) rfl rfl (by kernel_rfl) (by kernel_rfl) (by kernel_rfl) (by rfl) (by assumption) (v := ?_) ?_ ?_; rotate_left; (focus (intro wq hSw; (try dsimp only at hSw); go_simp; (try (with_reducible rfl)); done)); (try simp only [Act.put, List.setIfInBounds_toArray, List.set_cons_zero, List.set_cons_succ])); (refine takeT (i := 7) (d := 170) rfl rfl (by kernel_rfl) (by kernel_rfl) (by kernel_rfl) (by rfl) (by assumption) (v := ?_) ?_ ?_; rotate_left; (focus (intro wq hSw; (try dsimp only at hSw); go_simp; (try (with_reducible rfl)); done)); (try simp only [Act.put, List.setIfInBounds_toArray, List.set_cons_zero, List.set_cons_succ])); (refine wpAnyH_ready (rs := [8]) (by kernel_rfl) (by simp) ?_; refine AllReadyH.cons rfl (fun K hK => ?_) AllReadyH.nil; go_simp; (first | (go_at_call 24; refine (hGj.out _).mono ?_; rintro e w13 ⟨rfl, hb13⟩; have bm := IBox.next (w := wr.drew) bm hb13; have oc : OwnCt w13 lo hi (.slice (some ⟨bq, oq, none⟩) cs.length kc) cs := OwnS.next (w := wr.drew) oc hb13; have ol : OwnI w13 lo (.slice Al zs.length cl) zs := OwnI.below (w := wr.drew) ol hb13; have os : OwnI w13 lo (.slice (some ⟨b3, q3, none⟩) zs.length cs1) zs := OwnI.below (w := wr.drew) os hb13; have B : Below w.heap.size w w13 := Below.trans (below_drew B) (hb13.mono (by have := B.size; exact this)); have k0 := bx_keep (W := wr.drew) hb13 hq0; have k1 := bx_keep (W := wr.drew) hb13 hq1; have k2 := bx_keep (W := wr.drew) hb13 hc3; have dbm0 := bm.cell (j := 0) rfl; have dbm1 := bm.cell (j := 1) rfl; have dbm2 := bm.cell (j := 2) rfl; have dbm3 := bm.cell (j := 3) rfl; have dbm4 := bm.cell (j := 4) rfl; have dbmf := bm.fz) | skip); (try go_wp2_with fail); refine hK.out _ _ ?_ (fun hHeld => ?_); (focus ((try dsimp only); (refine ⟨?_, ?_, ?_, ?_, ?_, ?_, ?_, ?_⟩ <;> repeat' (first | (with_reducible assumption) | ((with_reducible apply bx_new) <;> first | (simp only [World.size_alloc, World.size_setCell]; done) | rfl) | (with_reducible apply bx_alloc) | (with_reducible apply bx_other; (first | (simp only [World.size_alloc, World.size_setCell]; omega) | omega)) | (with_reducible apply bx_same) | (with_reducible apply bx_drew) | (with_reducible apply bx_drew1) | (with_reducible apply bx_keep; with_reducible assumption) | fail)))); clear hK K; (try simp only [Act.put, List.setIfInBounds_toArray, List.set_cons_zero, List.set_cons_succ])); (refine takeT (i := 9) (d := 162) rfl rfl (by kernel_rfl) (by kernel_rfl) (by kernel_rfl) (by rfl) (by assumption) (v := ?_) ?_ ?_; rotate_left; (focus (intro wq hSw; (try dsimp only at hSw); go_simp; (try (with_reducible rfl)); done)); (try simp only [Act.put, List.setIfInBounds_toArray, List.set_cons_zero, List.set_cons_succ])); (refine takeT (i := 10) (d := 172) rfl rfl (by kernel_rfl) (by kernel_rfl) (by kernel_rfl) (by rfl) (by assumption) (v := ?_) ?_ ?_; rotate_left; (focus (intro wq hSw; (try dsimp only at hSw); go_simp; (try (with_reducible rfl)); done)); (try simp only [Act.put, List.setIfInBounds_toArray, List.set_cons_zero, List.set_cons_succ])); (refine takeT (i := 11) (d := 173) rfl rfl (by kernel_rfl) (by kernel_rfl) (by kernel_rfl) (by rfl) (by assumption) (v := ?_) ?_ ?_; rotate_left; (focus (intro wq hSw; (try dsimp only at hSw); go_simp; (try (with_reducible rfl)); done)); (try simp only [Act.put, List.setIfInBounds_toArray, List.set_cons_zero, List.set_cons_succ])); (refine takeT (i := 12) (d := 26) rfl rfl (by kernel_rfl) (by kernel_rfl) (by kernel_rfl) (by rfl) (by assumption) (v := ?_) ?_ ?_; rotate_left; (focus (intro wq hSw; (try dsimp only at hSw); go_simp; (try (with_reducible rfl)); done)); (try simp only [Act.put, List.setIfInBounds_toArray, List.set_cons_zero, List.set_cons_succ])); (refine takeT (i := 13) (d := 27) rfl rfl (by kernel_rfl) (by kernel_rfl) (by kernel_rfl) (by rfl) (by assumption) (v := ?_) ?_ ?_; rotate_left; (focus (intro wq hSw; (try dsimp only at hSw); go_simp; (try (with_reducible rfl)); done)); (try simp only [Act.put, List.setIfInBounds_toArray, List.set_cons_zero, List.set_cons_succ])); refine wpAnyH_done (by kernel_rfl) ?_ _; refine NoPanic.normal ?_)
            go_wp2_with fail
            go_roundw
            case rel => exact ⟨i + 1, by omega, by go_num, bm, oc, ol, os, B⟩
            case measure => simp [intOf]; omega
          · have hqn := Lib.hid ((OwnI.reads ol).2)
            have hmd : decide ((k : Int) ∈ zs) = true := by simpa using hmemH.out
            have hhas := fun w h1 => laws_hasInt Al cl zs (k : Int) w h1 (by omega)
            rw [hmd] at hhas
            have hhasH := Lib.hid hhas
            clear hhas hmd
            go_wp2_with fail
            refine (hhasH.out _ hqn.out).mono ?_
            rintro e w' ⟨rfl, rfl⟩
            go_wp2_with fail
            all_goals go_returns
            all_goals exact ⟨rfl, B⟩
      · have ez := (hLH.out rfl).1 hn0
        subst ez
        have e0 : ((([] : List Int).length : Int) == 0) = true := rfl
        go_wp2_with fail
        all_goals go_returns
        all_goals exact ⟨rfl, B⟩
    · go_wp2_with fail
      all_goals go_returns
      all_goals exact ⟨rfl, B⟩
end Go.Proofs.Ytpanignlpcemnaa
