/- ReadMosaic of the reference: contract. -/
import Derived.Test.YtgokiedhdihamaaDoorRmS
namespace Go.Proofs.YtgokiedhdihamaaDoor
open Go.RowKit Go.ChangeShapes Go.WideShapes Go.ChangeAt
set_option linter.unusedVariables false
set_option linter.unusedSimpArgs false
theorem below_dal (w : World) (ob : Obj) : Below w.heap.size w (w.drew.alloc ob) := Below.new (show Below w.heap.size w w.drew from ⟨rfl, rfl, rfl, Nat.le_refl _, fun _ _ => rfl⟩) _
theorem SpSt.drop {p q : Int} {X R b : Nat} {w1 W : World} {A : Option Addr} {cs : List (List UInt8)} {xs ys : List Int} {vx vy : Value} (h : SpSt p q X R b w1 A cs xs ys vx vy W) : SpSt p q X R b w1 none [] xs ys vx vy W := ⟨h.1, h.2.1, h.2.2.1, .inl rfl, ⟨fun g e => (by cases e), fun g e => (by cases e)⟩, fun g e => (by cases e), h.2.2.2.2.2.2⟩
theorem SpSt.start {p q : Int} {R : Nat} {w2 : World} (hR : R < w2.heap.size) (rb : VBox w2 24 R [.int .i64 0, .int .i64 0, .slice none 0 0, .slice none 0 0]) : SpSt p q (w2.heap.size + 2) R w2.heap.size w2 none [] [] [] (.slice (some ⟨w2.heap.size, 0, none⟩) 0 0) (.slice (some ⟨w2.heap.size + 1, 0, none⟩) 0 0) (((w2.alloc (.cells #[] 2)).alloc (.cells #[] 2)).alloc (.cells #[.int .i64 p, .int .i64 q, .slice (some ⟨w2.heap.size, 0, none⟩) 0 0, .slice (some ⟨w2.heap.size + 1, 0, none⟩) 0 0] 24)) := by
  have o1 : OwnI (w2.alloc (.cells #[] 2)) w2.heap.size (.slice (some ⟨w2.heap.size, 0, none⟩) 0 0) [] := OwnI.lit0 (Nat.le_refl _)
  have o2 : OwnI ((w2.alloc (.cells #[] 2)).alloc (.cells #[] 2)) w2.heap.size (.slice (some ⟨w2.heap.size + 1, 0, none⟩) 0 0) [] := by
    have h := OwnI.lit0 (W := w2.alloc (.cells #[] 2)) (base := w2.heap.size) (by simp)
    simpa using h
  refine ⟨VBox.new (by simp), ⟨(o1.alloc _).alloc _, o2.alloc _, by simp [Value.ownBlock]⟩, ((rb.alloc _).alloc _).alloc _, .inl rfl, ⟨fun g e => (by cases e), fun g e => (by cases e)⟩, fun g e => (by cases e), ?_, hR, by omega, by simp [Value.ownBlock], by simp [Value.ownBlock]⟩
  exact Below.new (Below.new (Below.new (Below.refl _ _) _) _) _
set_option maxRecDepth 100000 in
set_option maxHeartbeats 6400000 in
theorem spec_ReadMosaic (l : List UInt8) (w : World) (hl : l.length ≤ 1048576) :
    Calls Tryd.prog 5 #[.string (mkT l)] w (ReadTo cS (okS l) l w) := by
  have hrn : (spl 47 l).length ≤ 1048577 := Nat.le_trans (sp_len l []) (by omega)
  have hrp : ∀ r ∈ spl 47 l, r.length ≤ 1048576 := fun r hr => Nat.le_trans (sp_part l [] r hr) (by simp; omega)
  have hn0 : 0 < (spl 47 l).length := List.length_pos_iff.2 (sp_ne l [])
  have hrpH := Lib.hid hrp
  clear hrp
  go_enter Tryd.func5, Tryd.ntmps5
  go_wp2_with fail
  refine calls_gen (fun W0 hW0 => ?_)
  have rb : VBox W0 24 w.heap.size [.int .i64 0, .int .i64 0, .slice none 0 0, .slice none 0 0] := by rw [hW0]; exact VBox.new rfl
  have B0 : Below w.heap.size w W0 := by rw [hW0]; exact Below.new (Below.refl _ _) _
  clear hW0
  refine (spec_l01Split l 47 W0 hl).mono ?_
  rintro e w1 ⟨v1, rfl, ox1, hb1⟩
  obtain ⟨A1, k1, rfl⟩ := OwnX.form ox1
  have rx := ox1.rx
  have rb := rb.next hb1
  have B1 : Below w.heap.size w w1 := B0.trans (hb1.mono B0.size)
  have z1 := rb.lt
  clear hb1 B0 ox1
  have hqn : ((spl 47 l).length : Int) ≤ 1048577 := by omega
  have hqn0 : (0 : Int) < ((spl 47 l).length : Int) := by omega
  obtain ⟨r0, hr0⟩ := get_of_lt hn0
  have hrl0 := hrpH.out r0 (List.mem_of_getElem? hr0)
  obtain ⟨g, e, hg, hc⟩ := rx.at_ hr0
  subst e
  have hw0 : (spl 44 r0).length = wid l := by unfold wid; simp [List.getD, hr0]
  have hw0H := Lib.hid hw0
  clear hr0 hw0
  go_wp2_with fail
  refine (spec_l01Split r0 44 w1 hrl0).mono ?_
  rintro e w2 ⟨v2, rfl, ox2, hb2⟩
  obtain ⟨A2, k2, rfl⟩ := OwnX.form ox2
  rw [hw0H.out]
  have rb := rb.next hb2
  have rx := rx.up hb2
  have B2 : Below w.heap.size w w2 := B1.trans (hb2.mono B1.size)
  have z2 := rb.lt
  have hwl : wid l ≤ 1048577 := by rw [← hw0H.out]; exact Nat.le_trans (sp_len r0 []) (by omega)
  clear hb2 ox2 hc hg
  go_wp2_with fail
  obtain ⟨X, hX⟩ : ∃ X, X = w2.heap.size + 1 + 1 := ⟨_, rfl⟩
  rw [← hX]
  have hXH := Lib.hid hX
  clear hX
  go_loopw [6] (fun iv wr => ∃ (y : Nat) (vx vy : Value), y ≤ (spl 47 l).length ∧ iv = .int .i64 (y : Int) ∧ SpSt (wid l : Int) ((spl 47 l).length : Int) X w.heap.size w2.heap.size w2 none [] (rdX cS (fl l y)) (rdY cS (fl l y)) vx vy wr ∧ Hid (okC cS (fl l y) = true)) (fun iv _ => (spl 47 l).length - (intOf iv).toNat)
  case atStart => exact ⟨0, _, _, Nat.zero_le _, rfl, by rw [hXH.out]; exact SpSt.start z2 rb, rfl⟩
  case round =>
    clear rb
    obtain ⟨y, vx, vy, hy, rfl, st, hok⟩ := hrel
    have Br : Below w.heap.size w wr := B2.trans (st.2.2.2.2.2.2.1.mono B2.size)
    by_cases hlt : y < (spl 47 l).length
    · have p1 : (y : Int) < ((spl 47 l).length : Int) := by omega
      have p0 : (0 : Int) ≤ (y : Int) := by omega
      obtain ⟨r, hr⟩ := get_of_lt hlt
      have hrm := List.mem_of_getElem? hr
      have hrl := hrpH.out r hrm
      obtain ⟨g', e, hg, hc⟩ := (rx.up st.2.2.2.2.2.2.1).at_ hr
      injection e with e
      injection e with e
      subst e
      have hrH := Lib.hid hr
      have hrmH := Lib.hid hrm
      clear hr hrm
      go_wp2_with fail
      refine (spec_l01Split r 44 wr hrl).mono ?_
      rintro e w3 ⟨v3, rfl, ox3, hb3⟩
      obtain ⟨A3, k3, rfl⟩ := OwnX.form ox3
      have rx3 := ox3.rx
      have hx3 : ∀ g, A3 = some ⟨g, 0, none⟩ → wr.heap.size ≤ g := fun g e => (ox3.lt g (by rw [e]; rfl)).1
      have zl := st.1.lt
      have ap : Apa A3 vx ∧ Apa A3 vy := ⟨Apa.of hx3 st.2.1.1, Apa.of hx3 st.2.1.2.1⟩
      have st := st.next hb3
      obtain ⟨cs, hcs⟩ : ∃ z, z = spl 44 r := ⟨_, rfl⟩
      have hcl : cs.length ≤ 1048577 := by rw [hcs]; exact Nat.le_trans (sp_len r []) (by omega)
      rw [← hcs] at rx3 ⊢
      have hcsH := Lib.hid hcs
      have st : SpSt (wid l : Int) ((spl 47 l).length : Int) X w.heap.size w2.heap.size w2 A3 cs (rdX cS (fl l y ++ cs.take 0)) (rdY cS (fl l y ++ cs.take 0)) vx vy w3 := by
        rw [List.take_zero, List.append_nil]
        obtain ⟨a1, a2, a3, a4, a5, a6, a7⟩ := st
        exact ⟨a1, a2, a3, rx3, ap, fun g e => by have := hx3 g e; omega, a7⟩
      have hokyH := Lib.hid hok.out
      clear hcs hb3 hc ox3 ap hx3 rx3 zl
      go_wp2_with fail
      go_loopw [8] (fun iv wr => ∃ (x : Nat) (ux uy : Value), x ≤ cs.length ∧ iv = .int .i64 (x : Int) ∧ SpSt (wid l : Int) ((spl 47 l).length : Int) X w.heap.size w2.heap.size w2 A3 cs (rdX cS (fl l y ++ cs.take x)) (rdY cS (fl l y ++ cs.take x)) ux uy wr ∧ Hid (okC cS (fl l y ++ cs.take x) = true)) (fun iv _ => cs.length - (intOf iv).toNat)
      case atStart => exact ⟨0, vx, vy, Nat.zero_le _, rfl, st, by show _ = _; rw [List.take_zero, List.append_nil]; exact hokyH.out⟩
      case round =>
        clear st Br
        obtain ⟨x, ux, uy, hx, rfl, st, hokx⟩ := hrel
        have Bq := B2.trans (st.2.2.2.2.2.2.1.mono B2.size)
        by_cases hxl : x < cs.length
        · have t1 : (x : Int) < (cs.length : Int) := by omega
          have t0 : (0 : Int) ≤ (x : Int) := by omega
          obtain ⟨c, hcx⟩ := get_of_lt hxl
          have hcm : c ∈ spl 44 r := by rw [← hcsH.out]; exact List.mem_of_getElem? hcx
          have hcl2 : c.length ≤ 1048576 := Nat.le_trans (sp_part r [] c hcm) (by simp; omega)
          have hcel := mem_cel hrmH.out hcm
          obtain ⟨g2, e, hg2, hc2⟩ := st.2.2.2.1.at_ hcx
          subst e
          have hwsl : (spl 58 c).length ≤ 1048577 := Nat.le_trans (sp_len c []) (by omega)
          have hwsp : ∀ q ∈ spl 58 c, q.length ≤ 1048576 := fun q hq => Nat.le_trans (sp_part c [] q hq) (by simp; omega)
          have hwspH := Lib.hid hwsp
          clear hwsp
          go_wp2_with fail
          refine (spec_l01Split c 58 wr hcl2).mono ?_
          rintro e w4 ⟨v4, rfl, ox4, hb4⟩
          obtain ⟨A4, k4, rfl⟩ := OwnX.form ox4
          have rx4 := ox4.rx
          have st := st.next hb4
          have st4 := st
          have hc2 := (hb4.cell (p := ⟨g2, x, none⟩) hg2).trans hc2
          have hg2 : g2 < w4.heap.size := Nat.lt_of_lt_of_le hg2 hb4.size
          have Bq : Below w.heap.size w w4 := Bq.trans (hb4.mono Bq.size)
          clear hb4 ox4
          go_wp2_with fail
          refine (spec_l01Numbers A4 k4 (spl 58 c) w4 rx4 hwsl hwspH.out).mono ?_
          rintro e w5 ⟨v5, rfl, hv5, hb5⟩
          have st := st.next hb5
          have hc2 := (hb5.cell (p := ⟨g2, x, none⟩) hg2).trans hc2
          have Bq : Below w.heap.size w w5 := Bq.trans (hb5.mono Bq.size)
          clear rx4
          have hq : ((mkT c).toList == [45]) = decide (c = [45]) := eqT1 c [45]
          cases hci : cS c with
          | none =>
            have h45 : c ≠ [45] := fun e => by rw [e, cS_dash] at hci; cases hci
            rw [decide_eq_false h45] at hq
            have hokf : okS l = false := by unfold okS; rw [okC_no hcel hci]; simp
            have hokfH := Lib.hid hokf
            have hnn := cS_none h45 hci
            obtain ⟨vb, tw, rb, _⟩ := st
            have rd0 := rb.cell (j := 0) rfl
            have rd1 := rb.cell (j := 1) rfl
            have rd2 := rb.cell (j := 2) rfl
            have rd3 := rb.cell (j := 3) rfl
            have rdf := rb.fz
            cases hnb : nmB (spl 58 c)
            · clear hnn hnb hv5 hokf hcel hcm hcx hci h45 tw vb rb
              go_wp2_with fail
              all_goals ((try simp only [Exit.inBlock, Exit.then]); refine bodyPost_ret (by simp [results, Tryd.results5, go_sem, *]; try rfl) rfl ?_)
              all_goals exact ReadTo.no hokfH.out (by rfl) (by exact bgr)
            · rw [hnb] at hnn
              have ho5 := hv5 hnb
              obtain ⟨A5, c5, rfl, _⟩ := id ho5
              have hnl : (nmV (spl 58 c)).length ≠ 2 := by
                rcases hnn with h | h
                · cases h
                · simpa [nmV] using h
              have p2 : (((nmV (spl 58 c)).length : Int) != 2) = true := by simp; omega
              obtain ⟨n5, hn5⟩ : ∃ n5, n5 = (nmV (spl 58 c)).length := ⟨_, rfl⟩
              rw [← hn5] at p2 ⊢
              clear hnn hnb hv5 ho5 hokf hcel hcm hcx hci h45 tw vb rb hnl hn5
              go_wp2_with fail
              all_goals ((try simp only [Exit.inBlock, Exit.then]); refine bodyPost_ret (by simp [results, Tryd.results5, go_sem, *]; try rfl) rfl ?_)
              all_goals exact ReadTo.no hokfH.out (by rfl) (by exact bgr)
          | some z =>
            obtain ⟨z1, z2'⟩ := z
            have ex := tk_succ hcx (fl l y)
            have ex1 : Hid (rdX cS (fl l y ++ cs.take (x + 1)) = rdX cS (fl l y ++ cs.take x) ++ [z1]) := by
              show _ = _
              rw [ex, rdX_app]; simp [rdX, hci]
            have ex2 : Hid (rdY cS (fl l y ++ cs.take (x + 1)) = rdY cS (fl l y ++ cs.take x) ++ [z2']) := by
              show _ = _
              rw [ex, rdY_app]; simp [rdY, hci]
            have ex3 : Hid (okC cS (fl l y ++ cs.take (x + 1)) = true) := by
              show _ = _
              rw [ex, okC_app, hokx.out]; simp [okC, hci]
            obtain ⟨X1, hX1⟩ : ∃ X1, X1 = rdX cS (fl l y ++ cs.take (x + 1)) := ⟨_, rfl⟩
            obtain ⟨Y1, hY1⟩ : ∃ Y1, Y1 = rdY cS (fl l y ++ cs.take (x + 1)) := ⟨_, rfl⟩
            rw [← hX1] at ex1
            rw [← hY1] at ex2
            have hX1H := Lib.hid hX1
            have hY1H := Lib.hid hY1
            have hcs0 : 0 < cs.length := by omega
            have hlen1 : (rdX cS (fl l y ++ cs.take x)).length ≤ 2097154 := by
              have := fl_le (l := l) (y := y)
              simp [rdX]; omega
            have hlen2 : (rdY cS (fl l y ++ cs.take x)).length ≤ 2097154 := by
              have := fl_le (l := l) (y := y)
              simp [rdY]; omega
            by_cases h45 : c = [45]
            · have hzz : z1 = -1 ∧ z2' = 0 := by
                rw [h45, cS_dash] at hci
                simp only [Option.some.injEq, Prod.mk.injEq] at hci
                exact ⟨hci.1.symm, hci.2.symm⟩
              rw [decide_eq_true h45] at hq
              obtain ⟨ez1, ez2⟩ := hzz
              have hzH := Lib.hid ez1
              have hzH2 := Lib.hid ez2
              obtain ⟨v6, hv6⟩ : ∃ v6, v6 = v5 := ⟨_, rfl⟩
              clear hv5 hcel hcm hcx hci h45 ex hX1 hY1 hokx hv6 ez1 ez2
              have ngx : ux.ownBlock ≠ some w5.heap.size := fun e => by have := (st.2.1.1.lt _ e).2; omega
              have ngy : uy.ownBlock ≠ some w5.heap.size := fun e => by have := (st.2.1.2.1.lt _ e).2; omega
              have hgX : X < w5.heap.size := st.1.lt
              have Bq : Below w.heap.size w (w5.alloc (.cells #[.int .i64 (-1), .int .i64 0] 2)) := Below.new Bq _
              have st := st.next (Below.new (Below.refl _ _) (.cells #[.int .i64 (-1), .int .i64 0] 2))
              have cN0 : (w5.alloc (.cells #[.int .i64 (-1), .int .i64 0] 2)).cell? ⟨w5.heap.size, 0, none⟩ = some (.int .i64 z1) := by rw [hzH.out]; simp
              have cN1 : (w5.alloc (.cells #[.int .i64 (-1), .int .i64 0] 2)).cell? ⟨w5.heap.size, 1, none⟩ = some (.int .i64 z2') := by rw [hzH2.out]; simp
              go_upto_region 13 with fail
              obtain ⟨W, hW⟩ : ∃ W, W = w5.alloc (.cells #[.int .i64 (-1), .int .i64 0] 2) := ⟨_, rfl⟩
              rw [← hW] at st cN0 cN1 Bq ⊢
              clear hW
              obtain ⟨g5, hg5⟩ : ∃ g5, g5 = w5.heap.size := ⟨_, rfl⟩
              rw [← hg5] at ngx ngy hgX cN0 cN1 ⊢
              clear hg5
              have stA : SpSt (wid l : Int) ((spl 47 l).length : Int) X w.heap.size w2.heap.size w2 (some ⟨g2, 0, none⟩) cs (rdX cS (fl l y ++ cs.take x)) (rdY cS (fl l y ++ cs.take x)) ux uy (W.drew.alloc (.cells #[.int .i64 z1] 2)) := st.next (below_dal _ _)
              have vq := st.1.cell (j := 2) rfl
              have vf := st.1.fz
              have zX := st.1.lt
              have zb := st.2.2.2.2.2.2.2.2.1
              go_upto_region 15 with fail
              (refine wp_region_noPanic ?_; refine beginE 8 (fun w' => w'.cell? ⟨X, 2, none⟩ = some (ux) ∧ w'.cell? ⟨g5, 0, none⟩ = some (.int .i64 z1)) (by kernel_rfl) ?_ (fun hHeld => ?_); (focus ((try dsimp only); (refine ⟨?_, ?_⟩ <;> exact bxc))); (refine takeE (i := 0) (d := 63) rfl rfl (by kernel_rfl) (by decide) (by kernel_rfl) (by kernel_rfl) (by kernel_rfl) (by rfl) (by assumption) (v := ?_) ?_ ?_; rotate_left; (focus (intro wq hSw; (try dsimp only at hSw); go_simp; (try (with_reducible rfl)); done)); (try simp only [Act.put, List.setIfInBounds_toArray, List.set_cons_zero, List.set_cons_succ])); (refine takeE (i := 1) (d := 64) rfl rfl (by kernel_rfl) (by decide) (by kernel_rfl) (by kernel_rfl) (by kernel_rfl) (by rfl) (by assumption) (v := ?_) ?_ ?_; rotate_left; (focus (intro wq hSw; (try dsimp only at hSw); go_simp; (try (with_reducible rfl)); done)); (try simp only [Act.put, List.setIfInBounds_toArray, List.set_cons_zero, List.set_cons_succ])); (refine takeE (i := 2) (d := 65) rfl rfl (by kernel_rfl) (by decide) (by kernel_rfl) (by kernel_rfl) (by kernel_rfl) (by rfl) (by assumption) (v := ?_) ?_ ?_; rotate_left; (focus (intro wq hSw; (try dsimp only at hSw); go_simp; (try (with_reducible rfl)); done)); (try simp only [Act.put, List.setIfInBounds_toArray, List.set_cons_zero, List.set_cons_succ])); (refine takeE (i := 3) (d := 66) rfl rfl (by kernel_rfl) (by decide) (by kernel_rfl) (by kernel_rfl) (by kernel_rfl) (by rfl) (by assumption) (v := ?_) ?_ ?_; rotate_left; (focus (intro wq hSw; (try dsimp only at hSw); go_simp; (try (with_reducible rfl)); done)); (try simp only [Act.put, List.setIfInBounds_toArray, List.set_cons_zero, List.set_cons_succ])); (refine takeE (i := 4) (d := 67) rfl rfl (by kernel_rfl) (by decide) (by kernel_rfl) (by kernel_rfl) (by kernel_rfl) (by rfl) (by assumption) (v := ?_) ?_ ?_; rotate_left; (focus (intro wq hSw; (try dsimp only at hSw); go_simp; (try (with_reducible rfl)); done)); (try simp only [Act.put, List.setIfInBounds_toArray, List.set_cons_zero, List.set_cons_succ])); (refine runE (i := 5) (by kernel_rfl) rfl (by decide) (fun K hK => ?_); (first | (refine step_push2 stA.2.1.1 (heap_alloc_new _ _) (by rfl) _ _ (by rfl) (by rfl) (by rfl) (by simp; omega) (by omega) ?_; intro v7 w7 o7 hg7 hb7 hn7; rw [← ex1.out] at o7; obtain ⟨A7, c7, rfl, _⟩ := id o7; have bx := (stA.box stA.2.1.1 stA.2.2.2.2.2.2.2.2.2.1 hg7).1; have st := stA.x hcs0 o7 hg7 hb7 hn7; have vq := bx.cell (j := 2) rfl; have vf := bx.fz; have cN0 := hg7.cell (a := ⟨g5, 0, none⟩) (bx_alloc (W := W.drew) cN0) (fun e => ngx e.symm); have cN1 := hg7.cell (a := ⟨g5, 1, none⟩) (bx_alloc (W := W.drew) cN1) (fun e => ngx e.symm)) | (go_simp; (first  | skip); (try go_wp2_with fail))); all_goals (refine hK.out _ _ ?_ (fun hHeld => ?_); (focus ((try dsimp only); (refine ⟨?_, ?_⟩ <;> exact bxc))); clear hK K; (try simp only [Act.put, List.setIfInBounds_toArray, List.set_cons_zero, List.set_cons_succ]))); (refine runE (i := 6) (by kernel_rfl) rfl (by decide) (fun K hK => ?_); (first | (refine step_push2 stA.2.1.1 (heap_alloc_new _ _) (by rfl) _ _ (by rfl) (by rfl) (by rfl) (by simp; omega) (by omega) ?_; intro v7 w7 o7 hg7 hb7 hn7; rw [← ex1.out] at o7; obtain ⟨A7, c7, rfl, _⟩ := id o7; have bx := (stA.box stA.2.1.1 stA.2.2.2.2.2.2.2.2.2.1 hg7).1; have st := stA.x hcs0 o7 hg7 hb7 hn7; have vq := bx.cell (j := 2) rfl; have vf := bx.fz; have cN0 := hg7.cell (a := ⟨g5, 0, none⟩) (bx_alloc (W := W.drew) cN0) (fun e => ngx e.symm); have cN1 := hg7.cell (a := ⟨g5, 1, none⟩) (bx_alloc (W := W.drew) cN1) (fun e => ngx e.symm)) | (go_simp; (first  | skip); (try go_wp2_with fail))); all_goals (refine hK.out _ _ ?_ (fun hHeld => ?_); (focus ((try dsimp only); (refine ⟨?_, ?_⟩ <;> exact bxc))); clear hK K; (try simp only [Act.put, List.setIfInBounds_toArray, List.set_cons_zero, List.set_cons_succ]))); (refine takeE (i := 7) (d := 70) rfl rfl (by kernel_rfl) (by decide) (by kernel_rfl) (by kernel_rfl) (by kernel_rfl) (by rfl) (by assumption) (v := ?_) ?_ ?_; rotate_left; (focus (intro wq hSw; (try dsimp only at hSw); go_simp; (try (with_reducible rfl)); done)); (try simp only [Act.put, List.setIfInBounds_toArray, List.set_cons_zero, List.set_cons_succ])); (refine lastE (by kernel_rfl) rfl (by kernel_rfl) (fun K hK => ?_); (go_simp; (try go_wp2_with fail)); refine hK.out _ _ ?_; clear hK K; (try simp only [Act.put, List.setIfInBounds_toArray, List.set_cons_zero, List.set_cons_succ])); refine NoPanic.normal ?_)
              have cN1 := (World.cell?_setCell_other w7 (a := ⟨X, 2, none⟩) (b := ⟨g5, 1, none⟩) (.slice A7 X1.length c7) (fun e => by simp only [Addr.mk.injEq] at e; omega)).trans cN1
              obtain ⟨W2, hW2⟩ : ∃ z, z = w7.setCell ⟨X, 2, none⟩ (.slice A7 X1.length c7) := ⟨_, rfl⟩
              rw [← hW2] at st cN1 ⊢
              clear hW2 vq vf cN0 stA bx
              have stA : SpSt (wid l : Int) ((spl 47 l).length : Int) X w.heap.size w2.heap.size w2 (some ⟨g2, 0, none⟩) cs X1 (rdY cS (fl l y ++ cs.take x)) (.slice A7 X1.length c7) uy (W2.drew.alloc (.cells #[.int .i64 z2'] 2)) := st.next (below_dal _ _)
              have vq := st.1.cell (j := 3) rfl
              have vf := st.1.fz
              have zX := st.1.lt
              have zb := st.2.2.2.2.2.2.2.2.1
              go_upto_region 16 with fail
              (refine wp_region_noPanic ?_; refine beginE 8 (fun w' => w'.cell? ⟨X, 3, none⟩ = some (uy) ∧ w'.cell? ⟨g5, 1, none⟩ = some (.int .i64 z2')) (by kernel_rfl) ?_ (fun hHeld => ?_); (focus ((try dsimp only); (refine ⟨?_, ?_⟩ <;> exact bxc))); (refine takeE (i := 0) (d := 71) rfl rfl (by kernel_rfl) (by decide) (by kernel_rfl) (by kernel_rfl) (by kernel_rfl) (by rfl) (by assumption) (v := ?_) ?_ ?_; rotate_left; (focus (intro wq hSw; (try dsimp only at hSw); go_simp; (try (with_reducible rfl)); done)); (try simp only [Act.put, List.setIfInBounds_toArray, List.set_cons_zero, List.set_cons_succ])); (refine takeE (i := 1) (d := 72) rfl rfl (by kernel_rfl) (by decide) (by kernel_rfl) (by kernel_rfl) (by kernel_rfl) (by rfl) (by assumption) (v := ?_) ?_ ?_; rotate_left; (focus (intro wq hSw; (try dsimp only at hSw); go_simp; (try (with_reducible rfl)); done)); (try simp only [Act.put, List.setIfInBounds_toArray, List.set_cons_zero, List.set_cons_succ])); (refine takeE (i := 2) (d := 73) rfl rfl (by kernel_rfl) (by decide) (by kernel_rfl) (by kernel_rfl) (by kernel_rfl) (by rfl) (by assumption) (v := ?_) ?_ ?_; rotate_left; (focus (intro wq hSw; (try dsimp only at hSw); go_simp; (try (with_reducible rfl)); done)); (try simp only [Act.put, List.setIfInBounds_toArray, List.set_cons_zero, List.set_cons_succ])); (refine takeE (i := 3) (d := 74) rfl rfl (by kernel_rfl) (by decide) (by kernel_rfl) (by kernel_rfl) (by kernel_rfl) (by rfl) (by assumption) (v := ?_) ?_ ?_; rotate_left; (focus (intro wq hSw; (try dsimp only at hSw); go_simp; (try (with_reducible rfl)); done)); (try simp only [Act.put, List.setIfInBounds_toArray, List.set_cons_zero, List.set_cons_succ])); (refine takeE (i := 4) (d := 75) rfl rfl (by kernel_rfl) (by decide) (by kernel_rfl) (by kernel_rfl) (by kernel_rfl) (by rfl) (by assumption) (v := ?_) ?_ ?_; rotate_left; (focus (intro wq hSw; (try dsimp only at hSw); go_simp; (try (with_reducible rfl)); done)); (try simp only [Act.put, List.setIfInBounds_toArray, List.set_cons_zero, List.set_cons_succ])); (refine runE (i := 5) (by kernel_rfl) rfl (by decide) (fun K hK => ?_); (first | (refine step_push2 stA.2.1.2.1 (heap_alloc_new _ _) (by rfl) _ _ (by rfl) (by rfl) (by rfl) (by simp; omega) (by omega) ?_; intro v8 w8 o8 hg8 hb8 hn8; rw [← ex2.out] at o8; obtain ⟨A8, c8, rfl, _⟩ := id o8; have bx := (stA.box stA.2.1.2.1 stA.2.2.2.2.2.2.2.2.2.2 hg8).1; have st := stA.y hcs0 o8 hg8 hb8 hn8; have vq := bx.cell (j := 3) rfl; have vf := bx.fz; have cN1 := hg8.cell (a := ⟨g5, 1, none⟩) (bx_alloc (W := W2.drew) cN1) (fun e => ngy e.symm)) | (go_simp; (first  | skip); (try go_wp2_with fail))); all_goals (refine hK.out _ _ ?_ (fun hHeld => ?_); (focus ((try dsimp only); (refine ⟨?_, ?_⟩ <;> exact bxc))); clear hK K; (try simp only [Act.put, List.setIfInBounds_toArray, List.set_cons_zero, List.set_cons_succ]))); (refine runE (i := 6) (by kernel_rfl) rfl (by decide) (fun K hK => ?_); (first | (refine step_push2 stA.2.1.2.1 (heap_alloc_new _ _) (by rfl) _ _ (by rfl) (by rfl) (by rfl) (by simp; omega) (by omega) ?_; intro v8 w8 o8 hg8 hb8 hn8; rw [← ex2.out] at o8; obtain ⟨A8, c8, rfl, _⟩ := id o8; have bx := (stA.box stA.2.1.2.1 stA.2.2.2.2.2.2.2.2.2.2 hg8).1; have st := stA.y hcs0 o8 hg8 hb8 hn8; have vq := bx.cell (j := 3) rfl; have vf := bx.fz; have cN1 := hg8.cell (a := ⟨g5, 1, none⟩) (bx_alloc (W := W2.drew) cN1) (fun e => ngy e.symm)) | (go_simp; (first  | skip); (try go_wp2_with fail))); all_goals (refine hK.out _ _ ?_ (fun hHeld => ?_); (focus ((try dsimp only); (refine ⟨?_, ?_⟩ <;> exact bxc))); clear hK K; (try simp only [Act.put, List.setIfInBounds_toArray, List.set_cons_zero, List.set_cons_succ]))); (refine takeE (i := 7) (d := 78) rfl rfl (by kernel_rfl) (by decide) (by kernel_rfl) (by kernel_rfl) (by kernel_rfl) (by rfl) (by assumption) (v := ?_) ?_ ?_; rotate_left; (focus (intro wq hSw; (try dsimp only at hSw); go_simp; (try (with_reducible rfl)); done)); (try simp only [Act.put, List.setIfInBounds_toArray, List.set_cons_zero, List.set_cons_succ])); (refine lastE (by kernel_rfl) rfl (by kernel_rfl) (fun K hK => ?_); (go_simp; (try go_wp2_with fail)); refine hK.out _ _ ?_; clear hK K; (try simp only [Act.put, List.setIfInBounds_toArray, List.set_cons_zero, List.set_cons_succ])); refine NoPanic.normal ?_)
              go_wp2_with fail
              exact ⟨⟨x + 1, _, _, by omega, rfl, by rw [← hX1H.out, ← hY1H.out]; exact st, ex3⟩, by simp only [intOf]; omega⟩
            · rw [decide_eq_false h45] at hq
              obtain ⟨hnb, hnv⟩ := cS_some h45 hci
              have ho5 := hv5 hnb
              rw [hnv] at ho5
              obtain ⟨A5, c5, rfl, _⟩ := id ho5
              rw [hnb]
              obtain ⟨g5, e, hg5, cN0, _, _⟩ := ho5.cell (k := 0) rfl
              obtain ⟨g5', e', _, cN1, _, _⟩ := ho5.cell (k := 1) rfl
              rw [e] at e'
              injection e' with e'
              injection e' with e'
              subst e' e
              have ngx : ux.ownBlock ≠ some g5 := fun e => by have := (st4.2.1.1.lt _ e).2; omega
              have ngy : uy.ownBlock ≠ some g5 := fun e => by have := (st4.2.1.2.1.lt _ e).2; omega
              have hgX : X < g5 := by have := st4.1.lt; omega
              obtain ⟨W, hW⟩ : ∃ W, W = w5 := ⟨_, rfl⟩
              subst hW
              clear hv5 hnb hnv ho5 hcel hcm hcx hci h45 ex hX1 hY1 hokx st4
              simp only [List.length_cons, List.length_nil]
              have stA : SpSt (wid l : Int) ((spl 47 l).length : Int) X w.heap.size w2.heap.size w2 (some ⟨g2, 0, none⟩) cs (rdX cS (fl l y ++ cs.take x)) (rdY cS (fl l y ++ cs.take x)) ux uy (W.drew.alloc (.cells #[.int .i64 z1] 2)) := st.next (below_dal _ _)
              have vq := st.1.cell (j := 2) rfl
              have vf := st.1.fz
              have zX := st.1.lt
              have zb := st.2.2.2.2.2.2.2.2.1
              go_upto_region 15 with fail
              (refine wp_region_noPanic ?_; refine beginE 8 (fun w' => w'.cell? ⟨X, 2, none⟩ = some (ux) ∧ w'.cell? ⟨g5, 0, none⟩ = some (.int .i64 z1)) (by kernel_rfl) ?_ (fun hHeld => ?_); (focus ((try dsimp only); (refine ⟨?_, ?_⟩ <;> exact bxc))); (refine takeE (i := 0) (d := 63) rfl rfl (by kernel_rfl) (by decide) (by kernel_rfl) (by kernel_rfl) (by kernel_rfl) (by rfl) (by assumption) (v := ?_) ?_ ?_; rotate_left; (focus (intro wq hSw; (try dsimp only at hSw); go_simp; (try (with_reducible rfl)); done)); (try simp only [Act.put, List.setIfInBounds_toArray, List.set_cons_zero, List.set_cons_succ])); (refine takeE (i := 1) (d := 64) rfl rfl (by kernel_rfl) (by decide) (by kernel_rfl) (by kernel_rfl) (by kernel_rfl) (by rfl) (by assumption) (v := ?_) ?_ ?_; rotate_left; (focus (intro wq hSw; (try dsimp only at hSw); go_simp; (try (with_reducible rfl)); done)); (try simp only [Act.put, List.setIfInBounds_toArray, List.set_cons_zero, List.set_cons_succ])); (refine takeE (i := 2) (d := 65) rfl rfl (by kernel_rfl) (by decide) (by kernel_rfl) (by kernel_rfl) (by kernel_rfl) (by rfl) (by assumption) (v := ?_) ?_ ?_; rotate_left; (focus (intro wq hSw; (try dsimp only at hSw); go_simp; (try (with_reducible rfl)); done)); (try simp only [Act.put, List.setIfInBounds_toArray, List.set_cons_zero, List.set_cons_succ])); (refine takeE (i := 3) (d := 66) rfl rfl (by kernel_rfl) (by decide) (by kernel_rfl) (by kernel_rfl) (by kernel_rfl) (by rfl) (by assumption) (v := ?_) ?_ ?_; rotate_left; (focus (intro wq hSw; (try dsimp only at hSw); go_simp; (try (with_reducible rfl)); done)); (try simp only [Act.put, List.setIfInBounds_toArray, List.set_cons_zero, List.set_cons_succ])); (refine takeE (i := 4) (d := 67) rfl rfl (by kernel_rfl) (by decide) (by kernel_rfl) (by kernel_rfl) (by kernel_rfl) (by rfl) (by assumption) (v := ?_) ?_ ?_; rotate_left; (focus (intro wq hSw; (try dsimp only at hSw); go_simp; (try (with_reducible rfl)); done)); (try simp only [Act.put, List.setIfInBounds_toArray, List.set_cons_zero, List.set_cons_succ])); (refine runE (i := 5) (by kernel_rfl) rfl (by decide) (fun K hK => ?_); (first | (refine step_push2 stA.2.1.1 (heap_alloc_new _ _) (by rfl) _ _ (by rfl) (by rfl) (by rfl) (by simp; omega) (by omega) ?_; intro v7 w7 o7 hg7 hb7 hn7; rw [← ex1.out] at o7; obtain ⟨A7, c7, rfl, _⟩ := id o7; have bx := (stA.box stA.2.1.1 stA.2.2.2.2.2.2.2.2.2.1 hg7).1; have st := stA.x hcs0 o7 hg7 hb7 hn7; have vq := bx.cell (j := 2) rfl; have vf := bx.fz; have cN0 := hg7.cell (a := ⟨g5, 0, none⟩) (bx_alloc (W := W.drew) cN0) (fun e => ngx e.symm); have cN1 := hg7.cell (a := ⟨g5, 1, none⟩) (bx_alloc (W := W.drew) cN1) (fun e => ngx e.symm)) | (go_simp; (first  | skip); (try go_wp2_with fail))); all_goals (refine hK.out _ _ ?_ (fun hHeld => ?_); (focus ((try dsimp only); (refine ⟨?_, ?_⟩ <;> exact bxc))); clear hK K; (try simp only [Act.put, List.setIfInBounds_toArray, List.set_cons_zero, List.set_cons_succ]))); (refine runE (i := 6) (by kernel_rfl) rfl (by decide) (fun K hK => ?_); (first | (refine step_push2 stA.2.1.1 (heap_alloc_new _ _) (by rfl) _ _ (by rfl) (by rfl) (by rfl) (by simp; omega) (by omega) ?_; intro v7 w7 o7 hg7 hb7 hn7; rw [← ex1.out] at o7; obtain ⟨A7, c7, rfl, _⟩ := id o7; have bx := (stA.box stA.2.1.1 stA.2.2.2.2.2.2.2.2.2.1 hg7).1; have st := stA.x hcs0 o7 hg7 hb7 hn7; have vq := bx.cell (j := 2) rfl; have vf := bx.fz; have cN0 := hg7.cell (a := ⟨g5, 0, none⟩) (bx_alloc (W := W.drew) cN0) (fun e => ngx e.symm); have cN1 := hg7.cell (a := ⟨g5, 1, none⟩) (bx_alloc (W := W.drew) cN1) (fun e => ngx e.symm)) | (go_simp; (first  | skip); (try go_wp2_with fail))); all_goals (refine hK.out _ _ ?_ (fun hHeld => ?_); (focus ((try dsimp only); (refine ⟨?_, ?_⟩ <;> exact bxc))); clear hK K; (try simp only [Act.put, List.setIfInBounds_toArray, List.set_cons_zero, List.set_cons_succ]))); (refine takeE (i := 7) (d := 70) rfl rfl (by kernel_rfl) (by decide) (by kernel_rfl) (by kernel_rfl) (by kernel_rfl) (by rfl) (by assumption) (v := ?_) ?_ ?_; rotate_left; (focus (intro wq hSw; (try dsimp only at hSw); go_simp; (try (with_reducible rfl)); done)); (try simp only [Act.put, List.setIfInBounds_toArray, List.set_cons_zero, List.set_cons_succ])); (refine lastE (by kernel_rfl) rfl (by kernel_rfl) (fun K hK => ?_); (go_simp; (try go_wp2_with fail)); refine hK.out _ _ ?_; clear hK K; (try simp only [Act.put, List.setIfInBounds_toArray, List.set_cons_zero, List.set_cons_succ])); refine NoPanic.normal ?_)
              have cN1 := (World.cell?_setCell_other w7 (a := ⟨X, 2, none⟩) (b := ⟨g5, 1, none⟩) (.slice A7 X1.length c7) (fun e => by simp only [Addr.mk.injEq] at e; omega)).trans cN1
              obtain ⟨W2, hW2⟩ : ∃ z, z = w7.setCell ⟨X, 2, none⟩ (.slice A7 X1.length c7) := ⟨_, rfl⟩
              rw [← hW2] at st cN1 ⊢
              clear hW2 vq vf cN0 stA bx
              have stA : SpSt (wid l : Int) ((spl 47 l).length : Int) X w.heap.size w2.heap.size w2 (some ⟨g2, 0, none⟩) cs X1 (rdY cS (fl l y ++ cs.take x)) (.slice A7 X1.length c7) uy (W2.drew.alloc (.cells #[.int .i64 z2'] 2)) := st.next (below_dal _ _)
              have vq := st.1.cell (j := 3) rfl
              have vf := st.1.fz
              have zX := st.1.lt
              have zb := st.2.2.2.2.2.2.2.2.1
              go_upto_region 16 with fail
              (refine wp_region_noPanic ?_; refine beginE 8 (fun w' => w'.cell? ⟨X, 3, none⟩ = some (uy) ∧ w'.cell? ⟨g5, 1, none⟩ = some (.int .i64 z2')) (by kernel_rfl) ?_ (fun hHeld => ?_); (focus ((try dsimp only); (refine ⟨?_, ?_⟩ <;> exact bxc))); (refine takeE (i := 0) (d := 71) rfl rfl (by kernel_rfl) (by decide) (by kernel_rfl) (by kernel_rfl) (by kernel_rfl) (by rfl) (by assumption) (v := ?_) ?_ ?_; rotate_left; (focus (intro wq hSw; (try dsimp only at hSw); go_simp; (try (with_reducible rfl)); done)); (try simp only [Act.put, List.setIfInBounds_toArray, List.set_cons_zero, List.set_cons_succ])); (refine takeE (i := 1) (d := 72) rfl rfl (by kernel_rfl) (by decide) (by kernel_rfl) (by kernel_rfl) (by kernel_rfl) (by rfl) (by assumption) (v := ?_) ?_ ?_; rotate_left; (focus (intro wq hSw; (try dsimp only at hSw); go_simp; (try (with_reducible rfl)); done)); (try simp only [Act.put, List.setIfInBounds_toArray, List.set_cons_zero, List.set_cons_succ])); (refine takeE (i := 2) (d := 73) rfl rfl (by kernel_rfl) (by decide) (by kernel_rfl) (by kernel_rfl) (by kernel_rfl) (by rfl) (by assumption) (v := ?_) ?_ ?_; rotate_left; (focus (intro wq hSw; (try dsimp only at hSw); go_simp; (try (with_reducible rfl)); done)); (try simp only [Act.put, List.setIfInBounds_toArray, List.set_cons_zero, List.set_cons_succ])); (refine takeE (i := 3) (d := 74) rfl rfl (by kernel_rfl) (by decide) (by kernel_rfl) (by kernel_rfl) (by kernel_rfl) (by rfl) (by assumption) (v := ?_) ?_ ?_; rotate_left; (focus (intro wq hSw; (try dsimp only at hSw); go_simp; (try (with_reducible rfl)); done)); (try simp only [Act.put, List.setIfInBounds_toArray, List.set_cons_zero, List.set_cons_succ])); (refine takeE (i := 4) (d := 75) rfl rfl (by kernel_rfl) (by decide) (by kernel_rfl) (by kernel_rfl) (by kernel_rfl) (by rfl) (by assumption) (v := ?_) ?_ ?_; rotate_left; (focus (intro wq hSw; (try dsimp only at hSw); go_simp; (try (with_reducible rfl)); done)); (try simp only [Act.put, List.setIfInBounds_toArray, List.set_cons_zero, List.set_cons_succ])); (refine runE (i := 5) (by kernel_rfl) rfl (by decide) (fun K hK => ?_); (first | (refine step_push2 stA.2.1.2.1 (heap_alloc_new _ _) (by rfl) _ _ (by rfl) (by rfl) (by rfl) (by simp; omega) (by omega) ?_; intro v8 w8 o8 hg8 hb8 hn8; rw [← ex2.out] at o8; obtain ⟨A8, c8, rfl, _⟩ := id o8; have bx := (stA.box stA.2.1.2.1 stA.2.2.2.2.2.2.2.2.2.2 hg8).1; have st := stA.y hcs0 o8 hg8 hb8 hn8; have vq := bx.cell (j := 3) rfl; have vf := bx.fz; have cN1 := hg8.cell (a := ⟨g5, 1, none⟩) (bx_alloc (W := W2.drew) cN1) (fun e => ngy e.symm)) | (go_simp; (first  | skip); (try go_wp2_with fail))); all_goals (refine hK.out _ _ ?_ (fun hHeld => ?_); (focus ((try dsimp only); (refine ⟨?_, ?_⟩ <;> exact bxc))); clear hK K; (try simp only [Act.put, List.setIfInBounds_toArray, List.set_cons_zero, List.set_cons_succ]))); (refine runE (i := 6) (by kernel_rfl) rfl (by decide) (fun K hK => ?_); (first | (refine step_push2 stA.2.1.2.1 (heap_alloc_new _ _) (by rfl) _ _ (by rfl) (by rfl) (by rfl) (by simp; omega) (by omega) ?_; intro v8 w8 o8 hg8 hb8 hn8; rw [← ex2.out] at o8; obtain ⟨A8, c8, rfl, _⟩ := id o8; have bx := (stA.box stA.2.1.2.1 stA.2.2.2.2.2.2.2.2.2.2 hg8).1; have st := stA.y hcs0 o8 hg8 hb8 hn8; have vq := bx.cell (j := 3) rfl; have vf := bx.fz; have cN1 := hg8.cell (a := ⟨g5, 1, none⟩) (bx_alloc (W := W2.drew) cN1) (fun e => ngy e.symm)) | (go_simp; (first  | skip); (try go_wp2_with fail))); all_goals (refine hK.out _ _ ?_ (fun hHeld => ?_); (focus ((try dsimp only); (refine ⟨?_, ?_⟩ <;> exact bxc))); clear hK K; (try simp only [Act.put, List.setIfInBounds_toArray, List.set_cons_zero, List.set_cons_succ]))); (refine takeE (i := 7) (d := 78) rfl rfl (by kernel_rfl) (by decide) (by kernel_rfl) (by kernel_rfl) (by kernel_rfl) (by rfl) (by assumption) (v := ?_) ?_ ?_; rotate_left; (focus (intro wq hSw; (try dsimp only at hSw); go_simp; (try (with_reducible rfl)); done)); (try simp only [Act.put, List.setIfInBounds_toArray, List.set_cons_zero, List.set_cons_succ])); (refine lastE (by kernel_rfl) rfl (by kernel_rfl) (fun K hK => ?_); (go_simp; (try go_wp2_with fail)); refine hK.out _ _ ?_; clear hK K; (try simp only [Act.put, List.setIfInBounds_toArray, List.set_cons_zero, List.set_cons_succ])); refine NoPanic.normal ?_)
              go_wp2_with fail
              exact ⟨⟨x + 1, _, _, by omega, rfl, by rw [← hX1H.out, ← hY1H.out]; exact st, ex3⟩, by simp only [intOf]; omega⟩
        · have he : x = cs.length := by omega
          subst he
          rw [List.take_length] at st hokx
          have hfl : fl l (y + 1) = fl l y ++ cs := by rw [hcsH.out]; exact fl_succ hrH.out
          have hflH := Lib.hid hfl
          have t1 : ¬ (cs.length : Int) < (cs.length : Int) := by omega
          clear hfl
          rw [← hflH.out] at st hokx
          go_wp2_with fail
          exact ⟨⟨y + 1, ux, uy, by omega, rfl, st.drop, hokx⟩, by simp only [intOf]; omega⟩
    · have he : y = (spl 47 l).length := by omega
      have p1 : ¬ (y : Int) < ((spl 47 l).length : Int) := by omega
      have hfa : fl l y = celO l := by rw [he]; exact fl_all
      rw [hfa] at st hok
      obtain ⟨X1, hX1⟩ : ∃ X1, X1 = rdX cS (celO l) := ⟨_, rfl⟩
      obtain ⟨Y1, hY1⟩ : ∃ Y1, Y1 = rdY cS (celO l) := ⟨_, rfl⟩
      have hlX : X1.length ≤ 1048577 := by rw [hX1]; have := celO_len (l := l); simp [rdX]; omega
      have hlY : Y1.length ≤ 1048577 := by rw [hY1]; have := celO_len (l := l); simp [rdY]; omega
      have hokl : okS l = decide (mtT (wid l : Int) ((spl 47 l).length : Int) X1 Y1 = l) := by
        unfold okS
        rw [hok.out, ← hX1, ← hY1]; rfl
      rw [← hX1, ← hY1] at st
      have hoklH := Lib.hid hokl
      have hX1H := Lib.hid hX1
      have hY1H := Lib.hid hY1
      clear hfa hok hX1 hY1 hokl he
      obtain ⟨vb, tw, rb, _, _, _, hbw, hR, hbX, hx, hy'⟩ := st
      obtain ⟨ox, oy, ap⟩ := tw
      obtain ⟨A6, c6, rfl, _⟩ := id ox
      obtain ⟨A7, c7, rfl, _⟩ := id oy
      have hM := spec_MosaicText (wid l : Int) ((spl 47 l).length : Int) A6 A7 c6 c7 X1 Y1 wr ox.reads.2 oy.reads.2 (by omega) (by omega)
      obtain ⟨M, hMe⟩ : ∃ M, M = mtT (wid l : Int) ((spl 47 l).length : Int) X1 Y1 := ⟨_, rfl⟩
      rw [← hMe] at hM hoklH
      have hMH := Lib.hid hM
      have hq := eqT M l
      have v0 := vb.cell (j := 0) rfl
      have v1 := vb.cell (j := 1) rfl
      have v2 := vb.cell (j := 2) rfl
      have v3 := vb.cell (j := 3) rfl
      clear hM hMe
      go_wp2_with fail
      refine hMH.out.mono ?_
      rintro e w3 ⟨rfl, hb3⟩
      have rb := rb.next hb3
      have vb := vb.next hb3
      have tw : Two2 w3 w2.heap.size (.slice A6 X1.length c6) (.slice A7 Y1.length c7) X1 Y1 := Two2.below ⟨ox, oy, ap⟩ hb3
      have hB3 : Below w.heap.size w w3 := Br.trans (hb3.mono Br.size)
      clear v0 v1 v2 v3 ox oy ap hb3
      have v0 := vb.cell (j := 0) rfl
      have v1 := vb.cell (j := 1) rfl
      have v2 := vb.cell (j := 2) rfl
      have v3 := vb.cell (j := 3) rfl
      have rd0 := rb.cell (j := 0) rfl
      have rd1 := rb.cell (j := 1) rfl
      have rd2 := rb.cell (j := 2) rfl
      have rd3 := rb.cell (j := 3) rfl
      have rdf := rb.fz
      by_cases hMl : M = l
      · rw [decide_eq_true hMl] at hq hoklH
        have hq2 : ((mkT M).toList != (mkT l).toList) = false := by rw [bne, hq]; rfl
        clear hMl
        go_wp2_with fail
        all_goals ((try simp only [Exit.inBlock, Exit.then]); refine bodyPost_ret (by simp [results, Tryd.results5, go_sem, *]; try rfl) rfl ?_)
        all_goals exact ReadTo.yes hoklH.out hX1H.out hY1H.out (by rfl) (Two2.mono ((((tw.off (by omega)).off (by omega)).off (by omega)).off (by omega)) (by omega)) (by exact bgr)
      · rw [decide_eq_false hMl] at hq hoklH
        have hq2 : ((mkT M).toList != (mkT l).toList) = true := by rw [bne, hq]; rfl
        clear hMl
        go_wp2_with fail
        all_goals ((try simp only [Exit.inBlock, Exit.then]); refine bodyPost_ret (by simp [results, Tryd.results5, go_sem, *]; try rfl) rfl ?_)
        all_goals exact ReadTo.no hoklH.out (by rfl) (by exact bgr)
end Go.Proofs.YtgokiedhdihamaaDoor
