/- ReadMosaic of the program: contract. -/
import Derived.Test.YtgokiedhdihamaaDoorRmD
import Derived.Test.YtgokiedhdihamaaDoorVBox
import Derived.Test.YtgokiedhdihamaaDoorRegKit
import Derived.Deep.CutRange
import Derived.Deep.DeepCutAuto
import Derived.Deep.CutBlock
namespace Go.Proofs.YtgokiedhdihamaaDoor
open Go.RowKit Go.ChangeShapes Go.WideShapes Go.ChangeAt
set_option linter.unusedVariables false
set_option linter.unusedSimpArgs false
/-- what ReadMosaic hands back -/
def ReadTo (f : List UInt8 → Option (Int × Int)) (ok : Bool) (l : List UInt8) (w : World) (e : Ending) (w' : World) : Prop := ∃ A c B d, e = .returned (.tuple #[.agg #[.int .i64 (rdP ok l), .int .i64 (rdQ ok l), .slice A (rdV f ok l).length c, .slice B (rdG f ok l).length d], .bool ok]) ∧ Two2 w' w.heap.size (.slice A (rdV f ok l).length c) (.slice B (rdG f ok l).length d) (rdV f ok l) (rdG f ok l) ∧ Below w.heap.size w w'
theorem RX.far {w : World} {A : Option Addr} {ls : List (List UInt8)} {X o : Nat} {u : Value} (h : RX w A ls) (hX : ∀ g, A = some ⟨g, 0, none⟩ → g ≠ X) : RX (w.setCell ⟨X, o, none⟩ u) A ls := by
  rcases h with h | ⟨g, h1, h2, h3⟩
  · exact .inl h
  · exact .inr ⟨g, h1, by simpa using h2, fun k x hx => (World.cell?_setCell_other w (a := ⟨X, o, none⟩) (b := ⟨g, k, none⟩) u (fun e => hX g h1 (by simp only [Addr.mk.injEq] at e; exact e.1.symm))).trans (h3 k x hx)⟩
theorem RX.lt {w : World} {A : Option Addr} {ls : List (List UInt8)} (h : RX w A ls) (hn : 0 < ls.length) : ∀ g, A = some ⟨g, 0, none⟩ → g < w.heap.size := fun g e => by
  rcases h with h | ⟨g', h1, h2, h3⟩
  · rw [h] at hn; simp at hn
  · rw [h1] at e; injection e with e; injection e with e; omega
/-- the texts lie apart from the list -/
def Apa (A : Option Addr) (v : Value) : Prop := ∀ g, A = some ⟨g, 0, none⟩ → v.ownBlock ≠ some g
theorem Apa.of {w : World} {base : Nat} {A : Option Addr} {v : Value} {xs : List Int} (h : ∀ g, A = some ⟨g, 0, none⟩ → w.heap.size ≤ g) (ho : OwnI w base v xs) : Apa A v := fun g e e2 => by
  have h1 := h g e
  have h2 := (ho.lt g e2).2
  omega
theorem Apa.new {w : World} {A : Option Addr} {v v' : Value} {ls : List (List UInt8)} (h : Apa A v) (hr : RX w A ls) (hne : 0 < ls.length) (hn : NewB w v v') : Apa A v' := fun g e e2 => by
  obtain ⟨q, hq, hq2⟩ := hn
  rw [hq] at e2
  injection e2 with e2
  subst e2
  rcases hq2 with hq2 | hq2
  · exact h _ e hq2
  · have := hr.lt hne _ e; omega
theorem RX.grown {w w' : World} {A : Option Addr} {ls : List (List UInt8)} {row : Option Nat} (h : RX w A ls) (hg : w.grownBy w' row) (hne : ∀ g, A = some ⟨g, 0, none⟩ → row ≠ some g) : RX w' A ls := by
  rcases h with h | ⟨g, h1, h2, h3⟩
  · exact .inl h
  · exact .inr ⟨g, h1, Nat.lt_of_lt_of_le h2 hg.size, fun k x hx => hg.cell (h3 k x hx) (fun e => hne g h1 e.symm)⟩
/-- the program's memory while it reads a row -/
def InSt (p q : Int) (X R : Nat) (w1 : World) (A : Option Addr) (cs : List (List UInt8)) (xs ys : List Int) (vx vy : Value) (W : World) : Prop :=
  VBox W 24 X [.int .i64 p, .int .i64 q, vx, vy] ∧ Two2 W (X + 1) vx vy xs ys ∧ VBox W 24 R [.int .i64 0, .int .i64 0, .slice none 0 0, .slice none 0 0] ∧ RX W A cs ∧ (Apa A vx ∧ Apa A vy) ∧ (∀ g, A = some ⟨g, 0, none⟩ → X < g) ∧ Below X w1 W ∧ R < X
theorem InSt.box {p q : Int} {X R : Nat} {w1 W w' : World} {A : Option Addr} {cs : List (List UInt8)} {xs ys zs : List Int} {vx vy v : Value} (h : InSt p q X R w1 A cs xs ys vx vy W) (hv : OwnI W (X + 1) v zs) (hg : W.grownBy w' v.ownBlock) : VBox w' 24 X [.int .i64 p, .int .i64 q, vx, vy] ∧ VBox w' 24 R [.int .i64 0, .int .i64 0, .slice none 0 0, .slice none 0 0] := by
  obtain ⟨vb, tw, rb, rx, ap, hA, hb, hR⟩ := h
  exact ⟨vb.grown hg (fun e => by have := (hv.lt X e.symm).1; omega), rb.grown hg (fun e => by have := (hv.lt R e.symm).1; omega)⟩
theorem InSt.x {p q : Int} {X R : Nat} {w1 W w' : World} {A : Option Addr} {cs : List (List UInt8)} {xs ys xs' : List Int} {vx vy v' : Value} (h : InSt p q X R w1 A cs xs ys vx vy W) (hne : 0 < cs.length) (ho : OwnI w' (X + 1) v' xs') (hg : W.grownBy w' vx.ownBlock) (hb : Below (X + 1) W w') (hn : NewB W vx v') : InSt p q X R w1 A cs xs' ys v' vy (w'.setCell ⟨X, 2, none⟩ v') := by
  obtain ⟨b1, b2⟩ := h.box h.2.1.1 hg
  obtain ⟨vb, tw, rb, rx, ap, hA, hbw, hR⟩ := h
  refine ⟨b1.set 2 _, (tw.pushX ho hg hn).off (by omega), b2.far (by omega), (rx.grown hg (fun g e => ap.1 g e)).far (fun g e => by have := hA g e; omega), ⟨ap.1.new rx hne hn, ap.2⟩, hA, ?_, hR⟩
  exact (hbw.trans (hb.mono (by omega))).setCell (Nat.le_refl _) _
theorem InSt.y {p q : Int} {X R : Nat} {w1 W w' : World} {A : Option Addr} {cs : List (List UInt8)} {xs ys ys' : List Int} {vx vy v' : Value} (h : InSt p q X R w1 A cs xs ys vx vy W) (hne : 0 < cs.length) (ho : OwnI w' (X + 1) v' ys') (hg : W.grownBy w' vy.ownBlock) (hb : Below (X + 1) W w') (hn : NewB W vy v') : InSt p q X R w1 A cs xs ys' vx v' (w'.setCell ⟨X, 3, none⟩ v') := by
  obtain ⟨b1, b2⟩ := h.box h.2.1.2.1 hg
  obtain ⟨vb, tw, rb, rx, ap, hA, hbw, hR⟩ := h
  refine ⟨b1.set 3 _, (tw.pushY ho hg hn).off (by omega), b2.far (by omega), (rx.grown hg (fun g e => ap.2 g e)).far (fun g e => by have := hA g e; omega), ⟨ap.1, ap.2.new rx hne hn⟩, hA, ?_, hR⟩
  exact (hbw.trans (hb.mono (by omega))).setCell (Nat.le_refl _) _
theorem InSt.next {p q : Int} {X R : Nat} {w1 W w' : World} {A : Option Addr} {cs : List (List UInt8)} {xs ys : List Int} {vx vy : Value} (h : InSt p q X R w1 A cs xs ys vx vy W) (hb : Below W.heap.size W w') : InSt p q X R w1 A cs xs ys vx vy w' := by
  obtain ⟨vb, tw, rb, rx, ap, hA, hbw, hR⟩ := h
  have := vb.lt
  exact ⟨vb.next hb, tw.below hb, rb.next hb, rx.up hb, ap, hA, hbw.trans (hb.mono (by omega)), hR⟩
theorem ReadTo.no {f : List UInt8 → Option (Int × Int)} {ok : Bool} {l : List UInt8} {w w' : World} {e : Ending} (h : ok = false) (he : e = .returned (.tuple #[.agg #[.int .i64 0, .int .i64 0, .slice none 0 0, .slice none 0 0], .bool false])) (hb : Below w.heap.size w w') : ReadTo f ok l w e w' := by
  subst h
  exact ⟨none, 0, none, 0, he, ⟨OwnI.nil _ _, OwnI.nil _ _, .inl rfl⟩, hb⟩
theorem Two2.mono {w : World} {base base' : Nat} {vx vy : Value} {xs ys : List Int} (h : Two2 w base vx vy xs ys) (hb : base' ≤ base) : Two2 w base' vx vy xs ys := ⟨h.1.mono hb, h.2.1.mono hb, h.2.2⟩
theorem ReadTo.yes {f : List UInt8 → Option (Int × Int)} {ok : Bool} {l : List UInt8} {w w' : World} {e : Ending} {A B : Option Addr} {c d : Nat} {X Y : List Int} (h : ok = true) (hX : X = rdX f (celO l)) (hY : Y = rdY f (celO l)) (he : e = .returned (.tuple #[.agg #[.int .i64 (wid l : Int), .int .i64 ((spl 47 l).length : Int), .slice A X.length c, .slice B Y.length d], .bool true])) (tw : Two2 w' w.heap.size (.slice A X.length c) (.slice B Y.length d) X Y) (hb : Below w.heap.size w w') : ReadTo f ok l w e w' := by
  subst h
  have e1 : rdV f true l = X := hX.symm
  have e2 : rdG f true l = Y := hY.symm
  refine ⟨A, c, B, d, ?_, ?_, hb⟩
  · rw [e1, e2]; exact he
  · rw [e1, e2]; exact tw
set_option maxRecDepth 100000 in
set_option maxHeartbeats 6400000 in
theorem impl_ReadMosaic (l : List UInt8) (w : World) (hl : l.length ≤ 1048576) (hv : Env w) :
    Calls Tryd.prog 6 #[.string (mkT l)] w (ReadTo cI (okI l) l w) := by
  have hvH := Lib.hid hv
  have hrn : (spl 47 l).length ≤ 1048577 := Nat.le_trans (sp_len l []) (by omega)
  have hrp : ∀ r ∈ spl 47 l, r.length ≤ 1048576 := fun r hr => Nat.le_trans (sp_part l [] r hr) (by simp; omega)
  have hrpH := Lib.hid hrp
  clear hv hrp
  go_enter Tryd.func6, Tryd.ntmps6
  go_wp2_with fail
  refine calls_gen (fun W0 hW0 => ?_)
  have rb : VBox W0 24 w.heap.size [.int .i64 0, .int .i64 0, .slice none 0 0, .slice none 0 0] := by rw [hW0]; exact VBox.new rfl
  have B0 : Below w.heap.size w W0 := by rw [hW0]; exact Below.new (Below.refl _ _) _
  clear hW0
  refine (lib_Split l 47 W0 hl (hvH.out.up B0)).mono ?_
  rintro e w1 ⟨A1, k1, rfl, rx, _, hb1⟩
  have rb := rb.next hb1
  have B1 : Below w.heap.size w w1 := B0.trans (hb1.mono B0.size)
  have z1 := rb.lt
  clear hb1 B0
  have hqn : ((spl 47 l).length : Int) ≤ 1048577 := by omega
  go_wp2_with (first | (go_at_call 17; refine (impl_lengthS _ _ _ _).mono ?_; rintro e w2 ⟨rfl, rfl⟩) | fail)
  go_loopw [21] (fun iv wr => ∃ (y : Nat) (vx vy : Value), y ≤ (spl 47 l).length ∧ iv = .int .i64 (y : Int) ∧ VBox wr 24 w1.heap.size [.int .i64 (if y = 0 then 0 else (wid l : Int)), .int .i64 ((spl 47 l).length : Int), vx, vy] ∧ Two2 wr (w1.heap.size + 1) vx vy (rdX cI (fl l y)) (rdY cI (fl l y)) ∧ VBox wr 24 w.heap.size [.int .i64 0, .int .i64 0, .slice none 0 0, .slice none 0 0] ∧ Below w1.heap.size w1 wr ∧ Hid (okC cI (fl l y) = true ∧ ∀ r ∈ (spl 47 l).take y, (spl 44 r).length = wid l)) (fun iv _ => (spl 47 l).length - (intOf iv).toNat)
  case atStart => exact ⟨0, _, _, Nat.zero_le _, rfl, VBox.new rfl, ⟨OwnI.nil _ _, OwnI.nil _ _, .inl rfl⟩, rb.alloc _, Below.new (Below.refl _ _) _, rfl, by simp⟩
  case round =>
    clear rb
    obtain ⟨y, vx, vy, hy, rfl, vb, tw, rb, hbr, hok⟩ := hrel
    have zr := vb.lt
    have zs := hbr.size
    have Br : Below w.heap.size w wr := B1.trans (hbr.mono B1.size)
    by_cases hlt : y < (spl 47 l).length
    · have p1 : (y : Int) < ((spl 47 l).length : Int) := by omega
      have p0 : (0 : Int) ≤ (y : Int) := by omega
      obtain ⟨r, hr⟩ := get_of_lt hlt
      have hrm := List.mem_of_getElem? hr
      have hrl := hrpH.out r hrm
      obtain ⟨g, e, hg, hc⟩ := (rx.up hbr).at_ hr
      subst e
      have hrH := Lib.hid hr
      have hrmH := Lib.hid hrm
      clear hr hrm
      go_wp2_with fail
      refine (lib_Split r 44 wr hrl (hvH.out.up Br)).mono ?_
      rintro e w2 ⟨A2, k2, rfl, rx2, hx2, hb2⟩
      have rx2lH := Lib.hid hx2
      have ap : Apa A2 vx ∧ Apa A2 vy := ⟨Apa.of hx2 tw.1, Apa.of hx2 tw.2.1⟩
      clear hx2
      have vb := vb.next hb2
      have rb := rb.next hb2
      have tw := tw.below hb2
      have hbr : Below w1.heap.size w1 w2 := hbr.trans (hb2.mono zs)
      have Br : Below w.heap.size w w2 := B1.trans (hbr.mono B1.size)
      clear hb2 hc
      obtain ⟨cs, hcs⟩ : ∃ z, z = spl 44 r := ⟨_, rfl⟩
      have hcl : cs.length ≤ 1048577 := by rw [hcs]; exact Nat.le_trans (sp_len r []) (by omega)
      rw [← hcs] at rx2 ⊢
      have hcsH := Lib.hid hcs
      clear hcs
      go_upto_if 29 with fail
      go_cut [] (fun wx => VBox wx 24 w1.heap.size [.int .i64 (wid l : Int), .int .i64 ((spl 47 l).length : Int), vx, vy] ∧ Two2 wx (w1.heap.size + 1) vx vy (rdX cI (fl l y)) (rdY cI (fl l y)) ∧ VBox wx 24 w.heap.size [.int .i64 0, .int .i64 0, .slice none 0 0, .slice none 0 0] ∧ RX wx A2 cs ∧ Below w1.heap.size w1 wx)
      case first =>
        have rd0 := rb.cell (j := 0) rfl
        have rd1 := rb.cell (j := 1) rfl
        have rd2 := rb.cell (j := 2) rfl
        have rd3 := rb.cell (j := 3) rfl
        have rdf := rb.fz
        have v0 := vb.cell (j := 0) rfl
        have vf := vb.fz
        rcases Nat.eq_zero_or_pos y with h0 | h0
        · subst h0
          have hw : cs.length = wid l := by
            unfold wid
            rw [hcsH.out]
            have := hrH.out
            simp [List.getD, this]
          rw [if_pos rfl] at v0
          have hwH := Lib.hid hw
          clear hw
          go_wp2_with (first | (go_at_call 17; refine (impl_lengthS _ _ _ _).mono ?_; rintro e w3 ⟨rfl, rfl⟩) | fail)
          go_meet
          case rel => exact ⟨by rw [← hwH.out]; exact vb.set 0 _, tw.off (by omega), rb.far (by omega), rx2.far (fun g h => by have := rx2lH.out g h; omega), hbr.setCell (Nat.le_refl _) _⟩
        · rw [if_neg (by omega)] at v0 vb
          have q0 : ((y : Int) == 0) = false := by rw [beq_eq_false_iff_ne]; omega
          go_wp2_with fail
          go_meet
          case rel => exact ⟨vb, tw, rb, rx2, hbr⟩
      case rest =>
        clear vb tw rb rx2 hbr
        obtain ⟨vb, tw, rb, rx2, hbr⟩ := hcut
        have v0 := vb.cell (j := 0) rfl
        have rd0 := rb.cell (j := 0) rfl
        have rd1 := rb.cell (j := 1) rfl
        have rd2 := rb.cell (j := 2) rfl
        have rd3 := rb.cell (j := 3) rfl
        have rdf := rb.fz
        by_cases hw : cs.length = wid l
        · have q1 : ((cs.length : Int) != (wid l : Int)) = false := by rw [hw]; simp
          have hwH := Lib.hid hw
          clear hw
          go_wp2_with fail
          (refine wp_region_noPanic ?_; refine wp_region_held_drew (S := (fun w' => w'.cell? ⟨w1.heap.size, 0, none⟩ = some (.int .i64 (wid l : Int)))) (by kernel_rfl) ?_ (fun hHeld => ?_); (focus ((try dsimp only); (exact bxc))); (refine takeT (i := 0) (d := 33) rfl rfl (by kernel_rfl) (by kernel_rfl) (by kernel_rfl) (by rfl) (by assumption) (v := ?_) ?_ ?_; rotate_left; (focus (intro wq hSw; (try dsimp only at hSw); go_simp; (try (with_reducible rfl)); done)); (try simp only [Act.put, List.setIfInBounds_toArray, List.set_cons_zero, List.set_cons_succ])); (refine takeT (i := 2) (d := 35) rfl rfl (by kernel_rfl) (by kernel_rfl) (by kernel_rfl) (by rfl) (by assumption) (v := ?_) ?_ ?_; rotate_left; (focus (intro wq hSw; (try dsimp only at hSw); go_simp; (try (with_reducible rfl)); done)); (try simp only [Act.put, List.setIfInBounds_toArray, List.set_cons_zero, List.set_cons_succ])); (refine takeT (i := 3) (d := 36) rfl rfl (by kernel_rfl) (by kernel_rfl) (by kernel_rfl) (by rfl) (by assumption) (v := ?_) ?_ ?_; rotate_left; (focus (intro wq hSw; (try dsimp only at hSw); go_simp; (try (with_reducible rfl)); done)); (try simp only [Act.put, List.setIfInBounds_toArray, List.set_cons_zero, List.set_cons_succ])); (refine wpAnyH_ready (rs := [1]) (by kernel_rfl) (by simp) ?_; refine AllReadyH.cons rfl (fun K hK => ?_) AllReadyH.nil; go_simp; (first | (go_at_call 17; refine (impl_lengthS _ _ _ _).mono ?_; rintro e w3 ⟨rfl, rfl⟩) | skip); (try go_wp2_with fail); refine hK.out _ _ ?_ (fun hHeld => ?_); (focus ((try dsimp only); (exact bxc))); clear hK K; (try simp only [Act.put, List.setIfInBounds_toArray, List.set_cons_zero, List.set_cons_succ])); (refine takeT (i := 4) (d := 37) rfl rfl (by kernel_rfl) (by kernel_rfl) (by kernel_rfl) (by rfl) (by assumption) (v := ?_) ?_ ?_; rotate_left; (focus (intro wq hSw; (try dsimp only at hSw); go_simp; (try (with_reducible rfl)); done)); (try simp only [Act.put, List.setIfInBounds_toArray, List.set_cons_zero, List.set_cons_succ])); refine wpAnyH_done (by kernel_rfl) ?_ _; refine NoPanic.normal ?_)
          have st : InSt (wid l : Int) ((spl 47 l).length : Int) w1.heap.size w.heap.size w1 A2 cs (rdX cI (fl l y ++ cs.take 0)) (rdY cI (fl l y ++ cs.take 0)) vx vy wc := by
            rw [List.take_zero, List.append_nil]
            have zz := hbr.size
            exact ⟨vb, tw, rb, rx2, ap, fun g e => by have := rx2lH.out g e; omega, hbr, z1⟩
          clear vb tw rb rx2 v0 rd0 rd1 rd2 rd3 rdf ap
          have st : InSt (wid l : Int) ((spl 47 l).length : Int) w1.heap.size w.heap.size w1 A2 cs (rdX cI (fl l y ++ cs.take 0)) (rdY cI (fl l y ++ cs.take 0)) vx vy wc.drew := st.next ⟨rfl, rfl, rfl, Nat.le_refl _, fun _ _ => rfl⟩
          have hoky := hok.out.1
          have hokyH := Lib.hid hoky
          clear hoky
          go_wp2_with fail
          go_loopw [41] (fun iv wq => ∃ (x : Nat) (ux uy : Value), x ≤ cs.length ∧ iv = .int .i64 (x : Int) ∧ InSt (wid l : Int) ((spl 47 l).length : Int) w1.heap.size w.heap.size w1 A2 cs (rdX cI (fl l y ++ cs.take x)) (rdY cI (fl l y ++ cs.take x)) ux uy wq ∧ Hid (okC cI (fl l y ++ cs.take x) = true)) (fun iv _ => cs.length - (intOf iv).toNat)
          case atStart => exact ⟨0, vx, vy, Nat.zero_le _, rfl, st, by show _ = _; rw [List.take_zero, List.append_nil]; exact hokyH.out⟩
          case round =>
            clear st hbr
            obtain ⟨x, ux, uy, hx, rfl, st, hokx⟩ := hrel
            by_cases hxl : x < cs.length
            · have t1 : (x : Int) < (cs.length : Int) := by omega
              have t0 : (0 : Int) ≤ (x : Int) := by omega
              obtain ⟨c, hcx⟩ := get_of_lt hxl
              have hcm : c ∈ spl 44 r := by rw [← hcsH.out]; exact List.mem_of_getElem? hcx
              have hcl2 : c.length ≤ 1048576 := Nat.le_trans (sp_part r [] c hcm) (by simp; omega)
              have hcel := mem_cel hrmH.out hcm
              obtain ⟨g2, e, hg2, hc2⟩ := st.2.2.2.1.at_ hcx
              subst e
              have Bq := B1.trans (st.2.2.2.2.2.2.1.mono B1.size)
              have hC := impl_readCell c wr hcl2 (hvH.out.up Bq)
              have hlen1 : (rdX cI (fl l y ++ cs.take x)).length ≤ 2097154 := by
                have := fl_le (l := l) (y := y)
                simp [rdX]; omega
              have hlen2 : (rdY cI (fl l y ++ cs.take x)).length ≤ 2097154 := by
                have := fl_le (l := l) (y := y)
                simp [rdY]; omega
              cases hci : cI c with
              | none =>
                have hokf : okI l = false := by
                  unfold okI
                  rw [okC_no hcel hci]; simp
                have hokfH := Lib.hid hokf
                have e1 : (cI c).isSome = false := by rw [hci]; rfl
                rw [e1] at hC
                have hCH := Lib.hid hC
                obtain ⟨vb, tw, rb, rx2, ap, hA, hbw, hR⟩ := st
                clear hC hci hokf hcel hcm hcx e1
                have zw := hbw.size
                go_wp2_with (go_at_call 18; refine hCH.out.mono ?_; rintro e w3 ⟨v, g', rfl, _, hb3⟩; have rb := rb.next hb3; have rd0 := rb.cell (j := 0) rfl; have rd1 := rb.cell (j := 1) rfl; have rd2 := rb.cell (j := 2) rfl; have rd3 := rb.cell (j := 3) rfl; have rdf := rb.fz)
                all_goals ((try simp only [Exit.inBlock, Exit.then]); refine bodyPost_ret (by simp [results, Tryd.results6, go_sem, *]; try rfl) rfl ?_)
                all_goals exact ReadTo.no hokfH.out (by rfl) (by exact bgr)
              | some z =>
                have e1 : (cI c).isSome = true := by rw [hci]; rfl
                rw [e1] at hC
                have ex := tk_succ hcx (fl l y)
                have ex1 : Hid (rdX cI (fl l y ++ cs.take (x + 1)) = rdX cI (fl l y ++ cs.take x) ++ [z.1]) := by
                  show _ = _
                  rw [ex, rdX_app]; simp [rdX, hci]
                have ex2 : Hid (rdY cI (fl l y ++ cs.take (x + 1)) = rdY cI (fl l y ++ cs.take x) ++ [z.2]) := by
                  show _ = _
                  rw [ex, rdY_app]; simp [rdY, hci]
                have ex3 : Hid (okC cI (fl l y ++ cs.take (x + 1)) = true) := by
                  show _ = _
                  rw [ex, okC_app, hokx.out]; simp [okC, hci]
                have hz : ∀ v g : Int, (∀ z', cI c = some z' → v = z'.1 ∧ g = z'.2) → v = z.1 ∧ g = z.2 := fun v g h => h z hci
                have hCH := Lib.hid hC
                have hzH := Lib.hid hz
                have hcs0 : 0 < cs.length := by omega
                have stH := Lib.hid st
                obtain ⟨X1, hX1⟩ : ∃ X1, X1 = rdX cI (fl l y ++ cs.take (x + 1)) := ⟨_, rfl⟩
                obtain ⟨Y1, hY1⟩ : ∃ Y1, Y1 = rdY cI (fl l y ++ cs.take (x + 1)) := ⟨_, rfl⟩
                rw [← hX1] at ex1
                rw [← hY1] at ex2
                have hX1H := Lib.hid hX1
                have hY1H := Lib.hid hY1
                clear hC hci hcel hcm hcx e1 ex hz st hokx hX1 hY1
                go_wp2_with (first | (go_at_call 18; refine hCH.out.mono ?_; rintro e w3 ⟨v, g', rfl, hvg, hb3⟩; obtain ⟨rfl, rfl⟩ := hzH.out v g' hvg; have st := stH.out.next hb3; have v2 := st.1.cell (j := 2) rfl; have v3 := st.1.cell (j := 3) rfl; have vf := st.1.fz; have zx := st.1.lt) | (at_builtin; refine push_int2 w3.heap.size (by simp) st.2.1.1 (by rfl) _ _ (by rfl) (by rfl) (by rfl) (by omega) (by omega) ?_; intro v6 w6 o6 hg6 hb6 hn6; rw [← ex1.out] at o6; obtain ⟨A6, c6, rfl, _⟩ := id o6; have bx := (st.box st.2.1.1 hg6).1; have st := st.x hcs0 o6 hg6 hb6 hn6; have v2 := bx.cell (j := 2) rfl; have v3 := bx.cell (j := 3) rfl; have vf := bx.fz; have zx := bx.lt) | (at_builtin; refine push_int2 w6.heap.size (by simp) st.2.1.2.1 (by rfl) _ _ (by rfl) (by rfl) (by rfl) (by omega) (by omega) ?_; intro v7 w7 o7 hg7 hb7 hn7; rw [← ex2.out] at o7; obtain ⟨A7, c7, rfl, _⟩ := id o7; have bx := (st.box st.2.1.2.1 hg7).1; have st := st.y hcs0 o7 hg7 hb7 hn7; have v2 := bx.cell (j := 2) rfl; have v3 := bx.cell (j := 3) rfl; have vf := bx.fz; have zx := bx.lt))
                exact ⟨⟨x + 1, _, _, by omega, rfl, by rw [← hX1H.out, ← hY1H.out]; exact st, ex3⟩, by simp only [intOf]; omega⟩
            · have he : x = cs.length := by omega
              subst he
              rw [List.take_length] at st hokx
              have hfl : fl l (y + 1) = fl l y ++ cs := by rw [hcsH.out]; exact fl_succ hrH.out
              have hflH := Lib.hid hfl
              have hwd : ∀ r' ∈ (spl 47 l).take (y + 1), (spl 44 r').length = wid l := fun r' hr' => by
                rw [List.take_add_one, hrH.out] at hr'
                simp only [Option.toList_some, List.mem_append, List.mem_singleton] at hr'
                rcases hr' with hr' | hr'
                · exact hok.out.2 r' hr'
                · rw [hr', ← hcsH.out]; exact hwH.out
              have hwdH := Lib.hid hwd
              have t1 : ¬ (cs.length : Int) < (cs.length : Int) := by omega
              clear hfl hwd
              rw [← hflH.out] at st hokx
              go_wp2_with fail
              exact ⟨⟨y + 1, ux, uy, by omega, rfl, by rw [if_neg (by omega)]; exact st.1, st.2.1, st.2.2.1, st.2.2.2.2.2.2.1, hokx.out, hwdH.out⟩, by simp only [intOf]; omega⟩
        · have q1 : ((cs.length : Int) != (wid l : Int)) = true := by simp; omega
          have hokf : okI l = false := by
            unfold okI okW
            have : ((spl 47 l).all fun r => decide ((spl 44 r).length = wid l)) = false := by
              rw [List.all_eq_false]
              exact ⟨r, hrmH.out, by rw [← hcsH.out]; simp [hw]⟩
            rw [this]; rfl
          have hokfH := Lib.hid hokf
          clear hokf hw
          go_wp2_with fail
          (refine wp_region_noPanic ?_; refine wp_region_held_drew (S := (fun w' => w'.cell? ⟨w1.heap.size, 0, none⟩ = some (.int .i64 (wid l : Int)))) (by kernel_rfl) ?_ (fun hHeld => ?_); (focus ((try dsimp only); (exact bxc))); (refine takeT (i := 0) (d := 33) rfl rfl (by kernel_rfl) (by kernel_rfl) (by kernel_rfl) (by rfl) (by assumption) (v := ?_) ?_ ?_; rotate_left; (focus (intro wq hSw; (try dsimp only at hSw); go_simp; (try (with_reducible rfl)); done)); (try simp only [Act.put, List.setIfInBounds_toArray, List.set_cons_zero, List.set_cons_succ])); (refine takeT (i := 2) (d := 35) rfl rfl (by kernel_rfl) (by kernel_rfl) (by kernel_rfl) (by rfl) (by assumption) (v := ?_) ?_ ?_; rotate_left; (focus (intro wq hSw; (try dsimp only at hSw); go_simp; (try (with_reducible rfl)); done)); (try simp only [Act.put, List.setIfInBounds_toArray, List.set_cons_zero, List.set_cons_succ])); (refine takeT (i := 3) (d := 36) rfl rfl (by kernel_rfl) (by kernel_rfl) (by kernel_rfl) (by rfl) (by assumption) (v := ?_) ?_ ?_; rotate_left; (focus (intro wq hSw; (try dsimp only at hSw); go_simp; (try (with_reducible rfl)); done)); (try simp only [Act.put, List.setIfInBounds_toArray, List.set_cons_zero, List.set_cons_succ])); (refine wpAnyH_ready (rs := [1]) (by kernel_rfl) (by simp) ?_; refine AllReadyH.cons rfl (fun K hK => ?_) AllReadyH.nil; go_simp; (first | (go_at_call 17; refine (impl_lengthS _ _ _ _).mono ?_; rintro e w3 ⟨rfl, rfl⟩) | skip); (try go_wp2_with fail); refine hK.out _ _ ?_ (fun hHeld => ?_); (focus ((try dsimp only); (exact bxc))); clear hK K; (try simp only [Act.put, List.setIfInBounds_toArray, List.set_cons_zero, List.set_cons_succ])); (refine takeT (i := 4) (d := 37) rfl rfl (by kernel_rfl) (by kernel_rfl) (by kernel_rfl) (by rfl) (by assumption) (v := ?_) ?_ ?_; rotate_left; (focus (intro wq hSw; (try dsimp only at hSw); go_simp; (try (with_reducible rfl)); done)); (try simp only [Act.put, List.setIfInBounds_toArray, List.set_cons_zero, List.set_cons_succ])); refine wpAnyH_done (by kernel_rfl) ?_ _; refine NoPanic.normal ?_; ((go_wp2_with fail; ((try simp only [Exit.inBlock, Exit.then]); refine bodyPost_ret (by simp [results, Tryd.results6, go_sem, *]; try rfl) rfl ?_); exact ReadTo.no hokfH.out (by rfl) (by exact bgr))))
    · have he : y = (spl 47 l).length := by omega
      have hn0 : (spl 47 l).length ≠ 0 := fun e => sp_ne l [] (List.length_eq_zero_iff.1 e)
      have p1 : ¬ (y : Int) < ((spl 47 l).length : Int) := by omega
      rw [if_neg (by omega)] at vb
      have hfa : fl l y = celO l := by rw [he]; exact fl_all
      rw [hfa] at tw hok
      obtain ⟨X1, hX1⟩ : ∃ X1, X1 = rdX cI (celO l) := ⟨_, rfl⟩
      obtain ⟨Y1, hY1⟩ : ∃ Y1, Y1 = rdY cI (celO l) := ⟨_, rfl⟩
      have hlX : X1.length ≤ 1048577 := by rw [hX1]; have := celO_len (l := l); simp [rdX]; omega
      have hlY : Y1.length ≤ 1048577 := by rw [hY1]; have := celO_len (l := l); simp [rdY]; omega
      have hokl : okI l = mosB (wid l : Int) ((spl 47 l).length : Int) X1 Y1 := by
        unfold okI
        have h1 : okW l = true := by
          unfold okW
          rw [List.all_eq_true]
          intro r hr
          have h2 := hok.out.2 r (by rw [he, List.take_length]; exact hr)
          simp [h2]
        rw [h1, hok.out.1, ← hX1, ← hY1]; rfl
      rw [← hX1, ← hY1] at tw
      have hoklH := Lib.hid hokl
      have hX1H := Lib.hid hX1
      have hY1H := Lib.hid hY1
      clear hfa hok hX1 hY1 hokl he
      obtain ⟨ox, oy, ap⟩ := tw
      obtain ⟨A6, c6, rfl, _⟩ := id ox
      obtain ⟨A7, c7, rfl, _⟩ := id oy
      have hM := impl_IsMosaic (wid l : Int) ((spl 47 l).length : Int) A6 A7 c6 c7 X1 Y1 wr ox.reads.2 oy.reads.2 (by omega) (by omega)
      have v0 := vb.cell (j := 0) rfl
      have v1 := vb.cell (j := 1) rfl
      have v2 := vb.cell (j := 2) rfl
      have v3 := vb.cell (j := 3) rfl
      cases hm : mosB (wid l : Int) ((spl 47 l).length : Int) X1 Y1
      · rw [hm] at hM hoklH
        have hMH := Lib.hid hM
        clear hM hm
        clear v0 v1 v2 v3
        have v0 := vb.cell (j := 0) rfl
        have v1 := vb.cell (j := 1) rfl
        have v2 := vb.cell (j := 2) rfl
        have v3 := vb.cell (j := 3) rfl
        go_wp2_with fail
        refine hMH.out.mono ?_
        rintro e w3 ⟨rfl, hb3⟩
        have rb := rb.next hb3
        have rd0 := rb.cell (j := 0) rfl
        have rd1 := rb.cell (j := 1) rfl
        have rd2 := rb.cell (j := 2) rfl
        have rd3 := rb.cell (j := 3) rfl
        have rdf := rb.fz
        go_wp2_with fail
        all_goals ((try simp only [Exit.inBlock, Exit.then]); refine bodyPost_ret (by simp [results, Tryd.results6, go_sem, *]; try rfl) rfl ?_)
        all_goals exact ReadTo.no hoklH.out (by rfl) (by exact bgr)
      · rw [hm] at hM hoklH
        have hMH := Lib.hid hM
        clear hM hm
        go_wp2_with fail
        refine hMH.out.mono ?_
        rintro e w3 ⟨rfl, hb3⟩
        have rb := rb.next hb3
        have vb := vb.next hb3
        have tw : Two2 w3 (w1.heap.size + 1) (.slice A6 X1.length c6) (.slice A7 Y1.length c7) X1 Y1 := Two2.below ⟨ox, oy, ap⟩ hb3
        have hB3 : Below w.heap.size w w3 := Br.trans (hb3.mono Br.size)
        clear v0 v1 v2 v3 ox oy ap
        have v0 := vb.cell (j := 0) rfl
        have v1 := vb.cell (j := 1) rfl
        have v2 := vb.cell (j := 2) rfl
        have v3 := vb.cell (j := 3) rfl
        have rd0 := rb.cell (j := 0) rfl
        have rd1 := rb.cell (j := 1) rfl
        have rd2 := rb.cell (j := 2) rfl
        have rd3 := rb.cell (j := 3) rfl
        have rdf := rb.fz
        go_wp2_with fail
        all_goals ((try simp only [Exit.inBlock, Exit.then]); refine bodyPost_ret (by simp [results, Tryd.results6, go_sem, *]; try rfl) rfl ?_)
        all_goals exact ReadTo.yes hoklH.out hX1H.out hY1H.out (by rfl) (Two2.mono ((((tw.off (by omega)).off (by omega)).off (by omega)).off (by omega)) (by omega)) (by exact bgr)
end Go.Proofs.YtgokiedhdihamaaDoor
