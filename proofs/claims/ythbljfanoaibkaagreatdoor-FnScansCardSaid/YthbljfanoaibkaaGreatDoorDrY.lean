/- The draw of scans: contract. Printed by gen_dry.py. -/
import Derived.Test.YthbljfanoaibkaaGreatDoorRwA
import Derived.Test.YthbljfanoaibkaaGreatDoorPaM
import Derived.Test.YthbljfanoaibkaaGreatDoorMoL
import Derived.Test.YthbljfanoaibkaaGreatDoorMKit
import Derived.Deep.CutRange
import Derived.Deep.DeepCutAuto
namespace Go.Proofs.YthbljfanoaibkaaGreatDoor
open Go.RowKit Go.ChangeShapes Go.WideShapes Go.ChangeAt
set_option linter.unusedVariables false
set_option linter.unusedSimpArgs false
theorem within_mid {a b : World} {mid : Nat} (h : Below mid a b) : Within mid a.heap.size a b := ⟨h.os, h.tape, h.output, h.size, fun k hk hn => h.block k (by omega)⟩
section
variable {w w' : World} {lo mid hi : Nat} {v : Value}
theorem OwnS.past {α : Type} {cl : α → List Int} {T : TypeId} {k : Nat} {xs : List α} (h : OwnS cl T k w lo hi v xs) (hb : Below mid w w') (hm : hi ≤ mid) : OwnS cl T k w' lo hi v xs := h.apart (within_mid hb) (.inl hm)
theorem OwnRw.past {css : List Cts} (h : OwnRw w lo hi v css) (hb : Below mid w w') (hm : hi ≤ mid) : OwnRw w' lo hi v css := by
  obtain ⟨A, c, zs, rfl, hz, ⟨h31, h32⟩, hk, h4⟩ := h
  refine ⟨A, c, zs, rfl, hz, ⟨h31, ?_⟩, hk, fun j z xs hz hx => OwnS.past (h4 j z xs hz hx) hb hm⟩
  rcases h32 with h2 | ⟨g, cap, cur, q1, q2, q3, q4⟩
  · exact .inl h2
  · have hg : g < hi := hk g (by rw [q1]; rfl)
    exact .inr ⟨g, cap, cur, q1, q2, by rw [hb.block g (by omega)]; exact q3, q4⟩
theorem OwnMo.c01 {gb n c j : Nat} {x y p q s : Int} {ms : List Mo} (h : OwnMo w lo hi (.slice (some ⟨gb, 0, none⟩) n c) ms) (hx : ms[j]? = some ⟨x, y, p, q, s⟩) : w.cell? ⟨gb, j * 5, none⟩ = some (.int .i64 x) ∧ w.cell? ⟨gb, j * 5 + 1, none⟩ = some (.int .i64 y) := by
  obtain ⟨g6, e6, _, _, _, c0, c1, _⟩ := OwnS.cellM h hx
  obtain rfl : gb = g6 := by simpa using e6
  exact ⟨c0, c1⟩
theorem below_grown {X : Nat} (hg : w.grownBy w' (some X)) (hX : lo ≤ X) (hl : lo ≤ w.heap.size) : Below lo w w' := ⟨hg.os, hg.tape, hg.output, hg.size, fun k hk => hg.block k (by omega) (by simp; omega)⟩
theorem OwnMo.set0 {A : Option Addr} {n c : Nat} {x y p q s : Int} {ms : List Mo} (h : OwnMo w lo hi (.slice A n c) (⟨x, y, p, q, s⟩ :: ms)) :
    ∃ g, A = some ⟨g, 0, none⟩ ∧ lo ≤ g ∧ g < hi ∧ g < w.heap.size ∧ w.cell? ⟨g, 0, none⟩ = some (.int .i64 x) ∧ (∀ o, w.frozen? ⟨g, o, none⟩ = false) ∧ ∀ z, OwnMo (w.setCell ⟨g, 0, none⟩ (.int .i64 z)) lo hi (.slice (some ⟨g, 0, none⟩) n c) (⟨z, y, p, q, s⟩ :: ms) ∧ w.grownBy (w.setCell ⟨g, 0, none⟩ (.int .i64 z)) (some g) := by
  obtain ⟨g, h1, h2, h3, h4, h5, h6, h7⟩ := h.cell mol_len (by omega) (i := 0) rfl
  have c0 := h5 0 x rfl
  rw [Nat.zero_mul] at c0
  obtain ⟨⟨A', c', he, ho⟩, hq⟩ := h
  injection he with e1 e2 e3
  subst e1 e2 e3
  subst h1
  refine ⟨g, rfl, h2, h3, h4, c0, h6, fun z => ?_⟩
  have hs := ho.stored 0 (.int .i64 z)
  exact ⟨⟨⟨some ⟨g, 0, none⟩, c, by simp, by simpa [flat, mol] using hs.1⟩, hq⟩, hs.2⟩
end
/-- scans that were drawn -/
def DrawnScans (w : World) (B g : Nat) (most : Int) (e : Ending) (w' : World) : Prop := ∃ v css, e = .returned v ∧ OwnRw w' w.heap.size w'.heap.size v css ∧ (css.length : Int) ≤ most ∧ (∀ (i : Nat) (cs : Cts), css[i]? = some cs → cs.length ≤ 5) ∧ Src w' B g ∧ w.grownBy w' (some g)
set_option maxRecDepth 100000 in
set_option maxHeartbeats 6400000 in
theorem spec_l17DrawScans (B g : Nat) (most : Int) (w : World) (hs : Src w B g) (h0 : 1 ≤ most) (h1 : most ≤ 100) :
    Calls Tryz.prog 21 #[.pointer (some ⟨g, 0, none⟩), .int .i64 most] w (DrawnScans w B g most) := by
  have hlt := hs.lt
  go_enter Tryz.func21, Tryz.ntmps21
  go_wp2_with fail
  refine calls_gen (fun W0 hW0 => ?_)
  have om : OwnMo W0 w.heap.size W0.heap.size (.slice (some ⟨w.heap.size, 0, none⟩) 0 0) [] := by
    rw [hW0]
    exact OwnS.top (OwnS.lit0 (cl := mol) (T := 38) (k := 5) (W := w) (lo := w.heap.size) (Nat.le_refl _))
  have hs0 : Src W0 B g := by rw [hW0]; exact hs.alloc _
  have G : w.grownBy W0 (some g) := by rw [hW0]; exact grownBy_alloc' (World.grownBy.refl _ _) _
  clear hW0 hs
  refine (spec_l01Next _ _ _ _ hs0 (by omega)).mono ?_
  rintro e w1 ⟨r1, rfl, ⟨hr1, ht1⟩, hs1, hg1⟩
  have om := OwnS.top (OwnS.src om hg1 (by omega))
  have G := grownBy_src G hg1
  have ht1 : r1 ≤ 3 := by omega
  clear hg1 hs0
  go_wp2_with fail
  go_loopw [5, 6] (fun x9 n9 wr => ∃ (v : Value) (ms : List Mo) (k : Int), v = x9 ∧ n9 = .int .i64 k ∧ 0 ≤ k ∧ k + ms.length ≤ 4 ∧ 1 ≤ k + ms.length ∧ OwnMo wr w.heap.size wr.heap.size v ms ∧ Src wr B g ∧ w.grownBy wr (some g)) (fun _ n9 _ => (intOf n9).toNat)
  case atStart => exact ⟨_, [], 1 + r1, rfl, rfl, by omega, by simp; omega, by simp; omega, om, hs1, G⟩
  case round =>
    clear om hs1 G hr1 ht1
    obtain ⟨v, ms, k, rfl, rfl, k0, k4, k1, om, hsr, G⟩ := hrel
    obtain ⟨Av, cv, rfl⟩ := OwnS.form om
    by_cases hk : 0 < k
    · go_wp2_with fail
      refine (spec_l01Next _ _ _ _ hsr (by omega)).mono ?_
      rintro e w2 ⟨r2, rfl, ⟨hr2, ht2⟩, hs2, hg2⟩
      have om := OwnS.top (OwnS.src om hg2 (by omega))
      have G := grownBy_src G hg2
      clear hg2 hsr
      go_wp2_with fail
      refine (spec_l01Next _ _ _ _ hs2 (by omega)).mono ?_
      rintro e w3 ⟨r3, rfl, ⟨hr3, ht3⟩, hs3, hg3⟩
      have om := OwnS.top (OwnS.src om hg3 (by omega))
      have G := grownBy_src G hg3
      clear hg3 hs2
      go_wp2_with fail
      refine (spec_l01Next _ _ _ _ hs3 (by omega)).mono ?_
      rintro e w4 ⟨r4, rfl, ⟨hr4, ht4⟩, hs4, hg4⟩
      have om := OwnS.top (OwnS.src om hg4 (by omega))
      have G := grownBy_src G hg4
      clear hg4 hs3
      go_wp2_with fail
      refine (spec_l01Next _ _ _ _ hs4 (by omega)).mono ?_
      rintro e w5 ⟨r5, rfl, ⟨hr5, ht5⟩, hs5, hg5⟩
      have om := OwnS.top (OwnS.src om hg5 (by omega))
      have G := grownBy_src G hg5
      clear hg5 hs4
      go_wp2_with (at_builtin; refine push_M w5.heap.size (by simp) om rfl _ _ (by rfl) (by rfl) (by rfl) (by have := G.size; omega) (by omega) ?_; intro v6 w6 om6 hb6 hg6)
      have hs6 : Src w6 B g := hs5.other hg6 (fun q hq => by have := (om.lt q hq).1; omega)
      have G6 : w.grownBy w6 (some g) := grownBy_below G hb6 (by omega)
      go_roundw
      case rel => exact ⟨_, _, k - 1, rfl, rfl, by omega, by simp; omega, by simp; omega, om6, hs6, G6⟩
      case measure => simp [intOf]; omega
    · have hk0 : k = 0 := by omega
      subst hk0
      obtain ⟨⟨mx, my, mp, mq, ms0⟩, mt, rfl⟩ : ∃ m mt, ms = m :: mt := by
        cases ms with
        | nil => simp at k1
        | cons m mt => exact ⟨m, mt, rfl⟩
      clear hk k0 k1
      go_wp2_with fail
      refine (spec_l01Next _ _ _ _ hsr (by omega)).mono ?_
      rintro e w2 ⟨r2, rfl, ⟨hr2, ht2⟩, hs2, hg2⟩
      have om := OwnS.top (OwnS.src om hg2 (by omega))
      have G := grownBy_src G hg2
      have zw : w.heap.size ≤ w2.heap.size := G.size
      have hmt : mt.length ≤ 3 := by simp at k4; omega
      obtain ⟨g5, rfl, q1, q2, q3, c0, f0, st⟩ := OwnMo.set0 om
      have f0 := f0 0
      clear hg2 hsr k4
      go_upto_if 38 with fail
      go_cut [] (fun wx => ∃ mx, OwnMo wx w.heap.size wx.heap.size (.slice (some ⟨g5, 0, none⟩) (mt.length + 1) cv) (⟨mx, my, mp, mq, ms0⟩ :: mt) ∧ Src wx B g ∧ w.grownBy wx (some g))
      case first =>
        by_cases q0 : r2 = 0
        · subst q0
          have p1 : (0 : Int) < ((mt.length + 1 : Nat) : Int) := by omega
          have p2 : (0 : Int) < ((mt.length : Nat) : Int) + 1 := by omega
          have s1 := st 99700
          go_wp2_with fail
          go_meet
          case rel => exact ⟨99700, OwnS.top s1.1, hs2.other s1.2 (fun q hq => by simp at hq; omega), ⟨s1.2.os.trans G.os, s1.2.tape.trans G.tape, s1.2.output.trans G.output, Nat.le_trans G.size s1.2.size, fun i hi hn => (s1.2.block i (by omega) (by simp; omega)).trans (G.block i hi hn)⟩⟩
        · have e0 : (r2 == 0) = false := by simpa using q0
          go_wp2_with fail
          go_meet
          case rel => exact ⟨mx, om, hs2, G⟩
      case rest =>
        clear om hs2 G c0 f0 st hr2 ht2
        obtain ⟨mx, om, hs2, G⟩ := hcut
        obtain ⟨ms, hms⟩ : ∃ ms : List Mo, ms = ⟨mx, my, mp, mq, ms0⟩ :: mt := ⟨_, rfl⟩
        have hmsl : ms.length = mt.length + 1 := by rw [hms]; rfl
        rw [← hms] at om
        have hmslH := Lib.hid hmsl
        clear hms hmsl
        go_wp2_with fail
        refine calls_gen (fun W3 hW3 => ?_)
        obtain ⟨M, hM⟩ : ∃ M, M = wc.heap.size := ⟨_, rfl⟩
        have om : OwnMo W3 w.heap.size M (.slice (some ⟨g5, 0, none⟩) (mt.length + 1) cv) ms := by rw [hW3, hM]; exact OwnS.next om (Below.new (Below.refl _ _) _)
        have ol : OwnRw W3 M W3.heap.size (.slice (some ⟨M, 0, none⟩) 0 0) [] := by rw [hW3, hM]; exact OwnRw.top (OwnRw.lit0 (Nat.le_refl _))
        have hs3 : Src W3 B g := by rw [hW3]; exact hs2.alloc _
        have zM : w.heap.size ≤ M := by rw [hM]; exact G.size
        have zg : g < M := by rw [hM]; exact (hs2.lt).2
        have G : w.grownBy W3 (some g) := by rw [hW3]; exact grownBy_alloc' G _
        rw [← hM]
        clear hW3 hs2 hM
        refine (spec_l01Next _ _ _ _ hs3 (by omega)).mono ?_
        rintro e w4 ⟨r4, rfl, ⟨hr4, ht4⟩, hs4, hg4⟩
        have om := OwnS.src om hg4 (by omega)
        have ol := OwnRw.top (OwnRw.src ol hg4 (by omega))
        have G := grownBy_src G hg4
        have zM4 : M ≤ w4.heap.size := by have := (ol.lt M rfl).2; omega
        clear hg4 hs3
        go_wp2_with fail
        go_loopw [7, 8] (fun x9 n9 wr => ∃ (v : Value) (css : List Cts) (k : Int) (ms : List Mo), v = x9 ∧ n9 = .int .i64 k ∧ 0 ≤ k ∧ k + css.length ≤ most ∧ Hid (ms.length = mt.length + 1) ∧ Hid (∀ (i : Nat) (cs : Cts), css[i]? = some cs → cs.length ≤ 5) ∧ OwnRw wr M wr.heap.size v css ∧ OwnMo wr w.heap.size M (.slice (some ⟨g5, 0, none⟩) (mt.length + 1) cv) ms ∧ M ≤ wr.heap.size ∧ Src wr B g ∧ w.grownBy wr (some g)) (fun _ n9 _ => (intOf n9).toNat)
        case atStart => exact ⟨_, [], r4, ms, rfl, rfl, hr4, by simp; omega, hmslH, fun i cs hi => by simp at hi, ol, om, zM4, hs4, G⟩
        case round =>
          clear ol om hs4 G hr4 ht4 hmslH zM4
          obtain ⟨v, css, k, ms, rfl, rfl, k0, k1, hml, h5, ol, om, zMr, hsr, G⟩ := hrel
          obtain ⟨Av, cv2, rfl⟩ := OwnRw.form ol
          by_cases hk : 0 < k
          · obtain ⟨wo, hwo⟩ : ∃ wo : World, wo = wr := ⟨_, rfl⟩
            rw [← hwo] at ol om hsr G zMr ⊢
            obtain ⟨N, hN⟩ : ∃ N, N = wo.heap.size := ⟨_, rfl⟩
            have ol : OwnRw wo M N (.slice Av css.length cv2) css := by rw [hN]; exact ol
            have zN : M ≤ N := by rw [hN]; exact zMr
            clear hwo
            obtain ⟨v9, hv9⟩ : ∃ v9 : Value, v9 = .slice Av css.length cv2 := ⟨_, rfl⟩
            go_wp2_with fail
            go_loopw [9, 10] (fun x9 i9 wr => ∃ (vs : Value) (cs : Cts) (j : Nat) (ms : List Mo), vs = x9 ∧ i9 = .int .i64 j ∧ j ≤ mt.length + 1 ∧ cs.length ≤ j ∧ Hid (ms.length = mt.length + 1) ∧ OwnCt wr N wr.heap.size vs cs ∧ OwnRw wr M N (.slice Av css.length cv2) css ∧ OwnMo wr w.heap.size M (.slice (some ⟨g5, 0, none⟩) (mt.length + 1) cv) ms ∧ N ≤ wr.heap.size ∧ Src wr B g ∧ w.grownBy wr (some g)) (fun _ i9 _ => mt.length + 1 - (intOf i9).toNat)
            case atStart => exact ⟨_, [], 0, ms, rfl, rfl, by omega, by simp, hml, by rw [hN]; exact OwnS.top (OwnS.lit0 (cl := ctl) (T := 68) (k := 2) (W := wo) (Nat.le_refl _)), ol.alloc _, OwnS.next om (Below.new (Below.refl _ _) _), by rw [hN]; simp, hsr.alloc _, grownBy_alloc' G _⟩
            case round =>
              clear ol om hsr G hml hN
              obtain ⟨vs, cs, j, ms, rfl, rfl, hj, hcl, hml, oc, ol, om, zr, hsr, G⟩ := hrel
              obtain ⟨As, cvs, rfl⟩ := OwnS.form oc
              by_cases hlt : j < mt.length + 1
              · obtain ⟨⟨x, y, p, q, s⟩, hx⟩ := get_of_lt (xs := ms) (k := j) (by have := hml.out; omega)
                have p0 : (0 : Int) ≤ (j : Int) := by omega
                have p1 : (j : Int) < ((mt.length + 1 : Nat) : Int) := by omega
                have p2 : (j : Int) < (mt.length : Int) + 1 := by omega
                obtain ⟨g6, e6, z61, z62, z63, c0, c1, c2, c3, c4, f0, st⟩ := OwnS.cellM om hx
                obtain rfl : g5 = g6 := by simpa using e6
                have hxH := Lib.hid hx
                clear hx st f0 e6
                go_wp2_with fail
                refine (spec_l14MoveAny _ _ _ _ _ _ _).mono ?_
                rintro e w6 ⟨a2, b2, d2, e2, h2, rfl, hb6⟩
                have oc := OwnS.top (OwnS.next oc hb6)
                have ol := ol.next hb6
                have om := OwnS.next om hb6
                have hs6 := Src.below hsr hb6
                have G6 := grownBy_below G hb6 (by have := G.size; exact this)
                have zr6 := hb6.size
                have z66 : g5 < w6.heap.size := by omega
                clear hb6 hsr c0 c1 c2 c3 c4
                obtain ⟨g6, e6, z64, z65, z67, c0, c1, c2, c3, c4, f0, st⟩ := OwnS.cellM om hxH.out
                obtain rfl : g5 = g6 := by simpa using e6
                have f1 := f0 (j * 5)
                have f2 := f0 (j * 5 + 1)
                have f3 := f0 (j * 5 + 2)
                have f4 := f0 (j * 5 + 3)
                have f5 := f0 (j * 5 + 4)
                have s1 := st a2 b2 d2 e2 h2
                have s1H := Lib.hid s1
                clear st f0 e6 s1
                go_wp2_with fail
                refine wp_gen (fun w7 hw7 => ?_)
                have om : OwnMo w7 w.heap.size M (.slice (some ⟨g5, 0, none⟩) (mt.length + 1) cv) (ms.set j ⟨a2, b2, d2, e2, h2⟩) := by rw [hw7]; exact s1H.out.1
                have gm : w6.grownBy w7 (some g5) := by rw [hw7]; exact s1H.out.2
                clear hw7 s1H f1 f2 f3 f4 f5 c0 c1 c2 c3 c4
                have oc := OwnS.top (OwnS.src oc gm (by omega))
                have ol := ol.src gm (by omega)
                have hs7 : Src w7 B g := hs6.other gm (fun q hq => by simp at hq; omega)
                have G7 := grownBy_below G6 (below_grown (lo := w.heap.size) gm (by omega) (by omega)) (by omega)
                have zr7 := gm.size
                clear gm hs6 G6
                have hl2 : (ms.set j ⟨a2, b2, d2, e2, h2⟩).length = mt.length + 1 := by rw [List.length_set]; exact hml.out
                have hx2 : (ms.set j ⟨a2, b2, d2, e2, h2⟩)[j]? = some ⟨a2, b2, d2, e2, h2⟩ := List.getElem?_set_self (by have := hml.out; omega)
                obtain ⟨ms2, hms2⟩ : ∃ ms2, ms2 = ms.set j ⟨a2, b2, d2, e2, h2⟩ := ⟨_, rfl⟩
                rw [← hms2] at hl2 hx2 om
                have hl2H := Lib.hid hl2
                have hx2H := Lib.hid hx2
                obtain ⟨g6, e6, z68, z69, z70, c0, c1, _, _, _, f0, _⟩ := OwnS.cellM om hx2
                obtain rfl : g5 = g6 := by simpa using e6
                clear hms2 hl2 hx2 e6 hxH hml f0
                go_cut [11] (fun p9 wx => ∃ (X : Nat) (a b : Int), p9 = .pointer (some ⟨X, 0, none⟩) ∧ IBox wx 68 X [a, b] ∧ N ≤ X ∧ w7.grownBy wx (some g) ∧ Src wx B g)
                case first =>
                  (refine wp_region_noPanic ?_; refine wp_region_held_drew (S := (fun w' => w'.cell? ⟨g5, j * 5, none⟩ = some (.int .i64 a2) ∧ w'.cell? ⟨g5, j * 5 + 1, none⟩ = some (.int .i64 b2))) (by kernel_rfl) ?_ (fun hHeld => ?_); (focus ((try dsimp only); (refine ⟨?_, ?_⟩ <;> exact bxc))); (refine takeT (i := 0) (d := 65) rfl rfl (by kernel_rfl) (by kernel_rfl) (by kernel_rfl) (by rfl) (by assumption) (v := ?_) ?_ ?_; rotate_left; (focus (intro wq hSw; (try dsimp only at hSw); go_simp; (try (with_reducible rfl)); done)); (try simp only [Act.put, List.setIfInBounds_toArray, List.set_cons_zero, List.set_cons_succ])); (refine takeT (i := 1) (d := 66) rfl rfl (by kernel_rfl) (by kernel_rfl) (by kernel_rfl) (by rfl) (by assumption) (v := ?_) ?_ ?_; rotate_left; (focus (intro wq hSw; (try dsimp only at hSw); go_simp; (try (with_reducible rfl)); done)); (try simp only [Act.put, List.setIfInBounds_toArray, List.set_cons_zero, List.set_cons_succ])); (refine takeT (i := 2) (d := 67) rfl rfl (by kernel_rfl) (by kernel_rfl) (by kernel_rfl) (by rfl) (by assumption) (v := ?_) ?_ ?_; rotate_left; (focus (intro wq hSw; (try dsimp only at hSw); go_simp; (try (with_reducible rfl)); done)); (try simp only [Act.put, List.setIfInBounds_toArray, List.set_cons_zero, List.set_cons_succ])); (refine takeT (i := 3) (d := 68) rfl rfl (by kernel_rfl) (by kernel_rfl) (by kernel_rfl) (by rfl) (by assumption) (v := ?_) ?_ ?_; rotate_left; (focus (intro wq hSw; (try dsimp only at hSw); go_simp; (try (with_reducible rfl)); done)); (try simp only [Act.put, List.setIfInBounds_toArray, List.set_cons_zero, List.set_cons_succ])); (refine takeT (i := 4) (d := 69) rfl rfl (by kernel_rfl) (by kernel_rfl) (by kernel_rfl) (by rfl) (by assumption) (v := ?_) ?_ ?_; rotate_left; (focus (intro wq hSw; (try dsimp only at hSw); go_simp; (try (with_reducible rfl)); done)); (try simp only [Act.put, List.setIfInBounds_toArray, List.set_cons_zero, List.set_cons_succ])); (refine takeT (i := 5) (d := 70) rfl rfl (by kernel_rfl) (by kernel_rfl) (by kernel_rfl) (by rfl) (by assumption) (v := ?_) ?_ ?_; rotate_left; (focus (intro wq hSw; (try dsimp only at hSw); go_simp; (try (with_reducible rfl)); done)); (try simp only [Act.put, List.setIfInBounds_toArray, List.set_cons_zero, List.set_cons_succ])); (refine takeT (i := 9) (d := 74) rfl rfl (by kernel_rfl) (by kernel_rfl) (by kernel_rfl) (by rfl) (by assumption) (v := ?_) ?_ ?_; rotate_left; (focus (intro wq hSw; (try dsimp only at hSw); go_simp; (try (with_reducible rfl)); done)); (try simp only [Act.put, List.setIfInBounds_toArray, List.set_cons_zero, List.set_cons_succ])); (refine takeT (i := 10) (d := 75) rfl rfl (by kernel_rfl) (by kernel_rfl) (by kernel_rfl) (by rfl) (by assumption) (v := ?_) ?_ ?_; rotate_left; (focus (intro wq hSw; (try dsimp only at hSw); go_simp; (try (with_reducible rfl)); done)); (try simp only [Act.put, List.setIfInBounds_toArray, List.set_cons_zero, List.set_cons_succ])); (refine takeT (i := 11) (d := 76) rfl rfl (by kernel_rfl) (by kernel_rfl) (by kernel_rfl) (by rfl) (by assumption) (v := ?_) ?_ ?_; rotate_left; (focus (intro wq hSw; (try dsimp only at hSw); go_simp; (try (with_reducible rfl)); done)); (try simp only [Act.put, List.setIfInBounds_toArray, List.set_cons_zero, List.set_cons_succ])); (refine takeT (i := 12) (d := 77) rfl rfl (by kernel_rfl) (by kernel_rfl) (by kernel_rfl) (by rfl) (by assumption) (v := ?_) ?_ ?_; rotate_left; (focus (intro wq hSw; (try dsimp only at hSw); go_simp; (try (with_reducible rfl)); done)); (try simp only [Act.put, List.setIfInBounds_toArray, List.set_cons_zero, List.set_cons_succ])); (refine takeT (i := 13) (d := 78) rfl rfl (by kernel_rfl) (by kernel_rfl) (by kernel_rfl) (by rfl) (by assumption) (v := ?_) ?_ ?_; rotate_left; (focus (intro wq hSw; (try dsimp only at hSw); go_simp; (try (with_reducible rfl)); done)); (try simp only [Act.put, List.setIfInBounds_toArray, List.set_cons_zero, List.set_cons_succ])); (refine takeT (i := 14) (d := 79) rfl rfl (by kernel_rfl) (by kernel_rfl) (by kernel_rfl) (by rfl) (by assumption) (v := ?_) ?_ ?_; rotate_left; (focus (intro wq hSw; (try dsimp only at hSw); go_simp; (try (with_reducible rfl)); done)); (try simp only [Act.put, List.setIfInBounds_toArray, List.set_cons_zero, List.set_cons_succ])); (refine wpAnyH_ready (rs := [6, 19]) (by kernel_rfl) (by simp) ?_; refine (AllReadyH.cons rfl (fun K hK => ?_) (AllReadyH.cons rfl (fun K hK => ?_) AllReadyH.nil))); (focus (go_simp; (first | (go_at_call 20; refine (spec_l01Next _ _ _ _ (by first | exact Src.drewS hs7 | exact Src.drewS (hs7.alloc (.cells #[.int .i64 0, .int .i64 0] 68))) (by omega)).mono ?_; rintro e w9 ⟨r9, rfl, ⟨hr9, ht9⟩, hs9, hg9⟩; have zz9 := hg9.size; (try simp only [World.size_alloc, World.size_drew] at zz9); (first | (have bx : IBox w9 68 w7.heap.size [0, 0] := IBox.src (w := (w7.alloc (.cells #[.int .i64 0, .int .i64 0] 68)).drew) (show IBox (w7.alloc (.cells #[.int .i64 0, .int .i64 0] 68)) 68 w7.heap.size [0, 0] from IBox.new (w := w7) (T := 68) (l := [0, 0]) rfl) hg9 (by omega)) | skip); (first | (have om9 := OwnS.src (w := w7.drew) om hg9 (by omega)) | (have om9 := OwnS.src (w := (w7.alloc (.cells #[.int .i64 0, .int .i64 0] 68)).drew) (show OwnMo (w7.alloc (.cells #[.int .i64 0, .int .i64 0] 68)) _ _ _ _ from OwnS.next om (Below.new (Below.refl w7.heap.size w7) (.cells #[.int .i64 0, .int .i64 0] 68))) hg9 (by omega))); have cc9 := OwnMo.c01 om9 hx2H.out; have c09 := cc9.1; have c19 := cc9.2) | (go_at_call 20; refine (spec_l01Next _ _ _ _ (by first | exact hs9 | exact hs9.alloc _) (by omega)).mono ?_; rintro e w10 ⟨r10, rfl, ⟨hr10, ht10⟩, hs10, hg10⟩; have zz10 := hg10.size; (try simp only [World.size_alloc, World.size_drew] at zz10); (first | (have bx := IBox.src bx hg10 (by omega)) | (have bx : IBox w10 68 w9.heap.size [0, 0] := IBox.src (w := w9.alloc _) (IBox.new (w := w9) (T := 68) (l := [0, 0]) rfl) hg10 (by omega)) | skip); (first | (have om10 := OwnS.src om9 hg10 (by omega)) | (have om10 := OwnS.src (w := w9.alloc _) (OwnS.next om9 (Below.new (Below.refl _ _) _)) hg10 (by omega))); have cc10 := OwnMo.c01 om10 hx2H.out; have c010 := cc10.1; have c110 := cc10.2; (try (have kb0 := bx.cell (j := 0) rfl; have kb1 := bx.cell (j := 1) rfl; have kbf := bx.fz))) | skip); (try go_wp2_with fail); refine hK.out _ _ ?_ (fun hHeld => ?_); (focus ((try dsimp only); (refine ⟨?_, ?_⟩ <;> exact bxc))); clear hK K; (try simp only [Act.put, List.setIfInBounds_toArray, List.set_cons_zero, List.set_cons_succ]); (refine takeT (i := 7) (d := 72) rfl rfl (by kernel_rfl) (by kernel_rfl) (by kernel_rfl) (by rfl) (by assumption) (v := ?_) ?_ ?_; rotate_left; (focus (intro wq hSw; (try dsimp only at hSw); go_simp; (try (with_reducible rfl)); done)); (try simp only [Act.put, List.setIfInBounds_toArray, List.set_cons_zero, List.set_cons_succ])); (refine takeT (i := 8) (d := 73) rfl rfl (by kernel_rfl) (by kernel_rfl) (by kernel_rfl) (by rfl) (by assumption) (v := ?_) ?_ ?_; rotate_left; (focus (intro wq hSw; (try dsimp only at hSw); go_simp; (try (with_reducible rfl)); done)); (try simp only [Act.put, List.setIfInBounds_toArray, List.set_cons_zero, List.set_cons_succ])); (refine wpAnyH_ready (rs := [15, 19]) (by kernel_rfl) (by simp) ?_; refine (AllReadyH.cons rfl (fun K hK => ?_) (AllReadyH.cons rfl (fun K hK => ?_) AllReadyH.nil))); (focus (go_simp; (first | (go_at_call 20; refine (spec_l01Next _ _ _ _ (by first | exact Src.drewS hs7 | exact Src.drewS (hs7.alloc (.cells #[.int .i64 0, .int .i64 0] 68))) (by omega)).mono ?_; rintro e w9 ⟨r9, rfl, ⟨hr9, ht9⟩, hs9, hg9⟩; have zz9 := hg9.size; (try simp only [World.size_alloc, World.size_drew] at zz9); (first | (have bx : IBox w9 68 w7.heap.size [0, 0] := IBox.src (w := (w7.alloc (.cells #[.int .i64 0, .int .i64 0] 68)).drew) (show IBox (w7.alloc (.cells #[.int .i64 0, .int .i64 0] 68)) 68 w7.heap.size [0, 0] from IBox.new (w := w7) (T := 68) (l := [0, 0]) rfl) hg9 (by omega)) | skip); (first | (have om9 := OwnS.src (w := w7.drew) om hg9 (by omega)) | (have om9 := OwnS.src (w := (w7.alloc (.cells #[.int .i64 0, .int .i64 0] 68)).drew) (show OwnMo (w7.alloc (.cells #[.int .i64 0, .int .i64 0] 68)) _ _ _ _ from OwnS.next om (Below.new (Below.refl w7.heap.size w7) (.cells #[.int .i64 0, .int .i64 0] 68))) hg9 (by omega))); have cc9 := OwnMo.c01 om9 hx2H.out; have c09 := cc9.1; have c19 := cc9.2) | (go_at_call 20; refine (spec_l01Next _ _ _ _ (by first | exact hs9 | exact hs9.alloc _) (by omega)).mono ?_; rintro e w10 ⟨r10, rfl, ⟨hr10, ht10⟩, hs10, hg10⟩; have zz10 := hg10.size; (try simp only [World.size_alloc, World.size_drew] at zz10); (first | (have bx := IBox.src bx hg10 (by omega)) | (have bx : IBox w10 68 w9.heap.size [0, 0] := IBox.src (w := w9.alloc _) (IBox.new (w := w9) (T := 68) (l := [0, 0]) rfl) hg10 (by omega)) | skip); (first | (have om10 := OwnS.src om9 hg10 (by omega)) | (have om10 := OwnS.src (w := w9.alloc _) (OwnS.next om9 (Below.new (Below.refl _ _) _)) hg10 (by omega))); have cc10 := OwnMo.c01 om10 hx2H.out; have c010 := cc10.1; have c110 := cc10.2; (try (have kb0 := bx.cell (j := 0) rfl; have kb1 := bx.cell (j := 1) rfl; have kbf := bx.fz))) | skip); (try go_wp2_with fail); refine hK.out _ _ ?_ (fun hHeld => ?_); (focus ((try dsimp only); (refine ⟨?_, ?_⟩ <;> exact bxc))); clear hK K; (try simp only [Act.put, List.setIfInBounds_toArray, List.set_cons_zero, List.set_cons_succ]); (refine takeT (i := 16) (d := 81) rfl rfl (by kernel_rfl) (by kernel_rfl) (by kernel_rfl) (by rfl) (by assumption) (v := ?_) ?_ ?_; rotate_left; (focus (intro wq hSw; (try dsimp only at hSw); go_simp; (try (with_reducible rfl)); done)); (try simp only [Act.put, List.setIfInBounds_toArray, List.set_cons_zero, List.set_cons_succ])); (refine takeT (i := 17) (d := 82) rfl rfl (by kernel_rfl) (by kernel_rfl) (by kernel_rfl) (by rfl) (by assumption) (v := ?_) ?_ ?_; rotate_left; (focus (intro wq hSw; (try dsimp only at hSw); go_simp; (try (with_reducible rfl)); done)); (try simp only [Act.put, List.setIfInBounds_toArray, List.set_cons_zero, List.set_cons_succ])); (refine takeT (i := 18) (d := 83) rfl rfl (by kernel_rfl) (by kernel_rfl) (by kernel_rfl) (by rfl) (by assumption) (v := ?_) ?_ ?_; rotate_left; (focus (intro wq hSw; (try dsimp only at hSw); go_simp; (try (with_reducible rfl)); done)); (try simp only [Act.put, List.setIfInBounds_toArray, List.set_cons_zero, List.set_cons_succ])); (refine wpAnyH_ready (rs := [19]) (by kernel_rfl) (by simp) ?_; refine AllReadyH.cons rfl (fun K hK => ?_) AllReadyH.nil; go_simp; (first | (go_at_call 20; refine (spec_l01Next _ _ _ _ (by first | exact Src.drewS hs7 | exact Src.drewS (hs7.alloc (.cells #[.int .i64 0, .int .i64 0] 68))) (by omega)).mono ?_; rintro e w9 ⟨r9, rfl, ⟨hr9, ht9⟩, hs9, hg9⟩; have zz9 := hg9.size; (try simp only [World.size_alloc, World.size_drew] at zz9); (first | (have bx : IBox w9 68 w7.heap.size [0, 0] := IBox.src (w := (w7.alloc (.cells #[.int .i64 0, .int .i64 0] 68)).drew) (show IBox (w7.alloc (.cells #[.int .i64 0, .int .i64 0] 68)) 68 w7.heap.size [0, 0] from IBox.new (w := w7) (T := 68) (l := [0, 0]) rfl) hg9 (by omega)) | skip); (first | (have om9 := OwnS.src (w := w7.drew) om hg9 (by omega)) | (have om9 := OwnS.src (w := (w7.alloc (.cells #[.int .i64 0, .int .i64 0] 68)).drew) (show OwnMo (w7.alloc (.cells #[.int .i64 0, .int .i64 0] 68)) _ _ _ _ from OwnS.next om (Below.new (Below.refl w7.heap.size w7) (.cells #[.int .i64 0, .int .i64 0] 68))) hg9 (by omega))); have cc9 := OwnMo.c01 om9 hx2H.out; have c09 := cc9.1; have c19 := cc9.2) | (go_at_call 20; refine (spec_l01Next _ _ _ _ (by first | exact hs9 | exact hs9.alloc _) (by omega)).mono ?_; rintro e w10 ⟨r10, rfl, ⟨hr10, ht10⟩, hs10, hg10⟩; have zz10 := hg10.size; (try simp only [World.size_alloc, World.size_drew] at zz10); (first | (have bx := IBox.src bx hg10 (by omega)) | (have bx : IBox w10 68 w9.heap.size [0, 0] := IBox.src (w := w9.alloc _) (IBox.new (w := w9) (T := 68) (l := [0, 0]) rfl) hg10 (by omega)) | skip); (first | (have om10 := OwnS.src om9 hg10 (by omega)) | (have om10 := OwnS.src (w := w9.alloc _) (OwnS.next om9 (Below.new (Below.refl _ _) _)) hg10 (by omega))); have cc10 := OwnMo.c01 om10 hx2H.out; have c010 := cc10.1; have c110 := cc10.2; (try (have kb0 := bx.cell (j := 0) rfl; have kb1 := bx.cell (j := 1) rfl; have kbf := bx.fz))) | skip); (try go_wp2_with fail); refine hK.out _ _ ?_ (fun hHeld => ?_); (focus ((try dsimp only); (refine ⟨?_, ?_⟩ <;> exact bxc))); clear hK K; (try simp only [Act.put, List.setIfInBounds_toArray, List.set_cons_zero, List.set_cons_succ])); (refine wpAnyH_ready (rs := [20]) (by kernel_rfl) (by simp) ?_; refine AllReadyH.cons rfl (fun K hK => ?_) AllReadyH.nil; go_simp; (first | (go_at_call 20; refine (spec_l01Next _ _ _ _ (by first | exact Src.drewS hs7 | exact Src.drewS (hs7.alloc (.cells #[.int .i64 0, .int .i64 0] 68))) (by omega)).mono ?_; rintro e w9 ⟨r9, rfl, ⟨hr9, ht9⟩, hs9, hg9⟩; have zz9 := hg9.size; (try simp only [World.size_alloc, World.size_drew] at zz9); (first | (have bx : IBox w9 68 w7.heap.size [0, 0] := IBox.src (w := (w7.alloc (.cells #[.int .i64 0, .int .i64 0] 68)).drew) (show IBox (w7.alloc (.cells #[.int .i64 0, .int .i64 0] 68)) 68 w7.heap.size [0, 0] from IBox.new (w := w7) (T := 68) (l := [0, 0]) rfl) hg9 (by omega)) | skip); (first | (have om9 := OwnS.src (w := w7.drew) om hg9 (by omega)) | (have om9 := OwnS.src (w := (w7.alloc (.cells #[.int .i64 0, .int .i64 0] 68)).drew) (show OwnMo (w7.alloc (.cells #[.int .i64 0, .int .i64 0] 68)) _ _ _ _ from OwnS.next om (Below.new (Below.refl w7.heap.size w7) (.cells #[.int .i64 0, .int .i64 0] 68))) hg9 (by omega))); have cc9 := OwnMo.c01 om9 hx2H.out; have c09 := cc9.1; have c19 := cc9.2) | (go_at_call 20; refine (spec_l01Next _ _ _ _ (by first | exact hs9 | exact hs9.alloc _) (by omega)).mono ?_; rintro e w10 ⟨r10, rfl, ⟨hr10, ht10⟩, hs10, hg10⟩; have zz10 := hg10.size; (try simp only [World.size_alloc, World.size_drew] at zz10); (first | (have bx := IBox.src bx hg10 (by omega)) | (have bx : IBox w10 68 w9.heap.size [0, 0] := IBox.src (w := w9.alloc _) (IBox.new (w := w9) (T := 68) (l := [0, 0]) rfl) hg10 (by omega)) | skip); (first | (have om10 := OwnS.src om9 hg10 (by omega)) | (have om10 := OwnS.src (w := w9.alloc _) (OwnS.next om9 (Below.new (Below.refl _ _) _)) hg10 (by omega))); have cc10 := OwnMo.c01 om10 hx2H.out; have c010 := cc10.1; have c110 := cc10.2; (try (have kb0 := bx.cell (j := 0) rfl; have kb1 := bx.cell (j := 1) rfl; have kbf := bx.fz))) | skip); (try go_wp2_with fail); refine hK.out _ _ ?_ (fun hHeld => ?_); (focus ((try dsimp only); (refine ⟨?_, ?_⟩ <;> exact bxc))); clear hK K; (try simp only [Act.put, List.setIfInBounds_toArray, List.set_cons_zero, List.set_cons_succ])); refine wpAnyH_done (by kernel_rfl) ?_ _; refine NoPanic.normal ?_; ((go_wp2_with fail); go_meet; (case rel => refine ⟨_, ?_, ?_, rfl, ?_, ?_, ?_, ?_⟩; rotate_left 2; (focus (first | exact (bx.set 0 _).set 1 _ | exact IBox.new (w := w10) (T := 68) (l := [_, _]) rfl)); (focus omega); (focus (first | exact (by repeat' (first | (with_reducible exact World.grownBy.refl _ _) | (with_reducible refine grownBy_setX ?_ (by omega)) | (with_reducible refine grownBy_alloc' ?_ _) | (with_reducible refine grownBy_drew ?_) | (refine grownBy_src ?_ (by with_reducible assumption)))))); (focus (exact (by repeat' (first | (with_reducible assumption) | (with_reducible refine Src.setX ?_ (by omega)) | (with_reducible refine Src.alloc ?_ _) | (with_reducible refine Src.drewS ?_))))))))); (focus (go_simp; (first | (go_at_call 20; refine (spec_l01Next _ _ _ _ (by first | exact Src.drewS hs7 | exact Src.drewS (hs7.alloc (.cells #[.int .i64 0, .int .i64 0] 68))) (by omega)).mono ?_; rintro e w9 ⟨r9, rfl, ⟨hr9, ht9⟩, hs9, hg9⟩; have zz9 := hg9.size; (try simp only [World.size_alloc, World.size_drew] at zz9); (first | (have bx : IBox w9 68 w7.heap.size [0, 0] := IBox.src (w := (w7.alloc (.cells #[.int .i64 0, .int .i64 0] 68)).drew) (show IBox (w7.alloc (.cells #[.int .i64 0, .int .i64 0] 68)) 68 w7.heap.size [0, 0] from IBox.new (w := w7) (T := 68) (l := [0, 0]) rfl) hg9 (by omega)) | skip); (first | (have om9 := OwnS.src (w := w7.drew) om hg9 (by omega)) | (have om9 := OwnS.src (w := (w7.alloc (.cells #[.int .i64 0, .int .i64 0] 68)).drew) (show OwnMo (w7.alloc (.cells #[.int .i64 0, .int .i64 0] 68)) _ _ _ _ from OwnS.next om (Below.new (Below.refl w7.heap.size w7) (.cells #[.int .i64 0, .int .i64 0] 68))) hg9 (by omega))); have cc9 := OwnMo.c01 om9 hx2H.out; have c09 := cc9.1; have c19 := cc9.2) | (go_at_call 20; refine (spec_l01Next _ _ _ _ (by first | exact hs9 | exact hs9.alloc _) (by omega)).mono ?_; rintro e w10 ⟨r10, rfl, ⟨hr10, ht10⟩, hs10, hg10⟩; have zz10 := hg10.size; (try simp only [World.size_alloc, World.size_drew] at zz10); (first | (have bx := IBox.src bx hg10 (by omega)) | (have bx : IBox w10 68 w9.heap.size [0, 0] := IBox.src (w := w9.alloc _) (IBox.new (w := w9) (T := 68) (l := [0, 0]) rfl) hg10 (by omega)) | skip); (first | (have om10 := OwnS.src om9 hg10 (by omega)) | (have om10 := OwnS.src (w := w9.alloc _) (OwnS.next om9 (Below.new (Below.refl _ _) _)) hg10 (by omega))); have cc10 := OwnMo.c01 om10 hx2H.out; have c010 := cc10.1; have c110 := cc10.2; (try (have kb0 := bx.cell (j := 0) rfl; have kb1 := bx.cell (j := 1) rfl; have kbf := bx.fz))) | skip); (try go_wp2_with fail); refine hK.out _ _ ?_ (fun hHeld => ?_); (focus ((try dsimp only); (refine ⟨?_, ?_⟩ <;> exact bxc))); clear hK K; (try simp only [Act.put, List.setIfInBounds_toArray, List.set_cons_zero, List.set_cons_succ]); (refine wpAnyH_ready (rs := [15]) (by kernel_rfl) (by simp) ?_; refine AllReadyH.cons rfl (fun K hK => ?_) AllReadyH.nil; go_simp; (first | (go_at_call 20; refine (spec_l01Next _ _ _ _ (by first | exact Src.drewS hs7 | exact Src.drewS (hs7.alloc (.cells #[.int .i64 0, .int .i64 0] 68))) (by omega)).mono ?_; rintro e w9 ⟨r9, rfl, ⟨hr9, ht9⟩, hs9, hg9⟩; have zz9 := hg9.size; (try simp only [World.size_alloc, World.size_drew] at zz9); (first | (have bx : IBox w9 68 w7.heap.size [0, 0] := IBox.src (w := (w7.alloc (.cells #[.int .i64 0, .int .i64 0] 68)).drew) (show IBox (w7.alloc (.cells #[.int .i64 0, .int .i64 0] 68)) 68 w7.heap.size [0, 0] from IBox.new (w := w7) (T := 68) (l := [0, 0]) rfl) hg9 (by omega)) | skip); (first | (have om9 := OwnS.src (w := w7.drew) om hg9 (by omega)) | (have om9 := OwnS.src (w := (w7.alloc (.cells #[.int .i64 0, .int .i64 0] 68)).drew) (show OwnMo (w7.alloc (.cells #[.int .i64 0, .int .i64 0] 68)) _ _ _ _ from OwnS.next om (Below.new (Below.refl w7.heap.size w7) (.cells #[.int .i64 0, .int .i64 0] 68))) hg9 (by omega))); have cc9 := OwnMo.c01 om9 hx2H.out; have c09 := cc9.1; have c19 := cc9.2) | (go_at_call 20; refine (spec_l01Next _ _ _ _ (by first | exact hs9 | exact hs9.alloc _) (by omega)).mono ?_; rintro e w10 ⟨r10, rfl, ⟨hr10, ht10⟩, hs10, hg10⟩; have zz10 := hg10.size; (try simp only [World.size_alloc, World.size_drew] at zz10); (first | (have bx := IBox.src bx hg10 (by omega)) | (have bx : IBox w10 68 w9.heap.size [0, 0] := IBox.src (w := w9.alloc _) (IBox.new (w := w9) (T := 68) (l := [0, 0]) rfl) hg10 (by omega)) | skip); (first | (have om10 := OwnS.src om9 hg10 (by omega)) | (have om10 := OwnS.src (w := w9.alloc _) (OwnS.next om9 (Below.new (Below.refl _ _) _)) hg10 (by omega))); have cc10 := OwnMo.c01 om10 hx2H.out; have c010 := cc10.1; have c110 := cc10.2; (try (have kb0 := bx.cell (j := 0) rfl; have kb1 := bx.cell (j := 1) rfl; have kbf := bx.fz))) | skip); (try go_wp2_with fail); refine hK.out _ _ ?_ (fun hHeld => ?_); (focus ((try dsimp only); (refine ⟨?_, ?_⟩ <;> exact bxc))); clear hK K; (try simp only [Act.put, List.setIfInBounds_toArray, List.set_cons_zero, List.set_cons_succ])); (refine takeT (i := 16) (d := 81) rfl rfl (by kernel_rfl) (by kernel_rfl) (by kernel_rfl) (by rfl) (by assumption) (v := ?_) ?_ ?_; rotate_left; (focus (intro wq hSw; (try dsimp only at hSw); go_simp; (try (with_reducible rfl)); done)); (try simp only [Act.put, List.setIfInBounds_toArray, List.set_cons_zero, List.set_cons_succ])); (refine takeT (i := 17) (d := 82) rfl rfl (by kernel_rfl) (by kernel_rfl) (by kernel_rfl) (by rfl) (by assumption) (v := ?_) ?_ ?_; rotate_left; (focus (intro wq hSw; (try dsimp only at hSw); go_simp; (try (with_reducible rfl)); done)); (try simp only [Act.put, List.setIfInBounds_toArray, List.set_cons_zero, List.set_cons_succ])); (refine takeT (i := 18) (d := 83) rfl rfl (by kernel_rfl) (by kernel_rfl) (by kernel_rfl) (by rfl) (by assumption) (v := ?_) ?_ ?_; rotate_left; (focus (intro wq hSw; (try dsimp only at hSw); go_simp; (try (with_reducible rfl)); done)); (try simp only [Act.put, List.setIfInBounds_toArray, List.set_cons_zero, List.set_cons_succ])); (refine wpAnyH_ready (rs := [20]) (by kernel_rfl) (by simp) ?_; refine AllReadyH.cons rfl (fun K hK => ?_) AllReadyH.nil; go_simp; (first | (go_at_call 20; refine (spec_l01Next _ _ _ _ (by first | exact Src.drewS hs7 | exact Src.drewS (hs7.alloc (.cells #[.int .i64 0, .int .i64 0] 68))) (by omega)).mono ?_; rintro e w9 ⟨r9, rfl, ⟨hr9, ht9⟩, hs9, hg9⟩; have zz9 := hg9.size; (try simp only [World.size_alloc, World.size_drew] at zz9); (first | (have bx : IBox w9 68 w7.heap.size [0, 0] := IBox.src (w := (w7.alloc (.cells #[.int .i64 0, .int .i64 0] 68)).drew) (show IBox (w7.alloc (.cells #[.int .i64 0, .int .i64 0] 68)) 68 w7.heap.size [0, 0] from IBox.new (w := w7) (T := 68) (l := [0, 0]) rfl) hg9 (by omega)) | skip); (first | (have om9 := OwnS.src (w := w7.drew) om hg9 (by omega)) | (have om9 := OwnS.src (w := (w7.alloc (.cells #[.int .i64 0, .int .i64 0] 68)).drew) (show OwnMo (w7.alloc (.cells #[.int .i64 0, .int .i64 0] 68)) _ _ _ _ from OwnS.next om (Below.new (Below.refl w7.heap.size w7) (.cells #[.int .i64 0, .int .i64 0] 68))) hg9 (by omega))); have cc9 := OwnMo.c01 om9 hx2H.out; have c09 := cc9.1; have c19 := cc9.2) | (go_at_call 20; refine (spec_l01Next _ _ _ _ (by first | exact hs9 | exact hs9.alloc _) (by omega)).mono ?_; rintro e w10 ⟨r10, rfl, ⟨hr10, ht10⟩, hs10, hg10⟩; have zz10 := hg10.size; (try simp only [World.size_alloc, World.size_drew] at zz10); (first | (have bx := IBox.src bx hg10 (by omega)) | (have bx : IBox w10 68 w9.heap.size [0, 0] := IBox.src (w := w9.alloc _) (IBox.new (w := w9) (T := 68) (l := [0, 0]) rfl) hg10 (by omega)) | skip); (first | (have om10 := OwnS.src om9 hg10 (by omega)) | (have om10 := OwnS.src (w := w9.alloc _) (OwnS.next om9 (Below.new (Below.refl _ _) _)) hg10 (by omega))); have cc10 := OwnMo.c01 om10 hx2H.out; have c010 := cc10.1; have c110 := cc10.2; (try (have kb0 := bx.cell (j := 0) rfl; have kb1 := bx.cell (j := 1) rfl; have kbf := bx.fz))) | skip); (try go_wp2_with fail); refine hK.out _ _ ?_ (fun hHeld => ?_); (focus ((try dsimp only); (refine ⟨?_, ?_⟩ <;> exact bxc))); clear hK K; (try simp only [Act.put, List.setIfInBounds_toArray, List.set_cons_zero, List.set_cons_succ])); refine wpAnyH_done (by kernel_rfl) ?_ _; refine NoPanic.normal ?_; ((go_wp2_with fail); go_meet; (case rel => refine ⟨_, ?_, ?_, rfl, ?_, ?_, ?_, ?_⟩; rotate_left 2; (focus (first | exact (bx.set 0 _).set 1 _ | exact IBox.new (w := w10) (T := 68) (l := [_, _]) rfl)); (focus omega); (focus (first | exact (by repeat' (first | (with_reducible exact World.grownBy.refl _ _) | (with_reducible refine grownBy_setX ?_ (by omega)) | (with_reducible refine grownBy_alloc' ?_ _) | (with_reducible refine grownBy_drew ?_) | (refine grownBy_src ?_ (by with_reducible assumption)))))); (focus (exact (by repeat' (first | (with_reducible assumption) | (with_reducible refine Src.setX ?_ (by omega)) | (with_reducible refine Src.alloc ?_ _) | (with_reducible refine Src.drewS ?_))))))))))); (focus (go_simp; (first | (go_at_call 20; refine (spec_l01Next _ _ _ _ (by first | exact Src.drewS hs7 | exact Src.drewS (hs7.alloc (.cells #[.int .i64 0, .int .i64 0] 68))) (by omega)).mono ?_; rintro e w9 ⟨r9, rfl, ⟨hr9, ht9⟩, hs9, hg9⟩; have zz9 := hg9.size; (try simp only [World.size_alloc, World.size_drew] at zz9); (first | (have bx : IBox w9 68 w7.heap.size [0, 0] := IBox.src (w := (w7.alloc (.cells #[.int .i64 0, .int .i64 0] 68)).drew) (show IBox (w7.alloc (.cells #[.int .i64 0, .int .i64 0] 68)) 68 w7.heap.size [0, 0] from IBox.new (w := w7) (T := 68) (l := [0, 0]) rfl) hg9 (by omega)) | skip); (first | (have om9 := OwnS.src (w := w7.drew) om hg9 (by omega)) | (have om9 := OwnS.src (w := (w7.alloc (.cells #[.int .i64 0, .int .i64 0] 68)).drew) (show OwnMo (w7.alloc (.cells #[.int .i64 0, .int .i64 0] 68)) _ _ _ _ from OwnS.next om (Below.new (Below.refl w7.heap.size w7) (.cells #[.int .i64 0, .int .i64 0] 68))) hg9 (by omega))); have cc9 := OwnMo.c01 om9 hx2H.out; have c09 := cc9.1; have c19 := cc9.2) | (go_at_call 20; refine (spec_l01Next _ _ _ _ (by first | exact hs9 | exact hs9.alloc _) (by omega)).mono ?_; rintro e w10 ⟨r10, rfl, ⟨hr10, ht10⟩, hs10, hg10⟩; have zz10 := hg10.size; (try simp only [World.size_alloc, World.size_drew] at zz10); (first | (have bx := IBox.src bx hg10 (by omega)) | (have bx : IBox w10 68 w9.heap.size [0, 0] := IBox.src (w := w9.alloc _) (IBox.new (w := w9) (T := 68) (l := [0, 0]) rfl) hg10 (by omega)) | skip); (first | (have om10 := OwnS.src om9 hg10 (by omega)) | (have om10 := OwnS.src (w := w9.alloc _) (OwnS.next om9 (Below.new (Below.refl _ _) _)) hg10 (by omega))); have cc10 := OwnMo.c01 om10 hx2H.out; have c010 := cc10.1; have c110 := cc10.2; (try (have kb0 := bx.cell (j := 0) rfl; have kb1 := bx.cell (j := 1) rfl; have kbf := bx.fz))) | skip); (try go_wp2_with fail); refine hK.out _ _ ?_ (fun hHeld => ?_); (focus ((try dsimp only); (refine ⟨?_, ?_⟩ <;> exact bxc))); clear hK K; (try simp only [Act.put, List.setIfInBounds_toArray, List.set_cons_zero, List.set_cons_succ]); (refine wpAnyH_ready (rs := [6]) (by kernel_rfl) (by simp) ?_; refine AllReadyH.cons rfl (fun K hK => ?_) AllReadyH.nil; go_simp; (first | (go_at_call 20; refine (spec_l01Next _ _ _ _ (by first | exact Src.drewS hs7 | exact Src.drewS (hs7.alloc (.cells #[.int .i64 0, .int .i64 0] 68))) (by omega)).mono ?_; rintro e w9 ⟨r9, rfl, ⟨hr9, ht9⟩, hs9, hg9⟩; have zz9 := hg9.size; (try simp only [World.size_alloc, World.size_drew] at zz9); (first | (have bx : IBox w9 68 w7.heap.size [0, 0] := IBox.src (w := (w7.alloc (.cells #[.int .i64 0, .int .i64 0] 68)).drew) (show IBox (w7.alloc (.cells #[.int .i64 0, .int .i64 0] 68)) 68 w7.heap.size [0, 0] from IBox.new (w := w7) (T := 68) (l := [0, 0]) rfl) hg9 (by omega)) | skip); (first | (have om9 := OwnS.src (w := w7.drew) om hg9 (by omega)) | (have om9 := OwnS.src (w := (w7.alloc (.cells #[.int .i64 0, .int .i64 0] 68)).drew) (show OwnMo (w7.alloc (.cells #[.int .i64 0, .int .i64 0] 68)) _ _ _ _ from OwnS.next om (Below.new (Below.refl w7.heap.size w7) (.cells #[.int .i64 0, .int .i64 0] 68))) hg9 (by omega))); have cc9 := OwnMo.c01 om9 hx2H.out; have c09 := cc9.1; have c19 := cc9.2) | (go_at_call 20; refine (spec_l01Next _ _ _ _ (by first | exact hs9 | exact hs9.alloc _) (by omega)).mono ?_; rintro e w10 ⟨r10, rfl, ⟨hr10, ht10⟩, hs10, hg10⟩; have zz10 := hg10.size; (try simp only [World.size_alloc, World.size_drew] at zz10); (first | (have bx := IBox.src bx hg10 (by omega)) | (have bx : IBox w10 68 w9.heap.size [0, 0] := IBox.src (w := w9.alloc _) (IBox.new (w := w9) (T := 68) (l := [0, 0]) rfl) hg10 (by omega)) | skip); (first | (have om10 := OwnS.src om9 hg10 (by omega)) | (have om10 := OwnS.src (w := w9.alloc _) (OwnS.next om9 (Below.new (Below.refl _ _) _)) hg10 (by omega))); have cc10 := OwnMo.c01 om10 hx2H.out; have c010 := cc10.1; have c110 := cc10.2; (try (have kb0 := bx.cell (j := 0) rfl; have kb1 := bx.cell (j := 1) rfl; have kbf := bx.fz))) | skip); (try go_wp2_with fail); refine hK.out _ _ ?_ (fun hHeld => ?_); (focus ((try dsimp only); (refine ⟨?_, ?_⟩ <;> exact bxc))); clear hK K; (try simp only [Act.put, List.setIfInBounds_toArray, List.set_cons_zero, List.set_cons_succ])); (refine takeT (i := 7) (d := 72) rfl rfl (by kernel_rfl) (by kernel_rfl) (by kernel_rfl) (by rfl) (by assumption) (v := ?_) ?_ ?_; rotate_left; (focus (intro wq hSw; (try dsimp only at hSw); go_simp; (try (with_reducible rfl)); done)); (try simp only [Act.put, List.setIfInBounds_toArray, List.set_cons_zero, List.set_cons_succ])); (refine takeT (i := 8) (d := 73) rfl rfl (by kernel_rfl) (by kernel_rfl) (by kernel_rfl) (by rfl) (by assumption) (v := ?_) ?_ ?_; rotate_left; (focus (intro wq hSw; (try dsimp only at hSw); go_simp; (try (with_reducible rfl)); done)); (try simp only [Act.put, List.setIfInBounds_toArray, List.set_cons_zero, List.set_cons_succ])); (refine wpAnyH_ready (rs := [15]) (by kernel_rfl) (by simp) ?_; refine AllReadyH.cons rfl (fun K hK => ?_) AllReadyH.nil; go_simp; (first | (go_at_call 20; refine (spec_l01Next _ _ _ _ (by first | exact Src.drewS hs7 | exact Src.drewS (hs7.alloc (.cells #[.int .i64 0, .int .i64 0] 68))) (by omega)).mono ?_; rintro e w9 ⟨r9, rfl, ⟨hr9, ht9⟩, hs9, hg9⟩; have zz9 := hg9.size; (try simp only [World.size_alloc, World.size_drew] at zz9); (first | (have bx : IBox w9 68 w7.heap.size [0, 0] := IBox.src (w := (w7.alloc (.cells #[.int .i64 0, .int .i64 0] 68)).drew) (show IBox (w7.alloc (.cells #[.int .i64 0, .int .i64 0] 68)) 68 w7.heap.size [0, 0] from IBox.new (w := w7) (T := 68) (l := [0, 0]) rfl) hg9 (by omega)) | skip); (first | (have om9 := OwnS.src (w := w7.drew) om hg9 (by omega)) | (have om9 := OwnS.src (w := (w7.alloc (.cells #[.int .i64 0, .int .i64 0] 68)).drew) (show OwnMo (w7.alloc (.cells #[.int .i64 0, .int .i64 0] 68)) _ _ _ _ from OwnS.next om (Below.new (Below.refl w7.heap.size w7) (.cells #[.int .i64 0, .int .i64 0] 68))) hg9 (by omega))); have cc9 := OwnMo.c01 om9 hx2H.out; have c09 := cc9.1; have c19 := cc9.2) | (go_at_call 20; refine (spec_l01Next _ _ _ _ (by first | exact hs9 | exact hs9.alloc _) (by omega)).mono ?_; rintro e w10 ⟨r10, rfl, ⟨hr10, ht10⟩, hs10, hg10⟩; have zz10 := hg10.size; (try simp only [World.size_alloc, World.size_drew] at zz10); (first | (have bx := IBox.src bx hg10 (by omega)) | (have bx : IBox w10 68 w9.heap.size [0, 0] := IBox.src (w := w9.alloc _) (IBox.new (w := w9) (T := 68) (l := [0, 0]) rfl) hg10 (by omega)) | skip); (first | (have om10 := OwnS.src om9 hg10 (by omega)) | (have om10 := OwnS.src (w := w9.alloc _) (OwnS.next om9 (Below.new (Below.refl _ _) _)) hg10 (by omega))); have cc10 := OwnMo.c01 om10 hx2H.out; have c010 := cc10.1; have c110 := cc10.2; (try (have kb0 := bx.cell (j := 0) rfl; have kb1 := bx.cell (j := 1) rfl; have kbf := bx.fz))) | skip); (try go_wp2_with fail); refine hK.out _ _ ?_ (fun hHeld => ?_); (focus ((try dsimp only); (refine ⟨?_, ?_⟩ <;> exact bxc))); clear hK K; (try simp only [Act.put, List.setIfInBounds_toArray, List.set_cons_zero, List.set_cons_succ])); (refine takeT (i := 16) (d := 81) rfl rfl (by kernel_rfl) (by kernel_rfl) (by kernel_rfl) (by rfl) (by assumption) (v := ?_) ?_ ?_; rotate_left; (focus (intro wq hSw; (try dsimp only at hSw); go_simp; (try (with_reducible rfl)); done)); (try simp only [Act.put, List.setIfInBounds_toArray, List.set_cons_zero, List.set_cons_succ])); (refine takeT (i := 17) (d := 82) rfl rfl (by kernel_rfl) (by kernel_rfl) (by kernel_rfl) (by rfl) (by assumption) (v := ?_) ?_ ?_; rotate_left; (focus (intro wq hSw; (try dsimp only at hSw); go_simp; (try (with_reducible rfl)); done)); (try simp only [Act.put, List.setIfInBounds_toArray, List.set_cons_zero, List.set_cons_succ])); (refine takeT (i := 18) (d := 83) rfl rfl (by kernel_rfl) (by kernel_rfl) (by kernel_rfl) (by rfl) (by assumption) (v := ?_) ?_ ?_; rotate_left; (focus (intro wq hSw; (try dsimp only at hSw); go_simp; (try (with_reducible rfl)); done)); (try simp only [Act.put, List.setIfInBounds_toArray, List.set_cons_zero, List.set_cons_succ])); (refine wpAnyH_ready (rs := [20]) (by kernel_rfl) (by simp) ?_; refine AllReadyH.cons rfl (fun K hK => ?_) AllReadyH.nil; go_simp; (first | (go_at_call 20; refine (spec_l01Next _ _ _ _ (by first | exact Src.drewS hs7 | exact Src.drewS (hs7.alloc (.cells #[.int .i64 0, .int .i64 0] 68))) (by omega)).mono ?_; rintro e w9 ⟨r9, rfl, ⟨hr9, ht9⟩, hs9, hg9⟩; have zz9 := hg9.size; (try simp only [World.size_alloc, World.size_drew] at zz9); (first | (have bx : IBox w9 68 w7.heap.size [0, 0] := IBox.src (w := (w7.alloc (.cells #[.int .i64 0, .int .i64 0] 68)).drew) (show IBox (w7.alloc (.cells #[.int .i64 0, .int .i64 0] 68)) 68 w7.heap.size [0, 0] from IBox.new (w := w7) (T := 68) (l := [0, 0]) rfl) hg9 (by omega)) | skip); (first | (have om9 := OwnS.src (w := w7.drew) om hg9 (by omega)) | (have om9 := OwnS.src (w := (w7.alloc (.cells #[.int .i64 0, .int .i64 0] 68)).drew) (show OwnMo (w7.alloc (.cells #[.int .i64 0, .int .i64 0] 68)) _ _ _ _ from OwnS.next om (Below.new (Below.refl w7.heap.size w7) (.cells #[.int .i64 0, .int .i64 0] 68))) hg9 (by omega))); have cc9 := OwnMo.c01 om9 hx2H.out; have c09 := cc9.1; have c19 := cc9.2) | (go_at_call 20; refine (spec_l01Next _ _ _ _ (by first | exact hs9 | exact hs9.alloc _) (by omega)).mono ?_; rintro e w10 ⟨r10, rfl, ⟨hr10, ht10⟩, hs10, hg10⟩; have zz10 := hg10.size; (try simp only [World.size_alloc, World.size_drew] at zz10); (first | (have bx := IBox.src bx hg10 (by omega)) | (have bx : IBox w10 68 w9.heap.size [0, 0] := IBox.src (w := w9.alloc _) (IBox.new (w := w9) (T := 68) (l := [0, 0]) rfl) hg10 (by omega)) | skip); (first | (have om10 := OwnS.src om9 hg10 (by omega)) | (have om10 := OwnS.src (w := w9.alloc _) (OwnS.next om9 (Below.new (Below.refl _ _) _)) hg10 (by omega))); have cc10 := OwnMo.c01 om10 hx2H.out; have c010 := cc10.1; have c110 := cc10.2; (try (have kb0 := bx.cell (j := 0) rfl; have kb1 := bx.cell (j := 1) rfl; have kbf := bx.fz))) | skip); (try go_wp2_with fail); refine hK.out _ _ ?_ (fun hHeld => ?_); (focus ((try dsimp only); (refine ⟨?_, ?_⟩ <;> exact bxc))); clear hK K; (try simp only [Act.put, List.setIfInBounds_toArray, List.set_cons_zero, List.set_cons_succ])); refine wpAnyH_done (by kernel_rfl) ?_ _; refine NoPanic.normal ?_; ((go_wp2_with fail); go_meet; (case rel => refine ⟨_, ?_, ?_, rfl, ?_, ?_, ?_, ?_⟩; rotate_left 2; (focus (first | exact (bx.set 0 _).set 1 _ | exact IBox.new (w := w10) (T := 68) (l := [_, _]) rfl)); (focus omega); (focus (first | exact (by repeat' (first | (with_reducible exact World.grownBy.refl _ _) | (with_reducible refine grownBy_setX ?_ (by omega)) | (with_reducible refine grownBy_alloc' ?_ _) | (with_reducible refine grownBy_drew ?_) | (refine grownBy_src ?_ (by with_reducible assumption)))))); (focus (exact (by repeat' (first | (with_reducible assumption) | (with_reducible refine Src.setX ?_ (by omega)) | (with_reducible refine Src.alloc ?_ _) | (with_reducible refine Src.drewS ?_))))))))))
                case rest =>
                  obtain ⟨X, a, b, rfl, cb, zX, Gx, hs9⟩ := hcut
                  have oc := OwnS.top (OwnS.src oc Gx (by omega))
                  have ol := ol.src Gx (by omega)
                  have om := OwnS.src om Gx (by omega)
                  have G9 := grownBy_src G7 Gx
                  have zr9 := Gx.size
                  clear Gx hs7 G7 c0 c1
                  go_wp2_with fail
                  refine (spec_l01Next _ _ _ _ hs9 (by omega)).mono ?_
                  rintro e w11 ⟨r11, rfl, ⟨hr11, ht11⟩, hs11, hg11⟩
                  have oc := OwnS.top (OwnS.src oc hg11 (by omega))
                  have ol := ol.src hg11 (by omega)
                  have om := OwnS.src om hg11 (by omega)
                  have cb := cb.src hg11 (by omega)
                  have G11 := grownBy_src G9 hg11
                  have zr11 := hg11.size
                  clear hg11 hs9 G9
                  have cb0 := cb.cell (j := 0) rfl
                  have cb1 := cb.cell (j := 1) rfl
                  by_cases hr : 0 < r11
                  · go_wp2_with fail
                    refine (spec_l14Contact _ _ _).mono ?_
                    rintro e w12 ⟨rfl, hb12⟩
                    have oc := OwnS.top (OwnS.next oc hb12)
                    have ol := ol.next hb12
                    have om := OwnS.next om hb12
                    have cb := cb.next hb12
                    have hs12 := Src.below hs11 hb12
                    have G12 := grownBy_below G11 hb12 (by have := G11.size; exact this)
                    have zr12 := hb12.size
                    clear hb12 hs11 G11 cb0 cb1
                    have cb0 := cb.cell (j := 0) rfl
                    have cb1 := cb.cell (j := 1) rfl
                    cases coB a b
                    · go_wp2_with fail
                      go_roundw
                      case rel => exact ⟨_, _, j + 1, _, rfl, by go_num, by omega, by omega, hl2H, oc, ol, om, by omega, hs12, G12⟩
                      case measure => simp [intOf]; omega
                    · go_wp2_with (at_builtin; refine push_Ct w12.heap.size (by simp) oc rfl _ _ (by rfl) (by rfl) (by rfl) (by omega) (by omega) ?_; intro v13 w13 oc13 hb13 hg13)
                      have ol := ol.past hb13 (Nat.le_refl _)
                      have om := OwnS.past om hb13 (by omega)
                      have hs13 := Src.push hs12 oc hg13 (by omega)
                      have G13 := grownBy_below G12 hb13 (by omega)
                      have zr13 := hb13.size
                      go_roundw
                      case rel => exact ⟨_, _, j + 1, _, rfl, by go_num, by omega, by simp; omega, hl2H, oc13, ol, om, by omega, hs13, G13⟩
                      case measure => simp [intOf]; omega
                  · go_wp2_with fail
                    go_roundw
                    case rel => exact ⟨_, _, j + 1, _, rfl, by go_num, by omega, by omega, hl2H, oc, ol, om, by omega, hs11, G11⟩
                    case measure => simp [intOf]; omega
              · go_wp2_with fail
                refine (spec_l01Next _ _ _ _ hsr (by omega)).mono ?_
                rintro e w6 ⟨r6, rfl, ⟨hr6, ht6⟩, hs6, hg6⟩
                have oc := OwnS.top (OwnS.src oc hg6 (by omega))
                have ol := ol.src hg6 (by omega)
                have om := OwnS.src om hg6 (by omega)
                have G6 := grownBy_src G hg6
                have zr6 := hg6.size
                clear hg6 hsr G
                by_cases q6 : r6 = 0
                · subst q6
                  go_wp2_with fail
                  refine (spec_l01Next _ _ _ _ hs6 (by omega)).mono ?_
                  rintro e w7 ⟨r7, rfl, ⟨hr7, ht7⟩, hs7, hg7⟩
                  have oc := OwnS.top (OwnS.src oc hg7 (by omega))
                  have ol := ol.src hg7 (by omega)
                  have om := OwnS.src om hg7 (by omega)
                  have G7 := grownBy_src G6 hg7
                  have zr7 := hg7.size
                  clear hg7 hs6 G6
                  go_wp2_with fail
                  refine (spec_l01Next _ _ _ _ hs7 (by omega)).mono ?_
                  rintro e w8 ⟨r8, rfl, ⟨hr8, ht8⟩, hs8, hg8⟩
                  have oc := OwnS.top (OwnS.src oc hg8 (by omega))
                  have ol := ol.src hg8 (by omega)
                  have om := OwnS.src om hg8 (by omega)
                  have G8 := grownBy_src G7 hg8
                  have zr8 := hg8.size
                  clear hg8 hs7 G7

                  go_wp2_with (first | (at_builtin; refine push_Ct w8.heap.size (by simp) oc rfl _ _ (by rfl) (by rfl) (by rfl) (by omega) (by omega) ?_; intro v9 w9 oc9 hb9 hg9; have ol := ol.past hb9 (Nat.le_refl _); have om := OwnS.past om hb9 (by omega); have hs9 := Src.push hs8 oc hg9 (by omega); have G9 := grownBy_below G8 hb9 (by omega); have zr9 := hb9.size; have ol := OwnRw.top ol; (generalize hcs9 : cs ++ [_] = cs9 at oc9); have hl9 : cs9.length ≤ cs.length + 1 := (by rw [← hcs9]; simp); clear hcs9; obtain ⟨A9, c9, rfl⟩ := OwnS.form oc9; have oc : OwnCt w9 M w9.heap.size _ _ := OwnS.mono oc9 (by omega) (Nat.le_refl _); clear oc9 hb9 hg9 hs8 G8) | (at_builtin; refine push_rw w9.heap.size (by simp) ol oc rfl _ _ (by rfl) (by rfl) (by rfl) (by omega) (by omega) ?_; intro v16 w16 ol16 hb16 hg16; have om := OwnS.past om hb16 (Nat.le_refl _); have hs16 : Src w16 B g := hs9.other hg16 (fun q hq => by have := (ol.lt q hq).1; omega); have G16 := grownBy_below G9 hb16 (by omega); have zr16 := hb16.size))
                  go_roundw
                  case rel => exact ⟨_, _, k - 1, _, rfl, rfl, by omega, by simp; omega, hml, fun i cs' hi => (by
                    rcases Nat.lt_or_ge i css.length with h | h
                    · rw [List.getElem?_append_left h] at hi; exact h5.out i cs' hi
                    · rw [List.getElem?_append_right h] at hi
                      have e : i - css.length = 0 := by have := lt_of_get hi; simp at this; omega
                      rw [e] at hi; simp at hi; subst hi; omega), ol16, om, by omega, hs16, G16⟩
                  case measure => simp [intOf]; omega
                · have e6 : (r6 == 0) = false := by simpa using q6
                  have ol := OwnRw.top ol
                  have oc : OwnCt w6 M w6.heap.size _ _ := OwnS.mono oc (by omega) (Nat.le_refl _)
                  go_wp2_with (at_builtin; refine push_rw w6.heap.size (by simp) ol oc rfl _ _ (by rfl) (by rfl) (by rfl) (by omega) (by omega) ?_; intro v16 w16 ol16 hb16 hg16; have om := OwnS.past om hb16 (Nat.le_refl _); have hs16 : Src w16 B g := hs6.other hg16 (fun q hq => by have := (ol.lt q hq).1; omega); have G16 := grownBy_below G6 hb16 (by omega); have zr16 := hb16.size)
                  go_roundw
                  case rel => exact ⟨_, _, k - 1, _, rfl, rfl, by omega, by simp; omega, hml, fun i cs' hi => (by
                    rcases Nat.lt_or_ge i css.length with h | h
                    · rw [List.getElem?_append_left h] at hi; exact h5.out i cs' hi
                    · rw [List.getElem?_append_right h] at hi
                      have e : i - css.length = 0 := by have := lt_of_get hi; simp at this; omega
                      rw [e] at hi; simp at hi; subst hi; omega), ol16, om, by omega, hs16, G16⟩
                  case measure => simp [intOf]; omega
          · have hk0 : k = 0 := by omega
            subst hk0
            go_wp2_with fail
            go_ret
            exact ⟨_, css, rfl, OwnRw.mono ol zM (Nat.le_refl _), by omega, h5.out, hsr, G⟩
end Go.Proofs.YthbljfanoaibkaaGreatDoor
