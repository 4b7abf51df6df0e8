/- Several texts in one: DrZ, DrS. No condition of its own. Printed by mergeclaim.py. -/
import Derived.Test.YthbljfanoaibkaaGreatDoorDrY
import Derived.Test.YthbljfanoaibkaaGreatDoorDrT
import Derived.Test.YthbljfanoaibkaaGreatDoorMSt
import Derived.Test.YthbljfanoaibkaaGreatDoorVBox
import Derived.Test.YthbljfanoaibkaaGreatDoorMKit
import Derived.Test.YthbljfanoaibkaaGreatDoorRwA
namespace Go.Proofs.YthbljfanoaibkaaGreatDoor
open Go.RowKit Go.ChangeShapes Go.WideShapes Go.ChangeAt
set_option linter.unusedVariables false
set_option linter.unusedSimpArgs false
theorem below_rowZ {w W w1 : World} {g : Nat} (h : Below w.heap.size w W) (hg : W.grownBy w1 (some g)) (hB : w.heap.size ≤ g) : Below w.heap.size w w1 :=
  ⟨hg.os.trans h.os, hg.tape.trans h.tape, hg.output.trans h.output, Nat.le_trans h.size hg.size, fun k hk => (hg.block k (Nat.lt_of_lt_of_le hk h.size) (by simp; omega)).trans (h.block k hk)⟩
theorem OwnS.setN {α : Type} {cl : α → List Int} {T : TypeId} {k : Nat} {w : World} {lo hi X o : Nat} {v u : Value} {xs : List α} (h : OwnS cl T k w lo hi v xs) (hne : v.ownBlock ≠ some X) : OwnS cl T k (w.setCell ⟨X, o, none⟩ u) lo hi v xs :=
  h.kept (row := some X) ⟨rfl, rfl, rfl, by simp [World.setCell], fun i hi hne => Below.heap_setCell w ⟨X, o, none⟩ u i (fun e => hne (by rw [e]))⟩ (.inr hne)
theorem OwnT.set0 {w : World} {lo hi n c : Nat} {A : Option Addr} {ts : List Tr} {x y p q s t u r : Int} (h : OwnT w lo hi (.slice A n c) (⟨x, y, p, q, s, t, u, r⟩ :: ts)) :
    ∃ g, A = some ⟨g, 0, none⟩ ∧ lo ≤ g ∧ g < hi ∧ g < w.heap.size ∧ (w.cell? ⟨g, 0, none⟩ = some (.int .i64 x) ∧ w.cell? ⟨g, 1, none⟩ = some (.int .i64 y) ∧ w.cell? ⟨g, 2, none⟩ = some (.int .i64 p) ∧ w.cell? ⟨g, 3, none⟩ = some (.int .i64 q) ∧ w.cell? ⟨g, 4, none⟩ = some (.int .i64 s) ∧ w.cell? ⟨g, 5, none⟩ = some (.int .i64 t) ∧ w.cell? ⟨g, 6, none⟩ = some (.int .i64 u) ∧ w.cell? ⟨g, 7, none⟩ = some (.int .i64 r)) ∧ (∀ o, w.frozen? ⟨g, o, none⟩ = false) ∧
    ∀ a0 a1 a2 a3 a4 a5 a6 a7 : Int, OwnT (memRun w g 0 [a0, a1, a2, a3, a4, a5, a6, a7]) lo hi (.slice (some ⟨g, 0, none⟩) n c) (⟨a0, a1, a2, a3, a4, a5, a6, a7⟩ :: ts) ∧ w.grownBy (memRun w g 0 [a0, a1, a2, a3, a4, a5, a6, a7]) (some g) := by
  obtain ⟨g, h1, h2, h3, h4, h5, h6, h7⟩ := OwnS.cell trl_len (by omega) (i := 0) h rfl
  have e : ∀ (j : Nat) (v : Int), (trl ⟨x, y, p, q, s, t, u, r⟩)[j]? = some v → w.cell? ⟨g, j, none⟩ = some (.int .i64 v) := fun j v hv => by have := h5 j v hv; rwa [Nat.zero_mul, Nat.zero_add] at this
  refine ⟨g, h1, h2, h3, h4, ⟨e 0 x rfl, e 1 y rfl, e 2 p rfl, e 3 q rfl, e 4 s rfl, e 5 t rfl, e 6 u rfl, e 7 r rfl⟩, h6, fun a0 a1 a2 a3 a4 a5 a6 a7 => ?_⟩
  have := h7 ⟨a0, a1, a2, a3, a4, a5, a6, a7⟩
  rw [Nat.zero_mul] at this
  exact this
theorem OwnS.hi_ {α : Type} {cl : α → List Int} {T : TypeId} {k : Nat} {w : World} {lo hi : Nat} {v : Value} {xs : List α} (h : OwnS cl T k w lo hi v xs) : ∀ q, v.ownBlock = some q → q < hi := by
  obtain ⟨_, hq⟩ := h
  exact hq
/-- rows of different kinds lie in different blocks -/
theorem OwnS.neB {α β : Type} {cl : α → List Int} {cl' : β → List Int} {T T' : TypeId} {k k' : Nat} {w : World} {lo hi lo' hi' g : Nat} {v v' : Value} {xs : List α} {ys : List β} (h : OwnS cl T k w lo hi v xs) (h' : OwnS cl' T' k' w lo' hi' v' ys) (hT : T ≠ T') (hg : v.ownBlock = some g) : v'.ownBlock = none ∨ v'.ownBlock ≠ some g := by
  obtain ⟨⟨A, c, rfl, ho⟩, _⟩ := h
  obtain ⟨⟨A', c', rfl, ho'⟩, _⟩ := h'
  cases hz : (Value.slice A' ys.length c').ownBlock with
  | none => exact .inl rfl
  | some q =>
    refine .inr fun e => ?_
    obtain rfl : q = g := by injection e
    obtain ⟨c1, f1, e1⟩ := Lib.ownsRow_kind ho _ hg
    obtain ⟨c2, f2, e2⟩ := Lib.ownsRow_kind ho' _ hz
    rw [e1] at e2
    simp at e2
    exact hT e2.2.1
/-- a picture and contacts that were drawn -/
def DrawnPic (w : World) (B g : Nat) (e : Ending) (w' : World) : Prop := ∃ A c ts s d A2 c2 cs, e = .returned (.tuple #[.agg #[.slice A ts.length c, .int .i64 s, .int .i64 d], .slice A2 cs.length c2]) ∧ T64 w' w'.heap.size A ts ∧ C64 w' w'.heap.size A2 cs ∧ ts.length ≤ 6 ∧ cs.length ≤ 7 ∧ (∀ b o, A = some ⟨b, o, none⟩ → w.heap.size < b) ∧ (∀ b o, A2 = some ⟨b, o, none⟩ → w.heap.size < b) ∧ Src w' B g ∧ w.grownBy w' (some g)
set_option maxRecDepth 100000 in
set_option maxHeartbeats 6400000 in
theorem spec_l17Draw (B g : Nat) (w : World) (hs : Src w B g) : Calls Tryz.prog 49 #[.pointer (some ⟨g, 0, none⟩)] w (DrawnPic w B g) := by
  have hlt := hs.lt
  go_enter Tryz.func49, Tryz.ntmps49
  go_wp2_with fail
  refine calls_gen (fun W0 hW0 => ?_)
  have rb : VBox W0 28 w.heap.size [.slice none 0 0, .int .i64 0, .int .i64 0] := by rw [hW0]; exact VBox.new rfl
  have hs0 : Src W0 B g := by rw [hW0]; exact hs.alloc _
  have G : w.grownBy W0 (some g) := by rw [hW0]; exact grownBy_alloc' (World.grownBy.refl _ _) _
  obtain ⟨K, hK⟩ : ∃ K, K = W0.heap.size := ⟨_, rfl⟩
  have zK : w.heap.size < K := by rw [hK]; exact rb.lt
  clear hW0 hs
  refine (spec_l17DrawScans _ _ 9 _ hs0 (by omega) (by omega)).mono ?_
  rintro e w1 ⟨v, css, rfl, ol, hlen, hrow, hs1, hg1⟩
  have rb := rb.src hg1 (by omega)
  have G := grownBy_src G hg1
  rw [← hK] at ol
  obtain ⟨Av, cv, rfl⟩ := OwnRw.form ol
  have hcap := ol.cap
  have zK1 : K ≤ w1.heap.size := by rw [hK]; exact hg1.size
  have hrowH := Lib.hid hrow
  clear hg1 hs0 hK hrow
  go_upto_if 13 with fail
  refine wp_gen (fun W2 hW2 => ?_)
  have oc : OwnCt W2 K W2.heap.size (.slice (some ⟨w1.heap.size, 0, none⟩) 0 0) [] := by rw [hW2]; exact OwnS.mono (OwnS.top (OwnS.lit0 (cl := ctl) (T := 68) (k := 2) (W := w1) (Nat.le_refl _))) zK1 (Nat.le_refl _)
  have ol : OwnRw W2 K W2.heap.size (.slice Av css.length cv) css := by rw [hW2]; exact OwnRw.top (ol.alloc _)
  have rb : VBox W2 28 w.heap.size [.slice none 0 0, .int .i64 0, .int .i64 0] := by rw [hW2]; exact rb.alloc _
  have hs2 : Src W2 B g := by rw [hW2]; exact hs1.alloc _
  have G : w.grownBy W2 (some g) := by rw [hW2]; exact grownBy_alloc' G _
  have zK2 : K ≤ W2.heap.size := by rw [hW2]; simp; omega
  clear hW2 hs1
  go_cut [4, 5] (fun l9 c9 wx => wx = W2 ∧ ∃ (n : Nat) (css : List Cts) (A5 : Option Addr) (c5 : Nat) (cs : Cts) (cv : Nat), l9 = .slice Av n cv ∧ c9 = .slice A5 cs.length c5 ∧ Hid (css.length = n) ∧ n ≤ 9 ∧ Hid (∀ (i : Nat) (cs : Cts), css[i]? = some cs → cs.length ≤ 5) ∧ cs.length ≤ 6 ∧ OwnRw W2 K W2.heap.size (.slice Av n cv) css ∧ OwnCt W2 K W2.heap.size (.slice A5 cs.length c5) cs)
  case first =>
    rcases Nat.eq_zero_or_pos css.length with h0 | h0
    · have e0 : ((0 : Int) < ((css.length : Nat) : Int)) = False := by simp [h0]
      have e1 : decide ((0 : Int) < ((css.length : Nat) : Int)) = false := by simp [h0]
      go_wp2_with fail
      all_goals go_meet
      all_goals (case rel => exact ⟨rfl, css.length, css, _, _, [], cv, rfl, rfl, rfl, by omega, hrowH.out, by simp, ol, oc⟩)
    · obtain ⟨n, hn⟩ : ∃ n, css.length = n + 1 := ⟨css.length - 1, by omega⟩
      obtain ⟨cs, hcs⟩ := get_of_lt (xs := css) (k := n) (by omega)
      obtain ⟨g4, A5, c5, rfl, z1, z2, hc4, ho4⟩ := ol.at_ hcs
      have hr5 := hrowH.out n cs hcs
      have htk := ol.take (k := n) (by omega)
      have hltk : (css.take n).length = n := by rw [List.length_take]; omega
      have hltkH := Lib.hid hltk
      have htH : Hid (∀ (i : Nat) (cs : Cts), (css.take n)[i]? = some cs → cs.length ≤ 5) := fun i cs h => hrowH.out i cs (by
        rw [List.getElem?_take] at h
        split at h
        · exact h
        · cases h)
      rw [hn] at ol hcap hlen ⊢
      have p0 : (0 : Int) ≤ (n : Int) := by omega
      have p1 : (n : Int) < ((n + 1 : Nat) : Int) := by omega
      have p2 : (0 : Int) < ((n + 1 : Nat) : Int) := by omega
      have p3 : n ≤ cv := by omega
      clear hn hcs hltk h0
      go_wp2_with fail
      all_goals go_meet
      all_goals (case rel => exact ⟨rfl, n, css.take n, _, _, cs, _, rfl, rfl, hltkH, by omega, htH, by omega, htk, ho4⟩)
  case rest =>
    clear ol oc hrowH hcap hlen
    obtain ⟨rfl, n, css, A5, c5, cs, cv, rfl, rfl, hnl, hn9, hrow, hc6, ol, oc⟩ := hcut
    have hRP : ∀ w', CC64 w' w'.heap.size Av css → Calls Tryz.prog 7 #[.slice Av n cv] w' fun e w'' => ∃ v, e = .returned (.tuple #[.agg #[v, .int .i64 (rpS css), .int .i64 (rpD css)], .int .i64 (scCode 60 css)]) ∧ OwnT w'' w'.heap.size w''.heap.size v (rpT css) ∧ Below w'.heap.size w' w'' := fun w' h => by
      have := spec_RunPicture Av cv css w' h (by have := hnl.out; omega) (fun i cs hi => by have := hrow.out i cs hi; omega)
      rw [hnl.out] at this
      exact this
    have htl := rpT_len (css := css)
    obtain ⟨ts, hts⟩ : ∃ ts, ts = rpT css := ⟨_, rfl⟩
    obtain ⟨s0, hs0⟩ : ∃ z, z = rpS css := ⟨_, rfl⟩
    obtain ⟨d0, hd0⟩ : ∃ z, z = rpD css := ⟨_, rfl⟩
    obtain ⟨k0, hk0⟩ : ∃ z, z = scCode 60 css := ⟨_, rfl⟩
    rw [← hts, ← hs0, ← hd0, ← hk0] at hRP
    rw [← hts] at htl
    have hRPH := Lib.hid hRP
    have rdc := ol.rd.2
    clear hRP hts hs0 hd0 hk0
    go_wp2_with fail
    refine (hRPH.out _ rdc).mono ?_
    rintro e w3 ⟨v3, rfl, oT, hb3⟩
    have oT : OwnT w3 K w3.heap.size v3 ts := OwnS.mono oT zK2 (Nat.le_refl _)
    have zK3 : K ≤ w3.heap.size := Nat.le_trans zK2 hb3.size
    have oc := OwnS.top (OwnS.next oc hb3)
    have rb := rb.next hb3
    have hs3 := Src.below hs2 hb3
    have G3 := grownBy_below G hb3 (by have := G.size; exact this)
    obtain ⟨A3, c3, rfl⟩ := OwnS.form oT
    clear hb3 hs2 G ol rdc hRPH hnl hrow
    go_wp2_with fail
    refine calls_gen (fun W4 hW4 => ?_)
    obtain ⟨X, hX⟩ : ∃ X, X = w3.heap.size := ⟨_, rfl⟩
    have pb : VBox W4 28 X [.slice A3 ts.length c3, .int .i64 s0, .int .i64 d0] := by rw [hW4, hX]; exact VBox.new rfl
    have rb : VBox W4 28 w.heap.size [.slice none 0 0, .int .i64 0, .int .i64 0] := by rw [hW4]; exact rb.alloc _
    have oT : OwnT W4 K X (.slice A3 ts.length c3) ts := by rw [hW4, hX]; exact OwnS.next oT (Below.new (Below.refl _ _) _)
    have oc : OwnCt W4 K X (.slice A5 cs.length c5) cs := by rw [hW4, hX]; exact OwnS.next oc (Below.new (Below.refl _ _) _)
    have hs4 : Src W4 B g := by rw [hW4]; exact hs3.alloc _
    have G4 : w.grownBy W4 (some g) := by rw [hW4]; exact grownBy_alloc' G3 _
    have zgX : g < X := by rw [hX]; exact hs3.lt.2
    have zKX : K ≤ X := by rw [hX]; have := zK3; omega
    rw [← hX]
    clear hW4 hX hs3 G3 zK3
    refine (spec_l01Next _ _ _ _ hs4 (by omega)).mono ?_
    rintro e w5 ⟨r5, rfl, ⟨hr5, ht5⟩, hs5, hg5⟩
    have pb := pb.src hg5 (by omega)
    have rb := rb.src hg5 (by omega)
    have oT := OwnS.src oT hg5 (by omega)
    have oc := OwnS.src oc hg5 (by omega)
    have G5 := grownBy_src G4 hg5
    have zX5 := pb.lt
    clear hg5 hs4 G4
    go_upto_if 32 with fail
    go_cut [5] (fun c9 wx => ∃ (A5 : Option Addr) (c5 : Nat) (cs : Cts), c9 = .slice A5 cs.length c5 ∧ cs.length ≤ 7 ∧ OwnCt wx K wx.heap.size (.slice A5 cs.length c5) cs ∧ Hid ((Value.slice A5 cs.length c5).ownBlock ≠ some X) ∧ OwnT wx K X (.slice A3 ts.length c3) ts ∧ VBox wx 28 X [.slice A3 ts.length c3, .int .i64 s0, .int .i64 d0] ∧ VBox wx 28 w.heap.size [.slice none 0 0, .int .i64 0, .int .i64 0] ∧ Src wx B g ∧ w.grownBy wx (some g))
    case first =>
      by_cases q5 : r5 = 0
      · subst q5
        go_wp2_with fail
        obtain ⟨N, hN⟩ : ∃ N, N = w5.heap.size := ⟨_, rfl⟩
        have zXN : X < N := by rw [hN]; exact zX5
        go_loopw [5] (fun x9 wr => ∃ (v : Value) (cs : Cts), v = x9 ∧ cs.length ≤ 6 ∧ OwnCt wr N wr.heap.size v cs ∧ OwnT wr K X (.slice A3 ts.length c3) ts ∧ VBox wr 28 X [.slice A3 ts.length c3, .int .i64 s0, .int .i64 d0] ∧ VBox wr 28 w.heap.size [.slice none 0 0, .int .i64 0, .int .i64 0] ∧ N ≤ wr.heap.size ∧ Src wr B g ∧ w.grownBy wr (some g)) (fun x9 _ => 6 - vlen x9)
        case atStart => exact ⟨_, [], rfl, by simp, by rw [hN]; exact OwnS.top (OwnS.lit0 (cl := ctl) (T := 68) (k := 2) (W := w5) (Nat.le_refl _)), OwnS.next oT (Below.new (Below.refl _ _) _), pb.alloc _, rb.alloc _, by rw [hN]; simp, hs5.alloc _, grownBy_alloc' G5 _⟩
        case round =>
          clear oT oc pb rb hs5 G5 hN zX5
          obtain ⟨v, cs, rfl, hl6, oc, oT, pb, rb, zN, hsr, G⟩ := hrel
          obtain ⟨Ac, cc, rfl⟩ := OwnS.form oc
          by_cases hk : (cs.length : Int) < 6
          · go_wp2_with (at_builtin; refine push_Ct wr.heap.size (by simp) oc rfl _ _ (by rfl) (by rfl) (by rfl) (by omega) (by omega) ?_; intro v6 w6 oc6 hb6 hg6)
            have oT := OwnS.past oT hb6 (by omega)
            have pb := pb.below hb6 (by omega)
            have rb := rb.below hb6 (by omega)
            have hs6 := Src.push hsr oc hg6 (by omega)
            have G6 := grownBy_below G hb6 (by omega)
            have z6 := hb6.size
            obtain ⟨A6, c6, rfl⟩ := OwnS.form oc6
            go_roundw
            case rel => exact ⟨_, _, rfl, by simp; omega, oc6, oT, pb, rb, by omega, hs6, G6⟩
            case measure => simp [vlen]; omega
          · go_wp2_with fail
            go_meet
            case rel => exact ⟨Ac, cc, cs, rfl, by omega, OwnS.mono oc (by omega) (Nat.le_refl _), (fun e => by have := (oc.lt X e).1; omega), oT, pb, rb, hsr, G⟩
      · have e0 : (r5 == 0) = false := by simpa using q5
        go_wp2_with fail
        go_meet
        case rel => exact ⟨A5, c5, cs, rfl, by omega, OwnS.top oc, (fun e => by have := oc.2 X e; omega), oT, pb, rb, hs5, G5⟩
    case rest =>
      clear oT oc pb rb hs5 G5 zX5 hr5 ht5 hc6
      obtain ⟨A5, c5, cs, rfl, hc7, oc, ocX, oT, pb, rb, hs6, G6⟩ := hcut
      go_wp2_with fail
      refine (spec_l01Next _ _ _ _ hs6 (by omega)).mono ?_
      rintro e w7 ⟨r7, rfl, ⟨hr7, ht7⟩, hs7, hg7⟩
      have pb := pb.src hg7 (by omega)
      have rb := rb.src hg7 (by omega)
      have oT := OwnS.src oT hg7 (by omega)
      have oc := OwnS.top (OwnS.src oc hg7 (by omega))
      have G7 := grownBy_src G6 hg7
      have zX7 := pb.lt
      clear hg7 hs6 G6
      by_cases q0 : r7 = 0
      · subst q0
        go_wp2_with fail
        refine (pick3 _ _ _ _ _ _ _ (hs7.alloc _) (by exact heap_alloc_new _ _) (by omega)).mono ?_
        rintro e w8 ⟨r8, rfl, hr8, hs8, hg8⟩
        have pb := VBox.src (pb.alloc _) hg8 (by omega)
        have rb := VBox.src (rb.alloc _) hg8 (by omega)
        have oT := OwnS.src (OwnS.next oT (Below.new (Below.refl _ _) _)) hg8 (by omega)
        have oc := OwnS.top (OwnS.src (OwnS.next oc (Below.new (Below.refl _ _) _)) hg8 (by omega))
        have G8 := grownBy_src (grownBy_alloc' G7 _) hg8
        clear hg8 hs7 G7
        have p0 := pb.cell (j := 0) rfl
        have p1 := pb.cell (j := 1) rfl
        have p2 := pb.cell (j := 2) rfl
        have pf := pb.fz
        have b0 := rb.cell (j := 0) rfl
        have b1 := rb.cell (j := 1) rfl
        have b2 := rb.cell (j := 2) rfl
        have bf := rb.fz
        go_wp2_with fail
        all_goals ((try simp only [Exit.inBlock, Exit.then]); refine bodyPost_ret (by simp [results, Tryz.results49, go_sem, *]; try rfl) rfl ?_)
        all_goals (refine ⟨A3, c3, ts, _, _, A5, c5, cs, rfl, ?_, ?_, ?_, ?_, ?_, ?_, ?_, ?_⟩; (exact (OwnS.rdT (lo := K) (hi := X) (n := ts.length) (c := c3) (by repeat' (first | (with_reducible assumption) | (with_reducible refine OwnS.setN ?_ (fun e => by have h1 := (oT.lt _ e).1; have h2 := OwnS.hi_ oT _ e; omega)))))); (exact (OwnS.rd (cl := ctl) (T := 68) (k := 2) (lo := K) (hi := w8.heap.size) (n := cs.length) (c := c5) (by repeat' (first | (with_reducible assumption) | (with_reducible refine OwnS.setN ?_ ?_) | (exact ocX.out) | (intro e; have h1 := (oc.lt _ e).1; omega))))); (first | exact htl | omega); (first | exact hc7 | omega); (intro b o h; first | (subst h; have := (oT.lt b rfl).1; omega) | (injection h with h; injection h with h1 h2; have := (oT.lt g0 rfl).1; omega)); (intro b o h; subst h; have := (oc.lt b rfl).1; omega); (exact (by repeat' (first | (with_reducible assumption) | (with_reducible refine Src.setX ?_ (by omega)) | (with_reducible refine Src.alloc ?_ _) | (with_reducible refine Src.drewS ?_)))); (exact (by repeat' (first | (with_reducible assumption) | (with_reducible refine grownBy_setX ?_ (by omega)) | (with_reducible refine grownBy_alloc' ?_ _) | (with_reducible refine grownBy_drew ?_)))))
      have e0 : (r7 == 0) = false := by simpa using q0
      by_cases q1 : r7 = 1
      · subst q1
        go_wp2_with fail
        refine (pick3 _ _ _ _ _ _ _ (hs7.alloc _) (by exact heap_alloc_new _ _) (by omega)).mono ?_
        rintro e w8 ⟨r8, rfl, hr8, hs8, hg8⟩
        have pb := VBox.src (pb.alloc _) hg8 (by omega)
        have rb := VBox.src (rb.alloc _) hg8 (by omega)
        have oT := OwnS.src (OwnS.next oT (Below.new (Below.refl _ _) _)) hg8 (by omega)
        have oc := OwnS.top (OwnS.src (OwnS.next oc (Below.new (Below.refl _ _) _)) hg8 (by omega))
        have G8 := grownBy_src (grownBy_alloc' G7 _) hg8
        clear hg8 hs7 G7
        have p0 := pb.cell (j := 0) rfl
        have p1 := pb.cell (j := 1) rfl
        have p2 := pb.cell (j := 2) rfl
        have pf := pb.fz
        have b0 := rb.cell (j := 0) rfl
        have b1 := rb.cell (j := 1) rfl
        have b2 := rb.cell (j := 2) rfl
        have bf := rb.fz
        go_wp2_with fail
        all_goals ((try simp only [Exit.inBlock, Exit.then]); refine bodyPost_ret (by simp [results, Tryz.results49, go_sem, *]; try rfl) rfl ?_)
        all_goals (refine ⟨A3, c3, ts, _, _, A5, c5, cs, rfl, ?_, ?_, ?_, ?_, ?_, ?_, ?_, ?_⟩; (exact (OwnS.rdT (lo := K) (hi := X) (n := ts.length) (c := c3) (by repeat' (first | (with_reducible assumption) | (with_reducible refine OwnS.setN ?_ (fun e => by have h1 := (oT.lt _ e).1; have h2 := OwnS.hi_ oT _ e; omega)))))); (exact (OwnS.rd (cl := ctl) (T := 68) (k := 2) (lo := K) (hi := w8.heap.size) (n := cs.length) (c := c5) (by repeat' (first | (with_reducible assumption) | (with_reducible refine OwnS.setN ?_ ?_) | (exact ocX.out) | (intro e; have h1 := (oc.lt _ e).1; omega))))); (first | exact htl | omega); (first | exact hc7 | omega); (intro b o h; first | (subst h; have := (oT.lt b rfl).1; omega) | (injection h with h; injection h with h1 h2; have := (oT.lt g0 rfl).1; omega)); (intro b o h; subst h; have := (oc.lt b rfl).1; omega); (exact (by repeat' (first | (with_reducible assumption) | (with_reducible refine Src.setX ?_ (by omega)) | (with_reducible refine Src.alloc ?_ _) | (with_reducible refine Src.drewS ?_)))); (exact (by repeat' (first | (with_reducible assumption) | (with_reducible refine grownBy_setX ?_ (by omega)) | (with_reducible refine grownBy_alloc' ?_ _) | (with_reducible refine grownBy_drew ?_)))))
      have e1 : (r7 == 1) = false := by simpa using q1
      by_cases q2 : r7 = 2
      · subst q2
        rcases ts with _ | ⟨⟨x0, y0, u0, v0, k1, t1, h1, m1⟩, tl⟩
        · simp only [List.length_nil] at pb
          have p0 := pb.cell (j := 0) rfl
          have p1 := pb.cell (j := 1) rfl
          have p2 := pb.cell (j := 2) rfl
          have pf := pb.fz
          have b0 := rb.cell (j := 0) rfl
          have b1 := rb.cell (j := 1) rfl
          have b2 := rb.cell (j := 2) rfl
          have bf := rb.fz
          go_wp2_with fail
          all_goals ((try simp only [Exit.inBlock, Exit.then]); refine bodyPost_ret (by simp [results, Tryz.results49, go_sem, *]; try rfl) rfl ?_)
          all_goals (refine ⟨A3, c3, ([] : List Tr), _, _, A5, c5, cs, rfl, ?_, ?_, ?_, ?_, ?_, ?_, ?_, ?_⟩; (exact (OwnS.rdT (lo := K) (hi := X) (n := ([] : List Tr).length) (c := c3) (by repeat' (first | (with_reducible assumption) | (with_reducible refine OwnS.setN ?_ (fun e => by have h1 := (oT.lt _ e).1; have h2 := OwnS.hi_ oT _ e; omega)))))); (exact (OwnS.rd (cl := ctl) (T := 68) (k := 2) (lo := K) (hi := w7.heap.size) (n := cs.length) (c := c5) (by repeat' (first | (with_reducible assumption) | (with_reducible refine OwnS.setN ?_ ?_) | (exact ocX.out) | (intro e; have h1 := (oc.lt _ e).1; omega))))); (first | exact htl | omega); (first | exact hc7 | omega); (intro b o h; first | (subst h; have := (oT.lt b rfl).1; omega) | (injection h with h; injection h with h1 h2; have := (oT.lt g0 rfl).1; omega)); (intro b o h; subst h; have := (oc.lt b rfl).1; omega); (exact (by repeat' (first | (with_reducible assumption) | (with_reducible refine Src.setX ?_ (by omega)) | (with_reducible refine Src.alloc ?_ _) | (with_reducible refine Src.drewS ?_)))); (exact (by repeat' (first | (with_reducible assumption) | (with_reducible refine grownBy_setX ?_ (by omega)) | (with_reducible refine grownBy_alloc' ?_ _) | (with_reducible refine grownBy_drew ?_)))))
        · simp only [List.length_cons] at pb oT htl
          obtain ⟨g0, e0', zg1, zg2, zg3, _, _, _⟩ := OwnT.set0 oT
          subst e0'
          have p0 : (0 : Int) < ((tl.length + 1 : Nat) : Int) := by omega
          have p1 : (0 : Int) < (tl.length : Int) + 1 := by omega
          have p2 : (0 : Nat) < tl.length + 1 := by omega
          have p3 : g0 ≠ X := by omega
          have pb0 := pb.cell (j := 0) rfl
          go_upto_region 18 with fail
          (refine wp_region_noPanic ?_; refine wp_region_held_drew (S := (fun w' => w'.cell? ⟨X, 0, none⟩ = some (.slice (some ⟨g0, 0, none⟩) (tl.length + 1) c3))) (by kernel_rfl) ?_ (fun hHeld => ?_); (focus ((try dsimp only); (exact bxc))); (refine takeT (i := 0) (d := 65) rfl rfl (by kernel_rfl) (by kernel_rfl) (by kernel_rfl) (by rfl) (by assumption) (v := ?_) ?_ ?_; rotate_left; (focus (intro wq hSw; (try dsimp only at hSw); go_simp; (try (with_reducible rfl)); done)); (try simp only [Act.put, List.setIfInBounds_toArray, List.set_cons_zero, List.set_cons_succ])); (refine takeT (i := 1) (d := 66) rfl rfl (by kernel_rfl) (by kernel_rfl) (by kernel_rfl) (by rfl) (by assumption) (v := ?_) ?_ ?_; rotate_left; (focus (intro wq hSw; (try dsimp only at hSw); go_simp; (try (with_reducible rfl)); done)); (try simp only [Act.put, List.setIfInBounds_toArray, List.set_cons_zero, List.set_cons_succ])); (refine takeT (i := 2) (d := 67) rfl rfl (by kernel_rfl) (by kernel_rfl) (by kernel_rfl) (by rfl) (by assumption) (v := ?_) ?_ ?_; rotate_left; (focus (intro wq hSw; (try dsimp only at hSw); go_simp; (try (with_reducible rfl)); done)); (try simp only [Act.put, List.setIfInBounds_toArray, List.set_cons_zero, List.set_cons_succ])); (refine wpAnyH_ready (rs := [3]) (by kernel_rfl) (by simp) ?_; refine AllReadyH.cons rfl (fun K hK => ?_) AllReadyH.nil; go_simp; (first | (go_at_call 33; refine (spec_l16Draw B g _ (by first | exact Src.drewS hs7 | exact hs7)).mono ?_; rintro e w8 ⟨a0, a1, a2, a3, a4, a5, a6, a7, rfl, hs8, hg8⟩; have pb := VBox.src (w := w7.drew) pb hg8 (by omega); have rb := VBox.src (w := w7.drew) rb hg8 (by omega); have oT := OwnS.src (w := w7.drew) oT hg8 (by omega); have oc := OwnS.top (OwnS.src (w := w7.drew) oc hg8 (by omega)); have G8 := grownBy_src (grownBy_drew G7) hg8; obtain ⟨g8, e8, z81, z82, z83, ⟨d0, d1, d2, d3, d4, d5, d6, d7⟩, f0, hset⟩ := OwnT.set0 oT; obtain rfl : g0 = g8 := (by simpa using e8); have hsetH := Lib.hid (hset a0 a1 a2 a3 a4 a5 a6 a7); have p80 := pb.cell (j := 0) rfl; clear hset e8 hg8; have f00 := f0 0; have f01 := f0 1; have f02 := f0 2; have f03 := f0 3; have f04 := f0 4; have f05 := f0 5; have f06 := f0 6; have f07 := f0 7; clear f0) | skip); (try go_wp2_with fail); refine hK.out _ _ ?_ (fun hHeld => ?_); (focus ((try dsimp only); (exact bxc))); clear hK K; (try simp only [Act.put, List.setIfInBounds_toArray, List.set_cons_zero, List.set_cons_succ])); (refine takeT (i := 4) (d := 69) rfl rfl (by kernel_rfl) (by kernel_rfl) (by kernel_rfl) (by rfl) (by assumption) (v := ?_) ?_ ?_; rotate_left; (focus (intro wq hSw; (try dsimp only at hSw); go_simp; (try (with_reducible rfl)); done)); (try simp only [Act.put, List.setIfInBounds_toArray, List.set_cons_zero, List.set_cons_succ])); (refine wpAnyH_ready (rs := [5]) (by kernel_rfl) (by simp) ?_; refine AllReadyH.cons rfl (fun K hK => ?_) AllReadyH.nil; go_simp; (first | (go_at_call 33; refine (spec_l16Draw B g _ (by first | exact Src.drewS hs7 | exact hs7)).mono ?_; rintro e w8 ⟨a0, a1, a2, a3, a4, a5, a6, a7, rfl, hs8, hg8⟩; have pb := VBox.src (w := w7.drew) pb hg8 (by omega); have rb := VBox.src (w := w7.drew) rb hg8 (by omega); have oT := OwnS.src (w := w7.drew) oT hg8 (by omega); have oc := OwnS.top (OwnS.src (w := w7.drew) oc hg8 (by omega)); have G8 := grownBy_src (grownBy_drew G7) hg8; obtain ⟨g8, e8, z81, z82, z83, ⟨d0, d1, d2, d3, d4, d5, d6, d7⟩, f0, hset⟩ := OwnT.set0 oT; obtain rfl : g0 = g8 := (by simpa using e8); have hsetH := Lib.hid (hset a0 a1 a2 a3 a4 a5 a6 a7); have p80 := pb.cell (j := 0) rfl; clear hset e8 hg8; have f00 := f0 0; have f01 := f0 1; have f02 := f0 2; have f03 := f0 3; have f04 := f0 4; have f05 := f0 5; have f06 := f0 6; have f07 := f0 7; clear f0) | skip); (try go_wp2_with fail); refine hK.out _ _ ?_ (fun hHeld => ?_); (focus ((try dsimp only); (exact bxc))); clear hK K; (try simp only [Act.put, List.setIfInBounds_toArray, List.set_cons_zero, List.set_cons_succ])); refine wpAnyH_done (by kernel_rfl) ?_ _; refine NoPanic.normal ?_)
          refine q_gen (fun W9 hW9 => ?_)
          have oT9 : OwnT W9 K X (.slice (some ⟨g0, 0, none⟩) (tl.length + 1) c3) (⟨a0, a1, a2, a3, a4, a5, a6, a7⟩ :: tl) := by rw [hW9]; exact hsetH.out.1
          have gm : w8.grownBy W9 (some g0) := by rw [hW9]; exact hsetH.out.2
          have pb := pb.grown gm (by simp; omega)
          have rb := rb.grown gm (by simp; omega)
          have oc := OwnS.kept oc gm (OwnS.neB oT oc (by decide) rfl)
          have hs9 : Src W9 B g := hs8.other gm (fun q hq => by simp at hq; omega)
          have G9 : w.grownBy W9 (some g) := grownBy_below G8 (below_grown (lo := w.heap.size) gm (by omega) (by omega)) (by omega)
          have oT := oT9
          clear hW9 gm hsetH hs8 G8 hs7 G7 p80 d0 d1 d2 d3 d4 d5 d6 d7 f00 f01 f02 f03 f04 f05 f06 f07 pb0 hHeld
          obtain ⟨ts, hts⟩ : ∃ ts, ts = ((⟨a0, a1, a2, a3, a4, a5, a6, a7⟩ : Tr) :: tl) := ⟨_, rfl⟩
          rw [← hts] at oT
          have htl : ts.length ≤ 6 := by rw [hts]; simpa using htl
          have hln : tl.length + 1 = ts.length := by rw [hts]; rfl
          rw [hln] at oT pb
          clear hts hln oT9 p0 p1 p2
          have p0 := pb.cell (j := 0) rfl
          have p1 := pb.cell (j := 1) rfl
          have p2 := pb.cell (j := 2) rfl
          have pf := pb.fz
          have b0 := rb.cell (j := 0) rfl
          have b1 := rb.cell (j := 1) rfl
          have b2 := rb.cell (j := 2) rfl
          have bf := rb.fz
          go_wp2_with fail
          all_goals ((try simp only [Exit.inBlock, Exit.then]); refine bodyPost_ret (by simp [results, Tryz.results49, go_sem, *]; try rfl) rfl ?_)
          all_goals (refine ⟨some ⟨g0, 0, none⟩, c3, ts, _, _, A5, c5, cs, rfl, ?_, ?_, ?_, ?_, ?_, ?_, ?_, ?_⟩; (exact (OwnS.rdT (lo := K) (hi := X) (n := ts.length) (c := c3) (by repeat' (first | (with_reducible assumption) | (with_reducible refine OwnS.setN ?_ (fun e => by have h1 := (oT.lt _ e).1; have h2 := OwnS.hi_ oT _ e; omega)))))); (exact (OwnS.rd (cl := ctl) (T := 68) (k := 2) (lo := K) (hi := w8.heap.size) (n := cs.length) (c := c5) (by repeat' (first | (with_reducible assumption) | (with_reducible refine OwnS.setN ?_ ?_) | (exact ocX.out) | (intro e; have h1 := (oc.lt _ e).1; omega))))); (first | exact htl | omega); (first | exact hc7 | omega); (intro b o h; first | (subst h; have := (oT.lt b rfl).1; omega) | (injection h with h; injection h with h1 h2; have := (oT.lt g0 rfl).1; omega)); (intro b o h; subst h; have := (oc.lt b rfl).1; omega); (exact (by repeat' (first | (with_reducible assumption) | (with_reducible refine Src.setX ?_ (by omega)) | (with_reducible refine Src.alloc ?_ _) | (with_reducible refine Src.drewS ?_)))); (exact (by repeat' (first | (with_reducible assumption) | (with_reducible refine grownBy_setX ?_ (by omega)) | (with_reducible refine grownBy_alloc' ?_ _) | (with_reducible refine grownBy_drew ?_)))))
      have e2 : (r7 == 2) = false := by simpa using q2
      by_cases q3 : r7 = 3
      · subst q3
        go_wp2_with fail
        refine (spec_l14DrawContacts _ _ _ _ _ _ _ _ hs7).mono ?_
        rintro e w8 ⟨v8, cs8, rfl, oc8, hc8, hs8, hg8⟩
        have pb := VBox.src pb hg8 (by omega)
        have rb := VBox.src rb hg8 (by omega)
        have oT := OwnS.src oT hg8 (by omega)
        have G8 := grownBy_src G7 hg8
        have oc : OwnCt w8 K w8.heap.size v8 cs8 := OwnS.mono oc8 (by omega) (Nat.le_refl _)
        have ocX : Hid (v8.ownBlock ≠ some X) := fun e => by have := (oc8.lt X e).1; omega
        obtain ⟨A5, c5, rfl⟩ := OwnS.form oc
        clear hg8 hs7 G7 oc8 hc7
        have p0 := pb.cell (j := 0) rfl
        have p1 := pb.cell (j := 1) rfl
        have p2 := pb.cell (j := 2) rfl
        have pf := pb.fz
        have b0 := rb.cell (j := 0) rfl
        have b1 := rb.cell (j := 1) rfl
        have b2 := rb.cell (j := 2) rfl
        have bf := rb.fz
        go_wp2_with fail
        all_goals ((try simp only [Exit.inBlock, Exit.then]); refine bodyPost_ret (by simp [results, Tryz.results49, go_sem, *]; try rfl) rfl ?_)
        all_goals (refine ⟨A3, c3, ts, _, _, A5, c5, cs8, rfl, ?_, ?_, ?_, ?_, ?_, ?_, ?_, ?_⟩; (exact (OwnS.rdT (lo := K) (hi := X) (n := ts.length) (c := c3) (by repeat' (first | (with_reducible assumption) | (with_reducible refine OwnS.setN ?_ (fun e => by have h1 := (oT.lt _ e).1; have h2 := OwnS.hi_ oT _ e; omega)))))); (exact (OwnS.rd (cl := ctl) (T := 68) (k := 2) (lo := K) (hi := w8.heap.size) (n := cs8.length) (c := c5) (by repeat' (first | (with_reducible assumption) | (with_reducible refine OwnS.setN ?_ ?_) | (exact ocX.out) | (intro e; have h1 := (oc.lt _ e).1; omega))))); (first | exact htl | omega); (first | exact hc7 | omega); (intro b o h; first | (subst h; have := (oT.lt b rfl).1; omega) | (injection h with h; injection h with h1 h2; have := (oT.lt g0 rfl).1; omega)); (intro b o h; subst h; have := (oc.lt b rfl).1; omega); (exact (by repeat' (first | (with_reducible assumption) | (with_reducible refine Src.setX ?_ (by omega)) | (with_reducible refine Src.alloc ?_ _) | (with_reducible refine Src.drewS ?_)))); (exact (by repeat' (first | (with_reducible assumption) | (with_reducible refine grownBy_setX ?_ (by omega)) | (with_reducible refine grownBy_alloc' ?_ _) | (with_reducible refine grownBy_drew ?_)))))
      have e3 : (r7 == 3) = false := by simpa using q3
      have p0 := pb.cell (j := 0) rfl
      have p1 := pb.cell (j := 1) rfl
      have p2 := pb.cell (j := 2) rfl
      have pf := pb.fz
      have b0 := rb.cell (j := 0) rfl
      have b1 := rb.cell (j := 1) rfl
      have b2 := rb.cell (j := 2) rfl
      have bf := rb.fz
      go_wp2_with fail
      all_goals ((try simp only [Exit.inBlock, Exit.then]); refine bodyPost_ret (by simp [results, Tryz.results49, go_sem, *]; try rfl) rfl ?_)
      all_goals (refine ⟨A3, c3, ts, _, _, A5, c5, cs, rfl, ?_, ?_, ?_, ?_, ?_, ?_, ?_, ?_⟩; (exact (OwnS.rdT (lo := K) (hi := X) (n := ts.length) (c := c3) (by repeat' (first | (with_reducible assumption) | (with_reducible refine OwnS.setN ?_ (fun e => by have h1 := (oT.lt _ e).1; have h2 := OwnS.hi_ oT _ e; omega)))))); (exact (OwnS.rd (cl := ctl) (T := 68) (k := 2) (lo := K) (hi := w7.heap.size) (n := cs.length) (c := c5) (by repeat' (first | (with_reducible assumption) | (with_reducible refine OwnS.setN ?_ ?_) | (exact ocX.out) | (intro e; have h1 := (oc.lt _ e).1; omega))))); (first | exact htl | omega); (first | exact hc7 | omega); (intro b o h; first | (subst h; have := (oT.lt b rfl).1; omega) | (injection h with h; injection h with h1 h2; have := (oT.lt g0 rfl).1; omega)); (intro b o h; subst h; have := (oc.lt b rfl).1; omega); (exact (by repeat' (first | (with_reducible assumption) | (with_reducible refine Src.setX ?_ (by omega)) | (with_reducible refine Src.alloc ?_ _) | (with_reducible refine Src.drewS ?_)))); (exact (by repeat' (first | (with_reducible assumption) | (with_reducible refine grownBy_setX ?_ (by omega)) | (with_reducible refine grownBy_alloc' ?_ _) | (with_reducible refine grownBy_drew ?_)))))
end Go.Proofs.YthbljfanoaibkaaGreatDoor
namespace Go.Proofs.YthbljfanoaibkaaGreatDoor
open Go.RowKit Go.ChangeShapes Go.WideShapes Go.ChangeAt
set_option linter.unusedVariables false
set_option linter.unusedSimpArgs false
theorem rd_setS {w : World} {B X o : Nat} {A : Option Addr} {xs : List Value} {v : Value} (h : Rd w B A xs) (hX : ∀ b q, A = some ⟨b, q, none⟩ → X < b) : Rd (w.setCell ⟨X, o, none⟩ v) B A xs := by
  rcases h with h | ⟨b, q, rfl, h2, h3⟩
  · exact .inl h
  · have hlt := hX b q rfl
    exact .inr ⟨b, q, rfl, h2, fun j u hu => (World.cell?_setCell_other w (a := ⟨X, o, none⟩) (b := ⟨b, q + j, none⟩) v (fun e => by simp only [Addr.mk.injEq] at e; omega)).trans (h3 j u hu)⟩
/-- a row stored anew -/
theorem OwnRw.set_ {w : World} {lo hi hi' j n c : Nat} {A : Option Addr} {y : Value} {ys cs0 : Cts} {css : List Cts} (h : OwnRw w lo hi (.slice A n c) css) (hj : css[j]? = some cs0) (hy : OwnCt w lo hi' y ys) : ∃ g, A = some ⟨g, 0, none⟩ ∧ lo ≤ g ∧ g < w.heap.size ∧ (∃ z, w.cell? ⟨g, j, none⟩ = some z) ∧ w.frozen? ⟨g, j, none⟩ = false ∧
    OwnRw (w.setCell ⟨g, j, none⟩ y) lo (w.setCell ⟨g, j, none⟩ y).heap.size (.slice (some ⟨g, 0, none⟩) n c) (css.set j ys) ∧ w.grownBy (w.setCell ⟨g, j, none⟩ y) (some g) := by
  obtain ⟨A', c', zs, h1, h2, h3, hk, h4⟩ := h
  injection h1 with h1 hn hc
  subst h1 hn hc
  have hi := lt_of_get hj
  obtain ⟨g, cap, hv, hb, hlt⟩ := h3.form (by omega)
  injection hv with e1 e2 e3
  subst e1 e3
  obtain ⟨z, hz⟩ := get_of_lt (xs := zs) (k := j) (by omega)
  have hs := h3.stored j y
  refine ⟨g, rfl, hb, hlt, ⟨z, by rw [h3.cellAt j (by omega), hz]⟩, h3.frozenAt j, ⟨some ⟨g, 0, none⟩, c, zs.set j y, by rw [List.length_set], by rw [List.length_set, List.length_set, h2], by rw [List.length_set]; exact hs.1, fun k hk' => (hs.1.lt k hk').2, fun i u cs hu hx => ?_⟩, hs.2⟩
  by_cases hij : i = j
  · subst hij
    rw [List.getElem?_set_self (by omega)] at hu
    rw [List.getElem?_set_self (by omega)] at hx
    injection hu with hu
    injection hx with hx
    subst hu hx
    exact OwnS.top (hy.kept hs.2 (rw_kinds hy h3))
  · rw [List.getElem?_set_ne (fun e => hij e.symm)] at hu hx
    exact OwnS.top ((h4 i u cs hu hx).kept hs.2 (rw_kinds (h4 i u cs hu hx) h3))
set_option maxRecDepth 100000 in
set_option maxHeartbeats 6400000 in
theorem spec_DrawTrailText (A : Option Addr) (c : Nat) (code : List Int) (w : World) (hr : U8 w w.heap.size A code) (hb : ∀ x ∈ code, 0 ≤ x ∧ x ≤ 255) (hl : code.length ≤ 4096) :
    Calls Tryz.prog 13 #[.slice A code.length c] w fun e w' => ∃ x y p q s t h m, e = .returned (.agg #[.int .i64 x, .int .i64 y, .int .i64 p, .int .i64 q, .int .i64 s, .int .i64 t, .int .i64 h, .int .i64 m]) ∧ Below w.heap.size w w' := by
  go_enter Tryz.func13, Tryz.ntmps13
  go_wp2_with fail
  refine calls_gen (fun W0 hW0 => ?_)
  have rb : IBox W0 40 w.heap.size [0, 0, 0, 0, 0, 0, 0, 0] := by rw [hW0]; exact IBox.new (w := w) (T := 40) (l := [0, 0, 0, 0, 0, 0, 0, 0]) rfl
  have B0 : Below w.heap.size w W0 := by rw [hW0]; exact Below.new (Below.refl _ _) _
  clear hW0
  have z0 := rb.lt
  refine (spec_l01From _ _ _ _ (Rd.up hr B0) hb hl).mono ?_
  rintro e w1 ⟨g, rfl, hg0, hs1, hb1⟩
  have rb := rb.next hb1
  have B1 : Below w.heap.size w w1 := B0.trans (hb1.mono B0.size)
  go_wp2_with fail
  refine (spec_l16Draw _ _ _ hs1).mono ?_
  rintro e w2 ⟨x, y, p, q, s, t, h, m, rfl, hs2, hg2⟩
  have rb := rb.grown hg2 (by simp; omega)
  have B2 : Below w.heap.size w w2 := below_rowZ B1 hg2 (by omega)
  clear hg2 B1 hb1 hs1 B0
  have b0 := rb.cell (j := 0) rfl
  have b1 := rb.cell (j := 1) rfl
  have b2 := rb.cell (j := 2) rfl
  have b3 := rb.cell (j := 3) rfl
  have b4 := rb.cell (j := 4) rfl
  have b5 := rb.cell (j := 5) rfl
  have b6 := rb.cell (j := 6) rfl
  have b7 := rb.cell (j := 7) rfl
  have bf := rb.fz
  go_wp2_with fail
  all_goals ((try simp only [Exit.inBlock, Exit.then]); refine bodyPost_ret (by simp [results, Tryz.results13, go_sem, *]; try rfl) rfl ?_)
  all_goals exact ⟨_, _, _, _, _, _, _, _, rfl, by exact bgr⟩
/-- a picture that was drawn -/
def DrawnOne (w : World) (e : Ending) (w' : World) : Prop := ∃ A c ts s d, e = .returned (.agg #[.slice A ts.length c, .int .i64 s, .int .i64 d]) ∧ T64 w' w'.heap.size A ts ∧ ts.length ≤ 6 ∧ (∀ b o, A = some ⟨b, o, none⟩ → w.heap.size < b) ∧ Below w.heap.size w w'
set_option maxRecDepth 100000 in
set_option maxHeartbeats 6400000 in
theorem spec_DrawIsPicture (A : Option Addr) (c : Nat) (code : List Int) (w : World) (hr : U8 w w.heap.size A code) (hb : ∀ x ∈ code, 0 ≤ x ∧ x ≤ 255) (hl : code.length ≤ 4096) :
    Calls Tryz.prog 27 #[.slice A code.length c] w (DrawnOne w) := by
  go_enter Tryz.func27, Tryz.ntmps27
  go_wp2_with fail
  refine calls_gen (fun W0 hW0 => ?_)
  have rb : VBox W0 28 w.heap.size [.slice none 0 0, .int .i64 0, .int .i64 0] := by rw [hW0]; exact VBox.new rfl
  have B0 : Below w.heap.size w W0 := by rw [hW0]; exact Below.new (Below.refl _ _) _
  clear hW0
  have z0 := rb.lt
  refine (spec_l01From _ _ _ _ (Rd.up hr B0) hb hl).mono ?_
  rintro e w1 ⟨g, rfl, hg0, hs1, hb1⟩
  have rb := rb.next hb1
  have B1 : Below w.heap.size w w1 := B0.trans (hb1.mono B0.size)
  have zz1 := hb1.size
  go_wp2_with fail
  refine (spec_l17Draw _ _ _ hs1).mono ?_
  rintro e w2 ⟨A1, c1, ts, s, d, A2, c2, cs, rfl, rT, rC, lT, lC, x1, x2, hs2, hg2⟩
  have x1H := Lib.hid x1
  have rb := rb.grown hg2 (by simp; omega)
  have B2 : Below w.heap.size w w2 := below_rowZ B1 hg2 (by omega)
  have zz2 := rb.lt
  clear hg2 B1 hb1 hs1 hs2 B0 x1 x2 rC
  have b0 := rb.cell (j := 0) rfl
  have b1 := rb.cell (j := 1) rfl
  have b2 := rb.cell (j := 2) rfl
  have bf := rb.fz
  have ab0 : ∀ ob, (w2.alloc ob).cell? ⟨w.heap.size, 0, none⟩ = some (.slice none 0 0) := fun ob => bx_alloc b0
  have ab1 : ∀ ob, (w2.alloc ob).cell? ⟨w.heap.size, 1, none⟩ = some (.int .i64 0) := fun ob => bx_alloc b1
  have ab2 : ∀ ob, (w2.alloc ob).cell? ⟨w.heap.size, 2, none⟩ = some (.int .i64 0) := fun ob => bx_alloc b2
  have abf : ∀ ob o, (w2.alloc ob).frozen? ⟨w.heap.size, o, none⟩ = false := fun ob => bm_old zz2 bf
  go_wp2_with fail
  all_goals ((try simp only [Exit.inBlock, Exit.then]); refine bodyPost_ret (by simp [results, Tryz.results27, go_sem, *]; try rfl) rfl ?_)
  all_goals (refine ⟨A1, c1, ts, s, d, rfl, ?_, lT, fun b o h => by have := x1H.out b o h; omega, by exact bgr⟩)
  all_goals (first | exact T64.up (Rd.more (B := w2.heap.size) (rd_setS (rd_setS (rd_setS rT (fun b q h => by have := x1H.out b q h; omega)) (fun b q h => by have := x1H.out b q h; omega)) (fun b q h => by have := x1H.out b q h; omega)) (by simp)) (Below.new (Below.refl _ _) _) | exact Rd.more (B := (w2.alloc (.cells #[.slice A1 ts.length c1, .int .i64 s, .int .i64 d] 28)).heap.size) (rd_setS (rd_setS (rd_setS (Rd.up rT (Below.new (Below.refl _ _) _)) (fun b q h => by have := x1H.out b q h; omega)) (fun b q h => by have := x1H.out b q h; omega)) (fun b q h => by have := x1H.out b q h; omega)) (by simp))
set_option maxRecDepth 100000 in
set_option maxHeartbeats 6400000 in
theorem spec_DrawPictureText (A : Option Addr) (c : Nat) (code : List Int) (w : World) (hr : U8 w w.heap.size A code) (hb : ∀ x ∈ code, 0 ≤ x ∧ x ≤ 255) (hl : code.length ≤ 4096) :
    Calls Tryz.prog 8 #[.slice A code.length c] w (DrawnOne w) := by
  go_enter Tryz.func8, Tryz.ntmps8
  go_wp2_with fail
  refine calls_gen (fun W0 hW0 => ?_)
  have rb : VBox W0 28 w.heap.size [.slice none 0 0, .int .i64 0, .int .i64 0] := by rw [hW0]; exact VBox.new rfl
  have B0 : Below w.heap.size w W0 := by rw [hW0]; exact Below.new (Below.refl _ _) _
  clear hW0
  have z0 := rb.lt
  refine (spec_DrawIsPicture _ _ _ _ (Rd.up hr B0) hb hl).mono ?_
  rintro e w2 ⟨A1, c1, ts, s, d, rfl, rT, lT, x1, hb2⟩
  have x1H := Lib.hid x1
  have rb := rb.next hb2
  have B2 : Below w.heap.size w w2 := B0.trans (hb2.mono B0.size)
  clear x1
  have b0 := rb.cell (j := 0) rfl
  have b1 := rb.cell (j := 1) rfl
  have b2 := rb.cell (j := 2) rfl
  have bf := rb.fz
  go_wp2_with fail
  all_goals ((try simp only [Exit.inBlock, Exit.then]); refine bodyPost_ret (by simp [results, Tryz.results8, go_sem, *]; try rfl) rfl ?_)
  all_goals (refine ⟨A1, c1, ts, s, d, rfl, ?_, lT, fun b o h => by have := x1H.out b o h; omega, by exact bgr⟩)
  all_goals (refine Rd.more (B := w2.heap.size) (rd_setS (rd_setS (rd_setS rT (fun b q h => by have := x1H.out b q h; omega)) (fun b q h => by have := x1H.out b q h; omega)) (fun b q h => by have := x1H.out b q h; omega)) (by simp))
/-- scans that were drawn -/
def DrawnCss (w : World) (e : Ending) (w' : World) : Prop := ∃ A c css, e = .returned (.slice A css.length c) ∧ CC64 w' w'.heap.size A css ∧ css.length ≤ 61 ∧ (∀ (i : Nat) (cs : Cts), css[i]? = some cs → cs.length ≤ 7) ∧ Below w.heap.size w w'
set_option maxRecDepth 100000 in
set_option maxHeartbeats 3200000 in
theorem spec_DrawRunPicture (A : Option Addr) (c : Nat) (code : List Int) (w : World) (hr : U8 w w.heap.size A code) (hb : ∀ x ∈ code, 0 ≤ x ∧ x ≤ 255) (hl : code.length ≤ 4096) :
    Calls Tryz.prog 5 #[.slice A code.length c] w (DrawnCss w) := by
  obtain ⟨i0, hi, hz0, hz1, hz2⟩ := info_parts cts_info
  go_enter Tryz.func5, Tryz.ntmps5
  go_wp2_with fail
  refine (spec_l01From _ _ _ _ hr hb hl).mono ?_
  rintro e w1 ⟨g, rfl, hg0, hs1, B1⟩
  have zz1 := hs1.lt
  go_wp2_with fail
  refine (spec_l01Next _ _ _ _ hs1 (by omega)).mono ?_
  rintro e w2 ⟨r2, rfl, ⟨hr2, ht2⟩, hs2, hg2⟩
  have B2 : Below w.heap.size w w2 := below_rowZ B1 hg2 (by omega)
  have zz2 := hs2.lt
  clear hg2 hs1 B1 hr hb
  by_cases q2 : r2 = 0
  · subst q2
    go_wp2_with fail
    refine (spec_l01Next _ _ _ _ hs2 (by omega)).mono ?_
    rintro e w7 ⟨r7, rfl, ⟨hr7, ht7⟩, hs7, hg7⟩
    have B7 : Below w.heap.size w w7 := below_rowZ B2 hg7 (by omega)
    clear hg7 hs2 B2
    obtain ⟨N, hN⟩ : ∃ N : Nat, (N : Int) = 60 + r7 := ⟨(60 + r7).toNat, by omega⟩
    have e7 : r7 = (N : Int) - 60 := by omega
    have hN2 : N ≤ 61 := by omega
    have e8 : 60 + ((N : Int) - 60) = (N : Int) := by omega
    have e9 : IntKind.i64.wrap (60 + ((N : Int) - 60)) = (N : Int) := by rw [e8]; exact IntWalk.i64_in _ (by omega)
    subst e7
    clear hN
    go_wp2_with (at_make; (try simp only [e9, e8]); refine wpList_make_full _ rfl _ _ 24 rfl w7.heap.size 46 i0 _ 1 Tryz.underlying24 hi hz0 hz1 .i64 .i64 _ _ N rfl rfl rfl rfl (by rw [hz2]; omega) (by simp only [maxLen]; omega) (Nat.le_refl _) ?_; intro w8 hown hg8; have ol8 : OwnRw w8 w7.heap.size w8.heap.size (.slice (some ⟨w7.heap.size, 0, none⟩) N N) (List.replicate N []) := OwnRw.made (by have h := hown; simp only [show (Value.slice none 0 0).cells = #[Value.slice none 0 0] from rfl, Nat.mul_one, toList_madeCells_one] at h; simpa using h); have hb8 : Below w7.heap.size w7 w8 := ⟨hg8.os, hg8.tape, hg8.output, hg8.size, fun k hk => hg8.block k hk (by simp)⟩; have B8 : Below w.heap.size w w8 := B7.trans (hb8.mono (by have := B7.size; omega)))
    go_ret
    exact ⟨some ⟨w7.heap.size, 0, none⟩, N, List.replicate N [], by rw [List.length_replicate]; rfl, ol8.rd.2, by simp; omega, fun i cs hx => by rw [List.getElem?_replicate] at hx; split at hx <;> simp at hx; subst hx; simp, B8⟩
  · have e2 : (r2 == 0) = false := by simpa using q2
    go_wp2_with fail
    refine (spec_l17DrawScans _ _ 12 _ hs2 (by omega) (by omega)).mono ?_
    rintro e w3 ⟨v, css, rfl, ol, hlen, hrow, hs3, hg3⟩
    have B3 : Below w.heap.size w w3 := below_rowZ B2 hg3 (by omega)
    obtain ⟨Av, cv, rfl⟩ := OwnRw.form ol
    have hrowH := Lib.hid hrow
    have zz3 := hg3.size
    clear hg3 hs2 B2 hrow
    rcases Nat.eq_zero_or_pos css.length with h0 | h0
    · have p0 : ¬ (0 : Int) < (css.length : Int) := by omega
      have h0H := Lib.hid h0
      clear h0
      go_wp2_with fail
      go_ret
      exact ⟨_, _, css, rfl, ol.rd.2, by omega, fun i cs h => by have := hrowH.out i cs h; omega, B3⟩
    · have p0 : (0 : Int) < (css.length : Int) := by omega
      go_wp2_with fail
      refine (spec_l01Next _ _ _ _ hs3 (by omega)).mono ?_
      rintro e w4 ⟨r4, rfl, ⟨hr4, ht4⟩, hs4, hg4⟩
      have B4 : Below w.heap.size w w4 := below_rowZ B3 hg4 (by omega)
      have ol := OwnRw.top (ol.src hg4 (by omega))
      have zz4 := hg4.size
      clear hg4 hs3 B3
      by_cases q4 : r4 = 0
      · subst q4
        go_wp2_with fail
        refine (spec_l14DrawContacts _ _ _ _ _ _ _ _ hs4).mono ?_
        rintro e w5 ⟨vc, cs, rfl, oc, hc7, hs5, hg5⟩
        have B5 : Below w.heap.size w w5 := below_rowZ B4 hg5 (by omega)
        have ol := OwnRw.top (ol.src hg5 (by omega))
        have oc : OwnCt w5 w2.heap.size w5.heap.size vc cs := OwnS.mono oc (by omega) (Nat.le_refl _)
        obtain ⟨Ac, cc, rfl⟩ := OwnS.form oc
        clear hg5 hs4 B4
        obtain ⟨cs0, hx0⟩ := get_of_lt (xs := css) (k := 0) h0
        obtain ⟨gx, ex, z1, z2, ⟨z, cz⟩, fz, st, gst⟩ := ol.set_ hx0 oc
        subst ex
        have stH := Lib.hid st
        have gstH := Lib.hid gst
        have p1 : (0 : Nat) < css.length := h0
        have zB := B5.size
        clear hx0 ol oc st gst
        go_wp2_with fail
        go_ret
        exact ⟨some ⟨gx, 0, none⟩, cv, css.set 0 cs, by rw [List.length_set]; rfl, stH.out.rd.2, by rw [List.length_set]; omega, fun i cs' hx => (by
          by_cases hi0 : i = 0
          · subst hi0
            rw [List.getElem?_set_self p1] at hx
            injection hx with hx
            subst hx
            exact hc7
          · rw [List.getElem?_set_ne (fun e => hi0 e.symm)] at hx
            have := hrowH.out i cs' hx; omega), below_rowZ B5 gstH.out (by omega)⟩
      · have e4 : (r4 == 0) = false := by simpa using q4
        go_wp2_with fail
        go_ret
        exact ⟨_, _, css, rfl, ol.rd.2, by omega, fun i cs h => by have := hrowH.out i cs h; omega, B4⟩
end Go.Proofs.YthbljfanoaibkaaGreatDoor
