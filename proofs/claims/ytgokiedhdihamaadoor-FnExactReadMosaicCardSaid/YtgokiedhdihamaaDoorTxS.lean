/- MosaicText of the reference: contract. -/
import Derived.Test.YtgokiedhdihamaaDoorTxP
import Derived.Test.YtgokiedhdihamaaDoorStrU
import Derived.Test.YtgokiedhdihamaaDoorVBox
import Derived.Test.YtgokiedhdihamaaDoorRegKit
import Derived.Deep.CutRange
import Derived.Deep.DeepCutAuto
import Derived.Deep.CutBlock
namespace Go.Proofs.YtgokiedhdihamaaDoor
open Go.RowKit Go.ChangeShapes Go.WideShapes Go.ChangeAt
set_option linter.unusedVariables false
set_option linter.unusedSimpArgs false
set_option maxRecDepth 100000 in
set_option maxHeartbeats 3200000 in
theorem spec_MosaicText (p q : Int) (A B : Option Addr) (c d : Nat) (xs ys : List Int) (w : World) (hr : I64 w w.heap.size A xs) (hs : I64 w w.heap.size B ys) (hl : xs.length ≤ 1099511627776) (hm : ys.length ≤ 1099511627776) :
    Calls Tryd.prog 11 #[.agg #[.int .i64 p, .int .i64 q, .slice A xs.length c, .slice B ys.length d]] w fun e w' => e = .returned (.string (mkT (mtT p q xs ys))) ∧ Below w.heap.size w w' := by
  have hI := fun w h h' => spec_IsMosaic p q A B c d xs ys w h h' hl hm
  cases hb : mosB p q xs ys
  · have e1 : mtT p q xs ys = [] := by unfold mtT; rw [hb]; rfl
    rw [e1]
    rw [hb] at hI
    have hIH := Lib.hid hI
    clear hI hb e1
    go_enter Tryd.func11, Tryd.ntmps11
    go_wp2_with fail
    refine (hIH.out _ (hr.up (by exact bgr)) (hs.up (by exact bgr))).mono ?_
    rintro e w1 ⟨rfl, hb1⟩
    go_wp2_with fail
    go_ret
    exact ⟨rfl, by exact bgr⟩
  · obtain ⟨hp, hq, hn, hyl, hpq1, hpq2, hcel⟩ := mos_facts hb
    obtain ⟨P, rfl⟩ : ∃ P : Nat, p = (P : Int) := ⟨p.toNat, by omega⟩
    obtain ⟨Q, rfl⟩ : ∃ Q : Nat, q = (Q : Int) := ⟨q.toNat, by omega⟩
    have hNN : xs.length = P * Q := by
      have : ((xs.length : Nat) : Int) = ((P * Q : Nat) : Int) := by rw [hn, Int.natCast_mul]
      omega
    have e1 : mtT (P : Int) (Q : Int) xs ys = sxk P xs ys xs.length := by unfold mtT; rw [hb, hNN]; rfl
    rw [e1]
    have hlen := fun i hi => sxk_len hb (w := P) i hi
    have hcell := fun k x y h1 h2 => mos_cell (k := k) (x := x) (y := y) hb h1 h2
    rw [hb] at hI
    have hIH := Lib.hid hI
    have hlenH := Lib.hid hlen
    have hcellH := Lib.hid hcell
    have hnH := Lib.hid hn
    have hylH := Lib.hid hyl
    have hx1 : 1 ≤ xs.length := by omega
    have hx2 : xs.length ≤ 1600 := by omega
    clear hI hb e1 hlen hcell hn hyl hNN hcel
    go_enter Tryd.func11, Tryd.ntmps11
    go_wp2_with fail
    refine (hIH.out _ (hr.up (by exact bgr)) (hs.up (by exact bgr))).mono ?_
    rintro e w1 ⟨rfl, hb1⟩
    have vb : VBox w1 24 w.heap.size [.int .i64 (P : Int), .int .i64 (Q : Int), .slice A xs.length c, .slice B ys.length d] := VBox.next (VBox.new (w := w) rfl) hb1
    have B0 : Below w.heap.size w w1 := by exact bgr
    have z1 := vb.lt
    clear hb1
    go_wp2_with fail
    obtain ⟨N, hN⟩ : ∃ N, N = w1.heap.size := ⟨_, rfl⟩
    have zN : w.heap.size < N := by omega
    go_loopw [3, 4] (fun x3 x4 wr => ∃ (v : Value) (i : Nat), v = x3 ∧ i ≤ xs.length ∧ x4 = .int .i64 i ∧ OwnU wr N v (sxk P xs ys i) ∧ VBox wr 24 w.heap.size [.int .i64 (P : Int), .int .i64 (Q : Int), .slice A xs.length c, .slice B ys.length d] ∧ N ≤ wr.heap.size ∧ Below w.heap.size w wr) (fun _ x4 _ => xs.length - (intOf x4).toNat)
    case atStart => exact ⟨_, 0, rfl, Nat.zero_le _, rfl, by rw [hN, sxk_zero]; exact OwnU.lit0 (Nat.le_refl _), vb.alloc _, by rw [hN]; simp, by exact bgr⟩
    case round =>
      clear vb B0 hN z1
      obtain ⟨v, i, rfl, hi, rfl, ou, vb, zr, hbr⟩ := hrel
      obtain ⟨Av, cv, rfl⟩ := OwnU.form ou
      have v0 := vb.cell (j := 0) rfl
      have v1 := vb.cell (j := 1) rfl
      have t0 : (i : Int) ≤ 1600 := by omega
      have hli := hlenH.out i hi
      by_cases hlt : i < xs.length
      · have t1 : (i : Int) < (P : Int) * (Q : Int) := by rw [← hnH.out]; omega
        obtain ⟨x, hx⟩ := get_of_lt hlt
        obtain ⟨y, hy⟩ := get_of_lt (xs := ys) (k := i) (by rw [hylH.out]; exact hlt)
        have e9 : Hid (sxk P xs ys (i + 1) = sxk P xs ys i ++ (sepT P i ++ ctx x y)) := by
          unfold Hid
          rw [sxk_succ, cxt, mget_of hx, mget_of hy]
        have hxy := hcellH.out i x y hx hy
        obtain ⟨ba, oa, rfl, hba, cV⟩ := I64.at_ (hr.below hbr) hx
        obtain ⟨bb, ob, rfl, hbb, cG⟩ := I64.at_ (hs.below hbr) hy
        have hxH := Lib.hid hx
        have hyH := Lib.hid hy
        clear hx hy
        go_upto_block 2 with fail
        go_cut [3] (fun c3 wx => ∃ v : Value, v = c3 ∧ OwnU wx N v (sxk P xs ys i ++ sepT P i) ∧ VBox wx 24 w.heap.size [.int .i64 (P : Int), .int .i64 (Q : Int), .slice (some ⟨ba, oa, none⟩) xs.length c, .slice (some ⟨bb, ob, none⟩) ys.length d] ∧ N ≤ wx.heap.size ∧ Below w.heap.size w wx)
        case first =>
          rcases Nat.eq_zero_or_pos i with h0 | h0
          · have p0 : ¬ (0 : Int) < (i : Int) := by omega
            have es : sepT P i = [] := by unfold sepT; rw [if_pos h0]
            have esH := Lib.hid es
            clear h0 es
            go_wp2_with fail
            go_meet
            case rel => exact ⟨_, rfl, by rw [esH.out, List.append_nil]; exact ou, vb, zr, hbr⟩
          · have p0 : (0 : Int) < (i : Int) := by omega
            obtain ⟨r, hr0⟩ : ∃ r, r = i % P := ⟨_, rfl⟩
            have qa : (i : Int) % (P : Int) = (r : Int) := by rw [hr0]; first | exact (Int.natCast_emod i P).symm | exact (Int.ofNat_emod i P).symm | (push_cast; rfl)
            have qb : (i : Int).tmod (P : Int) = (r : Int) := by rw [Int.tmod_eq_emod_of_nonneg (by omega)]; exact qa
            by_cases h1 : r = 0
            · have es : sepT P i = [47] := by unfold sepT; rw [if_neg (by omega), if_pos (by omega)]
              have esH := Lib.hid es
              clear hr0 es
              subst h1
              go_wp2_with (at_builtin; refine push_U (z := 47) wr.heap.size (by simp) ou (by rfl) (by rfl) _ _ (by rfl) (by rfl) (by rfl) (by omega) (by omega) ?_; intro v6 w6 ou6 hg6 hb6; have vb := vb.below hb6 (by omega); have z6 := hb6.size; have B6 : Below w.heap.size w w6 := hbr.trans (hb6.mono (by omega)))
              go_meet
              case rel => exact ⟨_, rfl, by rw [esH.out]; exact ou6, vb, by omega, B6⟩
            · have es : sepT P i = [44] := by unfold sepT; rw [if_neg (by omega), if_neg (by omega)]
              have qc : ((r : Int) == 0) = false := by simp [h1]
              have esH := Lib.hid es
              clear hr0 h1 es
              go_wp2_with (at_builtin; refine push_U (z := 44) wr.heap.size (by simp) ou (by rfl) (by rfl) _ _ (by rfl) (by rfl) (by rfl) (by omega) (by omega) ?_; intro v6 w6 ou6 hg6 hb6; have vb := vb.below hb6 (by omega); have z6 := hb6.size; have B6 : Below w.heap.size w w6 := hbr.trans (hb6.mono (by omega)))
              go_meet
              case rel => exact ⟨_, rfl, by rw [esH.out]; exact ou6, vb, by omega, B6⟩
        case rest =>
          clear ou vb v0 v1 zr cV cG hba hbb hli
          obtain ⟨v, rfl, ou, vb, zr, hbw⟩ := hcut
          have hle : (sxk P xs ys i ++ sepT P i).length ≤ 70401 := by
            have h1 := hlenH.out i hi
            have h2 : (sepT P i).length ≤ 1 := by unfold sepT; split <;> (try split) <;> simp
            rw [List.length_append]; omega
          have e9 : Hid (sxk P xs ys (i + 1) = (sxk P xs ys i ++ sepT P i) ++ ctx x y) := by
            unfold Hid
            rw [e9.out, List.append_assoc]
          obtain ⟨L, hL⟩ : ∃ L, L = sxk P xs ys i ++ sepT P i := ⟨_, rfl⟩
          rw [← hL] at ou hle e9
          clear hL
          obtain ⟨Av, cv, rfl⟩ := OwnU.form ou
          have v0 := vb.cell (j := 0) rfl
          have v1 := vb.cell (j := 1) rfl
          have v2 := vb.cell (j := 2) rfl
          have v3 := vb.cell (j := 3) rfl
          obtain ⟨b', o', e, hba, cV⟩ := I64.at_ (hr.below hbw) hxH.out
          obtain ⟨rfl, rfl⟩ : ba = b' ∧ oa = o' := by simpa using e
          obtain ⟨b', o', e', hbb, cG⟩ := I64.at_ (hs.below hbw) hyH.out
          obtain ⟨rfl, rfl⟩ : bb = b' ∧ ob = o' := by simpa using e'
          have p0 : (0 : Int) ≤ (i : Int) := by omega
          have p1 : (i : Int) < (xs.length : Int) := by omega
          have p2 : (i : Int) < (ys.length : Int) := by have := hylH.out; omega
          clear e e'
          by_cases hy0 : y = 0
          · subst hy0
            go_wp2_with (at_builtin; refine push_U (z := 45) wc.heap.size (by simp) ou (by rfl) (by rfl) _ _ (by rfl) (by rfl) (by rfl) (by omega) (by omega) ?_; intro v6 w6 ou6 hg6 hb6; have vb := vb.below hb6 (by omega); have z6 := hb6.size; have B6 : Below w.heap.size w w6 := hbw.trans (hb6.mono (by omega)))
            go_roundw
            case rel => exact ⟨_, i + 1, rfl, by omega, by go_num, by rw [e9.out, ctx, if_pos rfl]; exact ou6, vb, by omega, B6⟩
            case measure => simp [intOf]; omega
          · have e0 : (y == 0) = false := by simp [hy0]
            have hx0 : 0 ≤ x ∧ x ≤ 1000 := by omega
            have hy1 : 1 ≤ y ∧ y ≤ 9 := by omega
            have hS : ∀ w', Calls Tryd.prog 25 #[.int .i64 x] w' fun e w'' => e = .returned (.string (mkT (Lib.itoa x))) ∧ Below w'.heap.size w' w'' := fun w' => by
              have := spec_l01Dec x.toNat w' (by omega)
              rw [itoa_pos hx0.1]
              rwa [show ((x.toNat : Nat) : Int) = x by omega] at this
            have hD : ∀ w', Calls Tryd.prog 25 #[.int .i64 y] w' fun e w'' => e = .returned (.string (mkT (Lib.itoa y))) ∧ Below w'.heap.size w' w'' := fun w' => by
              have := spec_l01Dec y.toNat w' (by omega)
              rw [itoa_pos (by omega)]
              rwa [show ((y.toNat : Nat) : Int) = y by omega] at this
            have hSH := Lib.hid hS
            have hDH := Lib.hid hD
            have lx := Lib.itoa_length_le x (by omega) (by omega)
            have ly := Lib.itoa_length_le y (by omega) (by omega)
            have a1 : ∀ w, (Op.stringOp .add (mkT (Lib.itoa x)) ⟨#[58]⟩).run Tryd.prog w = .ok (.string (mkT (Lib.itoa x ++ [58]))) w := add_T _ [58] (by omega) (by simp)
            have a2 : ∀ w, (Op.stringOp .add (mkT (Lib.itoa x ++ [58])) (mkT (Lib.itoa y))).run Tryd.prog w = .ok (.string (mkT (Lib.itoa x ++ 58 :: Lib.itoa y))) w := fun w => by rw [add_T _ _ (by simp; omega) (by omega)]; simp
            have e8 : Hid (ctx x y = Lib.itoa x ++ 58 :: Lib.itoa y) := by unfold Hid ctx; rw [if_neg hy0]; simp
            have l9 : (Lib.itoa x ++ 58 :: Lib.itoa y).length ≤ 43 := by simp; omega
            clear hS hD hy0 hxy
            go_upto_region 13 with fail
            (refine wp_region_noPanic ?_; refine wp_region_held_drew (S := (fun w' => w'.cell? ⟨w.heap.size, 2, none⟩ = some (.slice (some ⟨ba, oa, none⟩) xs.length c) ∧ w'.cell? ⟨w.heap.size, 3, none⟩ = some (.slice (some ⟨bb, ob, none⟩) ys.length d) ∧ w'.cell? ⟨ba, oa + i, none⟩ = some (.int .i64 x) ∧ w'.cell? ⟨bb, ob + i, none⟩ = some (.int .i64 y))) (by kernel_rfl) ?_ (fun hHeld => ?_); (focus ((try dsimp only); (refine ⟨?_, ?_, ?_, ?_⟩ <;> exact bxc))); (refine takeT (i := 0) (d := 46) rfl rfl (by kernel_rfl) (by kernel_rfl) (by kernel_rfl) (by rfl) (by assumption) (v := ?_) ?_ ?_; rotate_left; (focus (intro wq hSw; (try dsimp only at hSw); go_simp; (try (with_reducible rfl)); done)); (try simp only [Act.put, List.setIfInBounds_toArray, List.set_cons_zero, List.set_cons_succ])); (refine takeT (i := 1) (d := 47) rfl rfl (by kernel_rfl) (by kernel_rfl) (by kernel_rfl) (by rfl) (by assumption) (v := ?_) ?_ ?_; rotate_left; (focus (intro wq hSw; (try dsimp only at hSw); go_simp; (try (with_reducible rfl)); done)); (try simp only [Act.put, List.setIfInBounds_toArray, List.set_cons_zero, List.set_cons_succ])); (refine takeT (i := 2) (d := 48) rfl rfl (by kernel_rfl) (by kernel_rfl) (by kernel_rfl) (by rfl) (by assumption) (v := ?_) ?_ ?_; rotate_left; (focus (intro wq hSw; (try dsimp only at hSw); go_simp; (try (with_reducible rfl)); done)); (try simp only [Act.put, List.setIfInBounds_toArray, List.set_cons_zero, List.set_cons_succ])); (refine takeT (i := 3) (d := 49) rfl rfl (by kernel_rfl) (by kernel_rfl) (by kernel_rfl) (by rfl) (by assumption) (v := ?_) ?_ ?_; rotate_left; (focus (intro wq hSw; (try dsimp only at hSw); go_simp; (try (with_reducible rfl)); done)); (try simp only [Act.put, List.setIfInBounds_toArray, List.set_cons_zero, List.set_cons_succ])); (refine takeT (i := 4) (d := 50) rfl rfl (by kernel_rfl) (by kernel_rfl) (by kernel_rfl) (by rfl) (by assumption) (v := ?_) ?_ ?_; rotate_left; (focus (intro wq hSw; (try dsimp only at hSw); go_simp; (try (with_reducible rfl)); done)); (try simp only [Act.put, List.setIfInBounds_toArray, List.set_cons_zero, List.set_cons_succ])); (refine takeT (i := 5) (d := 51) rfl rfl (by kernel_rfl) (by kernel_rfl) (by kernel_rfl) (by rfl) (by assumption) (v := ?_) ?_ ?_; rotate_left; (focus (intro wq hSw; (try dsimp only at hSw); go_simp; (try (with_reducible rfl)); done)); (try simp only [Act.put, List.setIfInBounds_toArray, List.set_cons_zero, List.set_cons_succ])); (refine takeT (i := 8) (d := 54) rfl rfl (by kernel_rfl) (by kernel_rfl) (by kernel_rfl) (by rfl) (by assumption) (v := ?_) ?_ ?_; rotate_left; (focus (intro wq hSw; (try dsimp only at hSw); go_simp; (try (with_reducible rfl)); done)); (try simp only [Act.put, List.setIfInBounds_toArray, List.set_cons_zero, List.set_cons_succ])); (refine takeT (i := 9) (d := 55) rfl rfl (by kernel_rfl) (by kernel_rfl) (by kernel_rfl) (by rfl) (by assumption) (v := ?_) ?_ ?_; rotate_left; (focus (intro wq hSw; (try dsimp only at hSw); go_simp; (try (with_reducible rfl)); done)); (try simp only [Act.put, List.setIfInBounds_toArray, List.set_cons_zero, List.set_cons_succ])); (refine takeT (i := 10) (d := 56) rfl rfl (by kernel_rfl) (by kernel_rfl) (by kernel_rfl) (by rfl) (by assumption) (v := ?_) ?_ ?_; rotate_left; (focus (intro wq hSw; (try dsimp only at hSw); go_simp; (try (with_reducible rfl)); done)); (try simp only [Act.put, List.setIfInBounds_toArray, List.set_cons_zero, List.set_cons_succ])); (refine takeT (i := 11) (d := 57) rfl rfl (by kernel_rfl) (by kernel_rfl) (by kernel_rfl) (by rfl) (by assumption) (v := ?_) ?_ ?_; rotate_left; (focus (intro wq hSw; (try dsimp only at hSw); go_simp; (try (with_reducible rfl)); done)); (try simp only [Act.put, List.setIfInBounds_toArray, List.set_cons_zero, List.set_cons_succ])); (refine takeT (i := 12) (d := 58) rfl rfl (by kernel_rfl) (by kernel_rfl) (by kernel_rfl) (by rfl) (by assumption) (v := ?_) ?_ ?_; rotate_left; (focus (intro wq hSw; (try dsimp only at hSw); go_simp; (try (with_reducible rfl)); done)); (try simp only [Act.put, List.setIfInBounds_toArray, List.set_cons_zero, List.set_cons_succ])); (refine wpAnyH_ready (rs := [6]) (by kernel_rfl) (by simp) ?_; refine AllReadyH.cons rfl (fun K hK => ?_) AllReadyH.nil; (first | (refine step_US ou (by rfl) _ _ (by rfl) (by rfl) (by rfl) (by omega) (by omega) (by omega) ?_; intro v7 w7 ou7 hg7 hb7; have vb := vb.below hb7 (by omega); have v2 := vb.cell (j := 2) rfl; have v3 := vb.cell (j := 3) rfl; have cV := (hb7.cell (p := ⟨ba, oa + i, none⟩) (by show ba < N; omega)).trans cV; have cG := (hb7.cell (p := ⟨bb, ob + i, none⟩) (by show bb < N; omega)).trans cG; have z7 := hb7.size) | (go_simp; (first | (go_at_call 25; (first | ((with_reducible refine (hSH.out _).mono ?_); rintro e w5 ⟨rfl, hb5⟩; have ou := OwnU.below (w := wc.drew) ou hb5; have vb := VBox.next (w := wc.drew) vb hb5; have v2 := vb.cell (j := 2) rfl; have v3 := vb.cell (j := 3) rfl; have z5 := hb5.size; (try simp only [World.size_drew] at z5); have cV := bx_keep hb5 (bx_drew1 cV); have cG := bx_keep hb5 (bx_drew1 cG)) | ((with_reducible refine (hDH.out _).mono ?_); rintro e w6 ⟨rfl, hb6⟩; have ou := OwnU.below  ou hb6; have vb := VBox.next  vb hb6; have v2 := vb.cell (j := 2) rfl; have v3 := vb.cell (j := 3) rfl; have z6 := hb6.size; (try simp only [World.size_drew] at z6); have cV := bx_keep hb6 cV; have cG := bx_keep hb6 cG))) | skip); (try go_wp2_with fail))); refine hK.out _ _ ?_ (fun hHeld => ?_); (focus ((try dsimp only); (refine ⟨?_, ?_, ?_, ?_⟩ <;> exact bxc))); clear hK K; (try simp only [Act.put, List.setIfInBounds_toArray, List.set_cons_zero, List.set_cons_succ])); (refine takeT (i := 7) (d := 53) rfl rfl (by kernel_rfl) (by kernel_rfl) (by kernel_rfl) (by rfl) (by assumption) (v := ?_) ?_ ?_; rotate_left; (focus (intro wq hSw; (try dsimp only at hSw); go_simp; (try (with_reducible rfl)); done)); (try simp only [Act.put, List.setIfInBounds_toArray, List.set_cons_zero, List.set_cons_succ])); (refine wpAnyH_ready (rs := [13]) (by kernel_rfl) (by simp) ?_; refine AllReadyH.cons rfl (fun K hK => ?_) AllReadyH.nil; (first | (refine step_US ou (by rfl) _ _ (by rfl) (by rfl) (by rfl) (by omega) (by omega) (by omega) ?_; intro v7 w7 ou7 hg7 hb7; have vb := vb.below hb7 (by omega); have v2 := vb.cell (j := 2) rfl; have v3 := vb.cell (j := 3) rfl; have cV := (hb7.cell (p := ⟨ba, oa + i, none⟩) (by show ba < N; omega)).trans cV; have cG := (hb7.cell (p := ⟨bb, ob + i, none⟩) (by show bb < N; omega)).trans cG; have z7 := hb7.size) | (go_simp; (first | (go_at_call 25; (first | ((with_reducible refine (hSH.out _).mono ?_); rintro e w5 ⟨rfl, hb5⟩; have ou := OwnU.below (w := wc.drew) ou hb5; have vb := VBox.next (w := wc.drew) vb hb5; have v2 := vb.cell (j := 2) rfl; have v3 := vb.cell (j := 3) rfl; have z5 := hb5.size; (try simp only [World.size_drew] at z5); have cV := bx_keep hb5 (bx_drew1 cV); have cG := bx_keep hb5 (bx_drew1 cG)) | ((with_reducible refine (hDH.out _).mono ?_); rintro e w6 ⟨rfl, hb6⟩; have ou := OwnU.below  ou hb6; have vb := VBox.next  vb hb6; have v2 := vb.cell (j := 2) rfl; have v3 := vb.cell (j := 3) rfl; have z6 := hb6.size; (try simp only [World.size_drew] at z6); have cV := bx_keep hb6 cV; have cG := bx_keep hb6 cG))) | skip); (try go_wp2_with fail))); refine hK.out _ _ ?_ (fun hHeld => ?_); (focus ((try dsimp only); (refine ⟨?_, ?_, ?_, ?_⟩ <;> exact bxc))); clear hK K; (try simp only [Act.put, List.setIfInBounds_toArray, List.set_cons_zero, List.set_cons_succ])); (refine takeT (i := 14) (d := 60) rfl rfl (by kernel_rfl) (by kernel_rfl) (by kernel_rfl) (by rfl) (by assumption) (v := ?_) ?_ ?_; rotate_left; (focus (intro wq hSw; (try dsimp only at hSw); go_simp; (try (with_reducible rfl)); done)); (try simp only [Act.put, List.setIfInBounds_toArray, List.set_cons_zero, List.set_cons_succ])); (refine wpAnyH_ready (rs := [15]) (by kernel_rfl) (by simp) ?_; refine AllReadyH.cons rfl (fun K hK => ?_) AllReadyH.nil; (first | (refine step_US ou (by rfl) _ _ (by rfl) (by rfl) (by rfl) (by omega) (by omega) (by omega) ?_; intro v7 w7 ou7 hg7 hb7; have vb := vb.below hb7 (by omega); have v2 := vb.cell (j := 2) rfl; have v3 := vb.cell (j := 3) rfl; have cV := (hb7.cell (p := ⟨ba, oa + i, none⟩) (by show ba < N; omega)).trans cV; have cG := (hb7.cell (p := ⟨bb, ob + i, none⟩) (by show bb < N; omega)).trans cG; have z7 := hb7.size) | (go_simp; (first | (go_at_call 25; (first | ((with_reducible refine (hSH.out _).mono ?_); rintro e w5 ⟨rfl, hb5⟩; have ou := OwnU.below (w := wc.drew) ou hb5; have vb := VBox.next (w := wc.drew) vb hb5; have v2 := vb.cell (j := 2) rfl; have v3 := vb.cell (j := 3) rfl; have z5 := hb5.size; (try simp only [World.size_drew] at z5); have cV := bx_keep hb5 (bx_drew1 cV); have cG := bx_keep hb5 (bx_drew1 cG)) | ((with_reducible refine (hDH.out _).mono ?_); rintro e w6 ⟨rfl, hb6⟩; have ou := OwnU.below  ou hb6; have vb := VBox.next  vb hb6; have v2 := vb.cell (j := 2) rfl; have v3 := vb.cell (j := 3) rfl; have z6 := hb6.size; (try simp only [World.size_drew] at z6); have cV := bx_keep hb6 cV; have cG := bx_keep hb6 cG))) | skip); (try go_wp2_with fail))); refine hK.out _ _ ?_ (fun hHeld => ?_); (focus ((try dsimp only); (refine ⟨?_, ?_, ?_, ?_⟩ <;> exact bxc))); clear hK K; (try simp only [Act.put, List.setIfInBounds_toArray, List.set_cons_zero, List.set_cons_succ])); (refine takeT (i := 16) (d := 3) rfl rfl (by kernel_rfl) (by kernel_rfl) (by kernel_rfl) (by rfl) (by assumption) (v := ?_) ?_ ?_; rotate_left; (focus (intro wq hSw; (try dsimp only at hSw); go_simp; (try (with_reducible rfl)); done)); (try simp only [Act.put, List.setIfInBounds_toArray, List.set_cons_zero, List.set_cons_succ])); refine wpAnyH_done (by kernel_rfl) ?_ _; refine NoPanic.normal ?_)
            have B6 : Below w.heap.size w w6 := by exact bgr
            have B7 : Below w.heap.size w w7 := B6.trans (hb7.mono (by omega))
            go_wp2_with fail
            go_roundw
            case rel => exact ⟨_, i + 1, rfl, by omega, by go_num, by rw [e9.out, e8.out]; exact ou7, vb, by omega, B7⟩
            case measure => simp [intOf]; omega
      · obtain rfl : i = xs.length := by omega
        have t1 : ¬ (xs.length : Int) < (P : Int) * (Q : Int) := by rw [← hnH.out]; omega
        have hl1 : 0 < (sxk P xs ys xs.length).length := by
          rw [show xs.length = (xs.length - 1) + 1 by omega, sxk_succ]
          rw [List.length_append, List.length_append]
          have : 0 < (cxt xs ys (xs.length - 1)).length := by
            unfold cxt ctx
            split <;> simp
            omega
          omega
        have hcv := ou.conv hl1
        go_wp2_with fail
        go_ret
        exact ⟨rfl, by exact bgr⟩
end Go.Proofs.YtgokiedhdihamaaDoor
