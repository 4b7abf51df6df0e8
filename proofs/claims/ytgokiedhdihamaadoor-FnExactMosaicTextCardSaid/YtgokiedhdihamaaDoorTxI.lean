/- MosaicText of the program: contracts. -/
import Derived.Test.YtgokiedhdihamaaDoorTxP
import Derived.Test.YtgokiedhdihamaaDoorStrI
import Derived.Test.YtgokiedhdihamaaDoorVBox
import Derived.Test.YtgokiedhdihamaaDoorRegKit
import Derived.Deep.CutRange
import Derived.Deep.DeepCutAuto
namespace Go.Proofs.YtgokiedhdihamaaDoor
open Go.RowKit Go.ChangeShapes Go.WideShapes Go.ChangeAt
set_option linter.unusedVariables false
set_option linter.unusedSimpArgs false
/-- texts of the call's own below a block -/
def OwnXR (w : World) (lo hi : Nat) (v : Value) (ls : List (List UInt8)) : Prop := OwnX w lo v ls ∧ ∀ q, v.ownBlock = some q → q < hi
theorem OwnX.inX {w : World} {lo : Nat} {v : Value} {ls : List (List UInt8)} (h : OwnX w lo v ls) : OwnXR w lo w.heap.size v ls := ⟨h, fun q hq => (h.lt q hq).2⟩
theorem OwnXR.past {w w' : World} {lo hi B : Nat} {v : Value} {ls : List (List UInt8)} (h : OwnXR w lo hi v ls) (hb : Below B w w') (hB : hi ≤ B) : OwnXR w' lo hi v ls := by
  obtain ⟨⟨A, c, rfl, h1, h2⟩, hq⟩ := h
  refine ⟨⟨A, c, rfl, h1, ?_⟩, hq⟩
  rcases h2 with h2 | ⟨g, cap, cur, q1, q2, q3, q4⟩
  · exact .inl h2
  · have hg : g < hi := hq g (by rw [q1]; rfl)
    exact .inr ⟨g, cap, cur, q1, q2, by rw [hb.block g (by omega)]; exact q3, q4⟩
set_option maxRecDepth 100000 in
set_option maxHeartbeats 1600000 in
theorem impl_cellText (p q : Int) (A B : Option Addr) (c d i : Nat) (xs ys : List Int) (x y : Int) (w : World) (hr : I64 w w.heap.size A xs) (hs : I64 w w.heap.size B ys) (hx : xs[i]? = some x) (hy : ys[i]? = some y) (hb : (x = -1 ∧ y = 0) ∨ ((0 ≤ x ∧ x ≤ 1000) ∧ 1 ≤ y ∧ y ≤ 9)) (hxl : xs.length ≤ 1099511627776) (hyl : ys.length ≤ 1099511627776) (ht : Pow w) :
    Calls Tryd.prog 27 #[.agg #[.int .i64 p, .int .i64 q, .slice A xs.length c, .slice B ys.length d], .int .i64 (i : Int)] w fun e w' => e = .returned (.string (mkT (ctx x y))) ∧ Below w.heap.size w w' := by
  have hlx := lt_of_get hx
  have hly := lt_of_get hy
  obtain ⟨ba, oa, rfl, hba, cV⟩ := I64.at_ hr hx
  obtain ⟨bb, ob, rfl, hbb, cG⟩ := I64.at_ hs hy
  have p0 : (0 : Int) ≤ (i : Int) := by omega
  have p1 : (i : Int) < (xs.length : Int) := by omega
  have p2 : (i : Int) < (ys.length : Int) := by omega
  have htH := Lib.hid ht
  clear ht hx hy
  by_cases hy0 : y = 0
  · subst hy0
    have e8 : ctx x 0 = [45] := by rw [ctx, if_pos rfl]
    rw [e8]
    clear hb e8
    go_enter Tryd.func27, Tryd.ntmps27
    have cV := fun o => bx_alloc (ob := o) cV
    have cG := fun o => bx_alloc (ob := o) cG
    go_wp2_with fail
    go_ret
    exact ⟨rfl, by exact bgr⟩
  · have e0 : (y == 0) = false := by simp [hy0]
    have hS := fun w' (h : Below w.heap.size w w') => impl_decimal x w' (by omega) (by omega) (htH.out.up h)
    have hD := fun w' (h : Below w.heap.size w w') => impl_decimal y w' (by omega) (by omega) (htH.out.up h)
    have hSH := Lib.hid hS
    have hDH := Lib.hid hD
    have lx := Lib.itoa_length_le x (by omega) (by omega)
    have ly := Lib.itoa_length_le y (by omega) (by omega)
    have a1 : ∀ w, (Op.stringOp .add (mkT (Lib.itoa x)) ⟨#[58]⟩).run Tryd.prog w = .ok (.string (mkT (Lib.itoa x ++ [58]))) w := add_T _ [58] (by omega) (by simp)
    have a2 : ∀ w, (Op.stringOp .add (mkT (Lib.itoa x ++ [58])) (mkT (Lib.itoa y))).run Tryd.prog w = .ok (.string (mkT (Lib.itoa x ++ 58 :: Lib.itoa y))) w := fun w => by rw [add_T _ _ (by simp; omega) (by omega)]; simp
    have e8 : ctx x y = Lib.itoa x ++ 58 :: Lib.itoa y := by rw [ctx, if_neg hy0]; simp
    rw [e8]
    clear hS hD hy0 hb e8
    go_enter Tryd.func27, Tryd.ntmps27
    have cV' := fun o => bx_alloc (ob := o) cV
    have cG' := fun o => bx_alloc (ob := o) cG
    have z1 : ba < w.heap.size := hba
    have z2 : bb < w.heap.size := hbb
    go_wp2_with fail
    (refine wp_region_noPanic ?_; refine wp_region_held_drew (S := (fun w' => w'.cell? ⟨w.heap.size, 2, none⟩ = some (.slice (some ⟨ba, oa, none⟩) xs.length c) ∧ w'.cell? ⟨w.heap.size, 3, none⟩ = some (.slice (some ⟨bb, ob, none⟩) ys.length d) ∧ w'.cell? ⟨ba, oa + i, none⟩ = some (.int .i64 x) ∧ w'.cell? ⟨bb, ob + i, none⟩ = some (.int .i64 y))) (by kernel_rfl) ?_ (fun hHeld => ?_); (focus ((try dsimp only); (refine ⟨?_, ?_, ?_, ?_⟩ <;> exact bxc))); (refine takeT (i := 0) (d := 11) rfl rfl (by kernel_rfl) (by kernel_rfl) (by kernel_rfl) (by rfl) (by assumption) (v := ?_) ?_ ?_; rotate_left; (focus (intro wq hSw; (try dsimp only at hSw); go_simp; (try (with_reducible rfl)); done)); (try simp only [Act.put, List.setIfInBounds_toArray, List.set_cons_zero, List.set_cons_succ])); (refine takeT (i := 1) (d := 12) rfl rfl (by kernel_rfl) (by kernel_rfl) (by kernel_rfl) (by rfl) (by assumption) (v := ?_) ?_ ?_; rotate_left; (focus (intro wq hSw; (try dsimp only at hSw); go_simp; (try (with_reducible rfl)); done)); (try simp only [Act.put, List.setIfInBounds_toArray, List.set_cons_zero, List.set_cons_succ])); (refine takeT (i := 2) (d := 13) rfl rfl (by kernel_rfl) (by kernel_rfl) (by kernel_rfl) (by rfl) (by assumption) (v := ?_) ?_ ?_; rotate_left; (focus (intro wq hSw; (try dsimp only at hSw); go_simp; (try (with_reducible rfl)); done)); (try simp only [Act.put, List.setIfInBounds_toArray, List.set_cons_zero, List.set_cons_succ])); (refine takeT (i := 3) (d := 14) rfl rfl (by kernel_rfl) (by kernel_rfl) (by kernel_rfl) (by rfl) (by assumption) (v := ?_) ?_ ?_; rotate_left; (focus (intro wq hSw; (try dsimp only at hSw); go_simp; (try (with_reducible rfl)); done)); (try simp only [Act.put, List.setIfInBounds_toArray, List.set_cons_zero, List.set_cons_succ])); (refine takeT (i := 4) (d := 15) rfl rfl (by kernel_rfl) (by kernel_rfl) (by kernel_rfl) (by rfl) (by assumption) (v := ?_) ?_ ?_; rotate_left; (focus (intro wq hSw; (try dsimp only at hSw); go_simp; (try (with_reducible rfl)); done)); (try simp only [Act.put, List.setIfInBounds_toArray, List.set_cons_zero, List.set_cons_succ])); (refine takeT (i := 7) (d := 18) rfl rfl (by kernel_rfl) (by kernel_rfl) (by kernel_rfl) (by rfl) (by assumption) (v := ?_) ?_ ?_; rotate_left; (focus (intro wq hSw; (try dsimp only at hSw); go_simp; (try (with_reducible rfl)); done)); (try simp only [Act.put, List.setIfInBounds_toArray, List.set_cons_zero, List.set_cons_succ])); (refine takeT (i := 8) (d := 19) rfl rfl (by kernel_rfl) (by kernel_rfl) (by kernel_rfl) (by rfl) (by assumption) (v := ?_) ?_ ?_; rotate_left; (focus (intro wq hSw; (try dsimp only at hSw); go_simp; (try (with_reducible rfl)); done)); (try simp only [Act.put, List.setIfInBounds_toArray, List.set_cons_zero, List.set_cons_succ])); (refine takeT (i := 9) (d := 20) rfl rfl (by kernel_rfl) (by kernel_rfl) (by kernel_rfl) (by rfl) (by assumption) (v := ?_) ?_ ?_; rotate_left; (focus (intro wq hSw; (try dsimp only at hSw); go_simp; (try (with_reducible rfl)); done)); (try simp only [Act.put, List.setIfInBounds_toArray, List.set_cons_zero, List.set_cons_succ])); (refine takeT (i := 10) (d := 21) rfl rfl (by kernel_rfl) (by kernel_rfl) (by kernel_rfl) (by rfl) (by assumption) (v := ?_) ?_ ?_; rotate_left; (focus (intro wq hSw; (try dsimp only at hSw); go_simp; (try (with_reducible rfl)); done)); (try simp only [Act.put, List.setIfInBounds_toArray, List.set_cons_zero, List.set_cons_succ])); (refine takeT (i := 11) (d := 22) rfl rfl (by kernel_rfl) (by kernel_rfl) (by kernel_rfl) (by rfl) (by assumption) (v := ?_) ?_ ?_; rotate_left; (focus (intro wq hSw; (try dsimp only at hSw); go_simp; (try (with_reducible rfl)); done)); (try simp only [Act.put, List.setIfInBounds_toArray, List.set_cons_zero, List.set_cons_succ])); (refine wpAnyH_ready (rs := [5]) (by kernel_rfl) (by simp) ?_; refine AllReadyH.cons rfl (fun K hK => ?_) AllReadyH.nil; go_simp; (first | (go_at_call 38; (first | ((with_reducible refine (hSH.out _ (by exact bgr)).mono ?_); rintro e w5 ⟨rfl, hb5⟩) | ((with_reducible refine (hDH.out _ (by exact bgr)).mono ?_); rintro e w6 ⟨rfl, hb6⟩))) | skip); (try go_wp2_with fail); refine hK.out _ _ ?_ (fun hHeld => ?_); (focus ((try dsimp only); (refine ⟨?_, ?_, ?_, ?_⟩ <;> exact bxc))); clear hK K; (try simp only [Act.put, List.setIfInBounds_toArray, List.set_cons_zero, List.set_cons_succ])); (refine takeT (i := 6) (d := 17) rfl rfl (by kernel_rfl) (by kernel_rfl) (by kernel_rfl) (by rfl) (by assumption) (v := ?_) ?_ ?_; rotate_left; (focus (intro wq hSw; (try dsimp only at hSw); go_simp; (try (with_reducible rfl)); done)); (try simp only [Act.put, List.setIfInBounds_toArray, List.set_cons_zero, List.set_cons_succ])); (refine wpAnyH_ready (rs := [12]) (by kernel_rfl) (by simp) ?_; refine AllReadyH.cons rfl (fun K hK => ?_) AllReadyH.nil; go_simp; (first | (go_at_call 38; (first | ((with_reducible refine (hSH.out _ (by exact bgr)).mono ?_); rintro e w5 ⟨rfl, hb5⟩) | ((with_reducible refine (hDH.out _ (by exact bgr)).mono ?_); rintro e w6 ⟨rfl, hb6⟩))) | skip); (try go_wp2_with fail); refine hK.out _ _ ?_ (fun hHeld => ?_); (focus ((try dsimp only); (refine ⟨?_, ?_, ?_, ?_⟩ <;> exact bxc))); clear hK K; (try simp only [Act.put, List.setIfInBounds_toArray, List.set_cons_zero, List.set_cons_succ])); (refine takeT (i := 13) (d := 24) rfl rfl (by kernel_rfl) (by kernel_rfl) (by kernel_rfl) (by rfl) (by assumption) (v := ?_) ?_ ?_; rotate_left; (focus (intro wq hSw; (try dsimp only at hSw); go_simp; (try (with_reducible rfl)); done)); (try simp only [Act.put, List.setIfInBounds_toArray, List.set_cons_zero, List.set_cons_succ])); (refine takeT (i := 14) (d := 4) rfl rfl (by kernel_rfl) (by kernel_rfl) (by kernel_rfl) (by rfl) (by assumption) (v := ?_) ?_ ?_; rotate_left; (focus (intro wq hSw; (try dsimp only at hSw); go_simp; (try (with_reducible rfl)); done)); (try simp only [Act.put, List.setIfInBounds_toArray, List.set_cons_zero, List.set_cons_succ])); refine wpAnyH_done (by kernel_rfl) ?_ _; refine NoPanic.normal ?_)
    go_wp2_with fail
    go_ret
    exact ⟨rfl, by exact bgr⟩
set_option maxRecDepth 100000 in
set_option maxHeartbeats 3200000 in
theorem impl_MosaicText (p q : Int) (A B : Option Addr) (c d : Nat) (xs ys : List Int) (w : World) (hr : I64 w w.heap.size A xs) (hs : I64 w w.heap.size B ys) (hl : xs.length ≤ 1099511627776) (hm : ys.length ≤ 1099511627776) (ht : Pow w) :
    Calls Tryd.prog 13 #[.agg #[.int .i64 p, .int .i64 q, .slice A xs.length c, .slice B ys.length d]] w fun e w' => e = .returned (.string (mkT (mtT p q xs ys))) ∧ Below w.heap.size w w' := by
  have htH := Lib.hid ht
  clear ht
  have hI := fun w h h' => impl_IsMosaic p q A B c d xs ys w h h' hl hm
  cases hb : mosB p q xs ys
  · have e1 : mtT p q xs ys = [] := by unfold mtT; rw [hb]; rfl
    rw [e1]
    rw [hb] at hI
    have hIH := Lib.hid hI
    clear hI hb e1
    go_enter Tryd.func13, Tryd.ntmps13
    go_wp2_with fail
    refine (hIH.out _ (hr.up (by exact bgr)) (hs.up (by exact bgr))).mono ?_
    rintro e w1 ⟨rfl, hb1⟩
    go_wp2_with fail
    go_ret
    exact ⟨rfl, by exact bgr⟩
  · obtain ⟨hp, hq, hn, hyl, hpq1, hpq2, hcel⟩ := mos_facts hb
    obtain ⟨P, rfl⟩ : ∃ P : Nat, p = (P : Int) := ⟨p.toNat, by omega⟩
    obtain ⟨Q, rfl⟩ : ∃ Q : Nat, q = (Q : Int) := ⟨q.toNat, by omega⟩
    have hNN : xs.length = Q * P := by
      have : ((xs.length : Nat) : Int) = ((Q * P : Nat) : Int) := by rw [hn, Int.natCast_mul, Int.mul_comm]
      omega
    have e1 : mtT (P : Int) (Q : Int) xs ys = Lib.join (rowsk P xs ys Q) [47] := by
      unfold mtT
      rw [hb, ← sxk_rows (by omega), Nat.mul_comm Q P]; rfl
    rw [e1]
    have hcell := fun k x y h1 h2 => mos_cell (k := k) (x := x) (y := y) hb h1 h2
    have hrl : ∀ y x, x ≤ P → y * P + x ≤ xs.length → (Lib.join (rowc P xs ys y x) [44]).length ≤ 70400 := fun y x h1 h2 => rowc_join_len hb h1 h2
    have hjl : (Lib.join (rowsk P xs ys Q) [47]).length ≤ 70400 := rowsk_join_len hb (y := Q) (by rw [hNN]; exact Nat.le_refl _)
    have hidx : ∀ y x, y < Q → x < P → y * P + x < xs.length := fun y x h1 h2 => by
      have h3 : y * P + P ≤ Q * P := by rw [← Nat.succ_mul]; exact Nat.mul_le_mul_right P h1
      omega
    have hidx2 : ∀ y, y < Q → y * P + P ≤ xs.length := fun y h1 => by
      have h3 : y * P + P ≤ Q * P := by rw [← Nat.succ_mul]; exact Nat.mul_le_mul_right P h1
      omega
    rw [hb] at hI
    have hIH := Lib.hid hI
    have hcellH := Lib.hid hcell
    have hrlH := Lib.hid hrl
    have hjlH := Lib.hid hjl
    have hidxH := Lib.hid hidx
    have hidx2H := Lib.hid hidx2
    have hylH := Lib.hid hyl
    have hx1 : 1 ≤ xs.length := by omega
    have hx2 : xs.length ≤ 1600 := by omega
    clear hI hb e1 hcell hn hyl hNN hcel hrl hjl hidx hidx2
    go_enter Tryd.func13, Tryd.ntmps13
    go_wp2_with fail
    refine (hIH.out _ (hr.up (by exact bgr)) (hs.up (by exact bgr))).mono ?_
    rintro e w1 ⟨rfl, hb1⟩
    have vb : VBox w1 24 w.heap.size [.int .i64 (P : Int), .int .i64 (Q : Int), .slice A xs.length c, .slice B ys.length d] := VBox.next (VBox.new (w := w) rfl) hb1
    have B0 : Below w.heap.size w w1 := by exact bgr
    have z1 := vb.lt
    have v0 := vb.cell (j := 0) rfl
    have v1 := vb.cell (j := 1) rfl
    clear hb1
    go_wp2_with fail
    obtain ⟨N, hN⟩ : ∃ N, N = w1.heap.size := ⟨_, rfl⟩
    have zN : w.heap.size < N := by omega
    go_loopw [3, 12] (fun x3 x12 wr => ∃ (v : Value) (y : Nat), v = x3 ∧ y ≤ Q ∧ x12 = .int .i64 y ∧ OwnX wr N v (rowsk P xs ys y) ∧ VBox wr 24 w.heap.size [.int .i64 (P : Int), .int .i64 (Q : Int), .slice A xs.length c, .slice B ys.length d] ∧ N ≤ wr.heap.size ∧ Below w.heap.size w wr) (fun _ x12 _ => Q - (intOf x12).toNat)
    case atStart => exact ⟨_, 0, rfl, Nat.zero_le _, rfl, by rw [rowsk_zero]; exact OwnX.nil _ _, vb, by omega, B0⟩
    case round =>
      clear vb B0 hN z1 v0 v1
      obtain ⟨v, y, rfl, hy, rfl, ox, vb, zr, hbr⟩ := hrel
      obtain ⟨Av, cv, rfl⟩ := OwnX.form ox
      have v0 := vb.cell (j := 0) rfl
      have v1 := vb.cell (j := 1) rfl
      by_cases hlt : y < Q
      · have p1 : (y : Int) < (Q : Int) := by omega
        obtain ⟨M, hM⟩ : ∃ M, M = wr.heap.size := ⟨_, rfl⟩
        have ox := OwnX.inX ox
        have zM : N ≤ M := by omega
        obtain ⟨k0, hk0⟩ : ∃ k0, k0 = y * P := ⟨_, rfl⟩
        have hk1 : k0 ≤ 1600 := by have := hidx2H.out y hlt; omega
        have hmul : (y : Int) * (P : Int) = (k0 : Int) := by rw [hk0, Int.natCast_mul]
        have hk0H := Lib.hid hk0
        have hmulH := Lib.hid hmul
        rw [← hM] at ox
        have hMH := Lib.hid hM
        clear hk0 hmul hM
        go_wp2_with fail
        go_loopw [5, 17] (fun x5 x17 wq => ∃ (u : Value) (x : Nat), u = x5 ∧ x ≤ P ∧ x17 = .int .i64 x ∧ OwnX wq M u (rowc P xs ys y x) ∧ M ≤ wq.heap.size ∧ Below M wr wq) (fun _ x17 _ => P - (intOf x17).toNat)
        case atStart => exact ⟨_, 0, rfl, Nat.zero_le _, rfl, by rw [rowc_zero]; exact OwnX.nil _ _, by rw [hMH.out]; exact Nat.le_refl _, Below.refl _ _⟩
        case round =>
          obtain ⟨u, x, rfl, hx, rfl, ou, zq, hbq⟩ := hrel
          obtain ⟨Au, cu, rfl⟩ := OwnX.form ou
          have vbq := vb.below hbq (by omega)
          have Bq := Below.trans hbr (hbq.mono (by omega))
          have u0 := vbq.cell (j := 0) rfl
          have u1 := vbq.cell (j := 1) rfl
          have u2 := vbq.cell (j := 2) rfl
          have u3 := vbq.cell (j := 3) rfl
          by_cases hxP : x < P
          · have p2 : (x : Int) < (P : Int) := by omega
            have hix := hidxH.out y x hlt hxP
            rw [← hk0H.out] at hix
            obtain ⟨a, ha⟩ := get_of_lt hix
            obtain ⟨b, hb⟩ := get_of_lt (xs := ys) (k := k0 + x) (by rw [hylH.out]; exact hix)
            have hC := fun w' (h : Below w.heap.size w w') => impl_cellText (P : Int) (Q : Int) A B c d (k0 + x) xs ys a b w' (hr.up h) (hs.up h) ha hb (hcellH.out _ a b ha hb) (by omega) (by have := hylH.out; omega) (htH.out.up h)
            have e9 : Hid (rowc P xs ys y (x + 1) = rowc P xs ys y x ++ [ctx a b]) := by
              unfold Hid
              rw [rowc_succ, ← hk0H.out, cxt, mget_of ha, mget_of hb]
            rw [Int.natCast_add] at hC
            have hCH := Lib.hid hC
            have hmul := hmulH.out
            have hlu : (rowc P xs ys y x).length ≤ 1600 := by rw [rowc_len]; omega
            clear hC ha hb
            go_wp2_with (first | (go_at_call 27; ((with_reducible refine (hCH.out _ (by exact bgr)).mono ?_); rintro e w5 ⟨rfl, hb5⟩; have ou := ou.below hb5; have B5 := Below.trans hbq (hb5.mono zq); have z5 := hb5.size)) | (at_builtin; refine push_X w5.heap.size (by simp) ou (by rfl) (by rfl) _ _ (by rfl) (by rfl) (by rfl) (by omega) (by omega) ?_; intro v6 w6 ou6 hg6 hb6; have B6 := Below.trans B5 hb6; have z6 := hb6.size))
            go_roundw
            case rel => exact ⟨_, x + 1, rfl, by omega, by go_num, by rw [e9.out]; exact ou6, by omega, B6⟩
            case measure => simp [intOf]; omega
          · obtain rfl : x = P := by omega
            have hlu : (rowc x xs ys y x).length ≤ 1048576 := by rw [rowc_len]; omega
            have hj := join_own Au cu M (rowc x xs ys y x) [44] _ ou hlu (by have := hrlH.out y x (Nat.le_refl _) (by rw [← hk0H.out]; have := hidx2H.out y hlt; rw [← hk0H.out] at this; exact this); omega)
            have hjH := Lib.hid hj
            have ox := ox.past hbq (Nat.le_refl _)
            have e9 : Hid (rowsk x xs ys (y + 1) = rowsk x xs ys y ++ [Lib.join (rowc x xs ys y x) [44]]) := rowsk_succ
            have hlr : (rowsk x xs ys y).length ≤ 40 := by rw [rowsk_len]; omega
            clear hj
            go_wp2_with (first | (go_at_call 28; refine hjH.out.mono ?_; rintro e w5 ⟨rfl, hb5⟩; have ox := OwnX.below ox.1 hb5; have B5 : Below w.heap.size w w5 := Bq.trans (hb5.mono (by omega)); have z5 := hb5.size; have vb5 := vbq.next hb5) | (at_builtin; refine push_X w5.heap.size (by simp) ox (by rfl) (by rfl) _ _ (by rfl) (by rfl) (by rfl) (by omega) (by omega) ?_; intro v6 w6 ou6 hg6 hb6; have B6 : Below w.heap.size w w6 := B5.trans (hb6.mono (by omega)); have z6 := hb6.size; have vb6 := vb5.below hb6 (by omega)))
            go_roundw
            case rel => exact ⟨_, y + 1, rfl, by omega, by go_num, by rw [e9.out]; exact ou6, vb6, by omega, B6⟩
            case measure => simp [intOf]; omega
      · obtain rfl : y = Q := by omega
        have hlu : (rowsk P xs ys y).length ≤ 1048576 := by rw [rowsk_len]; omega
        have hj := join_own Av cv N (rowsk P xs ys y) [47] wr ox hlu (by have := hjlH.out; omega)
        have hjH := Lib.hid hj
        clear hj
        go_wp2_with (go_at_call 28; refine hjH.out.mono ?_; rintro e w5 ⟨rfl, hb5⟩)
        go_ret
        exact ⟨rfl, by exact bgr⟩
end Go.Proofs.YtgokiedhdihamaaDoor
