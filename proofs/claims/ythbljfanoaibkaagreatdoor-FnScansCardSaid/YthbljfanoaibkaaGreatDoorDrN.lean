/- The draws of lists of contacts: contract. Printed by gen_drt.py. -/
import Derived.Test.YthbljfanoaibkaaGreatDoorDrM
namespace Go.Proofs.YthbljfanoaibkaaGreatDoor
open Go.RowKit Go.ChangeShapes Go.WideShapes Go.ChangeAt
set_option linter.unusedVariables false
set_option linter.unusedSimpArgs false
section
variable {α : Type} {cl : α → List Int} {T : TypeId} {k lo hi : Nat} {w w' : World} {v : Value} {xs : List α}
theorem OwnS.src {g : Nat} (h : OwnS cl T k w lo hi v xs) (hg : w.grownBy w' (some g)) (hlt : g < lo) : OwnS cl T k w' lo hi v xs := h.kept hg (by
  cases hv : v.ownBlock with
  | none => simp
  | some q => right; have := (h.lt q hv).1; simp; omega)
theorem Src.push {B g : Nat} (hs : Src w B g) (h : OwnS cl T k w lo hi v xs) (hg : w.grownBy w' v.ownBlock) (hlt : g < lo) : Src w' B g := hs.other hg (fun q hq => by have := (h.lt q hq).1; omega)
theorem IBox.push {T' : TypeId} {X : Nat} {l : List Int} (hX : IBox w T' X l) (h : OwnS cl T k w lo hi v xs) (hg : w.grownBy w' v.ownBlock) (hlt : X < lo) : IBox w' T' X l := hX.grown hg (fun e => by have := (h.lt X e.symm).1; omega)
end
def vlen : Value → Nat
  | .slice _ n _ => n
  | _ => 0
abbrev OwnCt (w : World) (lo hi : Nat) (v : Value) (cs : List (Int × Int)) : Prop := OwnS ctl 68 2 w lo hi v cs
theorem ct_info : (Tryz.prog.info? 68).map (fun i => (i.zero, i.size, i.bytes)) = some (some (.agg #[.int .i64 0, .int .i64 0]), 2, 16) := by kernel_rfl
/-- 'append(list, c)', c a contact in a block of its own -/
theorem push_Ct {ops : Array Oper} {rest : List Oper} {o : Oper} {a : Act} {Q : Exit → Act → World → Prop} {W : World} {x y : Int} {ts : List (Int × Int)} {v : Value} {lo hi : Nat} (H : Nat) (hH : W.heap.size = H) (hown : OwnCt W lo hi v ts) (hgd : o.guard = none) (so xo : Operand)
    (ho : o.op = .call { callee := .builtin .append, args := #[so, xo], argTypes := #[46, 46] }) (hs : a.eval so = v) (hx : a.eval xo = .slice (some ⟨H, 0, none⟩) 1 1) (hbase : lo ≤ W.heap.size) (hb : ts.length ≤ 1000000)
    (h : ∀ v' w', OwnCt w' lo w'.heap.size v' (ts ++ [(x, y)]) → Below lo W w' → W.grownBy w' v.ownBlock → wpList Tryz.prog ops Q rest (a.put o.dst v') w') : wpList Tryz.prog ops Q (o :: rest) a (W.alloc (.cells #[.int .i64 x, .int .i64 y] 68)) := by
  subst hH
  refine push_S (cl := ctl) (y := ((x, y) : Int × Int)) (t := W.heap.size) ctl_len (by omega) Tryz.underlying46 ct_info rfl (by omega) (hown.next (Below.new (Below.refl _ _) _)) ?_ hgd so xo ho hs hx (by simp only [World.size_alloc]; omega) (by omega) ?_
  · intro j z hz
    have hj : j < 2 := lt_of_get hz
    have : j = 0 ∨ j = 1 := by omega
    rcases this with rfl | rfl <;> (simp [ctl] at hz; subst hz; exact bx_new rfl rfl)
  · intro v' w' h1 h2 h3
    have hB : Below W.heap.size W (W.alloc (.cells #[.int .i64 x, .int .i64 y] 68)) := Below.new (Below.refl _ _) _
    exact h v' w' h1 ((hB.mono hbase).trans h3) ⟨h2.os, h2.tape, h2.output, Nat.le_trans (by simp) h2.size, fun k hk hne => (h2.block k (by simp; omega) hne).trans (Below.heap_alloc W _ k hk)⟩
set_option maxRecDepth 100000 in
set_option maxHeartbeats 3200000 in
theorem spec_l14DrawContacts (B g : Nat) (x y p q s : Int) (w : World) (hs : Src w B g) :
    Calls Tryz.prog 22 #[.pointer (some ⟨g, 0, none⟩), .agg #[.int .i64 x, .int .i64 y, .int .i64 p, .int .i64 q, .int .i64 s]] w fun e w' => ∃ v cs, e = .returned v ∧ OwnCt w' w.heap.size w'.heap.size v cs ∧ cs.length ≤ 7 ∧ Src w' B g ∧ w.grownBy w' (some g) := by
  have hlt := hs.lt
  go_enter Tryz.func22, Tryz.ntmps22
  go_wp2_with fail
  refine calls_gen (fun W0 hW0 => ?_)
  have mb : IBox W0 38 w.heap.size [x, y, p, q, s] := by rw [hW0]; exact IBox.alloc (IBox.new (w := w) (T := 38) (l := [x, y, p, q, s]) rfl) _
  have ho : OwnCt W0 (w.heap.size + 1) W0.heap.size (.slice (some ⟨w.heap.size + 1, 0, none⟩) 0 0) [] := by
    rw [hW0]
    have := OwnS.top (OwnS.lit0 (cl := ctl) (T := 68) (k := 2) (W := w.alloc (.cells #[.int .i64 x, .int .i64 y, .int .i64 p, .int .i64 q, .int .i64 s] 38)) (lo := w.heap.size + 1) (by simp))
    simpa using this
  have hs0 : Src W0 B g := by rw [hW0]; exact (hs.alloc _).alloc _
  have G : w.grownBy W0 (some g) := by rw [hW0]; exact grownBy_alloc' (grownBy_alloc' (World.grownBy.refl _ _) _) _
  clear hW0 hs
  refine (spec_l01Next _ _ _ _ hs0 (by omega)).mono ?_
  rintro e w1 ⟨r1, rfl, ⟨hr1, ht1⟩, hs1, hg1⟩
  have mb := mb.src hg1 (by omega)
  have ho := OwnS.top (OwnS.src ho hg1 (by omega))
  have G := grownBy_src G hg1
  clear hg1 hs0
  go_wp2_with fail
  go_loopw [5, 6] (fun x9 n9 wr => ∃ (v : Value) (cs : List (Int × Int)) (k : Int), v = x9 ∧ n9 = .int .i64 k ∧ 0 ≤ k ∧ k + cs.length ≤ 4 ∧ OwnCt wr (w.heap.size + 1) wr.heap.size v cs ∧ IBox wr 38 w.heap.size [x, y, p, q, s] ∧ Src wr B g ∧ w.grownBy wr (some g)) (fun _ n9 _ => (intOf n9).toNat)
  case atStart => exact ⟨_, [], r1, rfl, rfl, hr1, by simp; omega, ho, mb, hs1, G⟩
  case round =>
    clear ho mb hs1 G ht1 hr1
    obtain ⟨v, cs, k, rfl, rfl, k0, k1, ho, mb, hsr, G⟩ := hrel
    have zb := mb.lt
    have m0 := mb.cell (j := 0) rfl
    have m1 := mb.cell (j := 1) rfl
    have m2 := mb.cell (j := 2) rfl
    have m3 := mb.cell (j := 3) rfl
    have m4 := mb.cell (j := 4) rfl
    have mf := mb.fz
    obtain ⟨Av, cv, rfl⟩ := OwnS.form ho
    by_cases hk : 0 < k
    · go_wp2_with fail
      refine (spec_l14DrawContact _ _ _ _ _ _ _ _ hsr).mono ?_
      rintro e w2 ⟨a, b, rfl, hs2, hg2⟩
      have mb2 := mb.src hg2 (by omega)
      have ho2 := OwnS.top (OwnS.src ho hg2 (by omega))
      have G2 := grownBy_src G hg2
      have zb2 := mb2.lt
      clear ho mb hsr G hg2 m0 m1 m2 m3 m4 mf
      go_wp2_with (at_builtin; refine push_Ct w2.heap.size (by simp) ho2 rfl _ _ (by rfl) (by rfl) (by rfl) (by omega) (by omega) ?_; intro v6 w6 ho6 hb6 hg6)
      have hs6 := Src.push hs2 ho2 hg6 (by omega)
      have mb6 := IBox.push mb2 ho2 hg6 (by omega)
      have G6 := grownBy_below G2 hb6 (by omega)
      go_roundw
      case rel => exact ⟨_, _, k - 1, rfl, rfl, by omega, by simp; omega, ho6, mb6, hs6, G6⟩
      case measure => simp [intOf]; omega
    · go_wp2_with fail
      refine (spec_l01Next _ _ _ _ hsr (by omega)).mono ?_
      rintro e w3 ⟨r3, rfl, ⟨hr3, ht3⟩, hs3, hg3⟩
      have ho3 := OwnS.top (OwnS.src ho hg3 (by omega))
      have G3 := grownBy_src G hg3
      have zb3 := (mb.src hg3 (by omega)).lt
      clear ho mb hsr G hg3 m0 m1 m2 m3 m4 mf
      by_cases q0 : r3 = 0
      · subst q0
        go_wp2_with fail
        go_loopw [5] (fun x9 wr => ∃ (v : Value) (cs : List (Int × Int)), v = x9 ∧ cs.length ≤ 7 ∧ w.heap.size < wr.heap.size ∧ OwnCt wr (w.heap.size + 1) wr.heap.size v cs ∧ Src wr B g ∧ w.grownBy wr (some g)) (fun x9 _ => 8 - vlen x9)
        case atStart => exact ⟨_, cs, rfl, by omega, zb3, ho3, hs3, G3⟩
        case round =>
          clear ho3 hs3 G3 zb3 k0 k1 hk
          obtain ⟨v, cs, rfl, hl7, zw, ho, hsr, G⟩ := hrel
          obtain ⟨Av, cv, rfl⟩ := OwnS.form ho
          go_wp2_with fail
          refine (spec_l01Next _ _ _ _ hsr (by omega)).mono ?_
          rintro e w4 ⟨r4, rfl, ⟨hr4, ht4⟩, hs4, hg4⟩
          have ho4 := OwnS.top (OwnS.src ho hg4 (by omega))
          have G4 := grownBy_src G hg4
          have zw4 : w.heap.size < w4.heap.size := by have := hg4.size; omega
          clear ho hsr G hg4
          by_cases hc : (cs.length : Int) < 6 + r4
          · go_wp2_with fail
            refine (spec_l01Next _ _ _ _ hs4 (by omega)).mono ?_
            rintro e w5 ⟨r5, rfl, ⟨hr5, ht5⟩, hs5, hg5⟩
            have ho5 := OwnS.top (OwnS.src ho4 hg5 (by omega))
            have G5 := grownBy_src G4 hg5
            have zw5 : w.heap.size < w5.heap.size := by have := hg5.size; omega
            clear ho4 hs4 G4 hg5
            go_wp2_with (at_builtin; refine push_Ct w5.heap.size (by simp) ho5 rfl _ _ (by rfl) (by rfl) (by rfl) (by omega) (by omega) ?_; intro v6 w6 ho6 hb6 hg6)
            have hs6 := Src.push hs5 ho5 hg6 (by omega)
            have G6 := grownBy_below G5 hb6 (by omega)
            have zw6 := hb6.size
            obtain ⟨A6, c6, rfl⟩ := OwnS.form ho6
            go_roundw
            case rel => exact ⟨_, _, rfl, by simp; omega, by omega, ho6, hs6, G6⟩
            case measure => simp [vlen]; omega
          · go_wp2_with fail
            go_ret
            exact ⟨_, _, rfl, OwnS.mono ho4 (by omega) (Nat.le_refl _), hl7, hs4, G4⟩
      · have e0 : (r3 == 0) = false := by simpa using q0
        go_wp2_with fail
        go_ret
        exact ⟨_, _, rfl, OwnS.mono ho3 (by omega) (Nat.le_refl _), by omega, hs3, G3⟩
end Go.Proofs.YthbljfanoaibkaaGreatDoor
