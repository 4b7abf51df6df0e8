/- ReadMosaic of the reference: contract. -/
import Derived.Test.YtgokiedhdihamaaDoorRmI
import Derived.Test.YtgokiedhdihamaaDoorTxS
import Derived.Test.YtgokiedhdihamaaDoorRegLast
namespace Go.Proofs.YtgokiedhdihamaaDoor
open Go.RowKit Go.ChangeShapes Go.WideShapes Go.ChangeAt
set_option linter.unusedVariables false
set_option linter.unusedSimpArgs false
theorem cS_dash : cS [45] = some (-1, 0) := by unfold cS; rw [if_pos rfl]
theorem cS_none {c : List UInt8} (h : c ≠ [45]) (hn : cS c = none) : nmB (spl 58 c) = false ∨ (spl 58 c).length ≠ 2 := by
  unfold cS at hn
  rw [if_neg h] at hn
  split at hn
  · rename_i a b e
    split at hn
    · cases hn
    · rename_i hb
      left
      rw [e]
      simp only [nmB, List.all_cons, List.all_nil, Bool.and_true]
      exact Bool.eq_false_iff.2 hb
  · rename_i hne
    right
    intro e
    match hs : spl 58 c, e with
    | [a, b], _ => exact hne a b hs
theorem cS_some {c : List UInt8} {z : Int × Int} (h : c ≠ [45]) (hn : cS c = some z) : nmB (spl 58 c) = true ∧ nmV (spl 58 c) = [z.1, z.2] := by
  unfold cS at hn
  rw [if_neg h] at hn
  split at hn
  · rename_i a b e
    split at hn
    · rename_i hb
      injection hn with hn
      subst hn
      rw [e]
      simp only [Bool.and_eq_true] at hb
      simp [nmB, nmV, hb.1, hb.2]
    · cases hn
  · cases hn
theorem step_push2 {ops : Array Oper} {o : Oper} {a : Act} {K : Act → World → Prop} {Q : Exit → Act → World → Prop} {E : Prop} {w1 : World} {t : Nat} {y : Int} {xs : List Int} {v : Value} {base : Nat} (hown : OwnI w1 base v xs) (ht : w1.heap[t]? = some (.cells #[.int .i64 y] 2 (0, 0)))
    (hgd : o.guard = none) (s x : Operand) (ho : o.op = .call { callee := .builtin .append, args := #[s, x], argTypes := #[22, 22] }) (hs : a.eval s = v) (hx : a.eval x = .slice (some ⟨t, 0, none⟩) 1 1) (hbase : base ≤ w1.heap.size) (hb : xs.length ≤ 8796093022208)
    (h : ∀ v' w', OwnI w' base v' (xs ++ [y]) → w1.grownBy w' v.ownBlock → Below base w1 w' → NewB w1 v v' → K (a.put o.dst v') w') : if Region.wanted o (yielded ops a.tmps) = true then Oper.wp Tryd.prog o a w1 K Q else E := by
  obtain ⟨i0, hi, hz0, hz1, hz2⟩ := info_parts int_info
  have hown' := hown
  obtain ⟨A, c, hv, hr⟩ := hown
  subst hv
  refine step_append_lies _ hgd s x 22 ho base 2 i0 _ 1 8 Tryd.underlying22 hi hz0 hz1 hz2 rfl (by omega) _ xs.length (xs.map (Value.int .i64)) hs hr ⟨t, 0, none⟩ 1 1 [.int .i64 y] hx rfl (World.news_of_block ht) (by simp [Value.oneCell']) (by omega) (by simp only [maxLen]; omega) (by omega) hbase _ rfl ?_
  intro g cap w2 h1 h2 h3 h4
  exact h _ _ ⟨some ⟨g, 0, none⟩, cap, by simp, by simpa using h1⟩ h2 (below_of_grownBy h2 hown' hbase) ⟨g, rfl, h3.imp id (fun e => by omega)⟩
theorem grownX (w : World) (X o : Nat) (u : Value) : w.grownBy (w.setCell ⟨X, o, none⟩ u) (some X) := ⟨rfl, rfl, rfl, by simp, fun k hk hne => Below.heap_setCell w ⟨X, o, none⟩ u k (fun e => hne (by rw [e]))⟩
theorem Two2.offX {w : World} {base X o : Nat} {vx vy u : Value} {xs ys : List Int} (h : Two2 w base vx vy xs ys) (hx : vx.ownBlock ≠ some X) (hy : vy.ownBlock ≠ some X) : Two2 (w.setCell ⟨X, o, none⟩ u) base vx vy xs ys := ⟨h.1.kept (grownX w X o u) (.inr hx), h.2.1.kept (grownX w X o u) (.inr hy), h.2.2⟩
theorem NewB.ne {w : World} {v v' : Value} {X : Nat} (h : NewB w v v') (hv : v.ownBlock ≠ some X) (hX : X < w.heap.size) : v'.ownBlock ≠ some X := fun e => by
  obtain ⟨g, e1, h1⟩ := h
  rw [e1] at e
  injection e with e
  subst e
  rcases h1 with h1 | h1
  · exact hv h1
  · omega
/-- the reference's memory while it reads a row -/
def SpSt (p q : Int) (X R b : Nat) (w1 : World) (A : Option Addr) (cs : List (List UInt8)) (xs ys : List Int) (vx vy : Value) (W : World) : Prop :=
  VBox W 24 X [.int .i64 p, .int .i64 q, vx, vy] ∧ Two2 W b vx vy xs ys ∧ VBox W 24 R [.int .i64 0, .int .i64 0, .slice none 0 0, .slice none 0 0] ∧ RX W A cs ∧ (Apa A vx ∧ Apa A vy) ∧ (∀ g, A = some ⟨g, 0, none⟩ → X < g) ∧ Below b w1 W ∧ R < b ∧ b ≤ X ∧ vx.ownBlock ≠ some X ∧ vy.ownBlock ≠ some X
theorem SpSt.box {p q : Int} {X R b : Nat} {w1 W w' : World} {A : Option Addr} {cs : List (List UInt8)} {xs ys zs : List Int} {vx vy v : Value} (h : SpSt p q X R b w1 A cs xs ys vx vy W) (hv : OwnI W b v zs) (hX : v.ownBlock ≠ some X) (hg : W.grownBy w' v.ownBlock) : VBox w' 24 X [.int .i64 p, .int .i64 q, vx, vy] ∧ VBox w' 24 R [.int .i64 0, .int .i64 0, .slice none 0 0, .slice none 0 0] := by
  obtain ⟨vb, tw, rb, rx, ap, hA, hb, hR, hbX, hx, hy⟩ := h
  exact ⟨vb.grown hg (fun e => hX e.symm), rb.grown hg (fun e => by have := (hv.lt R e.symm).1; omega)⟩
theorem SpSt.x {p q : Int} {X R b : Nat} {w1 W w' : World} {A : Option Addr} {cs : List (List UInt8)} {xs ys xs' : List Int} {vx vy v' : Value} (h : SpSt p q X R b w1 A cs xs ys vx vy W) (hne : 0 < cs.length) (ho : OwnI w' b v' xs') (hg : W.grownBy w' vx.ownBlock) (hb : Below b W w') (hn : NewB W vx v') : SpSt p q X R b w1 A cs xs' ys v' vy (w'.setCell ⟨X, 2, none⟩ v') := by
  obtain ⟨b1, b2⟩ := h.box h.2.1.1 h.2.2.2.2.2.2.2.2.2.1 hg
  obtain ⟨vb, tw, rb, rx, ap, hA, hbw, hR, hbX, hx, hy⟩ := h
  refine ⟨b1.set 2 _, (tw.pushX ho hg hn).offX (hn.ne hx vb.lt) hy, b2.far (by omega), (rx.grown hg (fun g e => ap.1 g e)).far (fun g e => by have := hA g e; omega), ⟨ap.1.new rx hne hn, ap.2⟩, hA, ?_, hR, hbX, hn.ne hx vb.lt, hy⟩
  exact (hbw.trans hb).setCell hbX _
theorem SpSt.y {p q : Int} {X R b : Nat} {w1 W w' : World} {A : Option Addr} {cs : List (List UInt8)} {xs ys ys' : List Int} {vx vy v' : Value} (h : SpSt p q X R b w1 A cs xs ys vx vy W) (hne : 0 < cs.length) (ho : OwnI w' b v' ys') (hg : W.grownBy w' vy.ownBlock) (hb : Below b W w') (hn : NewB W vy v') : SpSt p q X R b w1 A cs xs ys' vx v' (w'.setCell ⟨X, 3, none⟩ v') := by
  obtain ⟨b1, b2⟩ := h.box h.2.1.2.1 h.2.2.2.2.2.2.2.2.2.2 hg
  obtain ⟨vb, tw, rb, rx, ap, hA, hbw, hR, hbX, hx, hy⟩ := h
  refine ⟨b1.set 3 _, (tw.pushY ho hg hn).offX hx (hn.ne hy vb.lt), b2.far (by omega), (rx.grown hg (fun g e => ap.2 g e)).far (fun g e => by have := hA g e; omega), ⟨ap.1, ap.2.new rx hne hn⟩, hA, ?_, hR, hbX, hx, hn.ne hy vb.lt⟩
  exact (hbw.trans hb).setCell hbX _
theorem SpSt.next {p q : Int} {X R b : Nat} {w1 W w' : World} {A : Option Addr} {cs : List (List UInt8)} {xs ys : List Int} {vx vy : Value} (h : SpSt p q X R b w1 A cs xs ys vx vy W) (hb : Below W.heap.size W w') : SpSt p q X R b w1 A cs xs ys vx vy w' := by
  obtain ⟨vb, tw, rb, rx, ap, hA, hbw, hR, hbX, hx, hy⟩ := h
  have := vb.lt
  exact ⟨vb.next hb, tw.below hb, rb.next hb, rx.up hb, ap, hA, hbw.trans (hb.mono (by omega)), hR, hbX, hx, hy⟩
end Go.Proofs.YtgokiedhdihamaaDoor
