/- Two growing lists, the library's cut of a text, and a list's length: contracts for the program's ReadMosaic. -/
import Derived.Test.YtgokiedhdihamaaDoorRmC
import Derived.Test.YtgokiedhdihamaaDoorRmN
namespace Go.Proofs.YtgokiedhdihamaaDoor
open Go.RowKit Go.ChangeShapes Go.WideShapes Go.ChangeAt
set_option linter.unusedVariables false
set_option linter.unusedSimpArgs false
/-- two lists of numbers that the call made, apart -/
def Two2 (w : World) (base : Nat) (vx vy : Value) (xs ys : List Int) : Prop := OwnI w base vx xs ∧ OwnI w base vy ys ∧ (vx.ownBlock = none ∨ vx.ownBlock ≠ vy.ownBlock)
/-- the block that an append hands back: the old one or a new one -/
def NewB (w : World) (v v' : Value) : Prop := ∃ g, v'.ownBlock = some g ∧ (v.ownBlock = some g ∨ w.heap.size ≤ g)
theorem Two2.below {w w' : World} {base : Nat} {vx vy : Value} {xs ys : List Int} (h : Two2 w base vx vy xs ys) (hb : Below w.heap.size w w') : Two2 w' base vx vy xs ys := ⟨h.1.below hb, h.2.1.below hb, h.2.2⟩
theorem Two2.off {w : World} {base X o : Nat} {vx vy u : Value} {xs ys : List Int} (h : Two2 w base vx vy xs ys) (hX : X < base) : Two2 (w.setCell ⟨X, o, none⟩ u) base vx vy xs ys := ⟨h.1.off hX u, h.2.1.off hX u, h.2.2⟩
theorem Two2.pushX {w w' : World} {base : Nat} {vx vx' vy : Value} {xs xs' ys : List Int} (h : Two2 w base vx vy xs ys) (ho : OwnI w' base vx' xs') (hg : w.grownBy w' vx.ownBlock) (hn : NewB w vx vx') : Two2 w' base vx' vy xs' ys := by
  obtain ⟨h1, h2, h3⟩ := h
  refine ⟨ho, h2.kept hg ?_, ?_⟩
  · cases hy : vy.ownBlock with
    | none => exact .inl rfl
    | some q =>
      right
      rcases h3 with h3 | h3
      · rw [h3]; simp
      · rw [hy] at h3; exact fun e => h3 e.symm
  · right
    obtain ⟨g, e, hg2⟩ := hn
    rw [e]
    rcases hg2 with hg2 | hg2
    · rcases h3 with h3 | h3
      · rw [h3] at hg2; cases hg2
      · rw [hg2] at h3; exact h3
    · intro e2
      have := (h2.lt g e2.symm).2
      omega
theorem Two2.pushY {w w' : World} {base : Nat} {vx vy vy' : Value} {xs ys ys' : List Int} (h : Two2 w base vx vy xs ys) (ho : OwnI w' base vy' ys') (hg : w.grownBy w' vy.ownBlock) (hn : NewB w vy vy') : Two2 w' base vx vy' xs ys' := by
  obtain ⟨h1, h2, h3⟩ := h
  refine ⟨h1.kept hg h3, ho, ?_⟩
  obtain ⟨g, e, hg2⟩ := hn
  rcases h3 with h3 | h3
  · exact .inl h3
  · right
    rw [e]
    rcases hg2 with hg2 | hg2
    · rw [hg2] at h3; exact h3
    · intro e2
      have := (h1.lt g e2).2
      omega
theorem push_int2 {ops : Array Oper} {rest : List Oper} {o : Oper} {a : Act} {Q : Exit → Act → World → Prop} {W : World} {y : Int} {xs : List Int} {v : Value} {base : Nat} (H : Nat) (hH : W.heap.size = H) (hown : OwnI W base v xs) (hgd : o.guard = none) (s x : Operand)
    (ho : o.op = .call { callee := .builtin .append, args := #[s, x], argTypes := #[22, 22] }) (hs : a.eval s = v) (hx : a.eval x = .slice (some ⟨H, 0, none⟩) 1 1) (hbase : base ≤ H) (hb : xs.length ≤ 8796093022208)
    (h : ∀ v' w', OwnI w' base v' (xs ++ [y]) → W.grownBy w' v.ownBlock → Below base W w' → NewB W v v' → wpList Tryd.prog ops Q rest (a.put o.dst v') w') : wpList Tryd.prog ops Q (o :: rest) a (W.alloc (.cells #[.int .i64 y] 2)) := by
  subst hH
  obtain ⟨i0, hi, hz0, hz1, hz2⟩ := info_parts int_info
  obtain ⟨A, c, hv, hr⟩ := hown
  subst hv
  refine wpList_append_lies _ hgd s x 22 ho base 2 i0 _ 1 8 Tryd.underlying22 hi hz0 hz1 hz2 rfl (by omega) _ xs.length (xs.map (Value.int .i64)) hs (hr.alloc _) ⟨W.heap.size, 0, none⟩ 1 1 [.int .i64 y] hx rfl (World.news_of_block (heap_alloc_new W _)) (by simp [Value.oneCell']) (by omega) (by simp only [maxLen]; omega) (by omega) (by simp; omega) _ rfl ?_
  intro g cap w1 h1 h2 h3 h4
  have hg : W.grownBy w1 (Value.slice A xs.length c).ownBlock := ⟨h2.os, h2.tape, h2.output, Nat.le_trans (by simp) h2.size, fun k hk hne => (h2.block k (by simp; omega) hne).trans (Below.heap_alloc W _ k hk)⟩
  have ho' : OwnI w1 base (.slice (some ⟨g, 0, none⟩) (xs.length + 1) cap) (xs ++ [y]) := ⟨some ⟨g, 0, none⟩, cap, by simp, by simpa using h1⟩
  exact h _ _ ho' hg (below_of_grownBy hg ⟨A, c, rfl, hr⟩ hbase) ⟨g, rfl, h3.imp id (fun e => by rw [e]; simp)⟩
theorem calls_gen {P : Program} {n : Nat} {args : Array Value} {w : World} {Q : Ending → World → Prop} (h : ∀ W, W = w → Calls P n args W Q) : Calls P n args w Q := h w rfl
/-! the first rows of a text -/
theorem sp_sum {c : UInt8} : ∀ (s cur : List UInt8), ((sp c cur s).map fun r => r.length + 1).sum = cur.length + s.length + 1
  | [], cur => by simp [sp]
  | b :: r, cur => by
    unfold sp
    split
    · have := sp_sum (c := c) r []
      simp only [List.map_cons, List.sum_cons, List.length_cons] at this ⊢
      rw [this]; simp; omega
    · have := sp_sum (c := c) r (cur ++ [b])
      rw [this]; simp; omega
theorem flat_le : ∀ (rows : List (List UInt8)), (rows.flatMap (spl 44)).length ≤ (rows.map fun r => r.length + 1).sum
  | [] => by simp
  | r :: rows => by
    have h1 : (spl 44 r).length ≤ r.length + 1 := sp_len r []
    have h2 := flat_le rows
    simp only [List.flatMap_cons, List.length_append, List.map_cons, List.sum_cons]
    omega
theorem celO_len {l : List UInt8} : (celO l).length ≤ l.length + 1 := by
  have := flat_le (spl 47 l)
  have h2 := sp_sum (c := 47) l []
  unfold celO
  unfold spl at *
  simp at h2
  omega
/-- the cells of the first rows -/
def fl (l : List UInt8) (y : Nat) : List (List UInt8) := ((spl 47 l).take y).flatMap (spl 44)
theorem fl_zero {l : List UInt8} : fl l 0 = [] := rfl
theorem fl_succ {l r : List UInt8} {y : Nat} (h : (spl 47 l)[y]? = some r) : fl l (y + 1) = fl l y ++ spl 44 r := by
  unfold fl
  rw [List.take_add_one, h, Option.toList_some, List.flatMap_append]; simp
theorem fl_all {l : List UInt8} : fl l (hig l) = celO l := by unfold fl hig celO; rw [List.take_length]
theorem fl_le {l : List UInt8} {y : Nat} : (fl l y).length ≤ l.length + 1 := by
  have h : (celO l).length = (fl l y).length + (((spl 47 l).drop y).flatMap (spl 44)).length := by
    unfold celO fl
    conv => lhs; rw [← List.take_append_drop y (spl 47 l)]
    rw [List.flatMap_append, List.length_append]
  have := celO_len (l := l)
  omega
theorem rdX_app {f : List UInt8 → Option (Int × Int)} {a b : List (List UInt8)} : rdX f (a ++ b) = rdX f a ++ rdX f b := by simp [rdX]
theorem rdY_app {f : List UInt8 → Option (Int × Int)} {a b : List (List UInt8)} : rdY f (a ++ b) = rdY f a ++ rdY f b := by simp [rdY]
theorem okC_app {f : List UInt8 → Option (Int × Int)} {a b : List (List UInt8)} : okC f (a ++ b) = (okC f a && okC f b) := by simp [okC]
theorem tk_succ {cs : List (List UInt8)} {x : Nat} {c : List UInt8} (h : cs[x]? = some c) (a : List (List UInt8)) : a ++ cs.take (x + 1) = (a ++ cs.take x) ++ [c] := by
  rw [List.take_add_one, h, Option.toList_some]; simp
theorem okC_no {f : List UInt8 → Option (Int × Int)} {cells : List (List UInt8)} {c : List UInt8} (h : c ∈ cells) (hf : f c = none) : okC f cells = false := by
  unfold okC
  rw [List.all_eq_false]
  exact ⟨c, h, by rw [hf]; decide⟩
theorem mem_cel {l r c : List UInt8} (hr : r ∈ spl 47 l) (hc : c ∈ spl 44 r) : c ∈ celO l := List.mem_flatMap.2 ⟨r, hr, hc⟩
/-- what a reader hands back -/
def rdP (ok : Bool) (l : List UInt8) : Int := if ok then (wid l : Int) else 0
def rdQ (ok : Bool) (l : List UInt8) : Int := if ok then (hig l : Int) else 0
def rdV (f : List UInt8 → Option (Int × Int)) (ok : Bool) (l : List UInt8) : List Int := if ok then rdX f (celO l) else []
def rdG (f : List UInt8 → Option (Int × Int)) (ok : Bool) (l : List UInt8) : List Int := if ok then rdY f (celO l) else []
theorem lib_Split (l : List UInt8) (c : UInt8) (w : World) (hl : l.length ≤ 1048576) (hv : Env w) :
    Calls Tryd.prog 16 #[.string (mkT l), .string ⟨#[c]⟩] w fun e w' => ∃ A k, e = .returned (.slice A (spl c l).length k) ∧ RX w' A (spl c l) ∧ (∀ g, A = some ⟨g, 0, none⟩ → w.heap.size ≤ g) ∧ Below w.heap.size w w' := by
  have hsz := mkT_size l
  obtain ⟨m, hm⟩ := hv.2.2.2.1
  have hd : (mkT l).data.toList = l := by simp [mkT]
  have hcd : (ByteArray.mk #[c]).data.toList = [c] := rfl
  have hn : Lib.countB (mkT l) ⟨#[c]⟩ + 1 = (spl c l).length := by
    rw [← count_spl]
    show Lib.count (mkT l).data.toList (ByteArray.mk #[c]).data.toList + 1 = _
    rw [hd, hcd]
  have hs : (Lib.splitB ⟨#[c]⟩ 0 (Lib.countB (mkT l) ⟨#[c]⟩) (mkT l)).map (·.data.toList) = spl c l := by
    rw [Lib.splitB_data, hd, hcd, ← split_spl]
    show Lib.splitK [c] 0 (Lib.count (mkT l).data.toList (ByteArray.mk #[c]).data.toList) l = _
    rw [hd, hcd]; rfl
  refine (Tryd.strings_Split (mkT l) ⟨#[c]⟩ m w (by omega) hm (by show 1 ≤ 1; omega)).mono ?_
  rintro e w1 ⟨rfl, rfl⟩
  refine ⟨_, _, by rw [hn], .inr ⟨w.heap.size, rfl, by simp, fun k x hx => ?_⟩, fun g h => (by injection h with h; injection h with h; omega), Below.new (Below.refl _ _) _⟩
  rw [← hs, List.getElem?_map] at hx
  cases hy : (Lib.splitB ⟨#[c]⟩ 0 (Lib.countB (mkT l) ⟨#[c]⟩) (mkT l))[k]? with
  | none => rw [hy] at hx; cases hx
  | some y =>
    rw [hy] at hx
    simp only [Option.map_some, Option.some.injEq] at hx
    have e : y = mkT x := by apply bytes_inj; rw [hx]; simp [mkT]
    rw [tv, ← e]
    simp [hy]
theorem impl_lengthS (A : Option Addr) (n c : Nat) (w : World) : Calls Tryd.prog 17 #[.slice A n c] w fun e w' => e = .returned (.int .i64 n) ∧ w = w' := by
  go_enter Tryd.func17, Tryd.ntmps17
  go_wp2_with fail
  go_ret
  exact ⟨rfl, rfl⟩
end Go.Proofs.YtgokiedhdihamaaDoor
