/- Contracts of the laws' own functions on slices of numbers. -/
import Derived.Test.YtgokiedhdihamaaDoorListA
import Derived.StillTailTactics
import Derived.BigQuiet
import Derived.RegionTactic
import Derived.Deep.RegionHeld3
import Derived.Deep.RegionLaw
namespace Go.Proofs.YtgokiedhdihamaaDoor
open Go.RowKit
set_option linter.unusedVariables false
set_option linter.unusedSimpArgs false

theorem int_info : (Tryd.prog.info? 2).map (fun i => (i.zero, i.size, i.bytes)) = some (some (.int .i64 0), 1, 8) := by kernel_rfl

/-- the value v is a slice of int64 that the call itself made, from block base on; it reads as xs -/
def OwnI (w : World) (base : Nat) (v : Value) (xs : List Int) : Prop := ∃ A c, v = .slice A xs.length c ∧ w.ownsRow base 2 1 (.slice A xs.length c) xs.length (xs.map (Value.int .i64))

section
variable {w w' : World} {base base' : Nat} {v u : Value} {xs ys : List Int} {A : Option Addr} {n c : Nat}
theorem OwnI.nil (w : World) (base : Nat) : OwnI w base (.slice none 0 0) [] := ⟨none, 0, rfl, World.ownsRow_nil _ _ _ _⟩
theorem OwnI.lit0 {W : World} {base : Nat} (h : base ≤ W.heap.size) : OwnI (W.alloc (.cells #[] 2)) base (.slice (some ⟨W.heap.size, 0, none⟩) 0 0) [] :=
  ⟨_, 0, rfl, World.ownsRow_lit W #[] 0 h (by simp) rfl⟩
theorem OwnI.reads (h : OwnI w base (.slice A n c) xs) : n = xs.length ∧ I64 w w.heap.size A xs := by
  obtain ⟨A', c', he, ho⟩ := h
  injection he with h1 h2 h3
  subst h1 h2 h3
  exact ⟨rfl, I64.of_own ho⟩
theorem OwnI.lt (h : OwnI w base v xs) : ∀ k, v.ownBlock = some k → base ≤ k ∧ k < w.heap.size := by
  obtain ⟨A', c', rfl, ho⟩ := h
  exact ho.lt
theorem OwnI.kept (h : OwnI w base v xs) {row : Option Nat} (hg : w.grownBy w' row) (hne : v.ownBlock = none ∨ v.ownBlock ≠ row) : OwnI w' base v xs := by
  obtain ⟨A', c', rfl, ho⟩ := h
  exact ⟨A', c', rfl, ho.kept hg hne⟩
theorem grownBy_of_below (h : Below w.heap.size w w') (row : Option Nat) : w.grownBy w' row := ⟨h.os, h.tape, h.output, h.size, fun k hk _ => h.block k hk⟩
theorem OwnI.below (h : OwnI w base v xs) (hb : Below w.heap.size w w') : OwnI w' base v xs := h.kept (grownBy_of_below hb none) (by cases v.ownBlock <;> simp)
theorem OwnI.alloc (h : OwnI w base v xs) (o : Obj) : OwnI (w.alloc o) base v xs := h.below (Below.new (Below.refl _ _) o)
theorem OwnI.drewN (h : OwnI w base v xs) (n : Nat) : OwnI (w.drewN n) base v xs := h
theorem OwnI.mono (h : OwnI w base v xs) (hb : base' ≤ base) : OwnI w base' v xs := by
  obtain ⟨A', c', rfl, h1, h2⟩ := h
  refine ⟨A', c', rfl, h1, ?_⟩
  rcases h2 with h2 | ⟨g, cap, cur, q1, q2, q3⟩
  · exact .inl h2
  · exact .inr ⟨g, cap, cur, q1, by omega, q3⟩
theorem OwnI.apart {W W' : World} (h : OwnI W base v xs) (h' : OwnI W' base' u ys) (hle : W.heap.size ≤ base') : (v.ownBlock = none ∨ v.ownBlock ≠ u.ownBlock) ∧ (u.ownBlock = none ∨ u.ownBlock ≠ v.ownBlock) := by
  have h1 := h.lt
  have h2 := h'.lt
  cases hv : v.ownBlock with
  | none => cases hu : u.ownBlock <;> simp
  | some k =>
    have h3 := h1 k hv
    cases hu : u.ownBlock with
    | none => simp
    | some j =>
      have h4 := h2 j hu
      have : k ≠ j := by omega
      simp [this]; omega
theorem OwnI.cell {k : Nat} {x : Int} (h : OwnI w base (.slice A n c) xs) (hx : xs[k]? = some x) : ∃ g, A = some ⟨g, 0, none⟩ ∧ base ≤ g ∧ w.cell? ⟨g, k, none⟩ = some (.int .i64 x) ∧ w.frozen? ⟨g, k, none⟩ = false ∧
    ∀ y, OwnI (w.setCell ⟨g, k, none⟩ (.int .i64 y)) base (.slice (some ⟨g, 0, none⟩) n c) (xs.set k y) ∧ w.grownBy (w.setCell ⟨g, k, none⟩ (.int .i64 y)) (some g) := by
  obtain ⟨A', c', he, ho⟩ := h
  injection he with h1 h2 h3
  subst h1 h2 h3
  have hk : k < xs.length := (List.getElem?_eq_some_iff.1 hx).1
  obtain ⟨g, cap, hv, hb, hlt⟩ := ho.form (by omega)
  injection hv with h1 h2 h3
  subst h1 h3
  refine ⟨g, rfl, hb, by rw [ho.cellAt k (by omega), List.getElem?_map, hx]; rfl, ho.frozenAt k, fun y => ?_⟩
  have hs := ho.stored k (.int .i64 y)
  rw [← List.map_set] at hs
  exact ⟨⟨some ⟨g, 0, none⟩, c, by simp, by simpa using hs.1⟩, hs.2⟩
theorem below_of_grownBy (h : w.grownBy w' v.ownBlock) (ho : OwnI w base v xs) (hb : base ≤ w.heap.size) : Below base w w' :=
  ⟨h.os, h.tape, h.output, h.size, fun k hk => h.block k (by omega) (fun e => by have := ho.lt k e.symm; omega)⟩
end

theorem grownBy_trans {a b d : World} {row : Option Nat} (h : a.grownBy b row) (k : b.grownBy d row) : a.grownBy d row :=
  ⟨k.os.trans h.os, k.tape.trans h.tape, k.output.trans h.output, Nat.le_trans h.size k.size, fun i hi hn => (k.block i (Nat.lt_of_lt_of_le hi h.size) hn).trans (h.block i hi hn)⟩
/-- 'append(out, y)' -/
theorem push_int {ops : Array Oper} {rest : List Oper} {o : Oper} {a : Act} {Q : Exit → Act → World → Prop} {W : World} {y : Int} {xs : List Int} {v : Value} {base : Nat} (hown : OwnI W base v xs) (hgd : o.guard = none) (s x : Operand)
    (ho : o.op = .call { callee := .builtin .append, args := #[s, x], argTypes := #[22, 22] }) (hs : a.eval s = v) (hx : a.eval x = .slice (some ⟨W.heap.size, 0, none⟩) 1 1) (hbase : base ≤ W.heap.size) (hb : xs.length ≤ 1099511627776)
    (h : ∀ v' w', OwnI w' base v' (xs ++ [y]) → W.grownBy w' v.ownBlock → Below base W w' → wpList Tryd.prog ops Q rest (a.put o.dst v') w') : wpList Tryd.prog ops Q (o :: rest) a (W.alloc (.cells #[.int .i64 y] 2)) := by
  obtain ⟨i0, hi, hz0, hz1, hz2⟩ := info_parts int_info
  obtain ⟨A, c, hv, hr⟩ := hown
  subst hv
  refine wpList_append_lies _ hgd s x 22 ho base 2 i0 _ 1 8 Tryd.underlying22 hi hz0 hz1 hz2 rfl (by omega) _ xs.length (xs.map (Value.int .i64)) hs (hr.alloc _) ⟨W.heap.size, 0, none⟩ 1 1 [.int .i64 y] hx rfl (World.news_of_block (heap_alloc_new W _)) (by simp [Value.oneCell']) (by omega) (by simp only [maxLen]; omega) (by omega) (by simp; omega) _ rfl ?_
  intro g cap w1 h1 h2 h3 h4
  have hg : W.grownBy w1 (Value.slice A xs.length c).ownBlock := ⟨h2.os, h2.tape, h2.output, Nat.le_trans (by simp) h2.size, fun k hk hne => (h2.block k (by simp; omega) hne).trans (Below.heap_alloc W _ k hk)⟩
  have ho' : OwnI w1 base (.slice (some ⟨g, 0, none⟩) (xs.length + 1) cap) (xs ++ [y]) := ⟨some ⟨g, 0, none⟩, cap, by simp, by simpa using h1⟩
  exact h _ _ ho' hg (below_of_grownBy hg ⟨A, c, rfl, hr⟩ hbase)

/-- the same at a step of a region that draws its order -/
theorem step_push {ops : Array Oper} {o : Oper} {a : Act} {K : Act → World → Prop} {Q : Exit → Act → World → Prop} {E : Prop} {w1 : World} {t : Nat} {y : Int} {xs : List Int} {v : Value} {base : Nat} (hown : OwnI w1 base v xs) (ht : w1.heap[t]? = some (.cells #[.int .i64 y] 2 (0, 0)))
    (hgd : o.guard = none) (s x : Operand) (ho : o.op = .call { callee := .builtin .append, args := #[s, x], argTypes := #[22, 22] }) (hs : a.eval s = v) (hx : a.eval x = .slice (some ⟨t, 0, none⟩) 1 1) (hbase : base ≤ w1.heap.size) (hb : xs.length ≤ 1099511627776)
    (h : ∀ v' w', OwnI w' base v' (xs ++ [y]) → w1.grownBy w' v.ownBlock → Below base w1 w' → K (a.put o.dst v') w') : if Region.wanted o (yielded ops a.tmps) = true then Oper.wp Tryd.prog o a w1 K Q else E := by
  obtain ⟨i0, hi, hz0, hz1, hz2⟩ := info_parts int_info
  have hown' := hown
  obtain ⟨A, c, hv, hr⟩ := hown
  subst hv
  refine step_append_lies _ hgd s x 22 ho base 2 i0 _ 1 8 Tryd.underlying22 hi hz0 hz1 hz2 rfl (by omega) _ xs.length (xs.map (Value.int .i64)) hs hr ⟨t, 0, none⟩ 1 1 [.int .i64 y] hx rfl (World.news_of_block ht) (by simp [Value.oneCell']) (by omega) (by simp only [maxLen]; omega) (by omega) hbase _ rfl ?_
  intro g cap w2 h1 h2 h3 h4
  exact h _ _ ⟨some ⟨g, 0, none⟩, cap, by simp, by simpa using h1⟩ h2 (below_of_grownBy h2 hown' hbase)

theorem take_set_snoc {α : Type} {zs : List α} {k : Nat} {x : α} (h : k < zs.length) : (zs.set k x).take (k + 1) = zs.take k ++ [x] := by
  rw [List.take_add_one, List.getElem?_set_self h, List.take_set_of_le (Nat.le_refl k)]; rfl

theorem laws_toInt64S (A : Option Addr) (c : Nat) (xs : List Int) (w : World) (hr : I64 w w.heap.size A xs) (hl : xs.length ≤ 1048576) :
    Calls Tryd.prog 26 #[.slice A xs.length c] w fun e w' => ∃ g, e = .returned (.slice (some ⟨g, 0, none⟩) xs.length xs.length) ∧ w'.ownsRow w.heap.size 2 1 (.slice (some ⟨g, 0, none⟩) xs.length xs.length) xs.length (xs.map (Value.int .i64)) ∧ Below w.heap.size w w' := by
  obtain ⟨i0, hi, hz0, hz1, hz2⟩ := info_parts int_info
  have hr0 := hr
  go_enter Tryd.func26, Tryd.ntmps26
  go_wp2_with (at_make; refine wpList_make_full _ rfl _ _ 22 rfl w.heap.size 2 i0 _ 1 Tryd.underlying22 hi hz0 hz1 .i64 .i64 _ _ xs.length rfl rfl rfl rfl (by rw [hz2]; omega) (by simp only [maxLen]; omega) (Nat.le_refl _) ?_; intro w1 hown hg)
  have hr1 := hr.below (w' := w1) ⟨hg.os, hg.tape, hg.output, hg.size, fun k hk => hg.block k hk (by simp)⟩
  have hb1 : Below w.heap.size w w1 := ⟨hg.os, hg.tape, hg.output, hg.size, fun k hk => hg.block k hk (by simp)⟩
  clear hg hr
  go_loopw [4] (fun i wr => ∃ k : Nat, ∃ zs : List Int, k ≤ xs.length ∧ i = .int .i64 k ∧ zs.length = xs.length ∧ Hid (zs.take k = xs.take k) ∧ wr.ownsRow w.heap.size 2 1 (.slice (some ⟨w.heap.size, 0, none⟩) xs.length xs.length) xs.length (zs.map (Value.int .i64)) ∧ Below w.heap.size w wr) (fun i _ => xs.length - (intOf i).toNat)
  case atStart => exact ⟨0, List.replicate xs.length 0, Nat.zero_le _, rfl, by simp, by simp [Hid], by have h := hown; simp only [show (Value.int .i64 0).cells = #[Value.int .i64 0] from rfl, Nat.mul_one, toList_madeCells_one] at h; simpa using h, hb1⟩
  case round =>
    obtain ⟨k, zs, hk, rfl, hz, ht, ho, hbr⟩ := hrel
    have hz' := Lib.hid hz
    clear hz hr1 hb1 hown
    by_cases hlt : k < xs.length
    · obtain ⟨x, hx⟩ := get_of_lt hlt
      obtain ⟨b, o, rfl, hb, hc⟩ := (hr0.below hbr).at_ hx
      have hx' := Lib.hid hx
      clear hx
      obtain ⟨z, hzk⟩ := get_of_lt (xs := zs) (k := k) (by have := hz'.out; omega)
      have hcell : wr.cell? ⟨w.heap.size, k, none⟩ = some (.int .i64 z) := by rw [ho.cellAt k (by omega), List.getElem?_map, hzk]; rfl
      have hfr := ho.frozenAt k
      have hst := (ho.stored k (.int .i64 x)).1
      rw [← List.map_set] at hst
      have hzk' := Lib.hid hzk
      clear hzk ho
      go_wp2
      go_roundw
      case rel => exact ⟨k + 1, zs.set k x, by omega, by go_num, by simpa using hz'.out, by unfold Hid; rw [take_set_snoc (by have := hz'.out; omega), take_snoc hx'.out, ht.out], hst, by exact bgr⟩
      case measure => simp [intOf]; omega
    · go_wp2
      go_ret
      have e : zs = xs := by have := ht.out; rw [take_all (xs := xs) hlt, take_all (xs := zs) (by have := hz'.out; omega)] at this; exact this
      refine ⟨_, rfl, ?_, hbr⟩
      rw [← e]
      rw [← e] at ho
      exact ho
theorem laws_eqInt64S (A B : Option Addr) (c d : Nat) (xs ys : List Int) (w : World) (hr : I64 w w.heap.size A xs) (hs : I64 w w.heap.size B ys) (hl : xs.length ≤ 9223372036854775807) (hm : ys.length ≤ 9223372036854775807) :
    Calls Tryd.prog 20 #[.slice A xs.length c, .slice B ys.length d] w fun e w' => e = .returned (.bool (decide (xs = ys))) ∧ Below w.heap.size w w' := by
  go_enter Tryd.func20, Tryd.ntmps20
  by_cases h : xs.length = ys.length
  · have hb : ((xs.length : Int) != (ys.length : Int)) = false := by simp [h]
    have h' := Lib.hid h
    clear h
    go_wp2
    go_loopw [5] (fun i wr => ∃ k : Nat, k ≤ xs.length ∧ i = .int .i64 k ∧ Hid (xs.take k = ys.take k) ∧ Below w.heap.size w wr) (fun i _ => xs.length - (intOf i).toNat)
    case atStart => exact ⟨0, Nat.zero_le _, rfl, by simp [Hid], Below.refl _ _⟩
    case round =>
      obtain ⟨k, hk, rfl, ht, hbr⟩ := hrel
      by_cases hlt : k < xs.length
      · obtain ⟨x, hx⟩ := get_of_lt hlt
        obtain ⟨y, hy⟩ := get_of_lt (xs := ys) (k := k) (by have := h'.out; omega)
        obtain ⟨b, o, rfl, hb, hc⟩ := (hr.below hbr).at_ hx
        obtain ⟨b2, o2, rfl, hb2, hc2⟩ := (hs.below hbr).at_ hy
        have h1 : (0 : Int) ≤ (k : Int) := by omega
        have h2 : (k : Int) < (xs.length : Int) := by omega
        have h3 : (k : Int) < (ys.length : Int) := by have := h'.out; omega
        have hx' := Lib.hid hx
        have hy' := Lib.hid hy
        clear hx hy hr hs
        by_cases e : x = y
        · have he : (x != y) = false := by simp [e]
          have e' := Lib.hid e
          clear e
          go_wp2_with fail
          go_quiet (fail)
          go_wp2
          go_roundw
          case rel => exact ⟨k + 1, by omega, by go_num, by unfold Hid; rw [take_snoc hx'.out, take_snoc hy'.out, ht.out, e'.out], by exact bgr⟩
          case measure => simp [intOf]; omega
        · have he : (x != y) = true := by simpa using e
          go_wp2_with fail
          go_quiet (fail)
          go_wp2
          go_ret
          exact ⟨ret_bool (by simp; intro e2; rw [e2] at hx'; have := hx'.out.symm.trans hy'.out; simp at this; exact e this), by exact bgr⟩
      · go_wp2
        go_ret
        exact ⟨ret_bool (by have := ht.out; rw [take_all hlt, take_all (by have := h'.out; omega)] at this; simp [this]), by exact bgr⟩
  · have hb : ((xs.length : Int) != (ys.length : Int)) = true := by simp; omega
    go_wp2
    go_ret
    exact ⟨ret_bool (by simp; intro e; exact h (by rw [e])), Below.refl _ _⟩
/-- what a row holds behind markInt64S -/
def marks (k : Int) (n : Nat) : List Int := (List.range n).map fun (i : Nat) => k + (i : Int)
theorem marks_len (k : Int) (n : Nat) : (marks k n).length = n := by simp [marks]
theorem marks_get {k : Int} {n i : Nat} (h : i < n) : (marks k n)[i]? = some (k + (i : Int)) := by simp [marks, h]
theorem laws_markInt64S (A : Option Addr) (n c base : Nat) (xs : List Int) (k : Int) (w : World) (ho : OwnI w base (.slice A n c) xs) (hl : xs.length ≤ 1099511627776) (hk0 : 0 ≤ k) (hk1 : k ≤ 1099511627776) :
    Calls Tryd.prog 21 #[.slice A n c, .int .i64 k] w fun e w' => e = .returned (.int .i64 (k + (xs.length : Int))) ∧ OwnI w' base (.slice A n c) (marks k xs.length) ∧ w.grownBy w' (Value.slice A n c).ownBlock := by
  obtain ⟨rfl, hr⟩ := ho.reads
  clear hr
  go_enter Tryd.func21, Tryd.ntmps21
  go_wp2
  go_loopw [1, 5] (fun v i wr => ∃ j : Nat, ∃ zs : List Int, j ≤ xs.length ∧ i = .int .i64 j ∧ v = .int .i64 (k + j) ∧ zs.length = xs.length ∧ Hid (zs.take j = marks k j) ∧ OwnI wr base (.slice A xs.length c) zs ∧ w.grownBy wr (Value.slice A xs.length c).ownBlock) (fun _ i _ => xs.length - (intOf i).toNat)
  case atStart => exact ⟨0, xs, Nat.zero_le _, rfl, by simp, rfl, by simp [Hid, marks], ho, World.grownBy.refl _ _⟩
  case round =>
    obtain ⟨j, zs, hj, rfl, rfl, hz, ht, hw, hg⟩ := hrel
    have hz' := Lib.hid hz
    clear hz
    by_cases hlt : j < xs.length
    · obtain ⟨z, hzj⟩ := get_of_lt (xs := zs) (k := j) (by have := hz'.out; omega)
      obtain ⟨g, rfl, hb, hc, hf, hst⟩ := hw.cell hzj
      have hs := hst (k + (j : Int))
      have hzj' := Lib.hid hzj
      clear hzj hst hw
      go_wp2
      go_roundw
      case rel => exact ⟨j + 1, zs.set j (k + j), by omega, by go_num, by go_num, by simpa using hz'.out, by unfold Hid; rw [take_set_snoc (by have := hz'.out; omega), ht.out, marks, marks, List.range_succ, List.map_append]; rfl, hs.1, grownBy_trans hg hs.2⟩
      case measure => simp [intOf]; omega
    · go_wp2
      go_ret
      have e : j = xs.length := by omega
      have e2 : zs = marks k xs.length := by have := ht.out; rw [take_all (xs := zs) (by have := hz'.out; omega), e] at this; exact this
      rw [← e2]
      exact ⟨ret_int (by rw [e]), hw, hg⟩
theorem laws_heldInt64S (A : Option Addr) (n c : Nat) (k : Int) (w : World) (hr : I64 w w.heap.size A (marks k n)) (hl : n ≤ 1099511627776) (hk0 : 0 ≤ k) (hk1 : k ≤ 1099511627776) :
    Calls Tryd.prog 22 #[.slice A n c, .int .i64 k] w fun e w' => e = .returned (.int .i64 (k + (n : Int))) ∧ w = w' := by
  go_enter Tryd.func22, Tryd.ntmps22
  go_wp2
  go_loop [1, 5] (fun v i => ∃ j : Nat, j ≤ n ∧ i = .int .i64 j ∧ v = .int .i64 (k + j)) (fun _ i => n - (intOf i).toNat)
  case atStart => exact ⟨0, Nat.zero_le _, rfl, by simp⟩
  case round =>
    obtain ⟨j, hj, rfl, rfl⟩ := hrel
    by_cases hlt : j < n
    · obtain ⟨b, o, rfl, hb, hc⟩ := hr.at_ (marks_get hlt)
      have he : (k + (j : Int) != k + (j : Int)) = false := by simp
      go_wp2
      go_round
      case rel => exact ⟨j + 1, by omega, by go_num, by go_num⟩
      case measure => simp [intOf]; omega
    · go_wp2
      go_ret
      exact ⟨ret_int (by omega), rfl⟩
end Go.Proofs.YtgokiedhdihamaaDoor
