/- Several texts in one: Base, Num, Mem, ListA, ListB, Box, Two, Flat, LawKit, RegKit, RegLast. No condition of its own. Printed by mergeclaim.py. -/
import Derived.Test.YthbljfanoaibkaaGreatDoorRows
import Derived.WalkKit
import Derived.ProofKit
import Derived.OpenShut
import Derived.Carry
import Derived.Lib.Hide
import Derived.Deep.Draws
import Derived.Deep.Slices
import Derived.Deep.Fields
import Derived.Lib.SmallJoins
import Derived.SizedLaws
import Derived.Handy
import Derived.Test.YthbljfanoaibkaaGreatDoorMath
import Derived.Deep.AppendLies
import Derived.Maps.AppendAt
import Derived.StillTailTactics
import Derived.BigQuiet
import Derived.RegionTactic
import Derived.Deep.RegionHeld3
import Derived.Deep.RegionLaw
import Derived.ChangeSame
namespace Go.Proofs.YthbljfanoaibkaaGreatDoor
open Go.ChangeShapes Go.WideShapes Go.ChangeAt Go.RowKit
set_option linter.unusedVariables false
set_option linter.unusedSimpArgs false

theorem own : ownKnob Tryz.prog.godebug = none := by kernel_rfl
theorem laidOut : laidOutB Tryz.prog = true := by kernel_rfl

/-- All old cells and marks read as before; what was a block number still is one. -/
theorem bcell {W w1 : World} (hb : Below W.heap.size W w1) : (∀ b o, b < W.heap.size → w1.cell? ⟨b, o, none⟩ = W.cell? ⟨b, o, none⟩) ∧ (∀ b o, b < W.heap.size → w1.frozen? ⟨b, o, none⟩ = W.frozen? ⟨b, o, none⟩) ∧
    (∀ k, k < W.heap.size → k < w1.heap.size) ∧ (∀ k, k ≤ W.heap.size → k ≤ w1.heap.size) ∧ (∀ k, k ≤ W.heap.size → k ≤ w1.heap.size + 1) :=
  ⟨fun b o h => hb.cell (p := ⟨b, o, none⟩) h, fun b o h => hb.frozen (p := ⟨b, o, none⟩) h, fun k h => Nat.lt_of_lt_of_le h hb.size, fun k h => Nat.le_trans h hb.size, fun k h => Nat.le_succ_of_le (Nat.le_trans h hb.size)⟩
theorem below_drewN {B : Nat} {a w : World} (h : Below B a w) (n : Nat) : Below B a (w.drewN n) := ⟨h.os, h.tape, h.output, h.size, h.block⟩
theorem Below.after {B : Nat} {w W w1 : World} (h : Below B w W) (hB : B ≤ W.heap.size) (hb : Below W.heap.size W w1) : Below B w w1 := h.trans (hb.mono hB)
theorem Below.next {w W w1 : World} (h : Below w.heap.size w W) (hb : Below W.heap.size W w1) : Below w.heap.size w w1 := h.trans (hb.mono h.size)
theorem Below.new {w W : World} (h : Below w.heap.size w W) (o : Obj) : Below w.heap.size w (W.alloc o) := h.alloc h.size o
/-- Below's chain, by the facts in the context -/
theorem bgr {p : Prop} (h : p := by repeat' (first | (with_reducible exact Below.refl _ _) | (with_reducible assumption) | (with_reducible refine Below.new ?_ _) | (with_reducible refine Below.alloc ?_ ?_ _) | (with_reducible refine Below.drew ?_) | (with_reducible refine below_drewN ?_ _) | (with_reducible refine Below.setCell ?_ ?_ _) | (refine Below.next ?_ (by with_reducible assumption)) | (refine Below.row ?_ (by with_reducible assumption) (by omega)) | (refine Below.trans ?_ (by with_reducible assumption)) | (refine Below.after ?_ ?_ (by with_reducible assumption)) | go_size)) : p := h

section
variable {H : Type} {enc : TypeId × Value → H} {P : Program}

/-- All arguments read behind the call as they did, where below the heap's old size nothing has turned. -/
theorem trodAll_below (hl : laidOutB P = true) {W W' : World} (hb : Below W.heap.size W W') : ∀ (ts : List TypeId) (vs : List Value) (ds : List (DataW H)) (ps : List MemPlace),
    (∀ t ∈ ts, P.readableRec t = true ∧ t < P.types.size) → DataW.TrodAll enc P W 0 (fun _ => true) true ts vs ds ps →
    DataW.TrodAll enc P W' 0 (fun b => decide (b < W.heap.size)) true ts vs ds ps
  | [], vs, ds, ps, _, h => by
    obtain ⟨rfl, rfl, rfl⟩ := trodAll_nil h
    rfl
  | t :: ts, vs, ds, ps, ht, h => by
    obtain ⟨v, vs', d, ds', p, q, rfl, rfl, rfl, h0, r0⟩ := trodAll_cons h
    have lt : ∀ x ∈ p, x.block < W.heap.size := by
      obtain ⟨m, hm⟩ := h0
      exact DataW.trod_lt m _ _ _ hm
    have h1 := ht t (by simp)
    exact trodAll_cons_mk (Below.trod hl h1.1 h1.2 h0 hb lt) (trodAll_below hl hb ts vs' ds' q (fun t' h' => ht t' (by simp [h'])) r0)

/-- What the row asks behind the call. -/
theorem law_post {f : Func} {s : ChangeSpec} {W W' : World} {args : Array Value} {ds gs : List (DataW H)} {before : List MemPlace} {tb : TypeId}
    (hl : laidOutB P = true) (hp0 : (f.params.toList.all fun t => P.readableRec t && decide (t < P.types.size)) = true)
    (hr : f.resultTypes = #[tb]) (htb : P.underlying tb = some .bool) (hs : s.vars = [])
    (hfn : s.fn H (ds ++ gs) = { results := [.lit (.bool true)], args := ds })
    (hW : DataW.Whole enc P f.params.toList s.vars false W args.toList ds gs before) (hb : Below W.heap.size W W') :
    s.post enc P f false true false false W args (.bool true) W' := by
  have hp : ∀ t ∈ f.params.toList, P.readableRec t = true ∧ t < P.types.size := fun t ht => by
    have := List.all_eq_true.1 hp0 t ht
    simpa using this
  have hW' := hW
  obtain ⟨p, q, hA, hV, rfl, hfz, hnd⟩ := hW
  refine ⟨ds, gs, _, [], p, [], hW', ?_, ?_, ?_, hb.frame _, fun h => by cases h⟩
  · rw [hr, hfn]
    exact trodAll_mk1 (shut_bool htb true)
  · rw [hfn]
    exact trodAll_below hl hb _ _ _ _ hp hA
  · rw [hfn, hs]
    rfl
end
end Go.Proofs.YthbljfanoaibkaaGreatDoor
namespace Go.Proofs.YthbljfanoaibkaaGreatDoor
open Go.RowKit

theorem ret_bool {a b : Bool} (h : a = b) : Ending.returned (.bool a) = .returned (.bool b) := by rw [h]
theorem ret_int {k : IntKind} {a b : Int} (h : a = b) : Ending.returned (.int k a) = .returned (.int k b) := by rw [h]

theorem ret_ii {k l : IntKind} {a b c d : Int} (h : a = b) (h' : c = d) : Ending.returned (.tuple #[.int k a, .int l c]) = .returned (.tuple #[.int k b, .int l d]) := by rw [h, h']

theorem min_l (a b : Int) : (if b < a then b else a) = min a b := by split <;> omega
theorem max_l (a b : Int) : (if a < b then b else a) = max a b := by split <;> omega

/-- lo ≤ n ≤ hi, as a Bool that the walk does not open. -/
def inB (n lo hi : Int) : Bool := decide (lo ≤ n ∧ n ≤ hi)
theorem inB_t {n lo hi : Int} (h : lo ≤ n ∧ n ≤ hi) : inB n lo hi = true := by unfold inB; exact decide_eq_true h
theorem inB_f {n lo hi : Int} (h : ¬ (lo ≤ n ∧ n ≤ hi)) : inB n lo hi = false := by unfold inB; exact decide_eq_false h
theorem of_inB {n lo hi : Int} (h : inB n lo hi = true) : lo ≤ n ∧ n ≤ hi := by unfold inB at h; exact of_decide_eq_true h
theorem of_inB_f {n lo hi : Int} (h : inB n lo hi = false) : ¬ (lo ≤ n ∧ n ≤ hi) := by unfold inB at h; exact of_decide_eq_false h

theorem spec_l01In (n lo hi : Int) (w : World) : Calls Tryz.prog 55 #[.int .i64 n, .int .i64 lo, .int .i64 hi] w fun e w' => e = .returned (.bool (inB n lo hi)) ∧ w = w' := by
  go_enter Tryz.func55, Tryz.ntmps55
  go_wp2
  all_goals go_ret
  all_goals exact ⟨ret_bool (by unfold inB; simp; try omega), rfl⟩
theorem impl_within (n lo hi : Int) (w : World) : Calls Tryz.prog 50 #[.int .i64 n, .int .i64 lo, .int .i64 hi] w fun e w' => e = .returned (.bool (inB n lo hi)) ∧ w = w' := by
  go_enter Tryz.func50, Tryz.ntmps50
  go_wp2
  all_goals go_ret
  all_goals exact ⟨ret_bool (by unfold inB; simp; try omega), rfl⟩
theorem impl_square (x y : Int) (w : World) (h1 : -1000000000 ≤ x ∧ x ≤ 1000000000) (h2 : -1000000000 ≤ y ∧ y ≤ 1000000000) : Calls Tryz.prog 115 #[.int .i64 x, .int .i64 y] w fun e w' => e = .returned (.int .i64 (x * x + y * y)) ∧ w = w' := by
  have hx := Pl.sq_bd h1
  have hy := Pl.sq_bd h2
  go_enter Tryz.func115, Tryz.ntmps115
  go_wp2
  go_ret
  exact ⟨rfl, rfl⟩
end Go.Proofs.YthbljfanoaibkaaGreatDoor
namespace Go.Proofs.YthbljfanoaibkaaGreatDoor
open Go.RowKit Go.ChangeShapes Go.WideShapes
set_option linter.unusedVariables false
set_option linter.unusedSimpArgs false

/-- From address A on lie the cells xs, in a block below B. -/
def Rd (w : World) (B : Nat) (A : Option Addr) (xs : List Value) : Prop :=
  xs = [] ∨ ∃ b o, A = some ⟨b, o, none⟩ ∧ b < B ∧ ∀ j v, xs[j]? = some v → w.cell? ⟨b, o + j, none⟩ = some v

section
variable {w w' : World} {B B' : Nat} {A : Option Addr} {xs : List Value}
theorem Rd.nil : Rd w B A [] := .inl rfl
theorem Rd.keep (h : Rd w B A xs) (hk : ∀ b o, b < B → w'.cell? ⟨b, o, none⟩ = w.cell? ⟨b, o, none⟩) : Rd w' B A xs := by
  rcases h with h | ⟨b, o, h1, h2, h3⟩
  · exact .inl h
  · exact .inr ⟨b, o, h1, h2, fun j v hv => (hk b _ h2).trans (h3 j v hv)⟩
theorem Rd.below (h : Rd w B A xs) (hb : Below B w w') : Rd w' B A xs := h.keep fun b o hlt => hb.cell (p := ⟨b, o, none⟩) hlt
theorem Rd.more (h : Rd w B A xs) (hB : B ≤ B') : Rd w B' A xs := by
  rcases h with h | ⟨b, o, h1, h2, h3⟩
  · exact .inl h
  · exact .inr ⟨b, o, h1, by omega, h3⟩
theorem Rd.alloc (h : Rd w B A xs) (hB : B ≤ w.heap.size) (ob : Obj) : Rd (w.alloc ob) B A xs := h.keep fun b o hlt => World.cell?_alloc_lt w ob ⟨b, o, none⟩ (by show b < _; omega)
theorem Rd.up (h : Rd w w.heap.size A xs) (hb : Below w.heap.size w w') : Rd w' w'.heap.size A xs := (h.below hb).more hb.size
theorem Rd.drew (h : Rd w B A xs) : Rd w.drew B A xs := h
theorem Rd.drewN (h : Rd w B A xs) (n : Nat) : Rd (w.drewN n) B A xs := h
theorem Rd.grown (h : Rd w B A xs) {row : Option Nat} (hg : w.grownBy w' row) (hB : B ≤ w.heap.size) (hr : ∀ g, row = some g → B ≤ g) : Rd w' B A xs :=
  h.keep fun b o hlt => World.cell?_of_block (a := ⟨b, o, none⟩) (hg.block b (by omega) (fun e => by have := hr _ e.symm; omega))
theorem Rd.at_ {k : Nat} {v : Value} (h : Rd w B A xs) (hk : xs[k]? = some v) : ∃ b o, A = some ⟨b, o, none⟩ ∧ b < B ∧ w.cell? ⟨b, o + k, none⟩ = some v := by
  rcases h with rfl | ⟨b, o, h1, h2, h3⟩
  · simp at hk
  · exact ⟨b, o, h1, h2, h3 k v hk⟩
/-- the cells of a row of the call's own -/
theorem Rd.of_own {base : Nat} {e : TypeId} {size n c : Nat} (h : w.ownsRow base e size (.slice A n c) n xs) : Rd w w.heap.size A xs := by
  rcases h.2 with ⟨hv, hn⟩ | ⟨g, cap, cur, hv, hb, hg, hnc, hcm, hcs, htake⟩
  · refine .inl (List.eq_nil_of_length_eq_zero ?_)
    rw [h.1, hn, Nat.zero_mul]
  · injection hv with hA
    subst hA
    refine .inr ⟨g, 0, rfl, (Array.getElem?_eq_some_iff.1 hg).1, fun j v hj => ?_⟩
    rw [cell_of_row w g _ cur e (0, 0) hg]
    rw [← htake, List.getElem?_take] at hj
    split at hj
    · simpa using hj
    · cases hj
end

/-- a slice of int64 (int): it reads as xs -/
def I64 (w : World) (B : Nat) (A : Option Addr) (xs : List Int) : Prop := Rd w B A (xs.map (Value.int .i64))
/-- a slice of bytes -/
def U8 (w : World) (B : Nat) (A : Option Addr) (xs : List Int) : Prop := Rd w B A (xs.map (Value.int .u8))

section
variable {w w' : World} {B B' : Nat} {A : Option Addr} {xs : List Int}
theorem I64.nil : I64 w B A [] := .inl rfl
theorem I64.below (h : I64 w B A xs) (hb : Below B w w') : I64 w' B A xs := Rd.below h hb
theorem I64.more (h : I64 w B A xs) (hB : B ≤ B') : I64 w B' A xs := Rd.more h hB
theorem I64.alloc (h : I64 w B A xs) (hB : B ≤ w.heap.size) (ob : Obj) : I64 (w.alloc ob) B A xs := Rd.alloc h hB ob
theorem I64.up (h : I64 w w.heap.size A xs) (hb : Below w.heap.size w w') : I64 w' w'.heap.size A xs := (h.below hb).more hb.size
theorem I64.drew (h : I64 w B A xs) : I64 w.drew B A xs := h
theorem I64.grown (h : I64 w B A xs) {row : Option Nat} (hg : w.grownBy w' row) (hB : B ≤ w.heap.size) (hr : ∀ g, row = some g → B ≤ g) : I64 w' B A xs := Rd.grown h hg hB hr
theorem I64.at_ {k : Nat} {x : Int} (h : I64 w B A xs) (hk : xs[k]? = some x) : ∃ b o, A = some ⟨b, o, none⟩ ∧ b < B ∧ w.cell? ⟨b, o + k, none⟩ = some (.int .i64 x) :=
  Rd.at_ h (by rw [List.getElem?_map, hk]; rfl)
theorem I64.of_own {base : Nat} {e : TypeId} {n c : Nat} (h : w.ownsRow base e 1 (.slice A n c) n (xs.map (Value.int .i64))) : I64 w w.heap.size A xs := Rd.of_own h
end

section
variable {H : Type} {enc : TypeId × Value → H} {P : Program} {w : World} {sp : Nat → Bool}
theorem add_get (a : Addr) (hs : a.spot = none) (i : Nat) : a.add i = ⟨a.block, a.off + i, none⟩ := by
  unfold Addr.add
  split
  · rename_i h; subst h; cases a; simp_all
  · cases a; simp_all

/-- An argument that is a slice of integers, opened. -/
theorem open_row {t e : TypeId} {k : IntKind} {v : Value} {d : DataW H} {p : List MemPlace} (ht : P.underlying t = some (.slice e)) (he : P.underlying e = some (.int k)) (hc : P.cellsOf e = 1)
    {base : Nat} (hv : Value.okWide P w .any base t v) (h : DataW.Trod enc P w 0 sp true t v d p) :
    ∃ A c, ∃ xs : List Int, v = .slice A xs.length c ∧ Rd w w.heap.size A (xs.map (Value.int k)) ∧ (∀ x ∈ xs, (Lit.int k x).wf = true) ∧ xs.length ≤ maxLen := by
  obtain ⟨a, len, cap, rfl⟩ := okWide_slice ht hv
  obtain ⟨fuel, hf⟩ := h
  rcases open_ints ht he hc hf with ⟨hcs, hx⟩ | ⟨a', len', cap', zs, hcs, _, hl, hm, hz, hx, hcell, hwz⟩
  · simp [Value.cells] at hcs
    obtain ⟨rfl, rfl, rfl⟩ := hcs
    exact ⟨none, 0, [], rfl, .inl rfl, by simp, by simp⟩
  · simp [Value.cells] at hcs
    obtain ⟨rfl, rfl, rfl⟩ := hcs
    have hlen : len ≤ zs.length := by rw [hz]; split <;> omega
    have hl' : (zs.take len).length = len := by simp; omega
    refine ⟨some a', cap, zs.take len, by rw [hl'], ?_, fun x hx => hwz x (List.mem_of_mem_take hx), by omega⟩
    rcases Nat.eq_zero_or_pos len with h0 | h0
    · left; subst h0; simp
    · right
      have h1 := hcell 0 (by omega)
      have hs : a'.spot = none := by
        unfold World.cell? Addr.add at h1
        simp at h1
        split at h1
        · split at h1
          · cases h1
          · rename_i hq; simpa using hq
        · cases h1
      refine ⟨a'.block, a'.off, by cases a'; simp_all, ?_, fun j u hu => ?_⟩
      · have := World.block_lt_of_cell? w _ h1
        rw [add_get _ hs] at this
        exact this
      · have hj : j < len := by
          have := (List.getElem?_eq_some_iff.1 hu).1
          simp at this
          omega
        have h2 := hcell j (by omega)
        rw [add_get _ hs] at h2
        rw [h2]
        rw [List.getElem?_map, List.getElem?_take_of_lt hj] at hu
        simp [List.getD]
        cases hq : zs[j]? with
        | none => rw [hq] at hu; cases hu
        | some y => rw [hq] at hu; simp at hu; simp [hu]

theorem open_I64 {t e : TypeId} {v : Value} {d : DataW H} {p : List MemPlace} (ht : P.underlying t = some (.slice e)) (he : P.underlying e = some (.int .i64)) (hc : P.cellsOf e = 1)
    {base : Nat} (hv : Value.okWide P w .any base t v) (h : DataW.Trod enc P w 0 sp true t v d p) :
    ∃ A c, ∃ xs : List Int, v = .slice A xs.length c ∧ I64 w w.heap.size A xs ∧ (∀ x ∈ xs, -9223372036854775808 ≤ x ∧ x ≤ 9223372036854775807) ∧ xs.length ≤ maxLen := by
  obtain ⟨A, c, xs, h1, h2, h3, h4⟩ := open_row ht he hc hv h
  exact ⟨A, c, xs, h1, h2, fun x hx => by have := h3 x hx; simpa [Lit.wf, IntKind.min, IntKind.max, IntKind.signed, IntKind.bits] using this, h4⟩
theorem open_U8 {t e : TypeId} {v : Value} {d : DataW H} {p : List MemPlace} (ht : P.underlying t = some (.slice e)) (he : P.underlying e = some (.int .u8)) (hc : P.cellsOf e = 1)
    {base : Nat} (hv : Value.okWide P w .any base t v) (h : DataW.Trod enc P w 0 sp true t v d p) :
    ∃ A c, ∃ xs : List Int, v = .slice A xs.length c ∧ U8 w w.heap.size A xs ∧ (∀ x ∈ xs, 0 ≤ x ∧ x ≤ 255) ∧ xs.length ≤ maxLen := by
  obtain ⟨A, c, xs, h1, h2, h3, h4⟩ := open_row ht he hc hv h
  exact ⟨A, c, xs, h1, h2, fun x hx => by have := h3 x hx; simpa [Lit.wf, IntKind.min, IntKind.max, IntKind.signed, IntKind.bits] using this, h4⟩
end
end Go.Proofs.YthbljfanoaibkaaGreatDoor
namespace Go.Proofs.YthbljfanoaibkaaGreatDoor
open Go.RowKit
set_option linter.unusedVariables false
set_option linter.unusedSimpArgs false

/-- all numbers lie in a range -/
def allB (xs : List Int) (lo hi : Int) : Bool := xs.all fun x => inB x lo hi

theorem take_snoc {α : Type} {xs : List α} {k : Nat} {x : α} (h : xs[k]? = some x) : xs.take (k + 1) = xs.take k ++ [x] := by
  rw [List.take_add_one, h]; rfl
theorem lt_of_get {α : Type} {xs : List α} {k : Nat} {x : α} (h : xs[k]? = some x) : k < xs.length := (List.getElem?_eq_some_iff.1 h).1
theorem get_of_lt {α : Type} {xs : List α} {k : Nat} (h : k < xs.length) : ∃ x, xs[k]? = some x := ⟨_, List.getElem?_eq_getElem h⟩
theorem take_all {α : Type} {xs : List α} {k : Nat} (h : ¬ k < xs.length) : xs.take k = xs := List.take_of_length_le (by omega)
theorem allB_snoc {xs : List Int} {k : Nat} {x lo hi : Int} (h : xs[k]? = some x) : allB (xs.take (k + 1)) lo hi = (allB (xs.take k) lo hi && inB x lo hi) := by
  rw [take_snoc h, allB, List.all_append]; simp [allB]
theorem allB_no {xs : List Int} {k : Nat} {x lo hi : Int} (h : xs[k]? = some x) (hx : inB x lo hi = false) : allB xs lo hi = false := by
  rw [allB, List.all_eq_false]
  exact ⟨x, List.mem_of_getElem? h, by simp [hx]⟩
theorem of_allB {xs : List Int} {k : Nat} {x lo hi : Int} (h : allB xs lo hi = true) (hk : xs[k]? = some x) : lo ≤ x ∧ x ≤ hi :=
  of_inB (List.all_eq_true.1 h x (List.mem_of_getElem? hk))

end Go.Proofs.YthbljfanoaibkaaGreatDoor
namespace Go.Proofs.YthbljfanoaibkaaGreatDoor
open Go.RowKit
set_option linter.unusedVariables false
set_option linter.unusedSimpArgs false

theorem int_info : (Tryz.prog.info? 2).map (fun i => (i.zero, i.size, i.bytes)) = some (some (.int .i64 0), 1, 8) := by kernel_rfl

/-- the value v is a slice of int64 that the call itself made, from block base on; it reads as xs -/
def OwnI (w : World) (base : Nat) (v : Value) (xs : List Int) : Prop := ∃ A c, v = .slice A xs.length c ∧ w.ownsRow base 2 1 (.slice A xs.length c) xs.length (xs.map (Value.int .i64))

section
variable {w w' : World} {base base' : Nat} {v u : Value} {xs ys : List Int} {A : Option Addr} {n c : Nat}
theorem OwnI.nil (w : World) (base : Nat) : OwnI w base (.slice none 0 0) [] := ⟨none, 0, rfl, World.ownsRow_nil _ _ _ _⟩
theorem OwnI.lit0 {W : World} {base : Nat} (h : base ≤ W.heap.size) : OwnI (W.alloc (.cells #[] 2)) base (.slice (some ⟨W.heap.size, 0, none⟩) 0 0) [] :=
  ⟨_, 0, rfl, World.ownsRow_lit W #[] 0 h (by simp) rfl⟩
theorem OwnI.reads (h : OwnI w base (.slice A n c) xs) : n = xs.length ∧ I64 w w.heap.size A xs := by
  obtain ⟨A', c', he, ho⟩ := h
  injection he with h1 h2 h3
  subst h1 h2 h3
  exact ⟨rfl, I64.of_own ho⟩
theorem OwnI.lt (h : OwnI w base v xs) : ∀ k, v.ownBlock = some k → base ≤ k ∧ k < w.heap.size := by
  obtain ⟨A', c', rfl, ho⟩ := h
  exact ho.lt
theorem OwnI.kept (h : OwnI w base v xs) {row : Option Nat} (hg : w.grownBy w' row) (hne : v.ownBlock = none ∨ v.ownBlock ≠ row) : OwnI w' base v xs := by
  obtain ⟨A', c', rfl, ho⟩ := h
  exact ⟨A', c', rfl, ho.kept hg hne⟩
theorem grownBy_of_below (h : Below w.heap.size w w') (row : Option Nat) : w.grownBy w' row := ⟨h.os, h.tape, h.output, h.size, fun k hk _ => h.block k hk⟩
theorem OwnI.below (h : OwnI w base v xs) (hb : Below w.heap.size w w') : OwnI w' base v xs := h.kept (grownBy_of_below hb none) (by cases v.ownBlock <;> simp)
theorem OwnI.alloc (h : OwnI w base v xs) (o : Obj) : OwnI (w.alloc o) base v xs := h.below (Below.new (Below.refl _ _) o)
theorem OwnI.drewN (h : OwnI w base v xs) (n : Nat) : OwnI (w.drewN n) base v xs := h
theorem OwnI.mono (h : OwnI w base v xs) (hb : base' ≤ base) : OwnI w base' v xs := by
  obtain ⟨A', c', rfl, h1, h2⟩ := h
  refine ⟨A', c', rfl, h1, ?_⟩
  rcases h2 with h2 | ⟨g, cap, cur, q1, q2, q3⟩
  · exact .inl h2
  · exact .inr ⟨g, cap, cur, q1, by omega, q3⟩
theorem OwnI.apart {W W' : World} (h : OwnI W base v xs) (h' : OwnI W' base' u ys) (hle : W.heap.size ≤ base') : (v.ownBlock = none ∨ v.ownBlock ≠ u.ownBlock) ∧ (u.ownBlock = none ∨ u.ownBlock ≠ v.ownBlock) := by
  have h1 := h.lt
  have h2 := h'.lt
  cases hv : v.ownBlock with
  | none => cases hu : u.ownBlock <;> simp
  | some k =>
    have h3 := h1 k hv
    cases hu : u.ownBlock with
    | none => simp
    | some j =>
      have h4 := h2 j hu
      have : k ≠ j := by omega
      simp [this]; omega
theorem OwnI.cell {k : Nat} {x : Int} (h : OwnI w base (.slice A n c) xs) (hx : xs[k]? = some x) : ∃ g, A = some ⟨g, 0, none⟩ ∧ base ≤ g ∧ w.cell? ⟨g, k, none⟩ = some (.int .i64 x) ∧ w.frozen? ⟨g, k, none⟩ = false ∧
    ∀ y, OwnI (w.setCell ⟨g, k, none⟩ (.int .i64 y)) base (.slice (some ⟨g, 0, none⟩) n c) (xs.set k y) ∧ w.grownBy (w.setCell ⟨g, k, none⟩ (.int .i64 y)) (some g) := by
  obtain ⟨A', c', he, ho⟩ := h
  injection he with h1 h2 h3
  subst h1 h2 h3
  have hk : k < xs.length := (List.getElem?_eq_some_iff.1 hx).1
  obtain ⟨g, cap, hv, hb, hlt⟩ := ho.form (by omega)
  injection hv with h1 h2 h3
  subst h1 h3
  refine ⟨g, rfl, hb, by rw [ho.cellAt k (by omega), List.getElem?_map, hx]; rfl, ho.frozenAt k, fun y => ?_⟩
  have hs := ho.stored k (.int .i64 y)
  rw [← List.map_set] at hs
  exact ⟨⟨some ⟨g, 0, none⟩, c, by simp, by simpa using hs.1⟩, hs.2⟩
theorem below_of_grownBy (h : w.grownBy w' v.ownBlock) (ho : OwnI w base v xs) (hb : base ≤ w.heap.size) : Below base w w' :=
  ⟨h.os, h.tape, h.output, h.size, fun k hk => h.block k (by omega) (fun e => by have := ho.lt k e.symm; omega)⟩
end

theorem grownBy_trans {a b d : World} {row : Option Nat} (h : a.grownBy b row) (k : b.grownBy d row) : a.grownBy d row :=
  ⟨k.os.trans h.os, k.tape.trans h.tape, k.output.trans h.output, Nat.le_trans h.size k.size, fun i hi hn => (k.block i (Nat.lt_of_lt_of_le hi h.size) hn).trans (h.block i hi hn)⟩
/-- 'append(out, y)' -/
theorem push_int {ops : Array Oper} {rest : List Oper} {o : Oper} {a : Act} {Q : Exit → Act → World → Prop} {W : World} {y : Int} {xs : List Int} {v : Value} {base : Nat} (hown : OwnI W base v xs) (hgd : o.guard = none) (s x : Operand)
    (ho : o.op = .call { callee := .builtin .append, args := #[s, x], argTypes := #[34, 34] }) (hs : a.eval s = v) (hx : a.eval x = .slice (some ⟨W.heap.size, 0, none⟩) 1 1) (hbase : base ≤ W.heap.size) (hb : xs.length ≤ 1099511627776)
    (h : ∀ v' w', OwnI w' base v' (xs ++ [y]) → W.grownBy w' v.ownBlock → Below base W w' → wpList Tryz.prog ops Q rest (a.put o.dst v') w') : wpList Tryz.prog ops Q (o :: rest) a (W.alloc (.cells #[.int .i64 y] 2)) := by
  obtain ⟨i0, hi, hz0, hz1, hz2⟩ := info_parts int_info
  obtain ⟨A, c, hv, hr⟩ := hown
  subst hv
  refine wpList_append_lies _ hgd s x 34 ho base 2 i0 _ 1 8 Tryz.underlying34 hi hz0 hz1 hz2 rfl (by omega) _ xs.length (xs.map (Value.int .i64)) hs (hr.alloc _) ⟨W.heap.size, 0, none⟩ 1 1 [.int .i64 y] hx rfl (World.news_of_block (heap_alloc_new W _)) (by simp [Value.oneCell']) (by omega) (by simp only [maxLen]; omega) (by omega) (by simp; omega) _ rfl ?_
  intro g cap w1 h1 h2 h3 h4
  have hg : W.grownBy w1 (Value.slice A xs.length c).ownBlock := ⟨h2.os, h2.tape, h2.output, Nat.le_trans (by simp) h2.size, fun k hk hne => (h2.block k (by simp; omega) hne).trans (Below.heap_alloc W _ k hk)⟩
  have ho' : OwnI w1 base (.slice (some ⟨g, 0, none⟩) (xs.length + 1) cap) (xs ++ [y]) := ⟨some ⟨g, 0, none⟩, cap, by simp, by simpa using h1⟩
  exact h _ _ ho' hg (below_of_grownBy hg ⟨A, c, rfl, hr⟩ hbase)

/-- the same at a step of a region that draws its order -/
theorem step_push {ops : Array Oper} {o : Oper} {a : Act} {K : Act → World → Prop} {Q : Exit → Act → World → Prop} {E : Prop} {w1 : World} {t : Nat} {y : Int} {xs : List Int} {v : Value} {base : Nat} (hown : OwnI w1 base v xs) (ht : w1.heap[t]? = some (.cells #[.int .i64 y] 2 (0, 0)))
    (hgd : o.guard = none) (s x : Operand) (ho : o.op = .call { callee := .builtin .append, args := #[s, x], argTypes := #[34, 34] }) (hs : a.eval s = v) (hx : a.eval x = .slice (some ⟨t, 0, none⟩) 1 1) (hbase : base ≤ w1.heap.size) (hb : xs.length ≤ 1099511627776)
    (h : ∀ v' w', OwnI w' base v' (xs ++ [y]) → w1.grownBy w' v.ownBlock → Below base w1 w' → K (a.put o.dst v') w') : if Region.wanted o (yielded ops a.tmps) = true then Oper.wp Tryz.prog o a w1 K Q else E := by
  obtain ⟨i0, hi, hz0, hz1, hz2⟩ := info_parts int_info
  have hown' := hown
  obtain ⟨A, c, hv, hr⟩ := hown
  subst hv
  refine step_append_lies _ hgd s x 34 ho base 2 i0 _ 1 8 Tryz.underlying34 hi hz0 hz1 hz2 rfl (by omega) _ xs.length (xs.map (Value.int .i64)) hs hr ⟨t, 0, none⟩ 1 1 [.int .i64 y] hx rfl (World.news_of_block ht) (by simp [Value.oneCell']) (by omega) (by simp only [maxLen]; omega) (by omega) hbase _ rfl ?_
  intro g cap w2 h1 h2 h3 h4
  exact h _ _ ⟨some ⟨g, 0, none⟩, cap, by simp, by simpa using h1⟩ h2 (below_of_grownBy h2 hown' hbase)

theorem take_set_snoc {α : Type} {zs : List α} {k : Nat} {x : α} (h : k < zs.length) : (zs.set k x).take (k + 1) = zs.take k ++ [x] := by
  rw [List.take_add_one, List.getElem?_set_self h, List.take_set_of_le (Nat.le_refl k)]; rfl

/-- what a row holds behind markInt64S -/
def marks (k : Int) (n : Nat) : List Int := (List.range n).map fun (i : Nat) => k + (i : Int)
theorem marks_len (k : Int) (n : Nat) : (marks k n).length = n := by simp [marks]
theorem marks_get {k : Int} {n i : Nat} (h : i < n) : (marks k n)[i]? = some (k + (i : Int)) := by simp [marks, h]
end Go.Proofs.YthbljfanoaibkaaGreatDoor
namespace Go.Proofs.YthbljfanoaibkaaGreatDoor
open Go.RowKit
theorem bx_keep {W w' : World} (hb : Below W.heap.size W w') {X o : Nat} {v : Value} (h : W.cell? ⟨X, o, none⟩ = some v) : w'.cell? ⟨X, o, none⟩ = some v :=
  (hb.cell (p := ⟨X, o, none⟩) (World.block_lt_of_cell? W ⟨X, o, none⟩ h)).trans h
theorem bx_alloc {W : World} {ob : Obj} {X o : Nat} {v : Value} (h : W.cell? ⟨X, o, none⟩ = some v) : (W.alloc ob).cell? ⟨X, o, none⟩ = some v :=
  (World.cell?_alloc_lt W ob ⟨X, o, none⟩ (World.block_lt_of_cell? W ⟨X, o, none⟩ h)).trans h
theorem bx_new {W : World} {cs : Array Value} {t : TypeId} {X o : Nat} {v : Value} (hX : X = W.heap.size) (h : cs[o]? = some v) : (W.alloc (.cells cs t)).cell? ⟨X, o, none⟩ = some v := by
  subst hX; rw [World.cell?_alloc_new]; exact h
theorem bm_keep {W w' : World} (hb : Below W.heap.size W w') {X : Nat} (hx : X < W.heap.size) (h : ∀ o, W.frozen? ⟨X, o, none⟩ = false) : ∀ o, w'.frozen? ⟨X, o, none⟩ = false := fun o => (hb.frozen (p := ⟨X, o, none⟩) hx).trans (h o)
theorem bm_new {W : World} {cs : Array Value} {t : TypeId} {X : Nat} (hX : X = W.heap.size) : ∀ o, (W.alloc (.cells cs t)).frozen? ⟨X, o, none⟩ = false := fun o => World.frozen?_alloc_at cs t X o hX
theorem bm_old {W : World} {ob : Obj} {X : Nat} (hX : X < W.heap.size) (h : ∀ o, W.frozen? ⟨X, o, none⟩ = false) : ∀ o, (W.alloc ob).frozen? ⟨X, o, none⟩ = false := fun o => (World.frozen?_alloc_past ob X o hX).trans (h o)
theorem bm_set {W : World} {X : Nat} {b : Addr} {v : Value} (h : ∀ o, W.frozen? ⟨X, o, none⟩ = false) : ∀ o, (W.setCell b v).frozen? ⟨X, o, none⟩ = false := fun o => by rw [World.frozen?_setCell]; exact h o
theorem bm_drew {W : World} {n X : Nat} (h : ∀ o, W.frozen? ⟨X, o, none⟩ = false) : ∀ o, (W.drewN n).frozen? ⟨X, o, none⟩ = false := h
theorem bm_drew1 {W : World} {X : Nat} (h : ∀ o, W.frozen? ⟨X, o, none⟩ = false) : ∀ o, W.drew.frozen? ⟨X, o, none⟩ = false := h
theorem bx_same {W : World} {X o : Nat} {u v : Value} (h : W.cell? ⟨X, o, none⟩ = some u) : (W.setCell ⟨X, o, none⟩ v).cell? ⟨X, o, none⟩ = some v := World.cell?_setCell_same W _ v h
theorem bx_other {W : World} {X Y o p : Nat} {u v : Value} (hne : ¬ (Y = X ∧ p = o)) (h : W.cell? ⟨X, o, none⟩ = some u) : (W.setCell ⟨Y, p, none⟩ v).cell? ⟨X, o, none⟩ = some u :=
  (World.cell?_setCell_other W (a := ⟨Y, p, none⟩) (b := ⟨X, o, none⟩) v (fun e => hne (by simp only [Addr.mk.injEq] at e; exact ⟨e.1, e.2.1⟩))).trans h
theorem bx_drew {W : World} {n : Nat} {X o : Nat} {v : Value} (h : W.cell? ⟨X, o, none⟩ = some v) : (W.drewN n).cell? ⟨X, o, none⟩ = some v := h
theorem bx_drew1 {W : World} {X o : Nat} {v : Value} (h : W.cell? ⟨X, o, none⟩ = some v) : W.drew.cell? ⟨X, o, none⟩ = some v := h
theorem bx_id {w : World} {X o : Nat} {v : Value} (h : w.cell? ⟨X, o, none⟩ = some v) : w.cell? ⟨X, o, none⟩ = some v := h
theorem wp_gen {P : Program} {c : Code} {Q : Exit → Act → World → Prop} {a : Act} {W : World} (h : ∀ W', W' = W → Code.wp P c Q a W') : Code.wp P c Q a W := h W rfl
theorem q_gen {Q : Exit → Act → World → Prop} {e : Exit} {a : Act} {W : World} (h : ∀ W', W' = W → Q e a W') : Q e a W := h W rfl
/-- a cell's fact, by the words above -/
theorem bxc {p : Prop} (h : p := by repeat' (first | (with_reducible assumption) | ((with_reducible apply bx_new) <;> first | (simp only [World.size_alloc, World.size_setCell]; done) | rfl) | (with_reducible apply bx_alloc) | (with_reducible apply bx_other; (first | (simp only [World.size_alloc, World.size_setCell]; omega) | omega)) | (with_reducible apply bx_same) | (with_reducible apply bx_drew) | (with_reducible apply bx_drew1) | (with_reducible apply bx_keep; with_reducible assumption) | fail)) : p := h
/-- a mark's fact -/
theorem bxm {p : Prop} (h : p := by repeat' (first | (with_reducible assumption) | (with_reducible apply bm_set) | ((with_reducible apply bm_new) <;> (simp only [World.size_alloc, World.size_setCell, World.size_drew]; done)) | (with_reducible apply bm_old; (first | omega | (simp only [World.size_alloc, World.size_setCell, World.size_drew]; omega))) | (with_reducible apply bm_drew) | (with_reducible apply bm_drew1) | (with_reducible apply bm_keep; (with_reducible assumption); (first | omega | (simp only [World.size_alloc, World.size_setCell, World.size_drew]; omega))) | fail)) : p := h
end Go.Proofs.YthbljfanoaibkaaGreatDoor
namespace Go.Proofs.YthbljfanoaibkaaGreatDoor
open Go.RowKit Go.ChangeShapes Go.WideShapes Go.ChangeAt
set_option linter.unusedVariables false
set_option linter.unusedSimpArgs false

section
variable {H : Type} {enc : TypeId × Value → H} {P : Program} {w : World} {sp : Nat → Bool}
/-- the cell of a slice of int64, opened -/
theorem open_cell_I64 {t e : TypeId} {cs : List Value} {fuel : Nat} {x : DataW H × List MemPlace} (ht : P.underlying t = some (.slice e)) (he : P.underlying e = some (.int .i64)) (hc : P.cellsOf e = 1)
    (hf : DataW.trod enc P w 0 sp true fuel t cs = some x) :
    ∃ A c, ∃ xs : List Int, cs = [.slice A xs.length c] ∧ I64 w w.heap.size A xs ∧ (∀ x ∈ xs, -9223372036854775808 ≤ x ∧ x ≤ 9223372036854775807) ∧ xs.length ≤ maxLen := by
  rcases open_ints ht he hc hf with ⟨hcs, hx⟩ | ⟨a', len', cap', zs, hcs, _, hl, hm, hz, hx, hcell, hwz⟩
  · exact ⟨none, 0, [], hcs, .inl rfl, by simp, by simp⟩
  · have hlen : len' ≤ zs.length := by rw [hz]; split <;> omega
    have hl' : (zs.take len').length = len' := by simp; omega
    refine ⟨some a', cap', zs.take len', by rw [hl', hcs], ?_, fun x hx => by have := hwz x (List.mem_of_mem_take hx); simpa [Lit.wf, IntKind.min, IntKind.max, IntKind.signed, IntKind.bits] using this, by omega⟩
    rcases Nat.eq_zero_or_pos len' with h0 | h0
    · left; subst h0; simp
    · right
      have h1 := hcell 0 (by omega)
      have hs : a'.spot = none := by
        unfold World.cell? Addr.add at h1
        simp at h1
        split at h1
        · split at h1
          · cases h1
          · rename_i hq; simpa using hq
        · cases h1
      refine ⟨a'.block, a'.off, by cases a'; simp_all, ?_, fun j u hu => ?_⟩
      · have := World.block_lt_of_cell? w _ h1
        rw [add_get _ hs] at this
        exact this
      · have hj : j < len' := by
          have := (List.getElem?_eq_some_iff.1 hu).1
          simp at this
          omega
        have h2 := hcell j (by omega)
        rw [add_get _ hs] at h2
        rw [h2]
        rw [List.getElem?_map, List.getElem?_take_of_lt hj] at hu
        simp [List.getD]
        cases hq : zs[j]? with
        | none => rw [hq] at hu; cases hu
        | some y => rw [hq] at hu; simp at hu; simp [hu]
/-- a struct of two slices of int64 -/
theorem open_two {r : Reach} {b0 : Nat} {t e : TypeId} {f0 f1 : Field} {v : Value} {d : DataW H} {ps : List MemPlace} (ht : P.underlying t = some (.struct #[f0, f1]))
    (h0 : P.underlying f0.type = some (.slice e)) (h1 : P.underlying f1.type = some (.slice e)) (he : P.underlying e = some (.int .i64)) (hc : P.cellsOf e = 1)
    (o0 : f0.offset = 0) (o1 : f1.offset = 1) (n0 : P.cellsOf f0.type = 1) (n1 : P.cellsOf f1.type = 1) (nt : P.cellsOf t = 2)
    (hval : Value.okWide P w r b0 t v) (hd : DataW.Trod enc P w 0 sp true t v d ps) :
    ∃ A c, ∃ xs : List Int, ∃ B k, ∃ ys : List Int, v = .agg #[.slice A xs.length c, .slice B ys.length k] ∧ I64 w w.heap.size A xs ∧ I64 w w.heap.size B ys ∧ xs.length ≤ maxLen ∧ ys.length ≤ maxLen := by
  obtain ⟨cs, rfl, _⟩ := okWide_struct ht hval
  obtain ⟨fuel, hf⟩ := hd
  obtain ⟨y0, y1, n, _, hl, g0, g1⟩ := trod_struct2 ht hf
  obtain ⟨l⟩ := cs
  simp only [Value.cells, o0, o1, n0, n1, nt] at hl g0 g1
  match l, hl with
  | [a, b], _ =>
    simp at g0 g1
    obtain ⟨A, c, xs, e1, hx, _, lx⟩ := open_cell_I64 h0 he hc g0
    obtain ⟨B, k, ys, e2, hy, _, ly⟩ := open_cell_I64 h1 he hc g1
    simp at e1 e2
    exact ⟨A, c, xs, B, k, ys, by rw [e1, e2], hx, hy, lx, ly⟩
/-- a struct of two int64 and two slices of int64 -/
theorem open_four {r : Reach} {b0 : Nat} {t e : TypeId} {f0 f1 f2 f3 : Field} {v : Value} {d : DataW H} {ps : List MemPlace} (ht : P.underlying t = some (.struct #[f0, f1, f2, f3]))
    (ha : P.underlying f0.type = some (.int .i64)) (hb : P.underlying f1.type = some (.int .i64)) (h0 : P.underlying f2.type = some (.slice e)) (h1 : P.underlying f3.type = some (.slice e)) (he : P.underlying e = some (.int .i64)) (hc : P.cellsOf e = 1)
    (oa : f0.offset = 0) (ob : f1.offset = 1) (o0 : f2.offset = 2) (o1 : f3.offset = 3) (na : P.cellsOf f0.type = 1) (nb : P.cellsOf f1.type = 1) (n0 : P.cellsOf f2.type = 1) (n1 : P.cellsOf f3.type = 1) (nt : P.cellsOf t = 4)
    (hval : Value.okWide P w r b0 t v) (hd : DataW.Trod enc P w 0 sp true t v d ps) :
    ∃ p q : Int, ∃ A c, ∃ xs : List Int, ∃ B k, ∃ ys : List Int, v = .agg #[.int .i64 p, .int .i64 q, .slice A xs.length c, .slice B ys.length k] ∧ I64 w w.heap.size A xs ∧ I64 w w.heap.size B ys ∧ xs.length ≤ maxLen ∧ ys.length ≤ maxLen ∧
      (-9223372036854775808 ≤ p ∧ p ≤ 9223372036854775807) ∧ (-9223372036854775808 ≤ q ∧ q ≤ 9223372036854775807) := by
  obtain ⟨cs, rfl, _⟩ := okWide_struct ht hval
  obtain ⟨fuel, hf⟩ := hd
  obtain ⟨zs, n, _, _, hl, hzs, hg⟩ := DataW.trod_struct ht hf
  have g : ∀ (j : Nat) (f : Field), #[f0, f1, f2, f3][j]? = some f → ∃ y, DataW.trod enc P w 0 sp true n f.type (((Value.agg cs).cells.toList.drop f.offset).take (P.cellsOf f.type)) = some y := fun j f hj => by
    have h5 := hg j f hj
    have hj2 : j < zs.length := by
      rw [hzs]; exact (Array.getElem?_eq_some_iff.1 hj).1
    rw [List.getElem?_eq_getElem hj2] at h5
    exact ⟨_, h5⟩
  obtain ⟨_, ga⟩ := g 0 f0 rfl
  obtain ⟨_, gb⟩ := g 1 f1 rfl
  obtain ⟨_, g0⟩ := g 2 f2 rfl
  obtain ⟨_, g1⟩ := g 3 f3 rfl
  obtain ⟨l⟩ := cs
  simp only [Value.cells, oa, ob, o0, o1, na, nb, n0, n1, nt] at hl ga gb g0 g1
  match l, hl with
  | [a, b, c, d], _ =>
    simp at ga gb g0 g1
    obtain ⟨p, ea, _, wa⟩ := DataW.trod_int ha ga
    obtain ⟨q, eb, _, wb⟩ := DataW.trod_int hb gb
    obtain ⟨A, c, xs, e1, hx, _, lx⟩ := open_cell_I64 h0 he hc g0
    obtain ⟨B, k, ys, e2, hy, _, ly⟩ := open_cell_I64 h1 he hc g1
    simp at ea eb e1 e2
    exact ⟨p, q, A, c, xs, B, k, ys, by rw [ea, eb, e1, e2], hx, hy, lx, ly, by simpa [Lit.wf, IntKind.min, IntKind.max, IntKind.signed, IntKind.bits] using wa, by simpa [Lit.wf, IntKind.min, IntKind.max, IntKind.signed, IntKind.bits] using wb⟩
end

section
variable {w w' : World} {base : Nat} {v : Value} {xs : List Int}
theorem OwnI.off (h : OwnI w base v xs) {X o : Nat} (hX : X < base) (u : Value) : OwnI (w.setCell ⟨X, o, none⟩ u) base v xs :=
  h.kept (row := some X) ⟨rfl, rfl, rfl, by simp [World.setCell], fun i hi hne => Below.heap_setCell w ⟨X, o, none⟩ u i (fun e => hne (by rw [e]))⟩
    (by cases hv : v.ownBlock with
        | none => simp
        | some k => have := h.lt k hv; right; simp; omega)
end
/-- what is left of a size -/
def fsz (left : Int) (n : Nat) : Int := if left - n < 0 then -1 else left - n
theorem fsz_ge {left : Int} {n : Nat} : -1 ≤ fsz left n := by unfold fsz; split <;> omega
theorem fsz_le {left : Int} {n : Nat} (h : -1 ≤ left) : fsz left n ≤ left := by unfold fsz; split <;> omega
theorem fsz_n {left : Int} {n : Nat} (h : ¬ fsz left n < 0) : (n : Int) ≤ left ∧ fsz left n = left - n := by unfold fsz at *; split at h <;> rename_i h' <;> simp [h'] <;> omega
theorem fsz_two {left : Int} {n m : Nat} (h : ¬ fsz (fsz left n) m < 0) (h0 : 0 ≤ left) : (n : Int) ≤ left ∧ (m : Int) ≤ left := by
  unfold fsz at h
  by_cases h1 : left - n < 0
  · rw [if_pos h1] at h
    split at h <;> omega
  · rw [if_neg h1] at h
    split at h <;> omega
theorem impl_length64 (A : Option Addr) (n c : Nat) (w : World) : Calls Tryz.prog 117 #[.slice A n c] w fun e w' => e = .returned (.int .i64 n) ∧ w = w' := by
  go_enter Tryz.func117, Tryz.ntmps117
  go_wp2
  go_ret
  exact ⟨rfl, rfl⟩
end Go.Proofs.YthbljfanoaibkaaGreatDoor
namespace Go.Proofs.YthbljfanoaibkaaGreatDoor
open Go.RowKit Go.WideShapes
set_option linter.unusedVariables false
section
variable {H : Type} {enc : TypeId × Value → H} {P : Program} {w : World} {base : Nat} {spare : Nat → Bool} {held : Bool}
/-- a value of this type is n cells, each an int64 -/
def FlatI (enc : TypeId × Value → H) (P : Program) (w : World) (base : Nat) (spare : Nat → Bool) (held : Bool) (t : TypeId) (n : Nat) : Prop :=
  ∀ fuel cs x, DataW.trod enc P w base spare held fuel t cs = some x → cs.length = n ∧ ∀ i, i < n → ∃ a, cs[i]? = some (.int .i64 a)
theorem flat_int {t : TypeId} (ht : P.underlying t = some (.int .i64)) : FlatI enc P w base spare held t 1 := fun fuel cs x h => by
  obtain ⟨a, rfl, _⟩ := DataW.trod_int ht h
  exact ⟨rfl, fun i hi => ⟨a, by obtain rfl : i = 0 := by omega
                                 rfl⟩⟩
theorem flat_struct {t : TypeId} {fs : Array Field} {n : Nat} (ht : P.underlying t = some (.struct fs)) (hn : P.cellsOf t = n)
    (hf : ∀ i, i < n → ∃ (j : Nat) (f : Field) (m : Nat), fs[j]? = some f ∧ f.offset ≤ i ∧ i < f.offset + m ∧ P.cellsOf f.type = m ∧ FlatI enc P w base spare held f.type m) : FlatI enc P w base spare held t n := fun fuel cs x h => by
  obtain ⟨xs, k, _, _, hl, hxs, hg⟩ := DataW.trod_struct ht h
  refine ⟨hl.trans hn, fun i hi => ?_⟩
  obtain ⟨j, f, m, hj, h1, h2, h3, h4⟩ := hf i hi
  have h5 := hg j f hj
  have hj2 : j < xs.length := by
    rw [hxs]; exact (Array.getElem?_eq_some_iff.1 hj).1
  rw [List.getElem?_eq_getElem hj2, h3] at h5
  obtain ⟨_, h7⟩ := h4 _ _ _ h5
  obtain ⟨a, ha⟩ := h7 (i - f.offset) (by omega)
  refine ⟨a, ?_⟩
  rw [List.getElem?_take_of_lt (by omega), List.getElem?_drop] at ha
  rw [← ha]
  congr 1
  omega
theorem open_flat {r : Reach} {b0 : Nat} {t : TypeId} {n : Nat} {fs : Array Field} {v : Value} {d : DataW H} {ps : List MemPlace} (ht : P.underlying t = some (.struct fs)) (hF : FlatI enc P w base spare held t n) (hval : Value.okWide P w r b0 t v) (hd : DataW.Trod enc P w base spare held t v d ps) :
    ∃ cs : List Value, v = .agg cs.toArray ∧ cs.length = n ∧ ∀ i, i < n → ∃ a, cs[i]? = some (.int .i64 a) := by
  obtain ⟨cs, rfl, _⟩ := okWide_struct ht hval
  obtain ⟨fuel, hf⟩ := hd
  obtain ⟨h1, h2⟩ := hF _ _ _ hf
  exact ⟨cs.toList, by simp, by simpa [Value.cells] using h1, fun i hi => by simpa [Value.cells] using h2 i hi⟩
theorem flat2 {cs : List Value} (hl : cs.length = 2) (h : ∀ i, i < 2 → ∃ a, cs[i]? = some (.int .i64 a)) : ∃ a b, cs = [.int .i64 a, .int .i64 b] := by
  match cs, hl with
  | [c0, c1], _ =>
    obtain ⟨a, ha⟩ := h 0 (by omega)
    obtain ⟨b, hb⟩ := h 1 (by omega)
    simp at ha hb
    exact ⟨a, b, by rw [ha, hb]⟩
theorem flat5 {cs : List Value} (hl : cs.length = 5) (h : ∀ i, i < 5 → ∃ a, cs[i]? = some (.int .i64 a)) : ∃ a b c d e, cs = [.int .i64 a, .int .i64 b, .int .i64 c, .int .i64 d, .int .i64 e] := by
  match cs, hl with
  | [c0, c1, c2, c3, c4], _ =>
    obtain ⟨a, ha⟩ := h 0 (by omega)
    obtain ⟨b, hb⟩ := h 1 (by omega)
    obtain ⟨c, hc⟩ := h 2 (by omega)
    obtain ⟨d, hd⟩ := h 3 (by omega)
    obtain ⟨e, he⟩ := h 4 (by omega)
    simp at ha hb hc hd he
    exact ⟨a, b, c, d, e, by rw [ha, hb, hc, hd, he]⟩
theorem flat8 {cs : List Value} (hl : cs.length = 8) (h : ∀ i, i < 8 → ∃ a, cs[i]? = some (.int .i64 a)) : ∃ a b c d e f g k, cs = [.int .i64 a, .int .i64 b, .int .i64 c, .int .i64 d, .int .i64 e, .int .i64 f, .int .i64 g, .int .i64 k] := by
  match cs, hl with
  | [c0, c1, c2, c3, c4, c5, c6, c7], _ =>
    obtain ⟨a, ha⟩ := h 0 (by omega)
    obtain ⟨b, hb⟩ := h 1 (by omega)
    obtain ⟨c, hc⟩ := h 2 (by omega)
    obtain ⟨d, hd⟩ := h 3 (by omega)
    obtain ⟨e, he⟩ := h 4 (by omega)
    obtain ⟨f, hf⟩ := h 5 (by omega)
    obtain ⟨g, hg⟩ := h 6 (by omega)
    obtain ⟨k, hk⟩ := h 7 (by omega)
    simp at ha hb hc hd he hf hg hk
    exact ⟨a, b, c, d, e, f, g, k, by rw [ha, hb, hc, hd, he, hf, hg, hk]⟩
end
section
variable {H : Type} {enc : TypeId × Value → H} {w : World} {base : Nat} {spare : Nat → Bool} {held : Bool} {r : Reach} {b0 : Nat} {v : Value} {d : DataW H} {ps : List MemPlace}
end
end Go.Proofs.YthbljfanoaibkaaGreatDoor
namespace Go.Proofs.YthbljfanoaibkaaGreatDoor
open Go.RowKit
set_option linter.unusedVariables false
set_option linter.unusedSimpArgs false

/-- outside of the blocks lo .. hi - 1 nothing that was there has turned -/
structure Within (lo hi : Nat) (w w' : World) : Prop where
  os : w'.os = w.os
  tape : w'.tape = w.tape
  output : w'.output = w.output
  size : w.heap.size ≤ w'.heap.size
  block : ∀ k, k < w.heap.size → (k < lo ∨ hi ≤ k) → w'.heap[k]? = w.heap[k]?

theorem Within.refl (lo hi : Nat) (w : World) : Within lo hi w w := ⟨rfl, rfl, rfl, Nat.le_refl _, fun _ _ _ => rfl⟩
theorem Within.trans {lo hi : Nat} {a b c : World} (h : Within lo hi a b) (k : Within lo hi b c) : Within lo hi a c :=
  ⟨k.os.trans h.os, k.tape.trans h.tape, k.output.trans h.output, Nat.le_trans h.size k.size, fun i hi hn => (k.block i (Nat.lt_of_lt_of_le hi h.size) hn).trans (h.block i hi hn)⟩
theorem Within.below {lo hi B : Nat} {a b : World} (h : Within lo hi a b) (h1 : B ≤ lo) (h2 : B ≤ a.heap.size) : Below B a b :=
  ⟨h.os, h.tape, h.output, h.size, fun k hk => h.block k (by omega) (by omega)⟩
theorem Within.of_below {lo hi : Nat} {a b : World} (h : Below a.heap.size a b) : Within lo hi a b := ⟨h.os, h.tape, h.output, h.size, fun k hk _ => h.block k hk⟩

/-- a slice of int64 that the call made in the blocks lo .. hi - 1 -/
def OwnR (w : World) (lo hi : Nat) (v : Value) (xs : List Int) : Prop := OwnI w lo v xs ∧ ∀ k, v.ownBlock = some k → k < hi

section
variable {w w' : World} {lo hi lo' hi' : Nat} {v : Value} {xs : List Int} {A : Option Addr} {n c : Nat}
theorem OwnI.inR (h : OwnI w lo v xs) : OwnR w lo w.heap.size v xs := ⟨h, fun k hk => (h.lt k hk).2⟩
theorem OwnR.next (h : OwnR w lo hi v xs) (hb : Below w.heap.size w w') : OwnR w' lo hi v xs := ⟨h.1.below hb, h.2⟩
theorem OwnR.apart (h : OwnR w lo hi v xs) (hw : Within lo' hi' w w') (hd : hi ≤ lo' ∨ hi' ≤ lo) : OwnR w' lo hi v xs := by
  obtain ⟨A, c, rfl, h1, h2⟩ := h.1
  refine ⟨⟨A, c, rfl, h1, ?_⟩, h.2⟩
  rcases h2 with h2 | ⟨g, cap, cur, q1, q2, q3, q4⟩
  · exact .inl h2
  · have hg : g < hi := h.2 g (by rw [q1]; rfl)
    exact .inr ⟨g, cap, cur, q1, q2, by rw [hw.block g (Array.getElem?_eq_some_iff.1 q3).1 (by omega)]; exact q3, q4⟩
theorem OwnR.rd (h : OwnR w lo hi (.slice A n c) xs) : I64 w w.heap.size A xs := h.1.reads.2
theorem OwnR.form (h : OwnR w lo hi v xs) : ∃ A c, v = .slice A xs.length c := by
  obtain ⟨A, c, rfl, _⟩ := h.1
  exact ⟨A, c, rfl⟩
end

theorem box_keep {W w' : World} (hb : Below W.heap.size W w') {X o : Nat} {v : Value} (h : W.cell? ⟨X, o, none⟩ = some v) : w'.cell? ⟨X, o, none⟩ = some v :=
  (hb.cell (p := ⟨X, o, none⟩) (World.block_lt_of_cell? W ⟨X, o, none⟩ h)).trans h
theorem box_alloc {W : World} {ob : Obj} {X o : Nat} {v : Value} (h : W.cell? ⟨X, o, none⟩ = some v) : (W.alloc ob).cell? ⟨X, o, none⟩ = some v :=
  (World.cell?_alloc_lt W ob ⟨X, o, none⟩ (World.block_lt_of_cell? W ⟨X, o, none⟩ h)).trans h
theorem box_new {W : World} {cs : Array Value} {t : TypeId} {o : Nat} {v : Value} (h : cs[o]? = some v) : (W.alloc (.cells cs t)).cell? ⟨W.heap.size, o, none⟩ = some v := by
  rw [World.cell?_alloc_new]; exact h
theorem box_lt {W : World} {X o : Nat} {v : Value} (h : W.cell? ⟨X, o, none⟩ = some v) : X < W.heap.size := World.block_lt_of_cell? W ⟨X, o, none⟩ h

end Go.Proofs.YthbljfanoaibkaaGreatDoor
namespace Go.Proofs.YthbljfanoaibkaaGreatDoor
open Go.RowKit
set_option linter.unusedVariables false
section
variable {P : Program} {ops : Array Oper} {Q : Exit → Act → World → Prop} {md : Region.Mode} {S : World → Prop}
theorem takeT {i d : Nat} {oi : Oper} {v : Value} {fuel : Nat} {listed : Array Bool} {a : Act} {w : World} (hi : ops[i]? = some oi) (hd : oi.dst = some d)
    (hs : Region.noSelect ops = true) (hf : Region.free md ops listed i = true) (hr : (Region.ready md ops listed).contains i = true)
    (hw : Region.wanted oi (yielded ops a.tmps) = true) (hS : S w) (hy : ∀ w, S w → (execOp a.eval oi).run P w = .ok (.value v) w)
    (h : wpAnyH P md ops (NoPanic Q) S fuel (listed.setIfInBounds i true) (a.put (some d) v) w) : wpAnyH P md ops (NoPanic Q) S (fuel + 1) listed a w := by
  rw [← hd] at h
  exact wpAnyH_take hi hs hf hr (fun _ _ _ h => h) (.inl ⟨hw, hy⟩) hS h
theorem takeX {i d : Nat} {oi : Oper} {fuel : Nat} {listed : Array Bool} {a : Act} {w : World} (hi : ops[i]? = some oi) (hd : oi.dst = some d)
    (hs : Region.noSelect ops = true) (hf : Region.free md ops listed i = true) (hr : (Region.ready md ops listed).contains i = true)
    (hw : Region.wanted oi (yielded ops a.tmps) = false) (hS : S w)
    (h : wpAnyH P md ops (NoPanic Q) S fuel (listed.setIfInBounds i true) (a.put (some d) undef) w) : wpAnyH P md ops (NoPanic Q) S (fuel + 1) listed a w := by
  rw [← hd] at h
  exact wpAnyH_take hi hs hf hr (fun _ _ _ h => h) (.inr ⟨hw, rfl⟩) hS h
end
end Go.Proofs.YthbljfanoaibkaaGreatDoor
namespace Go.Proofs.YthbljfanoaibkaaGreatDoor
open Go.RowKit
set_option linter.unusedVariables false
section
variable {P : Program} {ops : Array Oper} {Q : Exit → Act → World → Prop} {md : Region.Mode} {S : World → Prop} {L : Nat}
/-- in whatever order: S behind each operation but number L -/
def wpAnyE (P : Program) (md : Region.Mode) (ops : Array Oper) (Q : Exit → Act → World → Prop) (S : World → Prop) (L : Nat) : Nat → Array Bool → Act → World → Prop
  | 0, b, a, w => Region.ready md ops b = [] ∧ Q .normal a w
  | n + 1, b, a, w => (Region.ready md ops b = [] → Q .normal a w) ∧ ∀ i ∈ Region.ready md ops b, wpOp P ops Q i (fun a' w' => (i = L ∨ S w') ∧ wpAnyE P md ops Q S L n (b.setIfInBounds i true) a' w') a w
theorem wpAnyE_any : ∀ (n : Nat) (b : Array Bool) (a : Act) (w : World), wpAnyE P md ops Q S L n b a w → wpAny P md ops Q n b a w
  | 0, _, _, _, h => h
  | n + 1, _, _, _, h => ⟨h.1, fun i hi => wpOp_mono (fun a' w' h' => wpAnyE_any n _ a' w' h'.2) (h.2 i hi)⟩
/-- number L waits for number i -/
def waitsB (md : Region.Mode) (ops : Array Oper) (L i : Nat) : Bool := match ops[L]? with
  | some o => o.after.any fun e => Region.binds md e && e.on == i
  | none => false
theorem waitsB_spec {i : Nat} {o : Oper} (h : waitsB md ops L i = true) (ho : ops[L]? = some o) : ∃ e ∈ o.after, Region.binds md e = true ∧ e.on = i := by
  unfold waitsB at h
  rw [ho] at h
  simp only [Array.any_eq_true] at h
  obtain ⟨k, hk, h⟩ := h
  rw [Bool.and_eq_true] at h
  exact ⟨o.after[k], Array.getElem_mem hk, h.1, by simpa using h.2⟩
theorem takeE' {i : Nat} {oi : Oper} {v : Value} (hi : ops[i]? = some oi) (hsel : ∀ (j : Nat) (o : Oper) cs b, ops[j]? = some o → o.op ≠ .select cs b) (hL : waitsB md ops L i = true) (hiL : i ≠ L)
    (hQ : ∀ c a w, Q (.panic c) (a.put oi.dst v) w → Q (.panic c) a w) : ∀ (n : Nat) (b : Array Bool) (a : Act) (w : World),
      (∀ j oj, ops[j]? = some oj → j ≠ i → b.getD j true = false → (∀ e ∈ oj.after, Region.binds md e = true → e.on ≠ i) → oi.apart ops oj = true) →
      i ∈ Region.ready md ops b → YieldsIf P ops S oi v a → S w → wpAnyE P md ops Q S L n (b.setIfInBounds i true) (a.put oi.dst v) w → wpAnyE P md ops Q S L (n + 1) b a w := by
  intro n
  induction n with
  | zero =>
    intro b a w _ hr hy hS H
    refine ⟨fun h => (by rw [h] at hr; cases hr), fun j hj => ?_⟩
    rcases Decidable.em (j = i) with e | e
    · rw [e]; exact hy.wpOp hi hS ⟨.inr hS, by rw [← e]; rw [← e] at H; exact H⟩
    · have := ready_mono hj e
      rw [H.1] at this
      cases this
  | succ n ih =>
    intro b a w hfree hr hy hS H
    refine ⟨fun h => (by rw [h] at hr; cases hr), fun j hj => ?_⟩
    rcases Decidable.em (j = i) with e | e
    · subst e; exact hy.wpOp hi hS ⟨.inr hS, H⟩
    · have h1 := H.2 j (ready_mono hj e)
      obtain ⟨hjun, oj, hoj, hall⟩ := mem_ready.1 hj
      have hnot : ∀ e' ∈ oj.after, Region.binds md e' = true → e'.on ≠ i := fun e' he hb heq => by
        have h1 := hall e' he hb
        have h0 := (mem_ready.1 hr).1
        rw [heq] at h1
        rcases Nat.lt_or_ge i b.size with h' | h'
        · simp [h'] at h0 h1; rw [h0] at h1; cases h1
        · simp [Array.getElem?_eq_none h'] at h1
      have hjL : j ≠ L := fun e2 => by
        subst e2
        obtain ⟨e', h2, h3, h4⟩ := waitsB_spec hL hoj
        exact hnot e' h2 h3 h4
      have h2 := wpOp_putIf hoj (hfree j oj hoj e hjun hnot) (fun cs b => hsel i oi cs b hi) (fun cs b => hsel j oj cs b hoj) hQ hy h1
      have hfree' : ∀ k ok, ops[k]? = some ok → k ≠ i → (b.setIfInBounds j true).getD k true = false →
          (∀ e ∈ ok.after, Region.binds md e = true → e.on ≠ i) → oi.apart ops ok = true := fun k ok hk hki hun hno => by
        refine hfree k ok hk hki ?_ hno
        rcases Decidable.em (j = k) with e3 | e3
        · subst e3; exact hjun
        · rw [getD_set_ne true e3] at hun; exact hun
      refine wpOp_mono (fun a' w' h3 => ?_) h2
      have hS' : S w' := h3.2.1.resolve_left hjL
      refine ⟨.inr hS', ih (b.setIfInBounds j true) a' w' hfree' (ready_mono hr (Ne.symm e)) h3.1 hS' ?_⟩
      rw [Array.setIfInBounds_comm _ _ e]
      exact h3.2.2
theorem takeE {i d : Nat} {oi : Oper} {v : Value} {n : Nat} {b : Array Bool} {a : Act} {w : World} (hi : ops[i]? = some oi) (hd : oi.dst = some d) (hL : waitsB md ops L i = true) (hiL : i ≠ L)
    (hs : Region.noSelect ops = true) (hf : Region.free md ops b i = true) (hr : (Region.ready md ops b).contains i = true)
    (hw : Region.wanted oi (yielded ops a.tmps) = true) (hS : S w) (hy : ∀ w, S w → (execOp a.eval oi).run P w = .ok (.value v) w)
    (h : wpAnyE P md ops (NoPanic Q) S L n (b.setIfInBounds i true) (a.put (some d) v) w) : wpAnyE P md ops (NoPanic Q) S L (n + 1) b a w := by
  rw [← hd] at h
  exact takeE' hi (Region.noSelect_spec hs) hL hiL (fun _ _ _ h => h) n b a w (Region.free_spec hi hf) (by simpa using hr) (.inl ⟨hw, hy⟩) hS h
/-- number i alone is ready: it is run -/
theorem runE {i : Nat} {o : Oper} {n : Nat} {b : Array Bool} {a : Act} {w : World} (hr : Region.ready md ops b = [i]) (ho : ops[i]? = some o) (hiL : i ≠ L)
    (h : ∀ K' : Act → World → Prop, Shut (∀ a w, S w → (S w → wpAnyE P md ops Q S L n (b.setIfInBounds i true) a w) → K' a w) → if Region.wanted o (yielded ops a.tmps) = true then Oper.wp P o a w K' Q else K' (a.put o.dst undef) w) : wpAnyE P md ops Q S L (n + 1) b a w :=
  ⟨fun h0 => (by rw [h0] at hr; cases hr), by
    rw [hr]; intro j hj
    rcases List.mem_singleton.1 hj with rfl
    exact wpOp_step ho (fun K' hK => h K' (fun a w hS hW => hK a w ⟨.inr hS, hW hS⟩))⟩
structure Tag (n : Nat) : Prop where
  ok : True
/-- two are ready: either is run -/
theorem runE2 {i j : Nat} {o o2 : Oper} {n : Nat} {b : Array Bool} {a : Act} {w : World} (hr : Region.ready md ops b = [i, j]) (ho : ops[i]? = some o) (ho2 : ops[j]? = some o2) (hiL : i ≠ L) (hjL : j ≠ L)
    (h : Tag i → ∀ K' : Act → World → Prop, Shut (∀ a w, S w → (S w → wpAnyE P md ops Q S L n (b.setIfInBounds i true) a w) → K' a w) → if Region.wanted o (yielded ops a.tmps) = true then Oper.wp P o a w K' Q else K' (a.put o.dst undef) w)
    (h2 : Tag j → ∀ K' : Act → World → Prop, Shut (∀ a w, S w → (S w → wpAnyE P md ops Q S L n (b.setIfInBounds j true) a w) → K' a w) → if Region.wanted o2 (yielded ops a.tmps) = true then Oper.wp P o2 a w K' Q else K' (a.put o2.dst undef) w) : wpAnyE P md ops Q S L (n + 1) b a w :=
  ⟨fun h0 => (by rw [h0] at hr; cases hr), by
    rw [hr]; intro k hk
    rcases List.mem_cons.1 hk with e | hk
    · rw [e]
      exact wpOp_step ho (fun K' hK => h ⟨trivial⟩ K' (fun a w hS hW => hK a w ⟨.inr hS, hW hS⟩))
    · rw [List.mem_singleton.1 hk]
      exact wpOp_step ho2 (fun K' hK => h2 ⟨trivial⟩ K' (fun a w hS hW => hK a w ⟨.inr hS, hW hS⟩))⟩
/-- the last one is run -/
theorem lastE {o : Oper} {n : Nat} {b : Array Bool} {a : Act} {w : World} (hr : Region.ready md ops b = [L]) (ho : ops[L]? = some o) (hd : Region.ready md ops (b.setIfInBounds L true) = [])
    (h : ∀ K' : Act → World → Prop, Shut (∀ a w, Q .normal a w → K' a w) → if Region.wanted o (yielded ops a.tmps) = true then Oper.wp P o a w K' Q else K' (a.put o.dst undef) w) : wpAnyE P md ops Q S L (n + 1) b a w :=
  ⟨fun h0 => (by rw [h0] at hr; cases hr), by
    rw [hr]; intro j hj
    rcases List.mem_singleton.1 hj with rfl
    refine wpOp_step ho (fun K' hK => h K' (fun a w hQ => hK a w ⟨.inl rfl, ?_⟩))
    cases n with
    | zero => exact ⟨hd, hQ⟩
    | succ n => exact ⟨fun _ => hQ, by rw [hd]; simp⟩⟩
theorem beginE {id : Nat} {a : Act} {w : World} (L : Nat) (S : World → Prop) (hm : P.follows .mixedOrders = true) (hS : S w.drew)
    (h : S w.drew → wpAnyE P .any ops Q S L ops.size (Array.replicate ops.size false) a w.drew) : (Code.region id ops true).wp P Q a w :=
  wp_region_any hm (wpAnyE_any _ _ _ _ (h hS))
end
end Go.Proofs.YthbljfanoaibkaaGreatDoor
