/- Words for slices that read as lists. No function of the program. -/
import Derived.Test.YtgokiedhdihamaaDoorBase
import Derived.Handy
import Derived.Deep.AppendLies
import Derived.Deep.Draws
import Derived.Maps.AppendAt
namespace Go.Proofs.YtgokiedhdihamaaDoor
open Go.RowKit Go.ChangeShapes Go.WideShapes
set_option linter.unusedVariables false
set_option linter.unusedSimpArgs false

/-- From address A on lie the cells xs, in a block below B. -/
def Rd (w : World) (B : Nat) (A : Option Addr) (xs : List Value) : Prop :=
  xs = [] ∨ ∃ b o, A = some ⟨b, o, none⟩ ∧ b < B ∧ ∀ j v, xs[j]? = some v → w.cell? ⟨b, o + j, none⟩ = some v

section
variable {w w' : World} {B B' : Nat} {A : Option Addr} {xs : List Value}
theorem Rd.nil : Rd w B A [] := .inl rfl
theorem Rd.keep (h : Rd w B A xs) (hk : ∀ b o, b < B → w'.cell? ⟨b, o, none⟩ = w.cell? ⟨b, o, none⟩) : Rd w' B A xs := by
  rcases h with h | ⟨b, o, h1, h2, h3⟩
  · exact .inl h
  · exact .inr ⟨b, o, h1, h2, fun j v hv => (hk b _ h2).trans (h3 j v hv)⟩
theorem Rd.below (h : Rd w B A xs) (hb : Below B w w') : Rd w' B A xs := h.keep fun b o hlt => hb.cell (p := ⟨b, o, none⟩) hlt
theorem Rd.more (h : Rd w B A xs) (hB : B ≤ B') : Rd w B' A xs := by
  rcases h with h | ⟨b, o, h1, h2, h3⟩
  · exact .inl h
  · exact .inr ⟨b, o, h1, by omega, h3⟩
theorem Rd.alloc (h : Rd w B A xs) (hB : B ≤ w.heap.size) (ob : Obj) : Rd (w.alloc ob) B A xs := h.keep fun b o hlt => World.cell?_alloc_lt w ob ⟨b, o, none⟩ (by show b < _; omega)
theorem Rd.up (h : Rd w w.heap.size A xs) (hb : Below w.heap.size w w') : Rd w' w'.heap.size A xs := (h.below hb).more hb.size
theorem Rd.drew (h : Rd w B A xs) : Rd w.drew B A xs := h
theorem Rd.drewN (h : Rd w B A xs) (n : Nat) : Rd (w.drewN n) B A xs := h
theorem Rd.grown (h : Rd w B A xs) {row : Option Nat} (hg : w.grownBy w' row) (hB : B ≤ w.heap.size) (hr : ∀ g, row = some g → B ≤ g) : Rd w' B A xs :=
  h.keep fun b o hlt => World.cell?_of_block (a := ⟨b, o, none⟩) (hg.block b (by omega) (fun e => by have := hr _ e.symm; omega))
theorem Rd.at_ {k : Nat} {v : Value} (h : Rd w B A xs) (hk : xs[k]? = some v) : ∃ b o, A = some ⟨b, o, none⟩ ∧ b < B ∧ w.cell? ⟨b, o + k, none⟩ = some v := by
  rcases h with rfl | ⟨b, o, h1, h2, h3⟩
  · simp at hk
  · exact ⟨b, o, h1, h2, h3 k v hk⟩
/-- the cells of a row of the call's own -/
theorem Rd.of_own {base : Nat} {e : TypeId} {size n c : Nat} (h : w.ownsRow base e size (.slice A n c) n xs) : Rd w w.heap.size A xs := by
  rcases h.2 with ⟨hv, hn⟩ | ⟨g, cap, cur, hv, hb, hg, hnc, hcm, hcs, htake⟩
  · refine .inl (List.eq_nil_of_length_eq_zero ?_)
    rw [h.1, hn, Nat.zero_mul]
  · injection hv with hA
    subst hA
    refine .inr ⟨g, 0, rfl, (Array.getElem?_eq_some_iff.1 hg).1, fun j v hj => ?_⟩
    rw [cell_of_row w g _ cur e (0, 0) hg]
    rw [← htake, List.getElem?_take] at hj
    split at hj
    · simpa using hj
    · cases hj
end

/-- a slice of int64 (int): it reads as xs -/
def I64 (w : World) (B : Nat) (A : Option Addr) (xs : List Int) : Prop := Rd w B A (xs.map (Value.int .i64))
/-- a slice of bytes -/
def U8 (w : World) (B : Nat) (A : Option Addr) (xs : List Int) : Prop := Rd w B A (xs.map (Value.int .u8))

section
variable {w w' : World} {B B' : Nat} {A : Option Addr} {xs : List Int}
theorem I64.nil : I64 w B A [] := .inl rfl
theorem I64.below (h : I64 w B A xs) (hb : Below B w w') : I64 w' B A xs := Rd.below h hb
theorem I64.more (h : I64 w B A xs) (hB : B ≤ B') : I64 w B' A xs := Rd.more h hB
theorem I64.alloc (h : I64 w B A xs) (hB : B ≤ w.heap.size) (ob : Obj) : I64 (w.alloc ob) B A xs := Rd.alloc h hB ob
theorem I64.up (h : I64 w w.heap.size A xs) (hb : Below w.heap.size w w') : I64 w' w'.heap.size A xs := (h.below hb).more hb.size
theorem I64.drew (h : I64 w B A xs) : I64 w.drew B A xs := h
theorem I64.grown (h : I64 w B A xs) {row : Option Nat} (hg : w.grownBy w' row) (hB : B ≤ w.heap.size) (hr : ∀ g, row = some g → B ≤ g) : I64 w' B A xs := Rd.grown h hg hB hr
theorem I64.at_ {k : Nat} {x : Int} (h : I64 w B A xs) (hk : xs[k]? = some x) : ∃ b o, A = some ⟨b, o, none⟩ ∧ b < B ∧ w.cell? ⟨b, o + k, none⟩ = some (.int .i64 x) :=
  Rd.at_ h (by rw [List.getElem?_map, hk]; rfl)
theorem I64.of_own {base : Nat} {e : TypeId} {n c : Nat} (h : w.ownsRow base e 1 (.slice A n c) n (xs.map (Value.int .i64))) : I64 w w.heap.size A xs := Rd.of_own h
end

section
variable {H : Type} {enc : TypeId × Value → H} {P : Program} {w : World} {sp : Nat → Bool}
theorem add_get (a : Addr) (hs : a.spot = none) (i : Nat) : a.add i = ⟨a.block, a.off + i, none⟩ := by
  unfold Addr.add
  split
  · rename_i h; subst h; cases a; simp_all
  · cases a; simp_all

/-- An argument that is a slice of integers, opened. -/
theorem open_row {t e : TypeId} {k : IntKind} {v : Value} {d : DataW H} {p : List MemPlace} (ht : P.underlying t = some (.slice e)) (he : P.underlying e = some (.int k)) (hc : P.cellsOf e = 1)
    {base : Nat} (hv : Value.okWide P w .any base t v) (h : DataW.Trod enc P w 0 sp true t v d p) :
    ∃ A c, ∃ xs : List Int, v = .slice A xs.length c ∧ Rd w w.heap.size A (xs.map (Value.int k)) ∧ (∀ x ∈ xs, (Lit.int k x).wf = true) ∧ xs.length ≤ maxLen := by
  obtain ⟨a, len, cap, rfl⟩ := okWide_slice ht hv
  obtain ⟨fuel, hf⟩ := h
  rcases open_ints ht he hc hf with ⟨hcs, hx⟩ | ⟨a', len', cap', zs, hcs, _, hl, hm, hz, hx, hcell, hwz⟩
  · simp [Value.cells] at hcs
    obtain ⟨rfl, rfl, rfl⟩ := hcs
    exact ⟨none, 0, [], rfl, .inl rfl, by simp, by simp⟩
  · simp [Value.cells] at hcs
    obtain ⟨rfl, rfl, rfl⟩ := hcs
    have hlen : len ≤ zs.length := by rw [hz]; split <;> omega
    have hl' : (zs.take len).length = len := by simp; omega
    refine ⟨some a', cap, zs.take len, by rw [hl'], ?_, fun x hx => hwz x (List.mem_of_mem_take hx), by omega⟩
    rcases Nat.eq_zero_or_pos len with h0 | h0
    · left; subst h0; simp
    · right
      have h1 := hcell 0 (by omega)
      have hs : a'.spot = none := by
        unfold World.cell? Addr.add at h1
        simp at h1
        split at h1
        · split at h1
          · cases h1
          · rename_i hq; simpa using hq
        · cases h1
      refine ⟨a'.block, a'.off, by cases a'; simp_all, ?_, fun j u hu => ?_⟩
      · have := World.block_lt_of_cell? w _ h1
        rw [add_get _ hs] at this
        exact this
      · have hj : j < len := by
          have := (List.getElem?_eq_some_iff.1 hu).1
          simp at this
          omega
        have h2 := hcell j (by omega)
        rw [add_get _ hs] at h2
        rw [h2]
        rw [List.getElem?_map, List.getElem?_take_of_lt hj] at hu
        simp [List.getD]
        cases hq : zs[j]? with
        | none => rw [hq] at hu; cases hu
        | some y => rw [hq] at hu; simp at hu; simp [hu]

theorem open_I64 {t e : TypeId} {v : Value} {d : DataW H} {p : List MemPlace} (ht : P.underlying t = some (.slice e)) (he : P.underlying e = some (.int .i64)) (hc : P.cellsOf e = 1)
    {base : Nat} (hv : Value.okWide P w .any base t v) (h : DataW.Trod enc P w 0 sp true t v d p) :
    ∃ A c, ∃ xs : List Int, v = .slice A xs.length c ∧ I64 w w.heap.size A xs ∧ (∀ x ∈ xs, -9223372036854775808 ≤ x ∧ x ≤ 9223372036854775807) ∧ xs.length ≤ maxLen := by
  obtain ⟨A, c, xs, h1, h2, h3, h4⟩ := open_row ht he hc hv h
  exact ⟨A, c, xs, h1, h2, fun x hx => by have := h3 x hx; simpa [Lit.wf, IntKind.min, IntKind.max, IntKind.signed, IntKind.bits] using this, h4⟩
theorem open_U8 {t e : TypeId} {v : Value} {d : DataW H} {p : List MemPlace} (ht : P.underlying t = some (.slice e)) (he : P.underlying e = some (.int .u8)) (hc : P.cellsOf e = 1)
    {base : Nat} (hv : Value.okWide P w .any base t v) (h : DataW.Trod enc P w 0 sp true t v d p) :
    ∃ A c, ∃ xs : List Int, v = .slice A xs.length c ∧ U8 w w.heap.size A xs ∧ (∀ x ∈ xs, 0 ≤ x ∧ x ≤ 255) ∧ xs.length ≤ maxLen := by
  obtain ⟨A, c, xs, h1, h2, h3, h4⟩ := open_row ht he hc hv h
  exact ⟨A, c, xs, h1, h2, fun x hx => by have := h3 x hx; simpa [Lit.wf, IntKind.min, IntKind.max, IntKind.signed, IntKind.bits] using this, h4⟩
end
end Go.Proofs.YtgokiedhdihamaaDoor
