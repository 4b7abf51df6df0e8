/- The text of a mosaic: plain laws: cell by cell and row by row is the same text. No function of the program. -/
import Derived.Test.YtgokiedhdihamaaDoorStrB
import Derived.Test.YtgokiedhdihamaaDoorMosB
namespace Go.Proofs.YtgokiedhdihamaaDoor
open Go.RowKit Go.ChangeShapes Go.WideShapes Go.ChangeAt
set_option linter.unusedVariables false
set_option linter.unusedSimpArgs false
/-- the text of a cell -/
def ctx (v g : Int) : List UInt8 := if g = 0 then [45] else Lib.itoa v ++ [58] ++ Lib.itoa g
def cxt (xs ys : List Int) (i : Nat) : List UInt8 := ctx (xs.getD i 0) (ys.getD i 0)
/-- what stands ahead of a cell -/
def sepT (p i : Nat) : List UInt8 := if i = 0 then [] else if i % p = 0 then [47] else [44]
/-- the first i cells -/
def sxk (p : Nat) (xs ys : List Int) (i : Nat) : List UInt8 := ((List.range i).map fun j => sepT p j ++ cxt xs ys j).flatten
theorem sxk_zero {p : Nat} {xs ys : List Int} : sxk p xs ys 0 = [] := rfl
theorem sxk_succ {p : Nat} {xs ys : List Int} {i : Nat} : sxk p xs ys (i + 1) = sxk p xs ys i ++ (sepT p i ++ cxt xs ys i) := by simp [sxk, List.range_succ]
/-- the first x cells of row y -/
def rowc (p : Nat) (xs ys : List Int) (y x : Nat) : List (List UInt8) := (List.range x).map fun j => cxt xs ys (y * p + j)
theorem rowc_zero {p : Nat} {xs ys : List Int} {y : Nat} : rowc p xs ys y 0 = [] := rfl
theorem rowc_succ {p : Nat} {xs ys : List Int} {y x : Nat} : rowc p xs ys y (x + 1) = rowc p xs ys y x ++ [cxt xs ys (y * p + x)] := by simp [rowc, List.range_succ]
theorem rowc_len {p : Nat} {xs ys : List Int} {y x : Nat} : (rowc p xs ys y x).length = x := by simp [rowc]
def rowT (p : Nat) (xs ys : List Int) (y : Nat) : List UInt8 := Lib.join (rowc p xs ys y p) [44]
def rowsk (p : Nat) (xs ys : List Int) (y : Nat) : List (List UInt8) := (List.range y).map (rowT p xs ys)
theorem rowsk_zero {p : Nat} {xs ys : List Int} : rowsk p xs ys 0 = [] := rfl
theorem rowsk_succ {p : Nat} {xs ys : List Int} {y : Nat} : rowsk p xs ys (y + 1) = rowsk p xs ys y ++ [rowT p xs ys y] := by simp [rowsk, List.range_succ]
theorem rowsk_len {p : Nat} {xs ys : List Int} {y : Nat} : (rowsk p xs ys y).length = y := by simp [rowsk]
theorem join_end {ls : List (List UInt8)} {y sep : List UInt8} : Lib.join (ls ++ [y]) sep = (if ls = [] then [] else Lib.join ls sep ++ sep) ++ y := by
  cases ls with
  | nil => simp [Lib.join_one]
  | cons x r => rw [join_snoc, if_neg (by simp)]
theorem ctx_len {v g : Int} (hv : -9223372036854775808 ≤ v ∧ v ≤ 9223372036854775807) (hg : -9223372036854775808 ≤ g ∧ g ≤ 9223372036854775807) : (ctx v g).length ≤ 43 := by
  have a := Lib.itoa_length_le v hv.1 hv.2
  have b := Lib.itoa_length_le g hg.1 hg.2
  unfold ctx
  split
  · simp
  · simp; omega
theorem sxk_row {p : Nat} {xs ys : List Int} {y : Nat} (hp : 1 ≤ p) (hy : sxk p xs ys (y * p) = Lib.join (rowsk p xs ys y) [47]) : ∀ x, 1 ≤ x → x ≤ p → sxk p xs ys (y * p + x) = (if y = 0 then [] else Lib.join (rowsk p xs ys y) [47] ++ [47]) ++ Lib.join (rowc p xs ys y x) [44]
  | 0, h, _ => absurd h (by omega)
  | 1, _, _ => by
    rw [sxk_succ, hy, rowc_succ, rowc_zero, List.nil_append, Lib.join_one, Nat.add_zero]
    by_cases h0 : y = 0
    · subst h0
      simp [sepT, rowsk_zero, Lib.join_nil]
    · have h1 : y * p ≠ 0 := by
        intro e
        rcases Nat.mul_eq_zero.1 e with e | e <;> omega
      rw [if_neg h0, sepT, if_neg h1, if_pos (Nat.mul_mod_left y p)]
      simp
  | x + 2, _, hx => by
    have ih := sxk_row hp hy (x + 1) (by omega) (by omega)
    have h1 : (y * p + (x + 1)) % p = x + 1 := by
      rw [Nat.add_comm, Nat.add_mul_mod_self_right]
      exact Nat.mod_eq_of_lt (by omega)
    have hs : sepT p (y * p + (x + 1)) = [44] := by
      unfold sepT
      rw [if_neg (by omega), h1, if_neg (by omega)]
    have hne : rowc p xs ys y (x + 1) ≠ [] := by
      intro e
      have := congrArg List.length e
      rw [rowc_len] at this
      simp at this
    rw [show y * p + (x + 2) = (y * p + (x + 1)) + 1 from rfl, sxk_succ, ih, hs, show rowc p xs ys y (x + 2) = rowc p xs ys y (x + 1) ++ [cxt xs ys (y * p + (x + 1))] from rowc_succ, join_end, if_neg hne]
    simp [List.append_assoc]
theorem sxk_rows {p : Nat} {xs ys : List Int} (hp : 1 ≤ p) : ∀ y, sxk p xs ys (y * p) = Lib.join (rowsk p xs ys y) [47]
  | 0 => by rw [Nat.zero_mul]; rfl
  | y + 1 => by
    have h := sxk_row hp (sxk_rows (xs := xs) (ys := ys) hp y) p hp (Nat.le_refl _)
    rw [Nat.succ_mul, h, rowsk_succ, join_end]
    by_cases h0 : y = 0
    · subst h0
      rw [if_pos rfl, if_pos rowsk_zero]; rfl
    · rw [if_neg h0, if_neg (by
        intro e
        have := congrArg List.length e
        rw [rowsk_len] at this
        simp at this; omega)]
      rfl
/-- the text of a mosaic -/
def mtT (p q : Int) (xs ys : List Int) : List UInt8 := if mosB p q xs ys then sxk p.toNat xs ys (p.toNat * q.toNat) else []
theorem cxt_len {p q : Int} {xs ys : List Int} (h : mosB p q xs ys = true) {i : Nat} (hi : i < xs.length) : (cxt xs ys i).length ≤ 43 := by
  obtain ⟨x, hx⟩ := get_of_lt hi
  obtain ⟨y, hy⟩ := get_of_lt (xs := ys) (k := i) (by rw [(mos_facts h).2.2.2.1]; exact hi)
  have := mos_cell h hx hy
  rw [cxt, mget_of hx, mget_of hy]
  exact ctx_len (by omega) (by omega)
theorem sxk_len {p q : Int} {xs ys : List Int} (h : mosB p q xs ys = true) {w : Nat} : ∀ i, i ≤ xs.length → (sxk w xs ys i).length ≤ 44 * i
  | 0, _ => by simp [sxk_zero]
  | i + 1, hi => by
    have ih := sxk_len h (w := w) i (by omega)
    have hc := cxt_len h (i := i) (by omega)
    have hs : (sepT w i).length ≤ 1 := by unfold sepT; split <;> (try split) <;> simp
    rw [sxk_succ, List.length_append, List.length_append]; omega
/-- a prefix of the text row by row -/
theorem rowsk_join_len {p q : Int} {xs ys : List Int} (h : mosB p q xs ys = true) {y : Nat} (hy : y * p.toNat ≤ xs.length) : (Lib.join (rowsk p.toNat xs ys y) [47]).length ≤ 70400 := by
  obtain ⟨h1, h2, h3, h4, h5, h6, h7⟩ := mos_facts h
  rw [← sxk_rows (by omega)]
  have := sxk_len h (w := p.toNat) _ hy
  omega
theorem rowc_join_len {p q : Int} {xs ys : List Int} (h : mosB p q xs ys = true) {y x : Nat} (hx : x ≤ p.toNat) (hy : y * p.toNat + x ≤ xs.length) : (Lib.join (rowc p.toNat xs ys y x) [44]).length ≤ 70400 := by
  obtain ⟨h1, h2, h3, h4, h5, h6, h7⟩ := mos_facts h
  rcases Nat.eq_zero_or_pos x with h0 | h0
  · subst h0; rw [rowc_zero, Lib.join_nil]; simp
  · have e := sxk_row (p := p.toNat) (xs := xs) (ys := ys) (y := y) (by omega) (sxk_rows (by omega) y) x h0 hx
    have hl := sxk_len h (w := p.toNat) _ hy
    rw [e, List.length_append] at hl
    omega
end Go.Proofs.YtgokiedhdihamaaDoor
