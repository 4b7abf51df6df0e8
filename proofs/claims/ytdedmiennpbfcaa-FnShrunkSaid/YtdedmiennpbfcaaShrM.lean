/- Shrunk mosaics: the plain law on indices. No function of the program. -/
import Derived.Test.YtdedmiennpbfcaaMosB
namespace Go.Proofs.Ytdedmiennpbfcaa
set_option linter.unusedVariables false
set_option linter.unusedSimpArgs false
/-- does the i-th cell, known, lie in the block CX, CY? -/
def sel (P K CX CY : Nat) (ys : List Int) (i : Nat) : Bool := decide (0 < ys.getD i 0) && (decide (i % P / K = CX) && decide (i / P / K = CY))
/-- sum, number and least grade (9 at most) of the selected among the first n cells -/
def shA (P K CX CY : Nat) (xs ys : List Int) : Nat → Int × Int × Int
  | 0 => (0, 0, 9)
  | n + 1 => if sel P K CX CY ys n then ((shA P K CX CY xs ys n).1 + xs.getD n 0, (shA P K CX CY xs ys n).2.1 + 1, min (shA P K CX CY xs ys n).2.2 (ys.getD n 0)) else shA P K CX CY xs ys n
section
variable {P Q K CX CY : Nat} {xs ys : List Int}
theorem shA_skip {a : Nat} : ∀ {b : Nat}, a ≤ b → (∀ i, a ≤ i → i < b → sel P K CX CY ys i = false) → shA P K CX CY xs ys b = shA P K CX CY xs ys a
  | 0, h, _ => by rw [show a = 0 by omega]
  | b + 1, h, hs => by
    rcases Nat.lt_or_ge b a with h1 | h1
    · rw [show a = b + 1 by omega]
    · rw [shA, hs b h1 (by omega)]
      simp only [Bool.false_eq_true, if_false]
      exact shA_skip h1 (fun i hi hi' => hs i hi (by omega))
theorem idx_mod {x y : Nat} (hx : x < P) : (y * P + x) % P = x := by rw [Nat.mul_comm, Nat.mul_add_mod, Nat.mod_eq_of_lt hx]
theorem idx_div {x y : Nat} (hx : x < P) : (y * P + x) / P = y := by
  rw [Nat.mul_comm, Nat.mul_add_div (by omega), Nat.div_eq_of_lt hx, Nat.add_zero]
theorem idx_of {i : Nat} (hP : 0 < P) : i = i / P * P + i % P ∧ i % P < P := ⟨by rw [Nat.mul_comm]; exact (Nat.div_add_mod i P).symm, Nat.mod_lt _ hP⟩
/-- rows outside of the block hold none of it -/
theorem sel_row {i : Nat} (h : i / P / K ≠ CY) : sel P K CX CY ys i = false := by simp [sel, h]
theorem sel_col {i : Nat} (h : i % P / K ≠ CX) : sel P K CX CY ys i = false := by simp [sel, h]
theorem shA_top (hP : 0 < P) (hK : 0 < K) : shA P K CX CY xs ys (CY * K * P) = (0, 0, 9) := by
  rw [shA_skip (a := 0) (Nat.zero_le _) (fun i _ hi => sel_row (by
    have h1 : i / P < CY * K := Nat.div_lt_of_lt_mul (by rw [Nat.mul_comm]; exact hi)
    have h2 : i / P / K < CY := Nat.div_lt_of_lt_mul (by rw [Nat.mul_comm]; exact h1)
    omega))]
  rfl
theorem shA_left (hP : 0 < P) (hK : 0 < K) {y : Nat} (hx : CX * K ≤ P) : shA P K CX CY xs ys (y * P + CX * K) = shA P K CX CY xs ys (y * P) :=
  shA_skip (Nat.le_add_right _ _) (fun i h1 h2 => sel_col (by
    obtain ⟨x, rfl⟩ : ∃ x, i = y * P + x := ⟨i - y * P, by omega⟩
    have hxl : x < CX * K := by omega
    rw [idx_mod (by omega)]
    have := Nat.div_lt_of_lt_mul (m := x) (n := K) (k := CX) (by rw [Nat.mul_comm]; exact hxl)
    omega))
theorem shA_right (hP : 0 < P) (hK : 0 < K) {y h : Nat} (hh : h = Nat.min (CX * K + K) P) : shA P K CX CY xs ys ((y + 1) * P) = shA P K CX CY xs ys (y * P + h) := by
  have e : (y + 1) * P = y * P + P := by rw [Nat.add_mul, Nat.one_mul]
  have hle : h ≤ P := by rw [hh]; exact Nat.min_le_right _ _
  refine shA_skip (by omega) (fun i h1 h2 => sel_col ?_)
  obtain ⟨x, rfl⟩ : ∃ x, i = y * P + x := ⟨i - y * P, by omega⟩
  have hxP : x < P := by omega
  have hxh : h ≤ x := by omega
  rw [idx_mod hxP]
  have h3 : CX * K + K ≤ x := by
    rcases Nat.le_total (CX * K + K) P with h4 | h4
    · rw [show Nat.min (CX * K + K) P = CX * K + K from Nat.min_eq_left h4] at hh; omega
    · rw [show Nat.min (CX * K + K) P = P from Nat.min_eq_right h4] at hh; omega
  have h5 : CX + 1 ≤ x / K := (Nat.le_div_iff_mul_le hK).2 (by rw [Nat.add_mul, Nat.one_mul]; exact h3)
  omega
theorem shA_bottom (hP : 0 < P) (hK : 0 < K) {h : Nat} (hh : h = Nat.min (CY * K + K) Q) : shA P K CX CY xs ys (Q * P) = shA P K CX CY xs ys (h * P) := by
  have hle : h ≤ Q := by rw [hh]; exact Nat.min_le_right _ _
  refine shA_skip (Nat.mul_le_mul_right P hle) (fun i h1 h2 => sel_row ?_)
  have h3 : h ≤ i / P := (Nat.le_div_iff_mul_le hP).2 h1
  have h4 : i / P < Q := Nat.div_lt_of_lt_mul (by rw [Nat.mul_comm]; exact h2)
  have h5 : CY * K + K ≤ i / P := by
    rcases Nat.le_total (CY * K + K) Q with h6 | h6
    · rw [show Nat.min (CY * K + K) Q = CY * K + K from Nat.min_eq_left h6] at hh; omega
    · rw [show Nat.min (CY * K + K) Q = Q from Nat.min_eq_right h6] at hh; omega
  have h6 : CY + 1 ≤ i / P / K := (Nat.le_div_iff_mul_le hK).2 (by rw [Nat.add_mul, Nat.one_mul]; exact h5)
  omega
/-- inside of the block the cell counts if it is known -/
theorem sel_in (hK : 0 < K) {x y : Nat} (hx : x < P) (hx1 : CX * K ≤ x) (hx2 : x < CX * K + K) (hy1 : CY * K ≤ y) (hy2 : y < CY * K + K) : sel P K CX CY ys (y * P + x) = decide (0 < ys.getD (y * P + x) 0) := by
  have h1 : x / K = CX := Nat.div_eq_of_lt_le hx1 (by rw [Nat.add_mul, Nat.one_mul]; exact hx2)
  have h2 : y / K = CY := Nat.div_eq_of_lt_le hy1 (by rw [Nat.add_mul, Nat.one_mul]; exact hy2)
  rw [sel, idx_mod hx, idx_div hx, h1, h2]; simp
theorem shA_bd (hx : ∀ i, 0 ≤ xs.getD i 0 ∨ ys.getD i 0 ≤ 0) (hx2 : ∀ i, xs.getD i 0 ≤ 1000) (hy : ∀ i, ys.getD i 0 ≤ 9) : ∀ n, 0 ≤ (shA P K CX CY xs ys n).1 ∧ (shA P K CX CY xs ys n).1 ≤ 1000 * n ∧ 0 ≤ (shA P K CX CY xs ys n).2.1 ∧ (shA P K CX CY xs ys n).2.1 ≤ n ∧
    1 ≤ (shA P K CX CY xs ys n).2.2 ∧ (shA P K CX CY xs ys n).2.2 ≤ 9
  | 0 => by simp [shA]
  | n + 1 => by
    obtain ⟨h1, h2, h3, h4, h5, h6⟩ := shA_bd hx hx2 hy n
    have a := hx n
    have b := hx2 n
    have c := hy n
    rw [shA]
    split
    · rename_i hs
      have hp : 0 < ys.getD n 0 := by
        simp only [sel, Bool.and_eq_true] at hs
        exact of_decide_eq_true hs.1
      exact ⟨by show 0 ≤ _ + _; omega, by show _ + _ ≤ 1000 * ((n + 1 : Nat) : Int); omega, by show 0 ≤ _ + 1; omega, by show _ + 1 ≤ ((n + 1 : Nat) : Int); omega, by show 1 ≤ min _ _; omega, by show min _ _ ≤ 9; omega⟩
    · exact ⟨h1, by omega, h3, by omega, h5, h6⟩
end
end Go.Proofs.Ytdedmiennpbfcaa
