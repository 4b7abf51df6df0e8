/- Numbers joined by commas, the reference's way: contracts. -/
import Derived.Test.YtgokiedhdihamaaDoorStrA
import Derived.Lib.Join
namespace Go.Proofs.YtgokiedhdihamaaDoor
open Go.RowKit Go.ChangeShapes Go.WideShapes Go.ChangeAt
set_option linter.unusedVariables false
set_option linter.unusedSimpArgs false
theorem itoa_pos {n : Int} (h : 0 ≤ n) : Lib.itoa n = Lib.decDigits n.toNat := by unfold Lib.itoa; rw [if_neg (by omega)]
theorem itoa_minus {n : Int} (h : n < 0) : Lib.itoa n = 45 :: Lib.decDigits (-n).toNat := by
  unfold Lib.itoa
  rw [if_pos h]
  congr 2
  omega
/-- the first k numbers in decimal, commas between them -/
def jnk (xs : List Int) (k : Nat) : List UInt8 := Lib.join ((xs.take k).map Lib.itoa) [44]
theorem jnk_zero {xs : List Int} : jnk xs 0 = [] := by simp [jnk, Lib.join_nil]
theorem jnk_first {xs : List Int} {x : Int} (h : xs[0]? = some x) : jnk xs 1 = Lib.itoa x := by
  cases xs with
  | nil => simp at h
  | cons y r =>
    obtain rfl : y = x := by simpa using h
    simp [jnk, Lib.join_one]
theorem join_snoc {x : List UInt8} {r : List (List UInt8)} {y sep : List UInt8} : Lib.join ((x :: r) ++ [y]) sep = Lib.join (x :: r) sep ++ sep ++ y := by
  rw [List.cons_append, Lib.join_cons, Lib.join_cons]
  simp [Lib.joinTail, List.append_assoc]
theorem jnk_next {xs : List Int} {k : Nat} {x : Int} (hk : 0 < k) (h : xs[k]? = some x) : jnk xs (k + 1) = jnk xs k ++ [44] ++ Lib.itoa x := by
  unfold jnk
  rw [take_snoc h, List.map_append]
  cases xs with
  | nil => simp at h
  | cons y r =>
    obtain ⟨m, rfl⟩ : ∃ m, k = m + 1 := ⟨k - 1, by omega⟩
    simp only [List.take_succ_cons, List.map_cons, List.map_nil]
    exact join_snoc
theorem jnk_len {xs : List Int} (hb : ∀ x ∈ xs, -9223372036854775808 ≤ x ∧ x ≤ 9223372036854775807) : ∀ k, k ≤ xs.length → (jnk xs k).length ≤ 22 * k
  | 0, _ => by simp [jnk_zero]
  | k + 1, hk => by
    have ih := jnk_len hb k (by omega)
    obtain ⟨x, hx⟩ := get_of_lt (xs := xs) (k := k) (by omega)
    have hi := Lib.itoa_length_le x (hb x (List.mem_of_getElem? hx)).1 (hb x (List.mem_of_getElem? hx)).2
    rcases Nat.eq_zero_or_pos k with h0 | h0
    · subst h0; rw [jnk_first hx]; omega
    · rw [jnk_next h0 hx]; simp; omega
end Go.Proofs.YtgokiedhdihamaaDoor
