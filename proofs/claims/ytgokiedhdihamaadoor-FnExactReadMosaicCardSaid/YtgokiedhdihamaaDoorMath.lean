/- Plain arithmetic: integer square roots and quotients. No program in sight. -/
import Init
set_option linter.unusedVariables false
set_option linter.unusedSimpArgs false
namespace Go.Proofs.YtgokiedhdihamaaDoor.Pl

/-! ### The integer square root -/
def rtN : Nat → Nat
  | 0 => 0
  | n + 1 => if (rtN n + 1) * (rtN n + 1) ≤ n + 1 then rtN n + 1 else rtN n

theorem rtN_spec (n : Nat) : rtN n * rtN n ≤ n ∧ n < (rtN n + 1) * (rtN n + 1) := by
  induction n with
  | zero => simp [rtN]
  | succ n ih =>
    obtain ⟨h1, h2⟩ := ih
    rw [rtN]
    split
    · rename_i h
      refine ⟨h, ?_⟩
      have e : (rtN n + 1 + 1) * (rtN n + 1 + 1) = (rtN n + 1) * (rtN n + 1) + 2 * rtN n + 3 := by grind
      omega
    · rename_i h
      exact ⟨by omega, by omega⟩

def rt (n : Int) : Int := rtN n.toNat

theorem rt_nonneg (n : Int) : 0 ≤ rt n := by unfold rt; omega

theorem rt_spec {n : Int} (h : 0 ≤ n) : rt n * rt n ≤ n ∧ n < (rt n + 1) * (rt n + 1) := by
  obtain ⟨k, rfl⟩ := Int.eq_ofNat_of_zero_le h
  have := rtN_spec k
  unfold rt
  rw [Int.toNat_natCast]
  refine ⟨by exact_mod_cast this.1, by exact_mod_cast this.2⟩

theorem sq_lt {a b : Int} (ha : 0 ≤ a) (hb : 0 ≤ b) (h : a * a < b * b) : a < b := by
  rcases Int.lt_or_le a b with h1 | h1
  · exact h1
  · have := Int.mul_le_mul h1 h1 hb ha
    omega

theorem sq_le {a b : Int} (ha : 0 ≤ a) (h : a ≤ b) : a * a ≤ b * b := Int.mul_le_mul h h ha (by omega)

theorem rt_uniq {n r : Int} (h0 : 0 ≤ r) (h1 : r * r ≤ n) (h2 : n < (r + 1) * (r + 1)) : r = rt n := by
  have hn : 0 ≤ n := Int.le_trans (Int.mul_nonneg h0 h0) h1
  have hs := rt_spec hn
  have hp := rt_nonneg n
  have a1 := sq_lt h0 (by omega : (0 : Int) ≤ rt n + 1) (by omega)
  have a2 := sq_lt hp (by omega : (0 : Int) ≤ r + 1) (by omega)
  omega

/-! ### Quotients -/
theorem fdiv1 {a b : Int} (hb : 0 < b) (h : a.tmod b = 0) : a.tdiv b = a / b := by
  rw [Int.tdiv_eq_ediv, if_pos (Or.inr (Int.dvd_of_tmod_eq_zero h))]; omega
theorem fdiv2 {a b : Int} (hb : 0 < b) (h : ¬ a.tmod b = 0) (ha : a < 0) : a.tdiv b - 1 = a / b := by
  rw [Int.tdiv_eq_ediv, if_neg (fun h' => h' |>.elim (fun h0 => by omega) (fun h0 => h (Int.tmod_eq_zero_of_dvd h0))), Int.sign_eq_one_of_pos hb]; omega
theorem fdiv3 {a b : Int} (ha : 0 ≤ a) : a.tdiv b = a / b := Int.tdiv_eq_ediv_of_nonneg ha

theorem div_bd {a b : Int} (hb : 0 < b) : (0 ≤ a → 0 ≤ a / b ∧ a / b ≤ a) ∧ (a < 0 → a ≤ a / b ∧ a / b < 0) := by
  refine ⟨fun h => ⟨Int.ediv_nonneg h (by omega), Int.ediv_le_self _ h⟩, fun h => ⟨?_, Int.ediv_neg_of_neg_of_pos h hb⟩⟩
  rw [Int.le_ediv_iff_mul_le hb]
  have := Int.mul_le_mul_of_nonpos_left (show a ≤ 0 by omega) (show (1 : Int) ≤ b by omega)
  omega

/-- the nearest integer, of two the even one (b greater than 0) -/
def nr (a b : Int) : Int := if b - a % b < a % b ∨ (a % b = b - a % b ∧ (a / b) % 2 = 1) then a / b + 1 else a / b
/-- rounded up -/
def cdv (a b : Int) : Int := -((-a) / b)

/-- The nearest integer to the square root. -/
def nrt (n : Int) : Int := if rt n < n - rt n * rt n then rt n + 1 else rt n
/-- The square root rounded up. -/
def rtu (n : Int) : Int := if rt n * rt n < n then rt n + 1 else rt n

theorem rt_le {n r : Int} (hr : 0 ≤ r) (h : n < (r + 1) * (r + 1)) (hn : 0 ≤ n) : rt n ≤ r := by
  have := sq_lt (rt_nonneg n) (by omega : (0 : Int) ≤ r + 1) (by have := (rt_spec hn).1; omega)
  omega

theorem sq_bd {x : Int} (h : -1000000000 ≤ x ∧ x ≤ 1000000000) : 0 ≤ x * x ∧ x * x ≤ 1000000000000000000 := by
  rcases Int.lt_or_le x 0 with h0 | h0
  · have e : x * x = (-x) * (-x) := by rw [Int.neg_mul_neg]
    rw [e]
    exact ⟨Int.mul_nonneg (by omega) (by omega), by have := sq_le (a := -x) (b := 1000000000) (by omega) (by omega); omega⟩
  · exact ⟨Int.mul_nonneg h0 h0, by have := sq_le h0 h.2; omega⟩

theorem gcd_step (a b : Int) (hb : 0 < b) (ha : 0 ≤ a) : Int.gcd a b = Int.gcd b (a % b) := by
  obtain ⟨m, rfl⟩ := Int.eq_ofNat_of_zero_le ha
  obtain ⟨n, rfl⟩ := Int.eq_ofNat_of_zero_le (show 0 ≤ b by omega)
  have e : ((m : Int) % (n : Int)) = ((m % n : Nat) : Int) := rfl
  rw [e, Int.gcd_natCast_natCast, Int.gcd_natCast_natCast, Nat.gcd_comm m n, Nat.gcd_rec n m, Nat.gcd_comm]
theorem gcd_end (a : Int) (ha : 0 ≤ a) : (Int.gcd a 0 : Int) = a := by
  obtain ⟨m, rfl⟩ := Int.eq_ofNat_of_zero_le ha
  simp

end Go.Proofs.YtgokiedhdihamaaDoor.Pl
