/- Numbers joined by commas, the reference's way: contracts. -/
import Derived.Test.YthbljfanoaibkaaDoorStrA
import Derived.Lib.Join
namespace Go.Proofs.YthbljfanoaibkaaDoor
open Go.RowKit Go.ChangeShapes Go.WideShapes Go.ChangeAt
set_option linter.unusedVariables false
set_option linter.unusedSimpArgs false
theorem itoa_pos {n : Int} (h : 0 ≤ n) : Lib.itoa n = Lib.decDigits n.toNat := by unfold Lib.itoa; rw [if_neg (by omega)]
theorem itoa_minus {n : Int} (h : n < 0) : Lib.itoa n = 45 :: Lib.decDigits (-n).toNat := by
  unfold Lib.itoa
  rw [if_pos h]
  congr 2
  omega
/-- the first k numbers in decimal, commas between them -/
def jnk (xs : List Int) (k : Nat) : List UInt8 := Lib.join ((xs.take k).map Lib.itoa) [44]
theorem jnk_zero {xs : List Int} : jnk xs 0 = [] := by simp [jnk, Lib.join_nil]
theorem jnk_first {xs : List Int} {x : Int} (h : xs[0]? = some x) : jnk xs 1 = Lib.itoa x := by
  cases xs with
  | nil => simp at h
  | cons y r =>
    obtain rfl : y = x := by simpa using h
    simp [jnk, Lib.join_one]
theorem join_snoc {x : List UInt8} {r : List (List UInt8)} {y sep : List UInt8} : Lib.join ((x :: r) ++ [y]) sep = Lib.join (x :: r) sep ++ sep ++ y := by
  rw [List.cons_append, Lib.join_cons, Lib.join_cons]
  simp [Lib.joinTail, List.append_assoc]
theorem jnk_next {xs : List Int} {k : Nat} {x : Int} (hk : 0 < k) (h : xs[k]? = some x) : jnk xs (k + 1) = jnk xs k ++ [44] ++ Lib.itoa x := by
  unfold jnk
  rw [take_snoc h, List.map_append]
  cases xs with
  | nil => simp at h
  | cons y r =>
    obtain ⟨m, rfl⟩ : ∃ m, k = m + 1 := ⟨k - 1, by omega⟩
    simp only [List.take_succ_cons, List.map_cons, List.map_nil]
    exact join_snoc
theorem jnk_len {xs : List Int} (hb : ∀ x ∈ xs, -9223372036854775808 ≤ x ∧ x ≤ 9223372036854775807) : ∀ k, k ≤ xs.length → (jnk xs k).length ≤ 22 * k
  | 0, _ => by simp [jnk_zero]
  | k + 1, hk => by
    have ih := jnk_len hb k (by omega)
    obtain ⟨x, hx⟩ := get_of_lt (xs := xs) (k := k) (by omega)
    have hi := Lib.itoa_length_le x (hb x (List.mem_of_getElem? hx)).1 (hb x (List.mem_of_getElem? hx)).2
    rcases Nat.eq_zero_or_pos k with h0 | h0
    · subst h0; rw [jnk_first hx]; omega
    · rw [jnk_next h0 hx]; simp; omega
set_option maxRecDepth 100000 in
theorem spec_l01Number (n : Int) (w : World) (h0 : -9223372036854775808 < n) (h1 : n ≤ 9223372036854775807) : Calls Tryd.prog 28 #[.int .i64 n] w fun e w' => e = .returned (.string (mkT (Lib.itoa n))) ∧ Below w.heap.size w w' := by
  by_cases h : n < 0
  · obtain ⟨u, hu⟩ : ∃ u : Nat, u = (-n).toNat := ⟨_, rfl⟩
    have hl := dec_len u (by omega)
    have hd := fun w => spec_l01Dec u w (by omega)
    have ha : ∀ w, (Op.stringOp .add ⟨#[45]⟩ (mkT (Lib.decDigits u))).run Tryd.prog w = .ok (.string (mkT (45 :: Lib.decDigits u))) w := add_T [45] (Lib.decDigits u) (by simp) (by omega)
    rw [itoa_minus h, ← hu]
    have e : -n = (u : Int) := by omega
    rw [← e] at hd
    have hdH := Lib.hid hd
    clear hd e hu
    go_enter Tryd.func28, Tryd.ntmps28
    go_wp2_with (go_at_call 21; ((with_reducible refine (hdH.out _).mono ?_); rintro e w1 ⟨rfl, hb1⟩))
    go_ret
    exact ⟨rfl, by exact bgr⟩
  · obtain ⟨u, hu⟩ : ∃ u : Nat, u = n.toNat := ⟨_, rfl⟩
    obtain rfl : n = (u : Int) := by omega
    have hd := fun w => spec_l01Dec u w (by omega)
    rw [itoa_pos (by omega), ← hu]
    have hdH := Lib.hid hd
    clear hd hu
    go_enter Tryd.func28, Tryd.ntmps28
    go_wp2_with (go_at_call 21; ((with_reducible refine (hdH.out _).mono ?_); rintro e w1 ⟨rfl, hb1⟩))
    go_ret
    exact ⟨rfl, by exact bgr⟩
set_option maxRecDepth 100000 in
set_option maxHeartbeats 1600000 in
theorem spec_l01Join (A : Option Addr) (c : Nat) (xs : List Int) (w : World) (hr : I64 w w.heap.size A xs) (hl : xs.length ≤ 1048576) (hb : ∀ x ∈ xs, -9223372036854775808 < x ∧ x ≤ 9223372036854775807) :
    Calls Tryd.prog 15 #[.slice A xs.length c, .string ⟨#[44]⟩] w fun e w' => e = .returned (.string (mkT (jnk xs xs.length))) ∧ Below w.heap.size w w' := by
  have hlen := fun k hk => jnk_len (xs := xs) (fun x hx => ⟨Int.le_of_lt (hb x hx).1, (hb x hx).2⟩) k hk
  have hlenH := Lib.hid hlen
  have hbH := Lib.hid hb
  clear hlen hb
  go_enter Tryd.func15, Tryd.ntmps15
  go_wp2
  go_loopw [5, 6] (fun o i wr => ∃ k : Nat, k ≤ xs.length ∧ i = .int .i64 k ∧ o = .string (mkT (jnk xs k)) ∧ Below w.heap.size w wr) (fun _ i _ => xs.length - (intOf i).toNat)
  case atStart => exact ⟨0, Nat.zero_le _, rfl, by rw [jnk_zero]; rfl, by exact bgr⟩
  case round =>
    obtain ⟨k, hk, rfl, rfl, hbr⟩ := hrel
    by_cases hlt : k < xs.length
    · obtain ⟨x, hx⟩ := get_of_lt hlt
      obtain ⟨b, o, rfl, hbB, hc⟩ := I64.at_ (hr.up hbr) hx
      have p0 : (0 : Int) ≤ (k : Int) := by omega
      have p1 : (k : Int) < (xs.length : Int) := by omega
      have hxb := hbH.out x (List.mem_of_getElem? hx)
      have hix := Lib.itoa_length_le x (by omega) hxb.2
      have hjl := hlenH.out k hk
      have hs := fun w => spec_l01Number x w hxb.1 hxb.2
      have hsH := Lib.hid hs
      clear hs
      rcases Nat.eq_zero_or_pos k with h0 | h0
      · have q0 : ¬ (0 : Int) < (k : Int) := by omega
        have e1 : Hid (jnk xs (k + 1) = Lib.itoa x) := by subst h0; exact Lib.hid (jnk_first hx)
        have ha : ∀ w, (Op.stringOp .add (mkT (jnk xs k)) (mkT (Lib.itoa x))).run Tryd.prog w = .ok (.string (mkT (Lib.itoa x))) w := fun w => by
          subst h0
          have := add_T (P := Tryd.prog) (jnk xs 0) (Lib.itoa x) (by omega) (by omega) w
          rw [this, jnk_zero]; rfl
        clear hx h0
        go_wp2_with (go_at_call 28; ((with_reducible refine (hsH.out _).mono ?_); rintro e w1 ⟨rfl, hb1⟩))
        go_roundw
        case rel => exact ⟨k + 1, by omega, by go_num, by rw [e1.out], by exact bgr⟩
        case measure => simp [intOf]; omega
      · have e1 := Lib.hid (jnk_next h0 hx)
        have q0 : (0 : Int) < (k : Int) := by omega
        have ha : ∀ w, (Op.stringOp .add (mkT (jnk xs k)) ⟨#[44]⟩).run Tryd.prog w = .ok (.string (mkT (jnk xs k ++ [44]))) w := add_T (jnk xs k) [44] (by omega) (by simp)
        have hb2 : ∀ w, (Op.stringOp .add (mkT (jnk xs k ++ [44])) (mkT (Lib.itoa x))).run Tryd.prog w = .ok (.string (mkT (jnk xs k ++ [44] ++ Lib.itoa x))) w := add_T (jnk xs k ++ [44]) (Lib.itoa x) (by simp; omega) (by omega)
        clear hx
        go_wp2_with (go_at_call 28; ((with_reducible refine (hsH.out _).mono ?_); rintro e w1 ⟨rfl, hb1⟩))
        go_roundw
        case rel => exact ⟨k + 1, by omega, by go_num, by rw [e1.out]; simp, by exact bgr⟩
        case measure => simp [intOf]; omega
    · obtain rfl : k = xs.length := by omega
      go_wp2
      go_ret
      exact ⟨rfl, by exact bgr⟩
end Go.Proofs.YthbljfanoaibkaaDoor
