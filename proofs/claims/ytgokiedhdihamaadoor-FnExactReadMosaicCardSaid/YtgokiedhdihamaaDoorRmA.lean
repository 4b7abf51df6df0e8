/- Reading a mosaic's text: plain laws: cutting a text and joining it, numbers read back. No function of the program. -/
import Derived.Test.YtgokiedhdihamaaDoorTxP
import Derived.Lib.Split
import Derived.Lib.ParseIntBCases
import Derived.Lib.ParseIntBTie
import Derived.Lib.ItoaMem
namespace Go.Proofs.YtgokiedhdihamaaDoor
open Go.RowKit Go.ChangeShapes Go.WideShapes Go.ChangeAt
set_option linter.unusedVariables false
set_option linter.unusedSimpArgs false
/-- a text cut at a byte; `cur`: what of the piece was read -/
def sp (c : UInt8) (cur : List UInt8) : List UInt8 → List (List UInt8)
  | [] => [cur]
  | b :: r => if b = c then cur :: sp c [] r else sp c (cur ++ [b]) r
def spl (c : UInt8) (s : List UInt8) : List (List UInt8) := sp c [] s
theorem sp_nil {c : UInt8} {cur : List UInt8} : sp c cur [] = [cur] := rfl
theorem sp_hit {c : UInt8} {cur r : List UInt8} : sp c cur (c :: r) = cur :: sp c [] r := by simp [sp]
theorem sp_miss {c b : UInt8} {cur r : List UInt8} (h : b ≠ c) : sp c cur (b :: r) = sp c (cur ++ [b]) r := by simp [sp, h]
theorem sp_ne {c : UInt8} : ∀ (s cur : List UInt8), sp c cur s ≠ []
  | [], cur => by simp [sp]
  | b :: r, cur => by unfold sp; split; simp; exact sp_ne r _
theorem sp_clean {c : UInt8} : ∀ (s cur : List UInt8), c ∉ s → sp c cur s = [cur ++ s]
  | [], cur, _ => by simp [sp]
  | b :: r, cur, h => by
    simp only [List.mem_cons, not_or] at h
    rw [sp_miss (fun e => h.1 e.symm), sp_clean r _ h.2]; simp
theorem sp_at {c : UInt8} {r : List UInt8} : ∀ (a cur : List UInt8), c ∉ a → sp c cur (a ++ c :: r) = (cur ++ a) :: sp c [] r
  | [], cur, _ => by rw [List.nil_append, sp_hit]; simp
  | b :: a, cur, h => by
    simp only [List.mem_cons, not_or] at h
    rw [List.cons_append, sp_miss (fun e => h.1 e.symm), sp_at a _ h.2]; simp
theorem sp_len {c : UInt8} : ∀ (s cur : List UInt8), (sp c cur s).length ≤ s.length + 1
  | [], cur => by simp [sp]
  | b :: r, cur => by
    unfold sp
    split
    · have := sp_len (c := c) r []; simp; omega
    · have := sp_len (c := c) r (cur ++ [b]); simp; omega
theorem sp_part {c : UInt8} : ∀ (s cur : List UInt8), ∀ p ∈ sp c cur s, p.length ≤ cur.length + s.length
  | [], cur, p, h => by simp [sp] at h; subst h; simp
  | b :: r, cur, p, h => by
    unfold sp at h
    split at h
    · rcases List.mem_cons.1 h with h | h
      · subst h; simp
      · have := sp_part r [] p h; simp at this ⊢; omega
    · have := sp_part r (cur ++ [b]) p h; simp at this ⊢; omega
theorem join_two {x y : List UInt8} {r : List (List UInt8)} {sep : List UInt8} : Lib.join (x :: y :: r) sep = x ++ (sep ++ Lib.join (y :: r) sep) := by
  rw [Lib.join_cons, Lib.join_cons]; simp [Lib.joinTail]
theorem spl_join {c : UInt8} : ∀ (parts : List (List UInt8)), parts ≠ [] → (∀ p ∈ parts, c ∉ p) → spl c (Lib.join parts [c]) = parts
  | [], h, _ => absurd rfl h
  | [x], _, h => by rw [Lib.join_one, spl, sp_clean _ _ (h x (by simp))]; simp
  | x :: y :: r, _, h => by
    have ih := spl_join (c := c) (y :: r) (by simp) (fun p hp => h p (List.mem_cons_of_mem _ hp))
    unfold spl at ih ⊢
    rw [join_two, List.singleton_append, sp_at x [] (h x (by simp)), ih]; simp
theorem join_sp {c : UInt8} : ∀ (s cur : List UInt8), Lib.join (sp c cur s) [c] = cur ++ s
  | [], cur => by rw [sp_nil, Lib.join_one]; simp
  | b :: r, cur => by
    by_cases e : b = c
    · subst e
      rw [sp_hit]
      obtain ⟨y, ys, hy⟩ := List.exists_cons_of_ne_nil (sp_ne (c := b) r [])
      have ih := join_sp (c := b) r []
      rw [hy] at ih
      rw [hy, join_two, ih]; simp
    · rw [sp_miss e, join_sp r _]; simp
theorem join_spl {c : UInt8} {s : List UInt8} : Lib.join (spl c s) [c] = s := by rw [spl, join_sp]; rfl
/-- the library's cut is this cut -/
theorem index_miss {c : UInt8} : ∀ {s : List UInt8}, c ∉ s → Lib.index s [c] = -1
  | [], _ => rfl
  | b :: s, h => by
    simp only [List.mem_cons, not_or] at h
    have ih := index_miss h.2
    unfold Lib.index
    rw [ih]
    have h1 : ([c] : List UInt8).isPrefixOf (b :: s) = false := by simp [List.isPrefixOf]; exact h.1
    simp [h1]
theorem index_hit {c : UInt8} {r : List UInt8} : ∀ {a : List UInt8}, c ∉ a → Lib.index (a ++ c :: r) [c] = (a.length : Int)
  | [], _ => by unfold Lib.index; simp [List.isPrefixOf]
  | b :: a, h => by
    simp only [List.mem_cons, not_or] at h
    have ih := index_hit (r := r) h.2
    rw [List.cons_append]
    unfold Lib.index
    rw [ih]
    have h1 : ([c] : List UInt8).isPrefixOf (b :: (a ++ c :: r)) = false := by simp [List.isPrefixOf]; exact h.1
    have h2 : (((a.length : Int)) == -1) = false := by rw [beq_eq_false_iff_ne]; omega
    simp only [h1, h2, Bool.false_eq_true, if_false, List.length_cons]
    push_cast; rfl
theorem cut_miss {c : UInt8} {s : List UInt8} (h : c ∉ s) : Lib.cut s [c] = (s, [], false) := by
  unfold Lib.cut; rw [index_miss h]; rfl
theorem cut_hit {c : UInt8} {a r : List UInt8} (h : c ∉ a) : Lib.cut (a ++ c :: r) [c] = (a, r, true) := by
  unfold Lib.cut
  rw [index_hit h, if_pos (by omega)]
  simp
theorem mem_split {c : UInt8} {s : List UInt8} (h : c ∈ s) : ∃ a r, s = a ++ c :: r ∧ c ∉ a := List.eq_append_cons_of_mem h
theorem split_spl {c : UInt8} (s : List UInt8) : Lib.split s [c] = spl c s := by
  unfold Lib.split
  suffices H : ∀ n (s : List UInt8), s.length ≤ n → Lib.splitK [c] 0 (Lib.count s [c]) s = spl c s from H _ s (Nat.le_refl _)
  intro n
  induction n with
  | zero =>
    intro s h
    have : s = [] := List.length_eq_zero_iff.1 (by omega)
    subst this
    rw [Lib.count_miss (index_miss (by simp))]; rfl
  | succ n ih =>
    intro s h
    by_cases hc : c ∈ s
    · obtain ⟨a, r, rfl, ha⟩ := mem_split hc
      rw [Lib.count_hit (by simp) (index_hit ha), Nat.add_comm, Lib.splitK]
      have e : (Lib.index (a ++ c :: r) [c] == -1) = false := by rw [index_hit ha, beq_eq_false_iff_ne]; omega
      rw [e, index_hit ha]
      have e2 : (a ++ c :: r).drop (a.length + 1) = r := by simp
      simp only [Bool.false_eq_true, if_false, List.length_singleton, Int.toNat_natCast, Nat.add_zero, e2, List.take_left]
      rw [ih r (by simp at h; omega), spl, spl, sp_at a [] ha]; simp
    · rw [Lib.count_miss (index_miss hc), spl, sp_clean _ _ hc]; simp [Lib.splitK]
theorem count_spl {c : UInt8} (s : List UInt8) : Lib.count s [c] + 1 = (spl c s).length := by
  suffices H : ∀ n (s : List UInt8), s.length ≤ n → Lib.count s [c] + 1 = (spl c s).length from H _ s (Nat.le_refl _)
  intro n
  induction n with
  | zero =>
    intro s h
    have : s = [] := List.length_eq_zero_iff.1 (by omega)
    subst this
    rw [Lib.count_miss (index_miss (by simp))]; rfl
  | succ n ih =>
    intro s h
    by_cases hc : c ∈ s
    · obtain ⟨a, r, rfl, ha⟩ := mem_split hc
      have e2 : (a ++ c :: r).drop (a.length + 1) = r := by simp
      rw [Lib.count_hit (by simp) (index_hit ha), List.length_singleton, e2, spl, sp_at a [] ha]
      have := ih r (by simp at h; omega)
      rw [spl] at this
      rw [List.length_cons, ← this]; omega
    · rw [Lib.count_miss (index_miss hc), spl, sp_clean _ _ hc]; rfl
/-! numbers read back -/
/-- a digit -/
def dgB (b : UInt8) : Bool := decide (48 ≤ b.toNat ∧ b.toNat ≤ 57)
def dstep (acc : Nat) (b : UInt8) : Nat := 10 * acc + (b.toNat - 48)
def dval (acc : Nat) (l : List UInt8) : Nat := l.foldl dstep acc
theorem dval_nil {acc : Nat} : dval acc [] = acc := rfl
theorem dval_cons {acc : Nat} {b : UInt8} {r : List UInt8} : dval acc (b :: r) = dval (dstep acc b) r := by simp only [dval, List.foldl_cons]
theorem dv_snoc (l : List UInt8) (acc : Nat) (b : UInt8) : dval acc (l ++ [b]) = dstep (dval acc l) b := by simp only [dval, List.foldl_append, List.foldl_cons, List.foldl_nil]
theorem dv_lt : ∀ (l : List UInt8) (acc : Nat), l.all dgB = true → dval acc l < (acc + 1) * 10 ^ l.length
  | [], acc, _ => by rw [dval_nil]; simp
  | b :: r, acc, h => by
    simp only [List.all_cons, Bool.and_eq_true] at h
    have hb := of_decide_eq_true h.1
    have := dv_lt r (dstep acc b) h.2
    rw [dval_cons, List.length_cons, Nat.pow_succ]
    calc _ < (dstep acc b + 1) * 10 ^ r.length := this
      _ ≤ ((acc + 1) * 10) * 10 ^ r.length := Nat.mul_le_mul_right _ (by unfold dstep; omega)
      _ = _ := by rw [Nat.mul_assoc, Nat.mul_comm 10]
theorem dig_nat {d : Nat} (h : d < 10) : (UInt8.ofNat (48 + d)).toNat = 48 + d := by
  rw [UInt8.toNat_ofNat']; omega
theorem dec_dg : ∀ u : Nat, (Lib.decDigits u).all dgB = true := by
  intro u
  induction u using Nat.strongRecOn with
  | ind u ih =>
    rw [Lib.decDigits]
    split
    · rename_i h
      simp [dgB, dig_nat h]; omega
    · rename_i h
      have := ih (u / 10) (by omega)
      rw [List.all_append, this]
      have h10 : u % 10 < 10 := by omega
      simp [dgB, dig_nat h10]; omega
theorem dec_dv : ∀ u : Nat, dval 0 (Lib.decDigits u) = u := by
  intro u
  induction u using Nat.strongRecOn with
  | ind u ih =>
    rw [Lib.decDigits]
    split
    · rename_i h
      rw [dval_cons, dval_nil, dstep, dig_nat h]; omega
    · rename_i h
      have h10 : u % 10 < 10 := by omega
      rw [dv_snoc, ih (u / 10) (by omega), dstep, dig_nat h10]; omega
theorem dec_ne (u : Nat) : Lib.decDigits u ≠ [] := by
  intro e
  have := congrArg List.length e
  rw [Lib.decDigits_length] at this
  have := Lib.nDigits_pos u
  simp at *; omega
theorem pu_append {M : Nat} : ∀ (l r : List UInt8) (acc a : Nat), Lib.parseUintM M acc l = .ok a → Lib.parseUintM M acc (l ++ r) = Lib.parseUintM M a r
  | [], r, acc, a, h => by simp [Lib.parseUintM] at h; subst h; rfl
  | c :: l, r, acc, a, h => by
    rw [List.cons_append]
    rw [Lib.parseUintM] at h ⊢
    split at h
    · rename_i h1
      rw [if_pos h1]
      split at h
      · cases h
      · rename_i h2
        rw [if_neg h2]
        split at h
        · cases h
        · rename_i h3
          rw [if_neg h3]
          exact pu_append l r _ a h
    · cases h
theorem pu_dec : ∀ u : Nat, u < 1000000000000 → Lib.parseUintM 18446744073709551615 0 (Lib.decDigits u) = .ok u := by
  intro u
  induction u using Nat.strongRecOn with
  | ind u ih =>
    intro hu
    rw [Lib.decDigits]
    split
    · rename_i h
      have e := dig_nat h
      simp only [Lib.parseUintM]
      rw [e, if_pos (by omega), if_neg (by omega), if_neg (by omega)]
      simp
    · rename_i h
      have h10 : u % 10 < 10 := by omega
      have e := dig_nat h10
      rw [pu_append _ _ _ _ (ih (u / 10) (by omega) (by omega))]
      simp only [Lib.parseUintM]
      rw [e, if_pos (by omega), if_neg (by omega), if_neg (by omega)]
      congr 1; omega
theorem parse_dec {u : Nat} (hu : u < 1000000000000) : Lib.parseIntB 64 (Lib.itoa (u : Int)) = .ok (u : Int) := by
  rw [Lib.itoa_nonneg]
  obtain ⟨c, r, hc⟩ := List.exists_cons_of_ne_nil (dec_ne u)
  have hd := dec_dg u
  have hp := pu_dec u hu
  rw [hc] at hd hp ⊢
  simp only [List.all_cons, Bool.and_eq_true] at hd
  have hb := of_decide_eq_true hd.1
  have h1 : Lib.parseUintB 64 (c :: r) = .ok u := by unfold Lib.parseUintB; rw [if_neg (by simp)]; exact hp
  rw [Lib.parseIntB_plain 64 c r (by omega) (by omega), h1]
  simp [Lib.signlessC]; omega
/-! the readers of numbers -/
/-- the program's -/
def nI (s : List UInt8) : Option Int := match Lib.parseIntB 64 s with
  | .ok v => if Lib.itoa v = s then some v else none
  | _ => none
theorem nI_some {s : List UInt8} {v : Int} (h : nI s = some v) : s = Lib.itoa v := by
  unfold nI at h
  split at h
  · split at h
    · rename_i e
      injection h with h
      rw [← h, e]
    · cases h
  · cases h
theorem nI_dec {u : Nat} (hu : u < 1000000000000) : nI (Lib.itoa (u : Int)) = some (u : Int) := by
  unfold nI; rw [parse_dec hu]; simp
/-- the reference's: without a sign -/
def vS (s : List UInt8) : Int × Bool := if s.length < 1 ∨ 12 < s.length then (0, false) else if s.all dgB then ((dval 0 s : Int), decide (Lib.itoa (dval 0 s : Int) = s)) else (0, false)
/-- with one -/
def sS : List UInt8 → Int × Bool
  | 45 :: r => (-(vS r).1, (vS r).2 && decide (0 < (vS r).1))
  | s => vS s
theorem vS_bd (s : List UInt8) : 0 ≤ (vS s).1 ∧ (vS s).1 < 1000000000000 := by
  unfold vS
  split
  · simp
  · rename_i h
    split
    · rename_i h2
      have h3 := dv_lt s 0 h2
      have h4 : 10 ^ s.length ≤ 10 ^ 12 := Nat.pow_le_pow_right (by omega) (by omega)
      simp only [Nat.zero_add, Nat.one_mul] at h3
      constructor
      · exact Int.natCast_nonneg _
      · show ((dval 0 s : Nat) : Int) < 1000000000000
        have : (10 : Nat) ^ 12 = 1000000000000 := rfl
        omega
    · simp
theorem sS_bd (s : List UInt8) : -1000000000000 < (sS s).1 ∧ (sS s).1 < 1000000000000 := by
  unfold sS
  split
  · rename_i r
    have := vS_bd r
    simp; omega
  · have := vS_bd s; omega
theorem sS_minus {r : List UInt8} : sS (45 :: r) = (-(vS r).1, (vS r).2 && decide (0 < (vS r).1)) := rfl
theorem sS_plain {s : List UInt8} (h : ∀ r, s ≠ 45 :: r) : sS s = vS s := by
  unfold sS
  split
  · rename_i r; exact absurd rfl (h r)
  · rfl
theorem dec_head {u : Nat} : ∀ r, Lib.decDigits u ≠ 45 :: r := by
  intro r e
  have hd := dec_dg u
  rw [e] at hd
  simp [dgB] at hd
theorem nd_le : ∀ (k u : Nat), u < 10 ^ (k + 1) → Lib.nDigits u ≤ k + 1
  | 0, u, h => by rw [Lib.nDigits_small (by simpa using h)]; omega
  | k + 1, u, h => by
    by_cases h1 : u < 10
    · rw [Lib.nDigits_small h1]; omega
    · rw [Lib.nDigits_big h1]
      rw [Nat.pow_succ] at h
      have := nd_le k (u / 10) (by omega)
      omega
theorem sS_dec {u : Nat} (hu : u < 1000000000000) : sS (Lib.itoa (u : Int)) = ((u : Int), true) := by
  rw [Lib.itoa_nonneg, sS_plain dec_head, vS]
  have h1 : (Lib.decDigits u).length ≤ 12 := by
    rw [Lib.decDigits_length]
    exact nd_le 11 u hu
  have h2 := dec_ne u
  have h3 : 1 ≤ (Lib.decDigits u).length := List.length_pos_iff.2 h2
  rw [if_neg (by omega), if_pos (dec_dg u), dec_dv, Lib.itoa_nonneg]
  simp
end Go.Proofs.YtgokiedhdihamaaDoor
