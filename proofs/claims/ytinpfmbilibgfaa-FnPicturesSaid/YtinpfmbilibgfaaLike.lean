/- likeInts, hasInt: contracts. -/
import Derived.Test.YtinpfmbilibgfaaMKit
namespace Go.Proofs.Ytinpfmbilibgfaa
open Go.RowKit
set_option linter.unusedVariables false
set_option linter.unusedSimpArgs false
theorem laws_likeInts (A B : Option Addr) (c d : Nat) (xs ys : List Int) (w : World) (hr : I64 w w.heap.size A xs) (hs : I64 w w.heap.size B ys) (hl : xs.length ≤ 9223372036854775807) (hm : ys.length ≤ 9223372036854775807) :
    Calls Try.prog 13 #[.slice A xs.length c, .slice B ys.length d] w fun e w' => e = .returned (.bool (decide (xs = ys))) ∧ Below w.heap.size w w' := by
  go_enter Try.func13, Try.ntmps13
  by_cases h : xs.length = ys.length
  · have hb : ((xs.length : Int) != (ys.length : Int)) = false := by simp [h]
    have h' := Lib.hid h
    clear h
    go_wp2
    go_loopw [5] (fun i wr => ∃ k : Nat, k ≤ xs.length ∧ i = .int .i64 k ∧ Hid (xs.take k = ys.take k) ∧ Below w.heap.size w wr) (fun i _ => xs.length - (intOf i).toNat)
    case atStart => exact ⟨0, Nat.zero_le _, rfl, by simp [Hid], Below.refl _ _⟩
    case round =>
      obtain ⟨k, hk, rfl, ht, hbr⟩ := hrel
      by_cases hlt : k < xs.length
      · obtain ⟨x, hx⟩ := get_of_lt hlt
        obtain ⟨y, hy⟩ := get_of_lt (xs := ys) (k := k) (by have := h'.out; omega)
        obtain ⟨b, o, rfl, hb, hc⟩ := (hr.below hbr).at_ hx
        obtain ⟨b2, o2, rfl, hb2, hc2⟩ := (hs.below hbr).at_ hy
        have h1 : (0 : Int) ≤ (k : Int) := by omega
        have h2 : (k : Int) < (xs.length : Int) := by omega
        have h3 : (k : Int) < (ys.length : Int) := by have := h'.out; omega
        have hx' := Lib.hid hx
        have hy' := Lib.hid hy
        clear hx hy hr hs
        by_cases e : x = y
        · have he : (x != y) = false := by simp [e]
          have e' := Lib.hid e
          clear e
          go_wp2_with fail
          go_quiet (fail)
          go_wp2
          go_roundw
          case rel => exact ⟨k + 1, by omega, by go_num, by unfold Hid; rw [take_snoc hx'.out, take_snoc hy'.out, ht.out, e'.out], by exact bgr⟩
          case measure => simp [intOf]; omega
        · have he : (x != y) = true := by simpa using e
          go_wp2_with fail
          go_quiet (fail)
          go_wp2
          go_ret
          exact ⟨ret_bool (by simp; intro e2; rw [e2] at hx'; have := hx'.out.symm.trans hy'.out; simp at this; exact e this), by exact bgr⟩
      · go_wp2
        go_ret
        exact ⟨ret_bool (by have := ht.out; rw [take_all hlt, take_all (by have := h'.out; omega)] at this; simp [this]), by exact bgr⟩
  · have hb : ((xs.length : Int) != (ys.length : Int)) = true := by simp; omega
    go_wp2
    go_ret
    exact ⟨ret_bool (by simp; intro e; exact h (by rw [e])), Below.refl _ _⟩
theorem likeR {A B : Option Addr} {n m c d lo hi lo' hi' : Nat} {xs ys : List Int} {w : World} (ho : OwnR w lo hi (.slice A n c) xs) (ho' : OwnR w lo' hi' (.slice B m d) ys) (hl : xs.length ≤ 1099511627776) (hm : ys.length ≤ 1099511627776) :
    Calls Try.prog 13 #[.slice A n c, .slice B m d] w fun e w' => e = .returned (.bool (decide (xs = ys))) ∧ Below w.heap.size w w' := by
  have h1 := ho.1.reads
  have h2 := ho'.1.reads
  rw [h1.1, h2.1]
  exact laws_likeInts A B c d xs ys w h1.2 h2.2 (by omega) (by omega)
end Go.Proofs.Ytinpfmbilibgfaa
