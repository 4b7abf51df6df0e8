/- Several texts in one: Like, LkP, Big. No condition of its own. Printed by mergeclaim.py. -/
import Derived.Test.YthbljfanoaibkaaGreatDoorMKit
import Derived.Test.YthbljfanoaibkaaGreatDoorMPic
import Derived.Test.YthbljfanoaibkaaGreatDoorVBox
import Derived.Test.YthbljfanoaibkaaGreatDoorTrL
import Derived.Laws.StructEq
namespace Go.Proofs.YthbljfanoaibkaaGreatDoor
open Go.RowKit
set_option linter.unusedVariables false
set_option linter.unusedSimpArgs false
theorem laws_likeInts (A B : Option Addr) (c d : Nat) (xs ys : List Int) (w : World) (hr : I64 w w.heap.size A xs) (hs : I64 w w.heap.size B ys) (hl : xs.length ≤ 9223372036854775807) (hm : ys.length ≤ 9223372036854775807) :
    Calls Tryz.prog 17 #[.slice A xs.length c, .slice B ys.length d] w fun e w' => e = .returned (.bool (decide (xs = ys))) ∧ Below w.heap.size w w' := by
  go_enter Tryz.func17, Tryz.ntmps17
  by_cases h : xs.length = ys.length
  · have hb : ((xs.length : Int) != (ys.length : Int)) = false := by simp [h]
    have h' := Lib.hid h
    clear h
    go_wp2
    go_loopw [5] (fun i wr => ∃ k : Nat, k ≤ xs.length ∧ i = .int .i64 k ∧ Hid (xs.take k = ys.take k) ∧ Below w.heap.size w wr) (fun i _ => xs.length - (intOf i).toNat)
    case atStart => exact ⟨0, Nat.zero_le _, rfl, by simp [Hid], Below.refl _ _⟩
    case round =>
      obtain ⟨k, hk, rfl, ht, hbr⟩ := hrel
      by_cases hlt : k < xs.length
      · obtain ⟨x, hx⟩ := get_of_lt hlt
        obtain ⟨y, hy⟩ := get_of_lt (xs := ys) (k := k) (by have := h'.out; omega)
        obtain ⟨b, o, rfl, hb, hc⟩ := (hr.below hbr).at_ hx
        obtain ⟨b2, o2, rfl, hb2, hc2⟩ := (hs.below hbr).at_ hy
        have h1 : (0 : Int) ≤ (k : Int) := by omega
        have h2 : (k : Int) < (xs.length : Int) := by omega
        have h3 : (k : Int) < (ys.length : Int) := by have := h'.out; omega
        have hx' := Lib.hid hx
        have hy' := Lib.hid hy
        clear hx hy hr hs
        by_cases e : x = y
        · have he : (x != y) = false := by simp [e]
          have e' := Lib.hid e
          clear e
          go_wp2_with fail
          go_quiet (fail)
          go_wp2
          go_roundw
          case rel => exact ⟨k + 1, by omega, by go_num, by unfold Hid; rw [take_snoc hx'.out, take_snoc hy'.out, ht.out, e'.out], by exact bgr⟩
          case measure => simp [intOf]; omega
        · have he : (x != y) = true := by simpa using e
          go_wp2_with fail
          go_quiet (fail)
          go_wp2
          go_ret
          exact ⟨ret_bool (by simp; intro e2; rw [e2] at hx'; have := hx'.out.symm.trans hy'.out; simp at this; exact e this), by exact bgr⟩
      · go_wp2
        go_ret
        exact ⟨ret_bool (by have := ht.out; rw [take_all hlt, take_all (by have := h'.out; omega)] at this; simp [this]), by exact bgr⟩
  · have hb : ((xs.length : Int) != (ys.length : Int)) = true := by simp; omega
    go_wp2
    go_ret
    exact ⟨ret_bool (by simp; intro e; exact h (by rw [e])), Below.refl _ _⟩
theorem likeR {A B : Option Addr} {n m c d lo hi lo' hi' : Nat} {xs ys : List Int} {w : World} (ho : OwnR w lo hi (.slice A n c) xs) (ho' : OwnR w lo' hi' (.slice B m d) ys) (hl : xs.length ≤ 1099511627776) (hm : ys.length ≤ 1099511627776) :
    Calls Tryz.prog 17 #[.slice A n c, .slice B m d] w fun e w' => e = .returned (.bool (decide (xs = ys))) ∧ Below w.heap.size w w' := by
  have h1 := ho.1.reads
  have h2 := ho'.1.reads
  rw [h1.1, h2.1]
  exact laws_likeInts A B c d xs ys w h1.2 h2.2 (by omega) (by omega)
end Go.Proofs.YthbljfanoaibkaaGreatDoor
namespace Go.Proofs.YthbljfanoaibkaaGreatDoor
open Go.RowKit Go.ChangeShapes Go.WideShapes Go.ChangeAt
set_option linter.unusedVariables false
set_option linter.unusedSimpArgs false
set_option maxRecDepth 100000 in
theorem neqT5 (x y p q s t h m : Int) (w : World) : (binOp .neq 40 (.agg #[.int .i64 x, .int .i64 y, .int .i64 p, .int .i64 q, .int .i64 s, .int .i64 t, .int .i64 h, .int .i64 m]) (.agg #[.int .i64 x, .int .i64 y, .int .i64 p, .int .i64 q, .int .i64 s, .int .i64 t, .int .i64 h, .int .i64 m])).run Tryz.prog w = .ok (.bool false) w := by
  go_simp
set_option maxRecDepth 100000 in
set_option maxHeartbeats 3200000 in
theorem laws_likePic (A B : Option Addr) (c k : Nat) (ts : List Tr) (s d : Int) (w : World) (hr : T64 w w.heap.size A ts) (hs : T64 w w.heap.size B ts) (hl : ts.length ≤ 1099511627776) :
    Calls Tryz.prog 16 #[.agg #[.slice A ts.length c, .int .i64 s, .int .i64 d], .agg #[.slice B ts.length k, .int .i64 s, .int .i64 d]] w fun e w' => e = .returned (.bool true) ∧ Below w.heap.size w w' := by
  have n1 : (s != s) = false := by simp
  have n2 : (d != d) = false := by simp
  have n3 : (ts.length != ts.length) = false := by simp
  have n4 : ((ts.length : Int) != (ts.length : Int)) = false := by simp
  have hneq : ∀ (x y p q s t h m : Int) (w : World), (binOp .neq 40 (.agg #[.int .i64 x, .int .i64 y, .int .i64 p, .int .i64 q, .int .i64 s, .int .i64 t, .int .i64 h, .int .i64 m]) (.agg #[.int .i64 x, .int .i64 y, .int .i64 p, .int .i64 q, .int .i64 s, .int .i64 t, .int .i64 h, .int .i64 m])).run Tryz.prog w = .ok (.bool false) w := neqT5
  go_enter Tryz.func16, Tryz.ntmps16
  go_wp2_with fail
  go_loopw [5] (fun i wr => ∃ j : Nat, j ≤ ts.length ∧ i = .int .i64 j ∧ VBox wr 28 w.heap.size [.slice A ts.length c, .int .i64 s, .int .i64 d] ∧ VBox wr 28 (w.heap.size + 1) [.slice B ts.length k, .int .i64 s, .int .i64 d] ∧ Below w.heap.size w wr) (fun i _ => ts.length - (intOf i).toNat)
  case atStart => exact ⟨0, Nat.zero_le _, rfl, VBox.alloc (VBox.new (w := w) rfl) _, VBox.new (w := w.alloc _) (by simp), Below.new (Below.new (Below.refl _ _) _) _⟩
  case round =>
    obtain ⟨j, hj, rfl, va, vb, hbr⟩ := hrel
    have a0 := va.cell (j := 0) rfl
    have b0 := vb.cell (j := 0) rfl
    by_cases hlt : j < ts.length
    · obtain ⟨⟨x, y, p, q, s1, t, u, r⟩, hx⟩ := get_of_lt hlt
      obtain ⟨g, o, rfl, hb, hc0, hc1, hc2, hc3, hc4, hc5, hc6, hc7⟩ := T64.at_ (hr.up hbr) hx
      obtain ⟨g2, o2, rfl, hb2, hd0, hd1, hd2, hd3, hd4, hd5, hd6, hd7⟩ := T64.at_ (hs.up hbr) hx
      have p0 : (0 : Int) ≤ (j : Int) := by omega
      have p1 : (j : Int) < (ts.length : Int) := by omega
      clear hx
      go_wp2_with fail
      go_quiet (fail)
      go_wp2_with fail
      go_roundw
      case rel => exact ⟨j + 1, by omega, by go_num, va, vb, by exact bgr⟩
      case measure => simp [intOf]; omega
    · go_wp2_with fail
      all_goals go_ret
      all_goals exact ⟨rfl, hbr⟩
theorem likeT (A B : Option Addr) (c d : Nat) (xs : List Int) (w : World) (hr : I64 w w.heap.size A xs) (hs : I64 w w.heap.size B xs) (hl : xs.length ≤ 1099511627776) :
    Calls Tryz.prog 17 #[.slice A xs.length c, .slice B xs.length d] w fun e w' => e = .returned (.bool true) ∧ Below w.heap.size w w' := by
  have := laws_likeInts A B c d xs xs w hr hs (by omega) (by omega)
  rw [show decide (xs = xs) = true by simp] at this
  exact this
end Go.Proofs.YthbljfanoaibkaaGreatDoor
namespace Go.Proofs.YthbljfanoaibkaaGreatDoor
open Go.RowKit
set_option linter.unusedVariables false
set_option linter.unusedSimpArgs false
theorem laws_big (A : Option Addr) (n c : Nat) (w : World) : Calls Tryz.prog 4 #[.slice A n c] w fun e w' => e = .returned (.bool (decide (4096 < (n : Int)))) ∧ w = w' := by
  go_enter Tryz.func4, Tryz.ntmps4
  go_wp2
  go_ret
  exact ⟨rfl, rfl⟩
theorem OwnI.cap {w : World} {base n c : Nat} {A : Option Addr} {xs : List Int} (h : OwnI w base (.slice A n c) xs) : xs.length ≤ c := by
  obtain ⟨A', c', h1, h2, h3⟩ := h
  injection h1 with h1 hn hc
  subst h1 hn hc
  rcases h3 with ⟨e1, e2⟩ | ⟨g, cap, cur, q1, q2, q3, q4, _⟩
  · injection e1 with a b d; omega
  · injection q1 with a b d; omega
theorem OwnI.up (w0 : World) {w w' : World} {base n c : Nat} {A : Option Addr} {xs : List Int} (h : OwnI w base (.slice A n c) xs) (hb : Below w.heap.size w w') : I64 w' w'.heap.size A xs := h.reads.2.up hb
end Go.Proofs.YthbljfanoaibkaaGreatDoor
