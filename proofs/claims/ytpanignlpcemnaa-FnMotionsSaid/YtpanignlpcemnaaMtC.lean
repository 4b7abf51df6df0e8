/- The dice of the laws: contract of roll. -/
import Derived.Test.YtpanignlpcemnaaDrM
import Derived.Laws.Bits64
import Derived.Laws.Bits64b
import Derived.StillTailTactics
namespace Go.Proofs.Ytpanignlpcemnaa
open Go.RowKit Go.ChangeShapes Go.WideShapes Go.ChangeAt
set_option linter.unusedVariables false
set_option linter.unusedSimpArgs false
/-- the dice in the block g -/
def Dice (w : World) (g : Nat) (A : Option Addr) (n c : Nat) (pos : Nat) (h : Int) : Prop := w.heap[g]? = some (.cells #[.slice A n c, .int .i64 pos, .int .u64 h] 86 (0, 0))
theorem u64_rng (x : Int) : 0 ≤ IntKind.u64.wrap x ∧ IntKind.u64.wrap x < 18446744073709551616 := by rw [IntKind.wrap_u64]; omega
theorem Dice.set {w : World} {g n c pos : Nat} {A : Option Addr} {h : Int} (hg : Dice w g A n c pos h) (u : Int) : Dice (w.setCell ⟨g, 2, none⟩ (.int .u64 u)) g A n c pos u := by
  have h' : w.heap[g]? = some (.cells #[.slice A n c, .int .i64 pos, .int .u64 h] 86 (0, 0)) := hg
  show (w.setCell ⟨g, 2, none⟩ (.int .u64 u)).heap[g]? = _
  simp [World.setCell, Array.getElem?_modify, h']
set_option maxRecDepth 100000 in
set_option maxHeartbeats 1600000 in
theorem laws_roll (A : Option Addr) (c : Nat) (code : List Int) (seed : Int) (w : World) (hr : U8 w w.heap.size A code) (hb : ∀ x ∈ code, 0 ≤ x ∧ x ≤ 255) (hl : code.length ≤ 4096) :
    Calls Try.prog 16 #[.slice A code.length c, .int .u64 seed] w fun e w' => ∃ g h, e = .returned (.pointer (some ⟨g, 0, none⟩)) ∧ w.heap.size ≤ g ∧ Dice w' g A code.length c 0 h ∧ (0 ≤ h ∧ h < 18446744073709551616) ∧ Below w.heap.size w w' := by
  go_enter Try.func16, Try.ntmps16
  go_wp2
  go_loopw [6] (fun i wr => ∃ k : Nat, ∃ h : Int, k ≤ code.length ∧ i = .int .i64 k ∧ (0 ≤ h ∧ h < 18446744073709551616) ∧ Dice wr w.heap.size A code.length c 0 h ∧ Below w.heap.size w wr) (fun i _ => code.length - (intOf i).toNat)
  case atStart => exact ⟨0, _, Nat.zero_le _, rfl, u64_rng _, heap_alloc_new w _, by repeat' (first | (with_reducible exact Below.refl _ _) | (with_reducible assumption) | (with_reducible refine Below.new ?_ _) | (with_reducible refine Below.alloc ?_ ?_ _) | (with_reducible refine Below.drew ?_) | (with_reducible refine below_drewN ?_ _) | (with_reducible refine Below.setCell ?_ ?_ _) | (refine Below.next ?_ (by with_reducible assumption)) | (refine Below.row ?_ (by with_reducible assumption) (by omega)) | (refine Below.trans ?_ (by with_reducible assumption)) | (refine Below.after ?_ ?_ (by with_reducible assumption)) | go_size)⟩
  case round =>
    obtain ⟨k, h, hk, rfl, hh, hg, hbr⟩ := hrel
    have hg0 : wr.heap[w.heap.size]? = some (.cells #[.slice A code.length c, .int .i64 0, .int .u64 h] 86 (0, 0)) := hg
    have c2 : wr.cell? ⟨w.heap.size, 2, none⟩ = some (.int .u64 h) := by simp [World.cell?, hg0]
    have z0 : ∀ j, wr.frozen? ⟨w.heap.size, j, none⟩ = false := fun j => by simp [World.frozen?, hg0]
    have hgH := Lib.hid hg
    have hbrH := Lib.hid hbr
    by_cases hlt : k < code.length
    · obtain ⟨x, hx⟩ := get_of_lt hlt
      obtain ⟨b, o, rfl, hbB, hc⟩ := U8.at_ (Rd.below hr hbr) hx
      have p0 : (0 : Int) ≤ (k : Int) := by omega
      have p1 : (k : Int) < (code.length : Int) := by omega
      clear hx hg hg0 hr hb
      go_wp2_with fail
      go_still_tail 15, (by kernel_rfl)
      change wpList _ _ _ _ _ wr.drew
      go_wp2
      go_roundw
      case rel => exact ⟨k + 1, _, by omega, by go_num, u64_rng _, hgH.out.set _, by repeat' (first | (with_reducible exact Below.refl _ _) | (with_reducible assumption) | (with_reducible refine Below.new ?_ _) | (with_reducible refine Below.alloc ?_ ?_ _) | (with_reducible refine Below.drew ?_) | (with_reducible refine below_drewN ?_ _) | (with_reducible refine Below.setCell ?_ ?_ _) | (refine Below.next ?_ (by with_reducible assumption)) | (refine Below.row ?_ (by with_reducible assumption) (by omega)) | (refine Below.trans ?_ (by with_reducible assumption)) | (refine Below.after ?_ ?_ (by with_reducible assumption)) | go_size)⟩
      case measure => simp [intOf]; omega
    · go_wp2
      go_ret
      exact ⟨_, h, rfl, Nat.le_refl _, hgH.out, hh, hbrH.out⟩
set_option maxRecDepth 100000 in
set_option maxHeartbeats 1600000 in
theorem laws_below (g : Nat) (A : Option Addr) (c : Nat) (code : List Int) (h n : Int) (w : World) (hg : Dice w g A code.length c 0 h) (hr : U8 w g A code) (hb : ∀ x ∈ code, 0 ≤ x ∧ x ≤ 255) (hl : code.length ≤ 4096) (hn : 1 ≤ n ∧ n ≤ 1000) :
    Calls Try.prog 17 #[.pointer (some ⟨g, 0, none⟩), .int .i64 n] w fun e w' => ∃ r, e = .returned (.int .i64 r) ∧ (0 ≤ r ∧ r < n) ∧ w.grownBy w' (some g) := by
  have hg0 : w.heap[g]? = some (.cells #[.slice A code.length c, .int .i64 0, .int .u64 h] 86 (0, 0)) := hg
  have c0 : w.cell? ⟨g, 0, none⟩ = some (.slice A code.length c) := by simp [World.cell?, hg0]
  have c1 : w.cell? ⟨g, 1, none⟩ = some (.int .i64 0) := by simp [World.cell?, hg0]
  have c2 : w.cell? ⟨g, 2, none⟩ = some (.int .u64 h) := by simp [World.cell?, hg0]
  have z0 : ∀ j, w.frozen? ⟨g, j, none⟩ = false := fun j => by simp [World.frozen?, hg0]
  obtain ⟨a, ha⟩ : ∃ a, IntKind.u64.wrap (h * 6364136223846793005) = a := ⟨_, rfl⟩
  obtain ⟨H, hH⟩ := Int.eq_ofNat_of_zero_le (u64_rng (a + 1442695040888963407)).1
  have hHl : H < 18446744073709551616 := by have := (u64_rng (a + 1442695040888963407)).2; rw [hH] at this; omega
  have hm : bits .and .u64 ((H : Int) / 8589934592) 16777215 = ((H / 8589934592 % 16777216 : Nat) : Int) := by
    have h1 := bits_and_u64_nat (H / 8589934592) 16777215 (by omega) (by omega)
    have e : (H / 8589934592) &&& 16777215 = H / 8589934592 % 16777216 := Nat.and_two_pow_sub_one_eq_mod _ 24
    rw [e] at h1
    rw [show ((H / 8589934592 : Nat) : Int) = (H : Int) / 8589934592 from by omega, show ((16777215 : Nat) : Int) = 16777215 from rfl] at h1
    exact h1
  clear hg hg0
  by_cases h0 : 0 < code.length
  · obtain ⟨x, hx⟩ := get_of_lt h0
    have hxb := hb x (List.mem_of_getElem? hx)
    obtain ⟨b, o, rfl, hbB, hc⟩ := U8.at_ hr hx
    have p1 : (0 : Int) < (code.length : Int) := by omega
    have hne : ¬ b = g := by omega
    have hne2 : ¬ g = b := by omega
    rw [Nat.add_zero] at hc
    have hR : H / 8589934592 % 16777216 < 16777216 := Nat.mod_lt _ (by omega)
    have hn0 : ¬ n = 0 := by omega
    clear hx hr hb
    go_enter Try.func17, Try.ntmps17
    go_wp2_with fail
    go_quiet (fail)
    go_wp2_with fail
    go_quiet (fail)
    go_wp2_with fail
    go_ret
    exact ⟨_, rfl, ⟨Int.emod_nonneg _ hn0, Int.emod_lt_of_pos _ (by omega)⟩, (by repeat' (first | (with_reducible exact World.grownBy.refl _ _) | (with_reducible assumption) | (with_reducible refine grownBy_drewN ?_ _) | (with_reducible refine grownBy_set ?_ _ _) | (with_reducible refine grownBy_alloc' ?_ _) | (refine grownBy_trans ?_ (by with_reducible assumption)) | (refine grownBy_next ?_ (by with_reducible assumption))))⟩
  · have p1 : ¬ (0 : Int) < (code.length : Int) := by omega
    have hR : H / 8589934592 % 16777216 < 16777216 := Nat.mod_lt _ (by omega)
    have hn0 : ¬ n = 0 := by omega
    clear hr hb
    go_enter Try.func17, Try.ntmps17
    go_wp2_with fail
    go_quiet (fail)
    go_wp2_with fail
    go_ret
    exact ⟨_, rfl, ⟨Int.emod_nonneg _ hn0, Int.emod_lt_of_pos _ (by omega)⟩, (by repeat' (first | (with_reducible exact World.grownBy.refl _ _) | (with_reducible assumption) | (with_reducible refine grownBy_drewN ?_ _) | (with_reducible refine grownBy_set ?_ _ _) | (with_reducible refine grownBy_alloc' ?_ _) | (refine grownBy_trans ?_ (by with_reducible assumption)) | (refine grownBy_next ?_ (by with_reducible assumption))))⟩
end Go.Proofs.Ytpanignlpcemnaa
