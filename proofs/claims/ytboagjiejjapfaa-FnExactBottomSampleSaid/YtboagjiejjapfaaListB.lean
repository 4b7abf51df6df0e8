/- Contracts of the laws' own functions on slices of numbers. -/
import Derived.Test.YtboagjiejjapfaaListA
import Derived.StillTailTactics
import Derived.BigQuiet
import Derived.RegionTactic
import Derived.Deep.RegionHeld3
import Derived.Deep.RegionLaw
namespace Go.Proofs.Ytboagjiejjapfaa
open Go.RowKit
set_option linter.unusedVariables false
set_option linter.unusedSimpArgs false

theorem int_info : (Try.prog.info? 2).map (fun i => (i.zero, i.size, i.bytes)) = some (some (.int .i64 0), 1, 8) := by kernel_rfl

theorem take_set_snoc {α : Type} {zs : List α} {k : Nat} {x : α} (h : k < zs.length) : (zs.set k x).take (k + 1) = zs.take k ++ [x] := by
  rw [List.take_add_one, List.getElem?_set_self h, List.take_set_of_le (Nat.le_refl k)]; rfl

theorem laws_toInt64S (A : Option Addr) (c : Nat) (xs : List Int) (w : World) (hr : I64 w w.heap.size A xs) (hl : xs.length ≤ 1048576) :
    Calls Try.prog 20 #[.slice A xs.length c] w fun e w' => ∃ g, e = .returned (.slice (some ⟨g, 0, none⟩) xs.length xs.length) ∧ w'.ownsRow w.heap.size 2 1 (.slice (some ⟨g, 0, none⟩) xs.length xs.length) xs.length (xs.map (Value.int .i64)) ∧ Below w.heap.size w w' := by
  obtain ⟨i0, hi, hz0, hz1, hz2⟩ := info_parts int_info
  have hr0 := hr
  go_enter Try.func20, Try.ntmps20
  go_wp2_with (at_make; refine wpList_make_full _ rfl _ _ 27 rfl w.heap.size 2 i0 _ 1 Try.underlying27 hi hz0 hz1 .i64 .i64 _ _ xs.length rfl rfl rfl rfl (by rw [hz2]; omega) (by simp only [maxLen]; omega) (Nat.le_refl _) ?_; intro w1 hown hg)
  have hr1 := hr.below (w' := w1) ⟨hg.os, hg.tape, hg.output, hg.size, fun k hk => hg.block k hk (by simp)⟩
  have hb1 : Below w.heap.size w w1 := ⟨hg.os, hg.tape, hg.output, hg.size, fun k hk => hg.block k hk (by simp)⟩
  clear hg hr
  go_loopw [4] (fun i wr => ∃ k : Nat, ∃ zs : List Int, k ≤ xs.length ∧ i = .int .i64 k ∧ zs.length = xs.length ∧ Hid (zs.take k = xs.take k) ∧ wr.ownsRow w.heap.size 2 1 (.slice (some ⟨w.heap.size, 0, none⟩) xs.length xs.length) xs.length (zs.map (Value.int .i64)) ∧ Below w.heap.size w wr) (fun i _ => xs.length - (intOf i).toNat)
  case atStart => exact ⟨0, List.replicate xs.length 0, Nat.zero_le _, rfl, by simp, by simp [Hid], by have h := hown; simp only [show (Value.int .i64 0).cells = #[Value.int .i64 0] from rfl, Nat.mul_one, toList_madeCells_one] at h; simpa using h, hb1⟩
  case round =>
    obtain ⟨k, zs, hk, rfl, hz, ht, ho, hbr⟩ := hrel
    have hz' := Lib.hid hz
    clear hz hr1 hb1 hown
    by_cases hlt : k < xs.length
    · obtain ⟨x, hx⟩ := get_of_lt hlt
      obtain ⟨b, o, rfl, hb, hc⟩ := (hr0.below hbr).at_ hx
      have hx' := Lib.hid hx
      clear hx
      obtain ⟨z, hzk⟩ := get_of_lt (xs := zs) (k := k) (by have := hz'.out; omega)
      have hcell : wr.cell? ⟨w.heap.size, k, none⟩ = some (.int .i64 z) := by rw [ho.cellAt k (by omega), List.getElem?_map, hzk]; rfl
      have hfr := ho.frozenAt k
      have hst := (ho.stored k (.int .i64 x)).1
      rw [← List.map_set] at hst
      have hzk' := Lib.hid hzk
      clear hzk ho
      go_wp2
      go_roundw
      case rel => exact ⟨k + 1, zs.set k x, by omega, by go_num, by simpa using hz'.out, by unfold Hid; rw [take_set_snoc (by have := hz'.out; omega), take_snoc hx'.out, ht.out], hst, by repeat' (first | (with_reducible exact Below.refl _ _) | (with_reducible assumption) | (with_reducible refine Below.new ?_ _) | (with_reducible refine Below.alloc ?_ ?_ _) | (with_reducible refine Below.drew ?_) | (with_reducible refine below_drewN ?_ _) | (with_reducible refine Below.setCell ?_ ?_ _) | (refine Below.next ?_ (by with_reducible assumption)) | (refine Below.after ?_ ?_ (by with_reducible assumption)) | go_size)⟩
      case measure => simp [intOf]; omega
    · go_wp2
      go_ret
      have e : zs = xs := by have := ht.out; rw [take_all (xs := xs) hlt, take_all (xs := zs) (by have := hz'.out; omega)] at this; exact this
      refine ⟨_, rfl, ?_, hbr⟩
      rw [← e]
      rw [← e] at ho
      exact ho
theorem laws_eqInt64S (A B : Option Addr) (c d : Nat) (xs ys : List Int) (w : World) (hr : I64 w w.heap.size A xs) (hs : I64 w w.heap.size B ys) (hl : xs.length ≤ 9223372036854775807) (hm : ys.length ≤ 9223372036854775807) :
    Calls Try.prog 22 #[.slice A xs.length c, .slice B ys.length d] w fun e w' => e = .returned (.bool (decide (xs = ys))) ∧ Below w.heap.size w w' := by
  go_enter Try.func22, Try.ntmps22
  by_cases h : xs.length = ys.length
  · have hb : ((xs.length : Int) != (ys.length : Int)) = false := by simp [h]
    have h' := Lib.hid h
    clear h
    go_wp2
    go_loopw [5] (fun i wr => ∃ k : Nat, k ≤ xs.length ∧ i = .int .i64 k ∧ Hid (xs.take k = ys.take k) ∧ Below w.heap.size w wr) (fun i _ => xs.length - (intOf i).toNat)
    case atStart => exact ⟨0, Nat.zero_le _, rfl, by simp [Hid], Below.refl _ _⟩
    case round =>
      obtain ⟨k, hk, rfl, ht, hbr⟩ := hrel
      by_cases hlt : k < xs.length
      · obtain ⟨x, hx⟩ := get_of_lt hlt
        obtain ⟨y, hy⟩ := get_of_lt (xs := ys) (k := k) (by have := h'.out; omega)
        obtain ⟨b, o, rfl, hb, hc⟩ := (hr.below hbr).at_ hx
        obtain ⟨b2, o2, rfl, hb2, hc2⟩ := (hs.below hbr).at_ hy
        have h1 : (0 : Int) ≤ (k : Int) := by omega
        have h2 : (k : Int) < (xs.length : Int) := by omega
        have h3 : (k : Int) < (ys.length : Int) := by have := h'.out; omega
        have hx' := Lib.hid hx
        have hy' := Lib.hid hy
        clear hx hy hr hs
        by_cases e : x = y
        · have he : (x != y) = false := by simp [e]
          have e' := Lib.hid e
          clear e
          go_wp2_with fail
          go_quiet (fail)
          go_wp2
          go_roundw
          case rel => exact ⟨k + 1, by omega, by go_num, by unfold Hid; rw [take_snoc hx'.out, take_snoc hy'.out, ht.out, e'.out], by repeat' (first | (with_reducible exact Below.refl _ _) | (with_reducible assumption) | (with_reducible refine Below.new ?_ _) | (with_reducible refine Below.alloc ?_ ?_ _) | (with_reducible refine Below.drew ?_) | (with_reducible refine below_drewN ?_ _) | (with_reducible refine Below.setCell ?_ ?_ _) | (refine Below.next ?_ (by with_reducible assumption)) | (refine Below.after ?_ ?_ (by with_reducible assumption)) | go_size)⟩
          case measure => simp [intOf]; omega
        · have he : (x != y) = true := by simpa using e
          go_wp2_with fail
          go_quiet (fail)
          go_wp2
          go_ret
          exact ⟨ret_bool (by simp; intro e2; rw [e2] at hx'; have := hx'.out.symm.trans hy'.out; simp at this; exact e this), by repeat' (first | (with_reducible exact Below.refl _ _) | (with_reducible assumption) | (with_reducible refine Below.new ?_ _) | (with_reducible refine Below.alloc ?_ ?_ _) | (with_reducible refine Below.drew ?_) | (with_reducible refine below_drewN ?_ _) | (with_reducible refine Below.setCell ?_ ?_ _) | (refine Below.next ?_ (by with_reducible assumption)) | (refine Below.after ?_ ?_ (by with_reducible assumption)) | go_size)⟩
      · go_wp2
        go_ret
        exact ⟨ret_bool (by have := ht.out; rw [take_all hlt, take_all (by have := h'.out; omega)] at this; simp [this]), by repeat' (first | (with_reducible exact Below.refl _ _) | (with_reducible assumption) | (with_reducible refine Below.new ?_ _) | (with_reducible refine Below.alloc ?_ ?_ _) | (with_reducible refine Below.drew ?_) | (with_reducible refine below_drewN ?_ _) | (with_reducible refine Below.setCell ?_ ?_ _) | (refine Below.next ?_ (by with_reducible assumption)) | (refine Below.after ?_ ?_ (by with_reducible assumption)) | go_size)⟩
  · have hb : ((xs.length : Int) != (ys.length : Int)) = true := by simp; omega
    go_wp2
    go_ret
    exact ⟨ret_bool (by simp; intro e; exact h (by rw [e])), Below.refl _ _⟩
end Go.Proofs.Ytboagjiejjapfaa
