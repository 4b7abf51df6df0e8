/- Numbers in decimal and joined by commas, the program's way: contracts over the library's. -/
import Derived.Test.YthbljfanoaibkaaDoorStrB
import Derived.Test.YthbljfanoaibkaaDoorStrO
import Derived.Test.YthbljfanoaibkaaDoorShelf
import Derived.Lib.AppendIntMem
namespace Go.Proofs.YthbljfanoaibkaaDoor
open Go.RowKit Go.ChangeShapes Go.WideShapes Go.ChangeAt
set_option linter.unusedVariables false
set_option linter.unusedSimpArgs false
/-- the library's table of powers of ten lies as its initialiser lays it -/
def Pow (w : World) : Prop := Lib.TabIs Tryd.prog w "internal/strconv.uint64pow10" .u64 Lib.pow10Tab
theorem Pow.up {w w' : World} (h : Pow w) (hb : Below w.heap.size w w') : Pow w' := Lib.tabBelow_of_tabIs h w' hb
set_option maxRecDepth 100000 in
theorem impl_decimal (n : Int) (w : World) (h0 : -9223372036854775808 ≤ n) (h1 : n ≤ 9223372036854775807) (ht : Pow w) : Calls Tryd.prog 24 #[.int .i64 n] w fun e w' => e = .returned (.string (mkT (Lib.itoa n))) ∧ Below w.heap.size w w' := by
  have hf := fun w (h : Pow w) => Tryd.strconv_FormatInt_10 n h0 h1 w h
  have hfH := Lib.hid hf
  have htH := Lib.hid ht
  clear hf ht
  go_enter Tryd.func24, Tryd.ntmps24
  go_wp2_with (go_at_call 34; ((with_reducible refine (hfH.out _ htH.out).mono ?_); rintro e w1 ⟨rfl, k, os, rfl⟩))
  go_ret
  exact ⟨rfl, Lib.below_grow _ _ (Nat.le_refl _) _ _⟩
theorem map_mkT (ls : List (List UInt8)) : (ls.map mkT).map (·.data.toList) = ls := by
  rw [List.map_map]
  conv => rhs; rw [← List.map_id ls]
  exact List.map_congr_left fun l _ => by simp [mkT]
/-- strings.Join at texts of the call's own -/
theorem join_own (A : Option Addr) (c base : Nat) (ls : List (List UInt8)) (sep : List UInt8) (w : World) (ho : OwnX w base (.slice A ls.length c) ls) (hl : ls.length ≤ 1048576) (hj : (Lib.join ls sep).length ≤ 140737488355328) :
    Calls Tryd.prog 38 #[.slice A ls.length c, .string (mkT sep)] w fun e w' => e = .returned (.string (mkT (Lib.join ls sep))) ∧ Below w.heap.size w w' := by
  have hc := ho.cap
  cases ls with
  | nil =>
    refine (Tryd.strings_Join_none A c (mkT sep) w).mono fun e w' h => ?_
    obtain ⟨rfl, rfl⟩ := h
    exact ⟨rfl, Below.refl _ _⟩
  | cons l r =>
    obtain ⟨g, rfl, hb, hlt, _⟩ := ho.cell (k := 0) (x := l) rfl
    have h := Tryd.strings_Join g 0 c ((l :: r).map mkT) (mkT sep) w (fun j x hx => by
      rw [List.getElem?_map] at hx
      obtain ⟨y, hy, rfl⟩ := Option.map_eq_some_iff.1 hx
      obtain ⟨g', hg, _, _, h2, _⟩ := ho.cell hy
      obtain rfl : g = g' := by simpa using hg
      rw [Nat.zero_add]; exact h2) hlt (by simp at hl ⊢; omega) (by simpa using hc) (by rw [map_mkT]; simpa [mkT] using hj)
    rw [map_mkT] at h
    simp only [List.length_map] at h
    exact h
set_option maxRecDepth 100000 in
set_option maxHeartbeats 1600000 in
theorem impl_join (A : Option Addr) (c : Nat) (xs : List Int) (w : World) (hr : I64 w w.heap.size A xs) (hl : xs.length ≤ 1048576) (hb : ∀ x ∈ xs, -9223372036854775808 ≤ x ∧ x ≤ 9223372036854775807) (ht : Pow w) :
    Calls Tryd.prog 31 #[.slice A xs.length c, .string ⟨#[44]⟩] w fun e w' => e = .returned (.string (mkT (jnk xs xs.length))) ∧ Below w.heap.size w w' := by
  have hlen := jnk_len hb xs.length (Nat.le_refl _)
  have hlenH := Lib.hid hlen
  have hbH := Lib.hid hb
  have htH := Lib.hid ht
  clear hlen hb ht
  obtain ⟨w0, hrun, how, hb0, hz0⟩ := make_str_run w xs.length hl
  go_enter Tryd.func31, Tryd.ntmps31
  go_wp2
  go_loopw [13] (fun i wr => ∃ (k : Nat) (zs : List (List UInt8)), k ≤ xs.length ∧ i = .int .i64 k ∧ Hid (zs.length = xs.length) ∧ Hid (zs.take k = (xs.take k).map Lib.itoa) ∧ OwnX wr w.heap.size (.slice (some ⟨w.heap.size, 0, none⟩) xs.length xs.length) zs ∧ Below w.heap.size w wr) (fun i _ => xs.length - (intOf i).toNat)
  case atStart => exact ⟨0, List.replicate xs.length [], Nat.zero_le _, rfl, by simp [Hid], by simp [Hid], how, hb0⟩
  case round =>
    clear hrun how hb0 hz0
    obtain ⟨k, zs, hk, rfl, hz, hzt, ho, hbr⟩ := hrel
    by_cases hlt : k < xs.length
    · obtain ⟨x, hx⟩ := get_of_lt hlt
      obtain ⟨b, o, rfl, hbB, hc⟩ := I64.at_ (hr.up hbr) hx
      have p0 : (0 : Int) ≤ (k : Int) := by omega
      have p1 : (k : Int) < (xs.length : Int) := by omega
      have hxb := hbH.out x (List.mem_of_getElem? hx)
      obtain ⟨z, hzk⟩ := get_of_lt (xs := zs) (k := k) (by have := hz.out; omega)
      have hs := fun w h => impl_decimal x w hxb.1 hxb.2 h
      have hsH := Lib.hid hs
      have hxH := Lib.hid hx
      have hzkH := Lib.hid hzk
      clear hs hx hzk
      go_wp2_with (go_at_call 24; ((with_reducible refine (hsH.out _ (htH.out.up hbr)).mono ?_); rintro e w1 ⟨rfl, hb1⟩; have ho1 := ho.below hb1; obtain ⟨g1, hg1, z1, z2, c1, f1, st⟩ := ho1.cell hzkH.out; obtain rfl : g1 = w.heap.size := (by simpa using hg1.symm); have stH := Lib.hid (st (Lib.itoa x)); clear st hg1))
      go_roundw
      case rel => exact ⟨k + 1, zs.set k (Lib.itoa x), by omega, by go_num, by unfold Hid; rw [List.length_set]; exact hz.out, by unfold Hid; rw [take_set_snoc (by have := hz.out; omega), take_snoc hxH.out, List.map_append, hzt.out]; rfl, stH.out.1, by exact bgr⟩
      case measure => simp [intOf]; omega
    · have e : zs = xs.map Lib.itoa := by have := hzt.out; rw [take_all (xs := xs) hlt, take_all (xs := zs) (by have := hz.out; omega)] at this; exact this
      have hlz := hz.out
      have ej : jnk xs xs.length = Lib.join zs [44] := by rw [jnk, List.take_length, e]
      have hj := join_own (some ⟨w.heap.size, 0, none⟩) xs.length w.heap.size zs [44] wr (by rw [hlz]; exact ho) (by omega) (by rw [← ej]; have := hlenH.out; omega)
      rw [hlz, ← ej] at hj
      have hjH := Lib.hid hj
      clear hj ej e hlz hz hzt
      go_wp2_with (go_at_call 38; refine hjH.out.mono ?_; rintro e w1 ⟨rfl, hb1⟩)
      go_ret
      exact ⟨rfl, by exact bgr⟩
end Go.Proofs.YthbljfanoaibkaaDoor
