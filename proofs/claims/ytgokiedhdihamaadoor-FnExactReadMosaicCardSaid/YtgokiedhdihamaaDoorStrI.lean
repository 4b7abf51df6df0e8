/- Numbers in decimal and joined by commas, the program's way: contracts over the library's. -/
import Derived.Test.YtgokiedhdihamaaDoorStrB
import Derived.Test.YtgokiedhdihamaaDoorStrO
import Derived.Test.YtgokiedhdihamaaDoorShelf
import Derived.Lib.AppendIntMem
namespace Go.Proofs.YtgokiedhdihamaaDoor
open Go.RowKit Go.ChangeShapes Go.WideShapes Go.ChangeAt
set_option linter.unusedVariables false
set_option linter.unusedSimpArgs false
/-- the library's table of powers of ten lies as its initialiser lays it -/
def Pow (w : World) : Prop := Lib.TabIs Tryd.prog w "internal/strconv.uint64pow10" .u64 Lib.pow10Tab
theorem Pow.up {w w' : World} (h : Pow w) (hb : Below w.heap.size w w') : Pow w' := Lib.tabBelow_of_tabIs h w' hb
set_option maxRecDepth 100000 in
theorem impl_decimal (n : Int) (w : World) (h0 : -9223372036854775808 ≤ n) (h1 : n ≤ 9223372036854775807) (ht : Pow w) : Calls Tryd.prog 38 #[.int .i64 n] w fun e w' => e = .returned (.string (mkT (Lib.itoa n))) ∧ Below w.heap.size w w' := by
  have hf := fun w (h : Pow w) => Tryd.strconv_FormatInt_10 n h0 h1 w h
  have hfH := Lib.hid hf
  have htH := Lib.hid ht
  clear hf ht
  go_enter Tryd.func38, Tryd.ntmps38
  go_wp2_with (go_at_call 49; ((with_reducible refine (hfH.out _ htH.out).mono ?_); rintro e w1 ⟨rfl, k, os, rfl⟩))
  go_ret
  exact ⟨rfl, Lib.below_grow _ _ (Nat.le_refl _) _ _⟩
theorem map_mkT (ls : List (List UInt8)) : (ls.map mkT).map (·.data.toList) = ls := by
  rw [List.map_map]
  conv => rhs; rw [← List.map_id ls]
  exact List.map_congr_left fun l _ => by simp [mkT]
/-- strings.Join at texts of the call's own -/
theorem join_own (A : Option Addr) (c base : Nat) (ls : List (List UInt8)) (sep : List UInt8) (w : World) (ho : OwnX w base (.slice A ls.length c) ls) (hl : ls.length ≤ 1048576) (hj : (Lib.join ls sep).length ≤ 140737488355328) :
    Calls Tryd.prog 28 #[.slice A ls.length c, .string (mkT sep)] w fun e w' => e = .returned (.string (mkT (Lib.join ls sep))) ∧ Below w.heap.size w w' := by
  have hc := ho.cap
  cases ls with
  | nil =>
    refine (Tryd.strings_Join_none A c (mkT sep) w).mono fun e w' h => ?_
    obtain ⟨rfl, rfl⟩ := h
    exact ⟨rfl, Below.refl _ _⟩
  | cons l r =>
    obtain ⟨g, rfl, hb, hlt, _⟩ := ho.cell (k := 0) (x := l) rfl
    have h := Tryd.strings_Join g 0 c ((l :: r).map mkT) (mkT sep) w (fun j x hx => by
      rw [List.getElem?_map] at hx
      obtain ⟨y, hy, rfl⟩ := Option.map_eq_some_iff.1 hx
      obtain ⟨g', hg, _, _, h2, _⟩ := ho.cell hy
      obtain rfl : g = g' := by simpa using hg
      rw [Nat.zero_add]; exact h2) hlt (by simp at hl ⊢; omega) (by simpa using hc) (by rw [map_mkT]; simpa [mkT] using hj)
    rw [map_mkT] at h
    simp only [List.length_map] at h
    exact h
end Go.Proofs.YtgokiedhdihamaaDoor
