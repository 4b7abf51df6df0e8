/- Lists of motions in the laws: sized, copied, compared, marked. -/
import Derived.Test.YthbljfanoaibkaaGreatDoorMoS
import Derived.Test.YthbljfanoaibkaaGreatDoorTrFirst
import Derived.Test.YthbljfanoaibkaaGreatDoorOwnS
import Derived.Test.YthbljfanoaibkaaGreatDoorMKit
namespace Go.Proofs.YthbljfanoaibkaaGreatDoor
open Go.RowKit Go.ChangeShapes Go.WideShapes Go.ChangeAt
set_option linter.unusedVariables false
set_option linter.unusedSimpArgs false
theorem motion_info : (Tryz.prog.info? 38).map (fun i => (i.zero, i.size, i.bytes)) = some (some (.agg #[.int .i64 0, .int .i64 0, .int .i64 0, .int .i64 0, .int .i64 0]), 5, 40) := by kernel_rfl
/-- a slice of motions that the call made in the blocks lo .. hi - 1 -/
abbrev OwnM (w : World) (lo hi : Nat) (v : Value) (ms : List Mo) : Prop := OwnS mol 38 5 w lo hi v ms
theorem OwnS.rdM {w : World} {lo hi n c : Nat} {A : Option Addr} {ms : List Mo} (h : OwnM w lo hi (.slice A n c) ms) : M64 w w.heap.size A ms := h.rd
theorem OwnS.cellM {w : World} {lo hi n c i : Nat} {A : Option Addr} {ms : List Mo} {x y p q s : Int} (h : OwnM w lo hi (.slice A n c) ms) (hx : ms[i]? = some ⟨x, y, p, q, s⟩) :
    ∃ g, A = some ⟨g, 0, none⟩ ∧ lo ≤ g ∧ g < hi ∧ g < w.heap.size ∧ w.cell? ⟨g, i * 5, none⟩ = some (.int .i64 x) ∧ w.cell? ⟨g, i * 5 + 1, none⟩ = some (.int .i64 y) ∧ w.cell? ⟨g, i * 5 + 2, none⟩ = some (.int .i64 p) ∧ w.cell? ⟨g, i * 5 + 3, none⟩ = some (.int .i64 q) ∧ w.cell? ⟨g, i * 5 + 4, none⟩ = some (.int .i64 s) ∧ (∀ o, w.frozen? ⟨g, o, none⟩ = false) ∧
    ∀ a b d e f : Int, OwnM (((((w.setCell ⟨g, i * 5, none⟩ (.int .i64 a)).setCell ⟨g, i * 5 + 1, none⟩ (.int .i64 b)).setCell ⟨g, i * 5 + 2, none⟩ (.int .i64 d)).setCell ⟨g, i * 5 + 3, none⟩ (.int .i64 e)).setCell ⟨g, i * 5 + 4, none⟩ (.int .i64 f)) lo hi (.slice (some ⟨g, 0, none⟩) n c) (ms.set i ⟨a, b, d, e, f⟩) ∧
      w.grownBy (((((w.setCell ⟨g, i * 5, none⟩ (.int .i64 a)).setCell ⟨g, i * 5 + 1, none⟩ (.int .i64 b)).setCell ⟨g, i * 5 + 2, none⟩ (.int .i64 d)).setCell ⟨g, i * 5 + 3, none⟩ (.int .i64 e)).setCell ⟨g, i * 5 + 4, none⟩ (.int .i64 f)) (some g) := by
  obtain ⟨g, h1, h2, h3, h4, h5, h6, h7⟩ := h.cell mol_len (by omega) hx
  exact ⟨g, h1, h2, h3, h4, h5 0 x rfl, h5 1 y rfl, h5 2 p rfl, h5 3 q rfl, h5 4 s rfl, h6, fun a b d e f => h7 ⟨a, b, d, e, f⟩⟩
end Go.Proofs.YthbljfanoaibkaaGreatDoor
