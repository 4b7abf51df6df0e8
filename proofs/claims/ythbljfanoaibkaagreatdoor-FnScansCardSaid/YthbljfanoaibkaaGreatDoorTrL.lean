/- Lists of trails in the laws: words, sized, copied, compared, marked. -/
import Derived.Test.YthbljfanoaibkaaGreatDoorTrFirst
import Derived.Test.YthbljfanoaibkaaGreatDoorRtA
import Derived.Test.YthbljfanoaibkaaGreatDoorOwnS
import Derived.Test.YthbljfanoaibkaaGreatDoorMKit
namespace Go.Proofs.YthbljfanoaibkaaGreatDoor
open Go.RowKit Go.ChangeShapes Go.WideShapes Go.ChangeAt
set_option linter.unusedVariables false
set_option linter.unusedSimpArgs false
/-- a slice of trails -/
def T64 (w : World) (B : Nat) (A : Option Addr) (ts : List Tr) : Prop := S64 trl w B A ts
section
variable {w w' : World} {B B' : Nat} {A : Option Addr} {ts : List Tr}
theorem T64.below (h : T64 w B A ts) (hb : Below B w w') : T64 w' B A ts := S64.below h hb
theorem T64.more (h : T64 w B A ts) (hB : B ≤ B') : T64 w B' A ts := S64.more h hB
theorem T64.up (h : T64 w w.heap.size A ts) (hb : Below w.heap.size w w') : T64 w' w'.heap.size A ts := S64.up h hb
theorem T64.nil : T64 w B A [] := S64.nil
theorem T64.at_ {i : Nat} {x y p q s t u r : Int} (h : T64 w B A ts) (hx : ts[i]? = some ⟨x, y, p, q, s, t, u, r⟩) : ∃ b o, A = some ⟨b, o, none⟩ ∧ b < B ∧ w.cell? ⟨b, o + i * 8, none⟩ = some (.int .i64 x) ∧ w.cell? ⟨b, o + i * 8 + 1, none⟩ = some (.int .i64 y) ∧ w.cell? ⟨b, o + i * 8 + 2, none⟩ = some (.int .i64 p) ∧ w.cell? ⟨b, o + i * 8 + 3, none⟩ = some (.int .i64 q) ∧ w.cell? ⟨b, o + i * 8 + 4, none⟩ = some (.int .i64 s) ∧ w.cell? ⟨b, o + i * 8 + 5, none⟩ = some (.int .i64 t) ∧ w.cell? ⟨b, o + i * 8 + 6, none⟩ = some (.int .i64 u) ∧ w.cell? ⟨b, o + i * 8 + 7, none⟩ = some (.int .i64 r) := by
  obtain ⟨b, o, h1, h2, h3⟩ := S64.at_ trl_len (by omega) h hx
  exact ⟨b, o, h1, h2, h3 0 x rfl, h3 1 y rfl, h3 2 p rfl, h3 3 q rfl, h3 4 s rfl, h3 5 t rfl, h3 6 u rfl, h3 7 r rfl⟩
end
theorem trail_info : (Tryz.prog.info? 40).map (fun i => (i.zero, i.size, i.bytes)) = some (some (.agg #[.int .i64 0, .int .i64 0, .int .i64 0, .int .i64 0, .int .i64 0, .int .i64 0, .int .i64 0, .int .i64 0]), 8, 64) := by kernel_rfl
/-- a slice of trails that the call made in the blocks lo .. hi - 1 -/
abbrev OwnT (w : World) (lo hi : Nat) (v : Value) (ts : List Tr) : Prop := OwnS trl 40 8 w lo hi v ts
theorem OwnS.rdT {w : World} {lo hi n c : Nat} {A : Option Addr} {ts : List Tr} (h : OwnT w lo hi (.slice A n c) ts) : T64 w w.heap.size A ts := h.rd
theorem OwnS.cellT {w : World} {lo hi n c i : Nat} {A : Option Addr} {ts : List Tr} {x y p q s t u r : Int} (h : OwnT w lo hi (.slice A n c) ts) (hx : ts[i]? = some ⟨x, y, p, q, s, t, u, r⟩) :
    ∃ g, A = some ⟨g, 0, none⟩ ∧ lo ≤ g ∧ g < hi ∧ g < w.heap.size ∧ w.cell? ⟨g, i * 8, none⟩ = some (.int .i64 x) ∧ w.cell? ⟨g, i * 8 + 1, none⟩ = some (.int .i64 y) ∧ w.cell? ⟨g, i * 8 + 2, none⟩ = some (.int .i64 p) ∧ w.cell? ⟨g, i * 8 + 3, none⟩ = some (.int .i64 q) ∧ w.cell? ⟨g, i * 8 + 4, none⟩ = some (.int .i64 s) ∧ w.cell? ⟨g, i * 8 + 5, none⟩ = some (.int .i64 t) ∧ w.cell? ⟨g, i * 8 + 6, none⟩ = some (.int .i64 u) ∧ w.cell? ⟨g, i * 8 + 7, none⟩ = some (.int .i64 r) ∧ (∀ o, w.frozen? ⟨g, o, none⟩ = false) ∧
    ∀ a0 a1 a2 a3 a4 a5 a6 a7 : Int, OwnT (((((((((w.setCell ⟨g, i * 8, none⟩ (.int .i64 a0)).setCell ⟨g, i * 8 + 1, none⟩ (.int .i64 a1)).setCell ⟨g, i * 8 + 2, none⟩ (.int .i64 a2)).setCell ⟨g, i * 8 + 3, none⟩ (.int .i64 a3)).setCell ⟨g, i * 8 + 4, none⟩ (.int .i64 a4)).setCell ⟨g, i * 8 + 5, none⟩ (.int .i64 a5)).setCell ⟨g, i * 8 + 6, none⟩ (.int .i64 a6)).setCell ⟨g, i * 8 + 7, none⟩ (.int .i64 a7))) lo hi (.slice (some ⟨g, 0, none⟩) n c) (ts.set i ⟨a0, a1, a2, a3, a4, a5, a6, a7⟩) ∧
      w.grownBy (((((((((w.setCell ⟨g, i * 8, none⟩ (.int .i64 a0)).setCell ⟨g, i * 8 + 1, none⟩ (.int .i64 a1)).setCell ⟨g, i * 8 + 2, none⟩ (.int .i64 a2)).setCell ⟨g, i * 8 + 3, none⟩ (.int .i64 a3)).setCell ⟨g, i * 8 + 4, none⟩ (.int .i64 a4)).setCell ⟨g, i * 8 + 5, none⟩ (.int .i64 a5)).setCell ⟨g, i * 8 + 6, none⟩ (.int .i64 a6)).setCell ⟨g, i * 8 + 7, none⟩ (.int .i64 a7))) (some g) := by
  obtain ⟨g, h1, h2, h3, h4, h5, h6, h7⟩ := h.cell trl_len (by omega) hx
  exact ⟨g, h1, h2, h3, h4, h5 0 x rfl, h5 1 y rfl, h5 2 p rfl, h5 3 q rfl, h5 4 s rfl, h5 5 t rfl, h5 6 u rfl, h5 7 r rfl, h6, fun a0 a1 a2 a3 a4 a5 a6 a7 => h7 ⟨a0, a1, a2, a3, a4, a5, a6, a7⟩⟩
/-- the numbers that a marked trail holds -/
def mt (z : Int) : Tr := ⟨z, z + 1, z + 1 + 1, z + 1 + 1 + 1, z + 1 + 1 + 1 + 1, z + 1 + 1 + 1 + 1 + 1, z + 1 + 1 + 1 + 1 + 1 + 1, z + 1 + 1 + 1 + 1 + 1 + 1 + 1⟩
def mtr (k : Int) (n : Nat) : List Tr := (List.range n).map fun (i : Nat) => mt (k + 8 * (i : Int))
theorem mtr_len (k : Int) (n : Nat) : (mtr k n).length = n := by simp [mtr]
theorem mtr_get {k : Int} {n i : Nat} (h : i < n) : (mtr k n)[i]? = some (mt (k + 8 * (i : Int))) := by simp [mtr, h]
end Go.Proofs.YthbljfanoaibkaaGreatDoor
