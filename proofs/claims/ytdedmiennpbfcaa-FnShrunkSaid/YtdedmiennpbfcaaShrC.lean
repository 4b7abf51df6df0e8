/- Shrunk mosaics by the reference: contract of l19Put. -/
import Derived.Test.YtdedmiennpbfcaaShrB
namespace Go.Proofs.Ytdedmiennpbfcaa
open Go.RowKit Go.ChangeShapes Go.WideShapes Go.ChangeAt
set_option linter.unusedVariables false
set_option linter.unusedSimpArgs false
set_option maxHeartbeats 1600000 in
theorem spec_l19Put (p q V G z1 : Int) (n cv cu gv gu base i : Nat) (zs gs : List Int) (w : World) (ov : OwnI w base (.slice (some ⟨gv, 0, none⟩) n cv) zs) (ou : OwnI w base (.slice (some ⟨gu, 0, none⟩) n cu) gs) (hne : gv ≠ gu) (hbase : base ≤ w.heap.size) (hi : i < n) (hn : n ≤ 1600) (hz1 : gs[i]? = some z1) (hG : z1 < G) :
    Calls Try.prog 25 #[.agg #[.int .i64 p, .int .i64 q, .slice (some ⟨gv, 0, none⟩) n cv, .slice (some ⟨gu, 0, none⟩) n cu], .int .i64 i, .int .i64 V, .int .i64 G] w fun e w' => e = .returned (.tuple #[]) ∧ OwnI w' base (.slice (some ⟨gv, 0, none⟩) n cv) (zs.set i V) ∧ OwnI w' base (.slice (some ⟨gu, 0, none⟩) n cu) (gs.set i G) ∧ Below base w w' ∧ w.heap.size ≤ w'.heap.size ∧ (∀ (b o : Nat) (v : Value), w.cell? ⟨b, o, none⟩ = some v → b ≠ gv → b ≠ gu → w'.cell? ⟨b, o, none⟩ = some v) := by
  have hlz := ov.reads.1
  obtain ⟨z0, hz0⟩ := get_of_lt (xs := zs) (k := i) (by omega)
  obtain ⟨g1, e1, b1, c0, f0, _⟩ := ov.cell hz0
  simp only [Option.some.injEq, Addr.mk.injEq, and_true] at e1
  subst e1
  obtain ⟨g2, e2, b2, c1, f1, _⟩ := ou.cell hz1
  simp only [Option.some.injEq, Addr.mk.injEq, and_true] at e2
  subst e2
  have hgv := World.block_lt_of_cell? w ⟨gv, i, none⟩ c0
  have hgu := World.block_lt_of_cell? w ⟨gu, i, none⟩ c1
  have p0 : (0 : Int) ≤ (i : Int) := by omega
  have p1 : (i : Int) < (n : Int) := by omega
  have d1 : decide (z1 < G) = true := decide_eq_true hG
  have hzH := Lib.hid hz0
  have hz1H := Lib.hid hz1
  have hlH := Lib.hid hlz
  clear hz0 hz1 hlz
  go_enter Try.func25, Try.ntmps25
  repeat' (first | fail | go_values | go_skip | go_guarded | go_step | go_upon | (simp only []; go_step) | (go_ite <;> go_prune <;> (try go_simp)))
  all_goals go_returns
  have hw := two_sets (i := i) ov ou hne (by have := hlH.out; omega) (lt_of_get hz1H.out) V G
  have hB : Below base w ((w.setCell ⟨gv, i, none⟩ (.int .i64 V)).setCell ⟨gu, i, none⟩ (.int .i64 G)) := ((Below.refl _ _).setCell b1 _).setCell b2 _
  exact ⟨rfl, hw.1.alloc _, hw.2.alloc _, hB.alloc (by simp only [World.size_setCell]; exact hbase) _, by simp only [World.size_setCell, World.size_alloc]; omega, fun b o v h n1 n2 => bx_alloc (bx_other (by omega) (bx_other (by omega) h))⟩
end Go.Proofs.Ytdedmiennpbfcaa
