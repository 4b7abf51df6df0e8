/- Mosaics that the call itself made: marked, held. -/
import Derived.Test.YtgokiedhdihamaaDoorLawKit
import Derived.Test.YtgokiedhdihamaaDoorMosB
import Derived.Deep.RegionHeld3
namespace Go.Proofs.YtgokiedhdihamaaDoor
open Go.RowKit Go.ChangeShapes Go.WideShapes Go.ChangeAt
set_option linter.unusedVariables false
set_option linter.unusedSimpArgs false
def Apart2 (v u : Value) : Prop := v.ownBlock = none ∨ v.ownBlock ≠ u.ownBlock
theorem within_of_grown {lo hi : Nat} {w w' : World} {v : Value} {xs : List Int} (ho : OwnR w lo hi v xs) (hg : w.grownBy w' v.ownBlock) : Within lo hi w w' :=
  ⟨hg.os, hg.tape, hg.output, hg.size, fun i hi' hn => hg.block i hi' (fun e => by
    have h3 := ho.1.lt i e.symm
    have h4 := ho.2 i e.symm
    omega)⟩
set_option maxHeartbeats 800000 in
theorem laws_markMosaic (p q : Int) (A B : Option Addr) (n c m d lo hi : Nat) (xs ys : List Int) (k : Int) (w : World) (ho : OwnR w lo hi (.slice A n c) xs) (ho2 : OwnR w lo hi (.slice B m d) ys) (hd : Apart2 (.slice A n c) (.slice B m d)) (hh : hi ≤ w.heap.size) (hl : xs.length ≤ 1048576) (hm : ys.length ≤ 1048576) (hk0 : 0 ≤ k) (hk1 : k ≤ 1048576) :
    Calls Tryd.prog 8 #[.agg #[.int .i64 p, .int .i64 q, .slice A n c, .slice B m d], .int .i64 k] w fun e w' => e = .returned (.int .i64 (k + (xs.length : Int) + (ys.length : Int))) ∧ OwnR w' lo hi (.slice A n c) (marks k xs.length) ∧ OwnR w' lo hi (.slice B m d) (marks (k + (xs.length : Int)) ys.length) ∧ Within lo hi w w' := by
  obtain ⟨hn, _⟩ := ho.1.reads
  obtain ⟨hn2, _⟩ := ho2.1.reads
  have hnH := Lib.hid hn
  have hn2H := Lib.hid hn2
  have hdH := Lib.hid hd
  clear hn hn2 hd
  go_enter Tryd.func8, Tryd.ntmps8
  repeat' (first | fail | go_values | go_skip | go_guarded | go_step | go_upon | (simp only []; go_step) | (go_ite <;> go_prune <;> (try go_simp)))
  have hBox : Below (w.heap.size) w (w.alloc (.cells #[.int .i64 p, .int .i64 q, .slice A n c, .slice B m d] 24)) := by exact bgr
  have oa := ho.next hBox
  have ob := ho2.next hBox
  refine (laws_markInt64S A n c lo xs k _ oa.1 (by omega) hk0 (by omega)).mono ?_
  rintro e w1 ⟨rfl, o1, hg1⟩
  have hw1 := within_of_grown oa hg1
  have o2 := ob.1.kept hg1 (by
    rcases hdH.out with h | h
    · rw [h]; cases (Value.slice B m d).ownBlock <;> simp
    · exact .inr h.symm)
  have hz1 := hw1.size
  have q0 : w1.cell? ⟨w.heap.size, 2, none⟩ = some (.slice A n c) := by rw [World.cell?_of_block (a := ⟨w.heap.size, 2, none⟩) (hw1.block w.heap.size (by simp) (by omega))]; exact bxc
  have q1 : w1.cell? ⟨w.heap.size, 3, none⟩ = some (.slice B m d) := by rw [World.cell?_of_block (a := ⟨w.heap.size, 3, none⟩) (hw1.block w.heap.size (by simp) (by omega))]; exact bxc
  have hk2 : (0 : Int) ≤ k + (xs.length : Int) := by omega
  repeat' (first | fail | go_values | go_skip | go_guarded | go_step | go_upon | (simp only []; go_step) | (go_ite <;> go_prune <;> (try go_simp)))
  refine (laws_markInt64S B m d lo ys _ w1 o2 (by omega) hk2 (by omega)).mono ?_
  rintro e w2 ⟨rfl, o3, hg2⟩
  have ob2 : OwnR w1 lo hi (.slice B m d) ys := ⟨o2, ho2.2⟩
  have hw2 := within_of_grown ob2 hg2
  have o4 := o1.kept hg2 hdH.out
  repeat' (first | fail | go_values | go_skip | go_guarded | go_step | go_upon | (simp only []; go_step) | (go_ite <;> go_prune <;> (try go_simp)))
  all_goals go_returns
  exact ⟨rfl, ⟨o4, ho.2⟩, ⟨o3, ho2.2⟩, ((Within.of_below hBox).trans hw1).trans hw2⟩
set_option maxHeartbeats 800000 in
theorem laws_heldMosaic (p q : Int) (A B : Option Addr) (n c m d : Nat) (k : Int) (w : World) (hr : I64 w w.heap.size A (marks k n)) (hs : I64 w w.heap.size B (marks (k + (n : Int)) m)) (hl : n ≤ 1048576) (hm : m ≤ 1048576) (hk0 : 0 ≤ k) (hk1 : k ≤ 1048576) :
    Calls Tryd.prog 9 #[.agg #[.int .i64 p, .int .i64 q, .slice A n c, .slice B m d], .int .i64 k] w fun e w' => e = .returned (.int .i64 (k + (n : Int) + (m : Int))) ∧ Below w.heap.size w w' := by
  have hk2 : (0 : Int) ≤ k + (n : Int) := by omega
  have hk3 : (0 : Int) ≤ k + (n : Int) + (m : Int) := by omega
  have hk4 : ¬ k + (n : Int) < 0 := by omega
  have hk5 : ¬ k + (n : Int) + (m : Int) < 0 := by omega
  go_enter Tryd.func9, Tryd.ntmps9
  repeat' (first | fail | go_values | go_skip | go_guarded | go_step | go_upon | (simp only []; go_step) | (go_ite <;> go_prune <;> (try go_simp)))
  refine (laws_heldInt64S _ _ _ _ _ (hr.up (by exact bgr)) (by omega) (by omega) (by omega)).mono ?_
  rintro e w' ⟨rfl, rfl⟩
  repeat' (first | fail | go_values | go_skip | go_guarded | go_step | go_upon | (simp only []; go_step) | (go_ite <;> go_prune <;> (try go_simp)))
  refine (laws_heldInt64S _ _ _ _ _ (hs.up (by exact bgr)) (by omega) (by omega) (by omega)).mono ?_
  rintro e w' ⟨rfl, rfl⟩
  repeat' (first | fail | go_values | go_skip | go_guarded | go_step | go_upon | (simp only []; go_step) | (go_ite <;> go_prune <;> (try go_simp)))
  all_goals go_returns
  exact ⟨rfl, by exact bgr⟩
end Go.Proofs.YtgokiedhdihamaaDoor
