/- The codes of several scans, by the program: contract. -/
import Derived.Test.YthbljfanoaibkaaGreatDoorCcS
import Derived.Test.YthbljfanoaibkaaGreatDoorTrL
import Derived.Test.YthbljfanoaibkaaGreatDoorCtA
namespace Go.Proofs.YthbljfanoaibkaaGreatDoor
open Go.RowKit Go.ChangeShapes Go.WideShapes Go.ChangeAt
set_option linter.unusedVariables false
set_option linter.unusedSimpArgs false
theorem sc_1 {most : Int} {css : List Cts} (h : cssB css = false) : scCode most css = 1 := by rw [scCode, h]; rfl
theorem sc_3 {most : Int} {css : List Cts} (h : cssB css = true) (h2 : manyB css = true ∨ most < (css.length : Int)) : scCode most css = 3 := by
  rw [scCode, h, if_pos rfl, if_pos]
  rcases h2 with h2 | h2 <;> simp [h2]
theorem sc_0 {most : Int} {css : List Cts} (h : cssB css = true) (h2 : manyB css = false) (h3 : ¬ most < (css.length : Int)) : scCode most css = 0 := by
  rw [scCode, h, if_pos rfl, if_neg]
  simp [h2, h3]
set_option maxHeartbeats 1600000 in
theorem impl_scansCode (A : Option Addr) (c : Nat) (css : List Cts) (most : Int) (w : World) (hr : CC64 w w.heap.size A css) (hl : css.length ≤ 1099511627776) (hm : ∀ (i : Nat) (cs : Cts), css[i]? = some cs → cs.length ≤ 1099511627776) :
    Calls Tryz.prog 23 #[.slice A css.length c, .int .i64 most] w fun e w' => e = .returned (.int .i64 (scCode most css)) ∧ Below w.heap.size w w' := by
  obtain ⟨b0, hb0⟩ : ∃ b0, b0 = decide (most < (css.length : Int)) := ⟨_, rfl⟩
  have hmH := Lib.hid hm
  clear hm
  go_enter Tryz.func23, Tryz.ntmps23
  repeat' (first | fail | go_values | go_skip | go_guarded | go_step | go_upon | (simp only []; go_step) | (go_ite <;> go_prune <;> (try go_simp)))
  rw [← hb0]
  have hbH := Lib.hid hb0
  clear hb0
  go_loopw [5, 14] (fun mv iv wr => ∃ (k : Nat) (b : Bool), k ≤ css.length ∧ iv = .int .i64 k ∧ mv = .bool b ∧ Hid (b = (b0 || manyB (css.take k))) ∧ Hid (cssB (css.take k) = true) ∧ Below w.heap.size w wr) (fun _ iv _ => css.length - (intOf iv).toNat)
  case atStart => exact ⟨0, b0, Nat.zero_le _, rfl, rfl, by simp [Hid, manyB], by simp [Hid, cssB], by exact bgr⟩
  case round =>
    obtain ⟨k, b, hk, rfl, rfl, hbb, hcs, hbr⟩ := hrel
    by_cases hlt : k < css.length
    · obtain ⟨cs, hx⟩ := get_of_lt hlt
      obtain ⟨bq, o, A', c', rfl, hbq, hc, hi⟩ := (hr.up hbr).at_ hx
      have hml := hmH.out k cs hx
      have hxH := Lib.hid hx
      clear hx
      cases h1 : ctsB cs
      · have e : Hid (scCode most css = 1) := by unfold Hid; rw [scCode, cssB_no hxH.out h1]; rfl
        repeat' (first | fail | go_values | go_skip | go_guarded | go_step | go_upon | (simp only []; go_step) | (go_ite <;> go_prune <;> (try go_simp)))
        refine (impl_areValidContacts _ _ _ _ (hi.up (by exact bgr)) hml).mono ?_; rintro e w1 ⟨rfl, hbw1⟩; have hzw1 := hbw1.size; (try simp only [World.size_alloc, World.size_setCell, World.size_drew] at hzw1)
        rw [h1]
        repeat' (first | fail | go_values | go_skip | go_guarded | go_step | go_upon | (simp only []; go_step) | (go_ite <;> go_prune <;> (try go_simp)))
        all_goals go_returns
        all_goals exact ⟨ret_int e.out.symm, by exact bgr⟩
      · have e : Hid (cssB (css.take (k + 1)) = true) := by unfold Hid; rw [cssB_snoc hxH.out, hcs.out, h1]; rfl
        have e2 : Hid ((b0 || manyB (css.take (k + 1))) = (b || decide (6 < cs.length))) := by unfold Hid; rw [manyB_snoc hxH.out, hbb.out, Bool.or_assoc]
        cases b
        · by_cases h6 : (6 : Int) < (cs.length : Int)
          · repeat' (first | fail | go_values | go_skip | go_guarded | go_step | go_upon | (simp only []; go_step) | (go_ite <;> go_prune <;> (try go_simp)))
            refine (impl_areValidContacts _ _ _ _ (hi.up (by exact bgr)) hml).mono ?_; rintro e w1 ⟨rfl, hbw1⟩; have hzw1 := hbw1.size; (try simp only [World.size_alloc, World.size_setCell, World.size_drew] at hzw1)
            rw [h1]
            repeat' (first | fail | go_values | go_skip | go_guarded | go_step | go_upon | (simp only []; go_step) | (go_ite <;> go_prune <;> (try go_simp)))
            all_goals exact ⟨⟨k + 1, true, by omega, by go_num, rfl, by unfold Hid; rw [e2.out, decide_eq_true (by omega)]; rfl, e, by exact bgr⟩, by simp [intOf]; omega⟩
          · repeat' (first | fail | go_values | go_skip | go_guarded | go_step | go_upon | (simp only []; go_step) | (go_ite <;> go_prune <;> (try go_simp)))
            refine (impl_areValidContacts _ _ _ _ (hi.up (by exact bgr)) hml).mono ?_; rintro e w1 ⟨rfl, hbw1⟩; have hzw1 := hbw1.size; (try simp only [World.size_alloc, World.size_setCell, World.size_drew] at hzw1)
            rw [h1]
            repeat' (first | fail | go_values | go_skip | go_guarded | go_step | go_upon | (simp only []; go_step) | (go_ite <;> go_prune <;> (try go_simp)))
            all_goals exact ⟨⟨k + 1, false, by omega, by go_num, rfl, by unfold Hid; rw [e2.out, decide_eq_false (by omega)]; rfl, e, by exact bgr⟩, by simp [intOf]; omega⟩
        · repeat' (first | fail | go_values | go_skip | go_guarded | go_step | go_upon | (simp only []; go_step) | (go_ite <;> go_prune <;> (try go_simp)))
          refine (impl_areValidContacts _ _ _ _ (hi.up (by exact bgr)) hml).mono ?_; rintro e w1 ⟨rfl, hbw1⟩; have hzw1 := hbw1.size; (try simp only [World.size_alloc, World.size_setCell, World.size_drew] at hzw1)
          rw [h1]
          repeat' (first | fail | go_values | go_skip | go_guarded | go_step | go_upon | (simp only []; go_step) | (go_ite <;> go_prune <;> (try go_simp)))
          all_goals exact ⟨⟨k + 1, true, by omega, by go_num, rfl, by unfold Hid; rw [e2.out]; rfl, e, by exact bgr⟩, by simp [intOf]; omega⟩
    · have et : css.take k = css := List.take_of_length_le (by omega)
      have e : Hid (scCode most css = if b then 3 else 0) := by
        unfold Hid
        have h1 := hcs.out
        have h2 := hbb.out
        rw [et] at h1 h2
        rw [scCode, h1, h2, hbH.out, Bool.or_comm]; rfl
      cases b
      · repeat' (first | fail | go_values | go_skip | go_guarded | go_step | go_upon | (simp only []; go_step) | (go_ite <;> go_prune <;> (try go_simp)))
        all_goals go_returns
        all_goals exact ⟨ret_int (by rw [e.out]; rfl), by exact bgr⟩
      · repeat' (first | fail | go_values | go_skip | go_guarded | go_step | go_upon | (simp only []; go_step) | (go_ite <;> go_prune <;> (try go_simp)))
        all_goals go_returns
        all_goals exact ⟨ret_int (by rw [e.out]; rfl), by exact bgr⟩
end Go.Proofs.YthbljfanoaibkaaGreatDoor
