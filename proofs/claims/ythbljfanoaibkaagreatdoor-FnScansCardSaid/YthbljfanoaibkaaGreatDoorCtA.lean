/- Lists of contacts: contracts. -/
import Derived.Test.YthbljfanoaibkaaGreatDoorSSLaw
namespace Go.Proofs.YthbljfanoaibkaaGreatDoor
open Go.RowKit Go.ChangeShapes Go.WideShapes Go.ChangeAt
set_option linter.unusedVariables false
set_option linter.unusedSimpArgs false
def ctsB (cs : List (Int × Int)) : Bool := cs.all fun c => coB c.1 c.2
/-- the code of a list of contacts -/
def ctCode (cs : List (Int × Int)) : Int := if ctsB cs then (if cs.length ≤ 6 then 0 else 3) else 1
theorem ctsB_snoc {cs : List (Int × Int)} {k : Nat} {x y : Int} (h : cs[k]? = some (x, y)) : ctsB (cs.take (k + 1)) = (ctsB (cs.take k) && coB x y) := by
  rw [take_snoc h, ctsB, List.all_append]; simp [ctsB]
theorem ctsB_no {cs : List (Int × Int)} {k : Nat} {x y : Int} (h : cs[k]? = some (x, y)) (hx : coB x y = false) : ctsB cs = false := by
  rw [ctsB, List.all_eq_false]
  exact ⟨(x, y), List.mem_of_getElem? h, by simp [hx]⟩
theorem ctsB_of {cs : List (Int × Int)} {k : Nat} {x y : Int} (h : ctsB cs = true) (hk : cs[k]? = some (x, y)) : coB x y = true :=
  List.all_eq_true.1 h (x, y) (List.mem_of_getElem? hk)
set_option maxHeartbeats 800000 in
theorem spec_l14Contacts (A : Option Addr) (c : Nat) (cs : List (Int × Int)) (w : World) (hr : C64 w w.heap.size A cs) (hl : cs.length ≤ 1099511627776) :
    Calls Tryz.prog 25 #[.slice A cs.length c] w fun e w' => e = .returned (.int .i64 (ctCode cs)) ∧ Below w.heap.size w w' := by
  go_enter Tryz.func25, Tryz.ntmps25
  repeat' (first | fail | go_values | go_skip | go_guarded | go_step | go_upon | (simp only []; go_step) | (go_ite <;> go_prune <;> (try go_simp)))
  go_loopw [3] (fun i wr => ∃ k : Nat, k ≤ cs.length ∧ i = .int .i64 k ∧ Hid (ctsB (cs.take k) = true) ∧ Below w.heap.size w wr) (fun i _ => cs.length - (intOf i).toNat)
  case atStart => exact ⟨0, Nat.zero_le _, rfl, by simp [ctsB, Hid], by exact bgr⟩
  case round =>
    obtain ⟨k, hk, rfl, ha, hbr⟩ := hrel
    by_cases hlt : k < cs.length
    · obtain ⟨⟨x, y⟩, hx⟩ := get_of_lt hlt
      obtain ⟨b, o, rfl, hb, hc0, hc1⟩ := (hr.up hbr).at_ hx
      have hx' := Lib.hid hx
      clear hx
      cases h1 : coB x y
      · repeat' (first | fail | go_values | go_skip | go_guarded | go_step | go_upon | (simp only []; go_step) | (go_ite <;> go_prune <;> (try go_simp)))
        refine (spec_l14Contact _ _ _).mono ?_; rintro e w1 ⟨rfl, hbw1⟩; have hzw1 := hbw1.size; (try simp only [World.size_alloc, World.size_setCell, World.size_drew] at hzw1)
        rw [h1]
        repeat' (first | fail | go_values | go_skip | go_guarded | go_step | go_upon | (simp only []; go_step) | (go_ite <;> go_prune <;> (try go_simp)))
        go_returns
        exact ⟨ret_int (by rw [ctCode, ctsB_no hx'.out h1]; simp), by exact bgr⟩
      · repeat' (first | fail | go_values | go_skip | go_guarded | go_step | go_upon | (simp only []; go_step) | (go_ite <;> go_prune <;> (try go_simp)))
        refine (spec_l14Contact _ _ _).mono ?_; rintro e w1 ⟨rfl, hbw1⟩; have hzw1 := hbw1.size; (try simp only [World.size_alloc, World.size_setCell, World.size_drew] at hzw1)
        rw [h1]
        repeat' (first | fail | go_values | go_skip | go_guarded | go_step | go_upon | (simp only []; go_step) | (go_ite <;> go_prune <;> (try go_simp)))
        exact ⟨⟨k + 1, by omega, by go_num, by unfold Hid; rw [ctsB_snoc hx'.out, ha.out, h1]; rfl, by exact bgr⟩, by simp [intOf]; omega⟩
    · have e : ctsB cs = true := by have := ha.out; rw [take_all hlt] at this; exact this
      have eH := Lib.hid e
      clear e
      by_cases h6 : (6 : Int) < (cs.length : Int)
      · repeat' (first | fail | go_values | go_skip | go_guarded | go_step | go_upon | (simp only []; go_step) | (go_ite <;> go_prune <;> (try go_simp)))
        all_goals go_returns
        exact ⟨ret_int (by rw [ctCode, eH.out, if_pos rfl, if_neg (by omega)]), hbr⟩
      · repeat' (first | fail | go_values | go_skip | go_guarded | go_step | go_upon | (simp only []; go_step) | (go_ite <;> go_prune <;> (try go_simp)))
        all_goals go_returns
        exact ⟨ret_int (by rw [ctCode, eH.out, if_pos rfl, if_pos (by omega)]), hbr⟩
theorem impl_areValid1 (x y : Int) (w : World) : Calls Tryz.prog 65 #[.agg #[.int .i64 x, .int .i64 y]] w fun e w' => e = .returned (.bool (!coB x y)) ∧ Below w.heap.size w w' := by
  go_enter Tryz.func65, Tryz.ntmps65
  repeat' (first | (first | (go_at_call 66; refine (impl_isContact _ _ _).mono ?_; rintro e w1 ⟨rfl, hb1⟩; have hz1 := hb1.size; obtain ⟨hc1, hf1, hl1, hm1, hn1⟩ := bcell hb1; (try simp only [World.size_alloc, World.size_setCell, World.size_drew] at hz1 hc1 hf1 hl1 hm1 hn1); (try have hs1 : w.heap.size < w1.heap.size := by omega); (try have ht1 : w.heap.size ≤ w1.heap.size := by omega); have q1 := bx_id (w := w1) (X := w.heap.size) (o := 0) (by exact bxc); (try simp only [List.getElem_toArray, List.getElem_cons_succ, List.getElem_cons_zero] at q1); have q1 := bx_id (w := w1) (X := w.heap.size) (o := 1) (by exact bxc); (try simp only [List.getElem_toArray, List.getElem_cons_succ, List.getElem_cons_zero] at q1); have z1 : ∀ o, w1.frozen? ⟨w.heap.size, o, none⟩ = false := (by exact bxm); clear hc1 hf1)) | go_values | go_skip | go_guarded | go_step | go_upon | (simp only []; go_step) | (go_ite <;> go_prune <;> (try go_simp)))
  all_goals go_returns
  all_goals exact ⟨ret_bool (by simp_all), by exact bgr⟩
set_option maxHeartbeats 800000 in
theorem slices_IndexContact (A : Option Addr) (c : Nat) (cs : List (Int × Int)) (w : World) (hr : C64 w w.heap.size A cs) (hl : cs.length ≤ 1099511627776) :
    Calls Tryz.prog 83 #[.slice A cs.length c, .func (.func 65) #[] #[]] w fun e w' => ∃ n : Int, e = .returned (.int .i64 n) ∧ (0 ≤ n ↔ ctsB cs = false) ∧ Below w.heap.size w w' := by
  go_enter Tryz.func83, Tryz.ntmps83
  repeat' (first | fail | go_values | go_skip | go_guarded | go_step | go_upon | (simp only []; go_step) | (go_ite <;> go_prune <;> (try go_simp)))
  go_loopw [8] (fun i wr => ∃ k : Nat, k ≤ cs.length ∧ i = .int .i64 k ∧ Hid (ctsB (cs.take k) = true) ∧ Below w.heap.size w wr) (fun i _ => cs.length - (intOf i).toNat)
  case atStart => exact ⟨0, Nat.zero_le _, rfl, by simp [ctsB, Hid], by exact bgr⟩
  case round =>
    obtain ⟨k, hk, rfl, ha, hbr⟩ := hrel
    by_cases hlt : k < cs.length
    · obtain ⟨⟨x, y⟩, hx⟩ := get_of_lt hlt
      obtain ⟨b, o, rfl, hb, hc0, hc1⟩ := (hr.up hbr).at_ hx
      have hx' := Lib.hid hx
      clear hx
      cases h1 : coB x y
      · repeat' (first | fail | go_values | go_skip | go_guarded | go_step | go_upon | (simp only []; go_step) | (go_ite <;> go_prune <;> (try go_simp)))
        refine (impl_areValid1 _ _ _).mono ?_; rintro e w1 ⟨rfl, hbw1⟩; have hzw1 := hbw1.size; (try simp only [World.size_alloc, World.size_setCell, World.size_drew] at hzw1)
        rw [h1]
        repeat' (first | fail | go_values | go_skip | go_guarded | go_step | go_upon | (simp only []; go_step) | (go_ite <;> go_prune <;> (try go_simp)))
        go_returns
        exact ⟨_, rfl, by simp [ctsB_no hx'.out h1], by exact bgr⟩
      · repeat' (first | fail | go_values | go_skip | go_guarded | go_step | go_upon | (simp only []; go_step) | (go_ite <;> go_prune <;> (try go_simp)))
        refine (impl_areValid1 _ _ _).mono ?_; rintro e w1 ⟨rfl, hbw1⟩; have hzw1 := hbw1.size; (try simp only [World.size_alloc, World.size_setCell, World.size_drew] at hzw1)
        rw [h1]
        repeat' (first | fail | go_values | go_skip | go_guarded | go_step | go_upon | (simp only []; go_step) | (go_ite <;> go_prune <;> (try go_simp)))
        exact ⟨⟨k + 1, by omega, by go_num, by unfold Hid; rw [ctsB_snoc hx'.out, ha.out, h1]; rfl, by exact bgr⟩, by simp [intOf]; omega⟩
    · have e : ctsB cs = true := by have := ha.out; rw [take_all hlt] at this; exact this
      have eH := Lib.hid e
      clear e
      repeat' (first | fail | go_values | go_skip | go_guarded | go_step | go_upon | (simp only []; go_step) | (go_ite <;> go_prune <;> (try go_simp)))
      all_goals go_returns
      exact ⟨_, rfl, by simp [eH.out], hbr⟩
theorem slices_ContainsContact (A : Option Addr) (c : Nat) (cs : List (Int × Int)) (w : World) (hr : C64 w w.heap.size A cs) (hl : cs.length ≤ 1099511627776) :
    Calls Tryz.prog 64 #[.slice A cs.length c, .func (.func 65) #[] #[]] w fun e w' => e = .returned (.bool (!ctsB cs)) ∧ Below w.heap.size w w' := by
  go_enter Tryz.func64, Tryz.ntmps64
  repeat' (first | fail | go_values | go_skip | go_guarded | go_step | go_upon | (simp only []; go_step) | (go_ite <;> go_prune <;> (try go_simp)))
  refine (slices_IndexContact _ _ _ _ (hr.up (by exact bgr)) hl).mono ?_; rintro e w1 ⟨n, rfl, hn, hbw1⟩; have hzw1 := hbw1.size; (try simp only [World.size_alloc, World.size_setCell, World.size_drew] at hzw1)
  have e : decide (0 ≤ n) = !ctsB cs := by cases h : ctsB cs <;> simp [hn, h]
  have eH := Lib.hid e
  clear e hn
  repeat' (first | fail | go_values | go_skip | go_guarded | go_step | go_upon | (simp only []; go_step) | (go_ite <;> go_prune <;> (try go_simp)))
  all_goals go_returns
  all_goals exact ⟨ret_bool (by rw [← eH.out]), by exact bgr⟩
theorem impl_areValidContacts (A : Option Addr) (c : Nat) (cs : List (Int × Int)) (w : World) (hr : C64 w w.heap.size A cs) (hl : cs.length ≤ 1099511627776) :
    Calls Tryz.prog 42 #[.slice A cs.length c] w fun e w' => e = .returned (.bool (ctsB cs)) ∧ Below w.heap.size w w' := by
  have hmf : ∀ (fn : Fn) (first cap : Array Value) (w : World), (Instr.makeFunc fn first cap).run Tryz.prog w = .ok (.func fn first cap) w := fun _ _ _ _ => rfl
  go_enter Tryz.func42, Tryz.ntmps42
  repeat' (first | fail | go_values | go_skip | go_guarded | go_step | go_upon | (simp only []; go_step) | (go_ite <;> go_prune <;> (try go_simp)))
  refine (slices_ContainsContact _ _ _ _ (hr.up (by exact bgr)) hl).mono ?_; rintro e w1 ⟨rfl, hbw1⟩; have hzw1 := hbw1.size; (try simp only [World.size_alloc, World.size_setCell, World.size_drew] at hzw1)
  repeat' (first | fail | go_values | go_skip | go_guarded | go_step | go_upon | (simp only []; go_step) | (go_ite <;> go_prune <;> (try go_simp)))
  all_goals go_returns
  all_goals exact ⟨ret_bool (by simp), by exact bgr⟩
end Go.Proofs.YthbljfanoaibkaaGreatDoor
