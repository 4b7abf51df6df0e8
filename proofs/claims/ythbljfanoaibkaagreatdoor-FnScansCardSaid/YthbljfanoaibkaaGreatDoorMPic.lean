/- Several texts in one: PicS, PicL. No condition of its own. Printed by mergeclaim.py. -/
import Derived.Test.YthbljfanoaibkaaGreatDoorTrL
import Derived.Test.YthbljfanoaibkaaGreatDoorOpenTwo
namespace Go.Proofs.YthbljfanoaibkaaGreatDoor
open Go.RowKit Go.ChangeShapes Go.WideShapes Go.ChangeAt
set_option linter.unusedVariables false
set_option linter.unusedSimpArgs false
/-- a trail that is valid and not lost -/
def liB (T : Tr) : Bool := trT T && decide (T.t ≠ 2)
def tsB (ts : List Tr) : Bool := ts.all liB
/-- a picture is valid -/
def pcB (ts : List Tr) (s d : Int) : Bool := decide (ts.length ≤ 6) && (inB s 0 60 && (inB d 0 360 && tsB ts))
theorem tsB_snoc {ts : List Tr} {k : Nat} {T : Tr} (h : ts[k]? = some T) : tsB (ts.take (k + 1)) = (tsB (ts.take k) && liB T) := by
  rw [take_snoc h, tsB, List.all_append]; simp [tsB]
theorem tsB_no {ts : List Tr} {k : Nat} {T : Tr} (h : ts[k]? = some T) (hx : liB T = false) : tsB ts = false := by
  rw [tsB, List.all_eq_false]
  exact ⟨T, List.mem_of_getElem? h, by simp [hx]⟩
theorem tsB_of {ts : List Tr} {k : Nat} {T : Tr} (h : tsB ts = true) (hk : ts[k]? = some T) : trT T = true ∧ T.t ≠ 2 := by
  have := List.all_eq_true.1 h T (List.mem_of_getElem? hk)
  rw [liB, Bool.and_eq_true, decide_eq_true_eq] at this
  exact this
theorem pc_facts {ts : List Tr} {s d : Int} (h : pcB ts s d = true) : ts.length ≤ 6 ∧ (0 ≤ s ∧ s ≤ 60) ∧ (0 ≤ d ∧ d ≤ 360) ∧ tsB ts = true := by
  simp only [pcB, Bool.and_eq_true] at h
  exact ⟨of_decide_eq_true h.1, of_inB h.2.1, of_inB h.2.2.1, h.2.2.2⟩
theorem impl_IsPicture1 (x y p q s t u r : Int) (w : World) : Calls Tryz.prog 52 #[.agg #[.int .i64 x, .int .i64 y, .int .i64 p, .int .i64 q, .int .i64 s, .int .i64 t, .int .i64 u, .int .i64 r]] w fun e w' => e = .returned (.bool (!liB ⟨x, y, p, q, s, t, u, r⟩)) ∧ Below w.heap.size w w' := by
  have e : liB ⟨x, y, p, q, s, t, u, r⟩ = (trB x y p q s t u r && decide (t ≠ 2)) := rfl
  rw [e]
  cases h1 : trB x y p q s t u r
  · go_enter Tryz.func52, Tryz.ntmps52
    repeat' (first | fail | go_values | go_skip | go_guarded | go_step | go_upon | (simp only []; go_step) | (go_ite <;> go_prune <;> (try go_simp)))
    refine (impl_IsTrail _ _ _ _ _ _ _ _  _).mono ?_; rintro e w1 ⟨rfl, hbw1⟩; have hzw1 := hbw1.size; (try simp only [World.size_alloc, World.size_setCell, World.size_drew] at hzw1); have hs1 : w.heap.size < w1.heap.size := (by omega); have q1 := bx_id (w := w1) (X := w.heap.size) (o := 0) (by exact bxc); (try simp only [List.getElem_toArray, List.getElem_cons_succ, List.getElem_cons_zero] at q1); have q1 := bx_id (w := w1) (X := w.heap.size) (o := 1) (by exact bxc); (try simp only [List.getElem_toArray, List.getElem_cons_succ, List.getElem_cons_zero] at q1); have q1 := bx_id (w := w1) (X := w.heap.size) (o := 2) (by exact bxc); (try simp only [List.getElem_toArray, List.getElem_cons_succ, List.getElem_cons_zero] at q1); have q1 := bx_id (w := w1) (X := w.heap.size) (o := 3) (by exact bxc); (try simp only [List.getElem_toArray, List.getElem_cons_succ, List.getElem_cons_zero] at q1); have q1 := bx_id (w := w1) (X := w.heap.size) (o := 4) (by exact bxc); (try simp only [List.getElem_toArray, List.getElem_cons_succ, List.getElem_cons_zero] at q1); have q1 := bx_id (w := w1) (X := w.heap.size) (o := 5) (by exact bxc); (try simp only [List.getElem_toArray, List.getElem_cons_succ, List.getElem_cons_zero] at q1); have q1 := bx_id (w := w1) (X := w.heap.size) (o := 6) (by exact bxc); (try simp only [List.getElem_toArray, List.getElem_cons_succ, List.getElem_cons_zero] at q1); have q1 := bx_id (w := w1) (X := w.heap.size) (o := 7) (by exact bxc); (try simp only [List.getElem_toArray, List.getElem_cons_succ, List.getElem_cons_zero] at q1); have z1 : ∀ o, w1.frozen? ⟨w.heap.size, o, none⟩ = false := (by exact bxm)
    rw [h1]
    repeat' (first | fail | go_values | go_skip | go_guarded | go_step | go_upon | (simp only []; go_step) | (go_ite <;> go_prune <;> (try go_simp)))
    all_goals go_returns
    all_goals exact ⟨rfl, by exact bgr⟩
  · by_cases h2 : t = 2
    · have hb : (t == 2) = true := by simpa using h2
      have eb : (!(true && decide (t ≠ 2))) = true := by simp [h2]
      rw [eb]
      clear h2 eb
      go_enter Tryz.func52, Tryz.ntmps52
      repeat' (first | fail | go_values | go_skip | go_guarded | go_step | go_upon | (simp only []; go_step) | (go_ite <;> go_prune <;> (try go_simp)))
      refine (impl_IsTrail _ _ _ _ _ _ _ _  _).mono ?_; rintro e w1 ⟨rfl, hbw1⟩; have hzw1 := hbw1.size; (try simp only [World.size_alloc, World.size_setCell, World.size_drew] at hzw1); have hs1 : w.heap.size < w1.heap.size := (by omega); have q1 := bx_id (w := w1) (X := w.heap.size) (o := 0) (by exact bxc); (try simp only [List.getElem_toArray, List.getElem_cons_succ, List.getElem_cons_zero] at q1); have q1 := bx_id (w := w1) (X := w.heap.size) (o := 1) (by exact bxc); (try simp only [List.getElem_toArray, List.getElem_cons_succ, List.getElem_cons_zero] at q1); have q1 := bx_id (w := w1) (X := w.heap.size) (o := 2) (by exact bxc); (try simp only [List.getElem_toArray, List.getElem_cons_succ, List.getElem_cons_zero] at q1); have q1 := bx_id (w := w1) (X := w.heap.size) (o := 3) (by exact bxc); (try simp only [List.getElem_toArray, List.getElem_cons_succ, List.getElem_cons_zero] at q1); have q1 := bx_id (w := w1) (X := w.heap.size) (o := 4) (by exact bxc); (try simp only [List.getElem_toArray, List.getElem_cons_succ, List.getElem_cons_zero] at q1); have q1 := bx_id (w := w1) (X := w.heap.size) (o := 5) (by exact bxc); (try simp only [List.getElem_toArray, List.getElem_cons_succ, List.getElem_cons_zero] at q1); have q1 := bx_id (w := w1) (X := w.heap.size) (o := 6) (by exact bxc); (try simp only [List.getElem_toArray, List.getElem_cons_succ, List.getElem_cons_zero] at q1); have q1 := bx_id (w := w1) (X := w.heap.size) (o := 7) (by exact bxc); (try simp only [List.getElem_toArray, List.getElem_cons_succ, List.getElem_cons_zero] at q1); have z1 : ∀ o, w1.frozen? ⟨w.heap.size, o, none⟩ = false := (by exact bxm)
      rw [h1]
      repeat' (first | fail | go_values | go_skip | go_guarded | go_step | go_upon | (simp only []; go_step) | (go_ite <;> go_prune <;> (try go_simp)))
      all_goals go_returns
      all_goals exact ⟨ret_bool (by first | rfl | exact hb | simp [hb]), by exact bgr⟩
    · have hb : (t == 2) = false := by simpa using h2
      have eb : (!(true && decide (t ≠ 2))) = false := by simp [h2]
      rw [eb]
      clear eb
      go_enter Tryz.func52, Tryz.ntmps52
      repeat' (first | fail | go_values | go_skip | go_guarded | go_step | go_upon | (simp only []; go_step) | (go_ite <;> go_prune <;> (try go_simp)))
      refine (impl_IsTrail _ _ _ _ _ _ _ _  _).mono ?_; rintro e w1 ⟨rfl, hbw1⟩; have hzw1 := hbw1.size; (try simp only [World.size_alloc, World.size_setCell, World.size_drew] at hzw1); have hs1 : w.heap.size < w1.heap.size := (by omega); have q1 := bx_id (w := w1) (X := w.heap.size) (o := 0) (by exact bxc); (try simp only [List.getElem_toArray, List.getElem_cons_succ, List.getElem_cons_zero] at q1); have q1 := bx_id (w := w1) (X := w.heap.size) (o := 1) (by exact bxc); (try simp only [List.getElem_toArray, List.getElem_cons_succ, List.getElem_cons_zero] at q1); have q1 := bx_id (w := w1) (X := w.heap.size) (o := 2) (by exact bxc); (try simp only [List.getElem_toArray, List.getElem_cons_succ, List.getElem_cons_zero] at q1); have q1 := bx_id (w := w1) (X := w.heap.size) (o := 3) (by exact bxc); (try simp only [List.getElem_toArray, List.getElem_cons_succ, List.getElem_cons_zero] at q1); have q1 := bx_id (w := w1) (X := w.heap.size) (o := 4) (by exact bxc); (try simp only [List.getElem_toArray, List.getElem_cons_succ, List.getElem_cons_zero] at q1); have q1 := bx_id (w := w1) (X := w.heap.size) (o := 5) (by exact bxc); (try simp only [List.getElem_toArray, List.getElem_cons_succ, List.getElem_cons_zero] at q1); have q1 := bx_id (w := w1) (X := w.heap.size) (o := 6) (by exact bxc); (try simp only [List.getElem_toArray, List.getElem_cons_succ, List.getElem_cons_zero] at q1); have q1 := bx_id (w := w1) (X := w.heap.size) (o := 7) (by exact bxc); (try simp only [List.getElem_toArray, List.getElem_cons_succ, List.getElem_cons_zero] at q1); have z1 : ∀ o, w1.frozen? ⟨w.heap.size, o, none⟩ = false := (by exact bxm)
      rw [h1]
      repeat' (first | fail | go_values | go_skip | go_guarded | go_step | go_upon | (simp only []; go_step) | (go_ite <;> go_prune <;> (try go_simp)))
      all_goals go_returns
      all_goals exact ⟨ret_bool (by first | rfl | exact hb | simp [hb]), by exact bgr⟩
set_option maxHeartbeats 1600000 in
theorem slices_IndexTrail (A : Option Addr) (c : Nat) (ts : List Tr) (w : World) (hr : T64 w w.heap.size A ts) (hl : ts.length ≤ 1099511627776) :
    Calls Tryz.prog 78 #[.slice A ts.length c, .func (.func 52) #[] #[]] w fun e w' => ∃ n : Int, e = .returned (.int .i64 n) ∧ (0 ≤ n ↔ tsB ts = false) ∧ Below w.heap.size w w' := by
  go_enter Tryz.func78, Tryz.ntmps78
  repeat' (first | fail | go_values | go_skip | go_guarded | go_step | go_upon | (simp only []; go_step) | (go_ite <;> go_prune <;> (try go_simp)))
  go_loopw [8] (fun i wr => ∃ k : Nat, k ≤ ts.length ∧ i = .int .i64 k ∧ Hid (tsB (ts.take k) = true) ∧ Below w.heap.size w wr) (fun i _ => ts.length - (intOf i).toNat)
  case atStart => exact ⟨0, Nat.zero_le _, rfl, by simp [tsB, Hid], by exact bgr⟩
  case round =>
    obtain ⟨k, hk, rfl, ha, hbr⟩ := hrel
    by_cases hlt : k < ts.length
    · obtain ⟨⟨x, y, p, q, s, t, u, r⟩, hx⟩ := get_of_lt hlt
      obtain ⟨b, o, rfl, hb, hc0, hc1, hc2, hc3, hc4, hc5, hc6, hc7⟩ := T64.at_ (hr.up hbr) hx
      have hx' := Lib.hid hx
      clear hx
      cases h1 : liB ⟨x, y, p, q, s, t, u, r⟩
      · repeat' (first | fail | go_values | go_skip | go_guarded | go_step | go_upon | (simp only []; go_step) | (go_ite <;> go_prune <;> (try go_simp)))
        refine (impl_IsPicture1 _ _ _ _ _ _ _ _  _).mono ?_; rintro e w1 ⟨rfl, hbw1⟩; have hzw1 := hbw1.size; (try simp only [World.size_alloc, World.size_setCell, World.size_drew] at hzw1)
        rw [h1]
        repeat' (first | fail | go_values | go_skip | go_guarded | go_step | go_upon | (simp only []; go_step) | (go_ite <;> go_prune <;> (try go_simp)))
        go_returns
        exact ⟨_, rfl, by simp [tsB_no hx'.out h1], by exact bgr⟩
      · repeat' (first | fail | go_values | go_skip | go_guarded | go_step | go_upon | (simp only []; go_step) | (go_ite <;> go_prune <;> (try go_simp)))
        refine (impl_IsPicture1 _ _ _ _ _ _ _ _  _).mono ?_; rintro e w1 ⟨rfl, hbw1⟩; have hzw1 := hbw1.size; (try simp only [World.size_alloc, World.size_setCell, World.size_drew] at hzw1)
        rw [h1]
        repeat' (first | fail | go_values | go_skip | go_guarded | go_step | go_upon | (simp only []; go_step) | (go_ite <;> go_prune <;> (try go_simp)))
        exact ⟨⟨k + 1, by omega, by go_num, by unfold Hid; rw [tsB_snoc hx'.out, ha.out, h1]; rfl, by exact bgr⟩, by simp [intOf]; omega⟩
    · have e : tsB ts = true := by have := ha.out; rw [take_all hlt] at this; exact this
      have eH := Lib.hid e
      clear e
      repeat' (first | fail | go_values | go_skip | go_guarded | go_step | go_upon | (simp only []; go_step) | (go_ite <;> go_prune <;> (try go_simp)))
      all_goals go_returns
      exact ⟨_, rfl, by simp [eH.out], hbr⟩
theorem slices_ContainsTrail (A : Option Addr) (c : Nat) (ts : List Tr) (w : World) (hr : T64 w w.heap.size A ts) (hl : ts.length ≤ 1099511627776) :
    Calls Tryz.prog 51 #[.slice A ts.length c, .func (.func 52) #[] #[]] w fun e w' => e = .returned (.bool (!tsB ts)) ∧ Below w.heap.size w w' := by
  go_enter Tryz.func51, Tryz.ntmps51
  repeat' (first | fail | go_values | go_skip | go_guarded | go_step | go_upon | (simp only []; go_step) | (go_ite <;> go_prune <;> (try go_simp)))
  refine (slices_IndexTrail _ _ _ _ (hr.up (by exact bgr)) hl).mono ?_; rintro e w1 ⟨n, rfl, hn, hbw1⟩; have hzw1 := hbw1.size; (try simp only [World.size_alloc, World.size_setCell, World.size_drew] at hzw1)
  have e : decide (0 ≤ n) = !tsB ts := by cases h : tsB ts <;> simp [hn, h]
  have eH := Lib.hid e
  clear e hn
  repeat' (first | fail | go_values | go_skip | go_guarded | go_step | go_upon | (simp only []; go_step) | (go_ite <;> go_prune <;> (try go_simp)))
  all_goals go_returns
  all_goals exact ⟨ret_bool (by rw [← eH.out]), by exact bgr⟩
set_option maxHeartbeats 1600000 in
theorem impl_IsPicture (A : Option Addr) (c : Nat) (ts : List Tr) (s d : Int) (w : World) (hr : T64 w w.heap.size A ts) (hl : ts.length ≤ 1099511627776) :
    Calls Tryz.prog 28 #[.agg #[.slice A ts.length c, .int .i64 s, .int .i64 d]] w fun e w' => e = .returned (.bool (pcB ts s d)) ∧ Below w.heap.size w w' := by
  by_cases h1 : (ts.length : Int) ≤ 6
  · cases h2 : inB s 0 60
    · have e : pcB ts s d = false := by simp [pcB, h2]
      rw [e]
      go_enter Tryz.func28, Tryz.ntmps28
      repeat' (first | fail | go_values | go_skip | go_guarded | go_step | go_upon | (simp only []; go_step) | (go_ite <;> go_prune <;> (try go_simp)))
      refine (impl_within _ _ _ _).mono ?_
      rintro e w' ⟨rfl, rfl⟩
      rw [h2]
      repeat' (first | fail | go_values | go_skip | go_guarded | go_step | go_upon | (simp only []; go_step) | (go_ite <;> go_prune <;> (try go_simp)))
      all_goals go_returns
      all_goals exact ⟨rfl, by exact bgr⟩
    · cases h3 : inB d 0 360
      · have e : pcB ts s d = false := by simp [pcB, h3]
        rw [e]
        go_enter Tryz.func28, Tryz.ntmps28
        repeat' (first | fail | go_values | go_skip | go_guarded | go_step | go_upon | (simp only []; go_step) | (go_ite <;> go_prune <;> (try go_simp)))
        refine (impl_within _ _ _ _).mono ?_
        rintro e w' ⟨rfl, rfl⟩
        rw [h2]
        repeat' (first | fail | go_values | go_skip | go_guarded | go_step | go_upon | (simp only []; go_step) | (go_ite <;> go_prune <;> (try go_simp)))
        refine (impl_within _ _ _ _).mono ?_
        rintro e w' ⟨rfl, rfl⟩
        rw [h3]
        repeat' (first | fail | go_values | go_skip | go_guarded | go_step | go_upon | (simp only []; go_step) | (go_ite <;> go_prune <;> (try go_simp)))
        all_goals go_returns
        all_goals exact ⟨rfl, by exact bgr⟩
      · have e : pcB ts s d = tsB ts := by rw [pcB, h2, h3, decide_eq_true (by omega)]; rfl
        rw [e]
        go_enter Tryz.func28, Tryz.ntmps28
        repeat' (first | fail | go_values | go_skip | go_guarded | go_step | go_upon | (simp only []; go_step) | (go_ite <;> go_prune <;> (try go_simp)))
        refine (impl_within _ _ _ _).mono ?_
        rintro e w' ⟨rfl, rfl⟩
        rw [h2]
        repeat' (first | fail | go_values | go_skip | go_guarded | go_step | go_upon | (simp only []; go_step) | (go_ite <;> go_prune <;> (try go_simp)))
        refine (impl_within _ _ _ _).mono ?_
        rintro e w' ⟨rfl, rfl⟩
        rw [h3]
        repeat' (first | fail | go_values | go_skip | go_guarded | go_step | go_upon | (simp only []; go_step) | (go_ite <;> go_prune <;> (try go_simp)))
        refine (slices_ContainsTrail _ _ _ _ (hr.up (by exact bgr)) hl).mono ?_; rintro e w1 ⟨rfl, hbw1⟩; have hzw1 := hbw1.size; (try simp only [World.size_alloc, World.size_setCell, World.size_drew] at hzw1); have hs1 : w.heap.size < w1.heap.size := (by omega); have q1 := bx_id (w := w1) (X := w.heap.size) (o := 0) (by exact bxc); (try simp only [List.getElem_toArray, List.getElem_cons_succ, List.getElem_cons_zero] at q1); have q1 := bx_id (w := w1) (X := w.heap.size) (o := 1) (by exact bxc); (try simp only [List.getElem_toArray, List.getElem_cons_succ, List.getElem_cons_zero] at q1); have q1 := bx_id (w := w1) (X := w.heap.size) (o := 2) (by exact bxc); (try simp only [List.getElem_toArray, List.getElem_cons_succ, List.getElem_cons_zero] at q1); have z1 : ∀ o, w1.frozen? ⟨w.heap.size, o, none⟩ = false := (by exact bxm)
        repeat' (first | fail | go_values | go_skip | go_guarded | go_step | go_upon | (simp only []; go_step) | (go_ite <;> go_prune <;> (try go_simp)))
        all_goals go_returns
        all_goals exact ⟨ret_bool (by first | rfl | simp | (cases tsB ts <;> rfl)), by exact bgr⟩
  · have e : pcB ts s d = false := by rw [pcB, decide_eq_false (by omega)]; rfl
    rw [e]
    go_enter Tryz.func28, Tryz.ntmps28
    repeat' (first | fail | go_values | go_skip | go_guarded | go_step | go_upon | (simp only []; go_step) | (go_ite <;> go_prune <;> (try go_simp)))
    all_goals go_returns
    all_goals exact ⟨rfl, by exact bgr⟩
set_option maxHeartbeats 3200000 in
theorem spec_IsPicture (A : Option Addr) (c : Nat) (ts : List Tr) (s d : Int) (w : World) (hr : T64 w w.heap.size A ts) (hl : ts.length ≤ 1099511627776) :
    Calls Tryz.prog 31 #[.agg #[.slice A ts.length c, .int .i64 s, .int .i64 d]] w fun e w' => e = .returned (.bool (pcB ts s d)) ∧ Below w.heap.size w w' := by
  by_cases h1 : (6 : Int) < (ts.length : Int)
  · have e : pcB ts s d = false := by rw [pcB, decide_eq_false (by omega)]; rfl
    rw [e]
    go_enter Tryz.func31, Tryz.ntmps31
    repeat' (first | fail | go_values | go_skip | go_guarded | go_step | go_upon | (simp only []; go_step) | (go_ite <;> go_prune <;> (try go_simp)))
    all_goals go_returns
    all_goals exact ⟨rfl, by exact bgr⟩
  · cases h2 : inB s 0 60
    · have e : pcB ts s d = false := by simp [pcB, h2]
      rw [e]
      go_enter Tryz.func31, Tryz.ntmps31
      repeat' (first | fail | go_values | go_skip | go_guarded | go_step | go_upon | (simp only []; go_step) | (go_ite <;> go_prune <;> (try go_simp)))
      refine (spec_l01In _ _ _ _).mono ?_
      rintro e w' ⟨rfl, rfl⟩
      rw [h2]
      repeat' (first | fail | go_values | go_skip | go_guarded | go_step | go_upon | (simp only []; go_step) | (go_ite <;> go_prune <;> (try go_simp)))
      all_goals go_returns
      all_goals exact ⟨rfl, by exact bgr⟩
    · cases h3 : inB d 0 360
      · have e : pcB ts s d = false := by simp [pcB, h3]
        rw [e]
        go_enter Tryz.func31, Tryz.ntmps31
        repeat' (first | fail | go_values | go_skip | go_guarded | go_step | go_upon | (simp only []; go_step) | (go_ite <;> go_prune <;> (try go_simp)))
        refine (spec_l01In _ _ _ _).mono ?_
        rintro e w' ⟨rfl, rfl⟩
        rw [h2]
        repeat' (first | fail | go_values | go_skip | go_guarded | go_step | go_upon | (simp only []; go_step) | (go_ite <;> go_prune <;> (try go_simp)))
        refine (spec_l01In _ _ _ _).mono ?_
        rintro e w' ⟨rfl, rfl⟩
        rw [h3]
        repeat' (first | fail | go_values | go_skip | go_guarded | go_step | go_upon | (simp only []; go_step) | (go_ite <;> go_prune <;> (try go_simp)))
        all_goals go_returns
        all_goals exact ⟨rfl, by exact bgr⟩
      · have e : pcB ts s d = tsB ts := by rw [pcB, h2, h3, decide_eq_true (by omega)]; rfl
        rw [e]
        go_enter Tryz.func31, Tryz.ntmps31
        repeat' (first | fail | go_values | go_skip | go_guarded | go_step | go_upon | (simp only []; go_step) | (go_ite <;> go_prune <;> (try go_simp)))
        refine (spec_l01In _ _ _ _).mono ?_
        rintro e w' ⟨rfl, rfl⟩
        rw [h2]
        repeat' (first | fail | go_values | go_skip | go_guarded | go_step | go_upon | (simp only []; go_step) | (go_ite <;> go_prune <;> (try go_simp)))
        refine (spec_l01In _ _ _ _).mono ?_
        rintro e w' ⟨rfl, rfl⟩
        rw [h3]
        repeat' (first | fail | go_values | go_skip | go_guarded | go_step | go_upon | (simp only []; go_step) | (go_ite <;> go_prune <;> (try go_simp)))
        have hw0 : Below w.heap.size w (w.alloc (.cells #[.slice A ts.length c, .int .i64 s, .int .i64 d] 28)) := by exact bgr
        go_loopw [3] (fun iv wr => ∃ k : Nat, k ≤ ts.length ∧ iv = .int .i64 k ∧ Hid (tsB (ts.take k) = true) ∧ wr.cell? ⟨w.heap.size, 0, none⟩ = some (.slice A ts.length c) ∧ Below w.heap.size w wr) (fun iv _ => ts.length - (intOf iv).toNat)
        case atStart => exact ⟨0, Nat.zero_le _, rfl, by simp [tsB, Hid], by exact bxc, by exact bgr⟩
        case round =>
          obtain ⟨k, hk, rfl, ha, c0, hbr⟩ := hrel
          clear hw0 h2 h3
          by_cases hlt : k < ts.length
          · obtain ⟨⟨x, y, p, q, sp, t, u, r⟩, hx⟩ := get_of_lt hlt
            obtain ⟨b, o, rfl, hb, hc0, hc1, hc2, hc3, hc4, hc5, hc6, hc7⟩ := T64.at_ (hr.up hbr) hx
            have hx' := Lib.hid hx
            have p0 : (0 : Int) ≤ (k : Int) := by omega
            have p1 : (k : Int) < (ts.length : Int) := by omega
            have e1 : liB ⟨x, y, p, q, sp, t, u, r⟩ = (trB x y p q sp t u r && decide (t ≠ 2)) := rfl
            clear hx
            cases h4 : trB x y p q sp t u r
            · have h5 : liB ⟨x, y, p, q, sp, t, u, r⟩ = false := by rw [e1, h4]; rfl
              repeat' (first | fail | go_values | go_skip | go_guarded | go_step | go_upon | (simp only []; go_step) | (go_ite <;> go_prune <;> (try go_simp)))
              refine (spec_IsTrail _ _ _ _ _ _ _ _  _).mono ?_; rintro e w1 ⟨rfl, hbw1⟩; have hzw1 := hbw1.size; (try simp only [World.size_alloc, World.size_setCell, World.size_drew] at hzw1)
              rw [h4]
              have c0' := bx_keep hbw1 c0
              repeat' (first | fail | go_values | go_skip | go_guarded | go_step | go_upon | (simp only []; go_step) | (go_ite <;> go_prune <;> (try go_simp)))
              all_goals go_returns
              all_goals exact ⟨ret_bool (tsB_no hx'.out h5).symm, by exact bgr⟩
            · by_cases ht : t = 2
              · have h5 : liB ⟨x, y, p, q, sp, t, u, r⟩ = false := by rw [e1, h4, ht]; rfl
                have hb2 : (t == 2) = true := by simpa using ht
                have ht' := Lib.hid ht
                have e1' := Lib.hid h5
                clear ht e1 h5
                repeat' (first | fail | go_values | go_skip | go_guarded | go_step | go_upon | (simp only []; go_step) | (go_ite <;> go_prune <;> (try go_simp)))
                refine (spec_IsTrail _ _ _ _ _ _ _ _  _).mono ?_; rintro e w1 ⟨rfl, hbw1⟩; have hzw1 := hbw1.size; (try simp only [World.size_alloc, World.size_setCell, World.size_drew] at hzw1)
                rw [h4]
                have c0' := bx_keep hbw1 c0
                have k5 := bx_keep hbw1 hc5
                repeat' (first | fail | go_values | go_skip | go_guarded | go_step | go_upon | (simp only []; go_step) | (go_ite <;> go_prune <;> (try go_simp)))
                all_goals go_returns
                all_goals exact ⟨ret_bool (tsB_no hx'.out e1'.out).symm, by exact bgr⟩
              · have h5 : liB ⟨x, y, p, q, sp, t, u, r⟩ = true := by rw [e1, h4, decide_eq_true ht]; rfl
                have hb2 : (t == 2) = false := by simpa using ht
                have e1' := Lib.hid h5
                clear e1 h5
                repeat' (first | fail | go_values | go_skip | go_guarded | go_step | go_upon | (simp only []; go_step) | (go_ite <;> go_prune <;> (try go_simp)))
                refine (spec_IsTrail _ _ _ _ _ _ _ _  _).mono ?_; rintro e w1 ⟨rfl, hbw1⟩; have hzw1 := hbw1.size; (try simp only [World.size_alloc, World.size_setCell, World.size_drew] at hzw1)
                rw [h4]
                have c0' := bx_keep hbw1 c0
                have k5 := bx_keep hbw1 hc5
                repeat' (first | fail | go_values | go_skip | go_guarded | go_step | go_upon | (simp only []; go_step) | (go_ite <;> go_prune <;> (try go_simp)))
                all_goals exact ⟨⟨k + 1, by omega, by go_num, by unfold Hid; rw [tsB_snoc hx'.out, ha.out, e1'.out]; rfl, c0', by exact bgr⟩, by simp [intOf]; omega⟩
          · have e : tsB ts = true := by have := ha.out; rw [take_all hlt] at this; exact this
            have eH := Lib.hid e
            clear e
            repeat' (first | fail | go_values | go_skip | go_guarded | go_step | go_upon | (simp only []; go_step) | (go_ite <;> go_prune <;> (try go_simp)))
            all_goals go_returns
            all_goals exact ⟨ret_bool eH.out.symm, by exact bgr⟩
end Go.Proofs.YthbljfanoaibkaaGreatDoor
namespace Go.Proofs.YthbljfanoaibkaaGreatDoor
open Go.RowKit Go.ChangeShapes Go.WideShapes Go.ChangeAt
set_option linter.unusedVariables false
set_option linter.unusedSimpArgs false
/-- only the blocks lo .. hi - 1 have been stored into -/
def Offb (lo hi : Nat) (w w' : World) : Prop := Within lo hi w w'
theorem Offb.refl (lo hi : Nat) (w : World) : Offb lo hi w w := Within.refl _ _ _
theorem Offb.set {lo hi : Nat} {a b : World} (h : Offb lo hi a b) {X o : Nat} {v : Value} (hX : lo ≤ X ∧ X < hi) : Offb lo hi a (b.setCell ⟨X, o, none⟩ v) :=
  ⟨h.os, h.tape, h.output, by simpa [World.setCell] using h.size, fun i hi' hn => (Below.heap_setCell b ⟨X, o, none⟩ v i (fun e => by have e : i = X := e; omega)).trans (h.block i hi' hn)⟩
theorem OwnS.offB {α : Type} {cl : α → List Int} {T : TypeId} {k : Nat} {w w' : World} {B lo hi : Nat} {v : Value} {xs : List α} (hw : Offb B lo w w') (h : OwnS cl T k w lo hi v xs) : OwnS cl T k w' lo hi v xs := h.apart hw (.inr (Nat.le_refl _))
theorem OwnS.off1 {α : Type} {cl : α → List Int} {T : TypeId} {k : Nat} {w : World} {lo hi : Nat} {v : Value} {xs : List α} (h : OwnS cl T k w lo hi v xs) {X o : Nat} {u : Value} (hX : X < lo) : OwnS cl T k (w.setCell ⟨X, o, none⟩ u) lo hi v xs :=
  h.apart (Offb.set (Offb.refl X lo w) ⟨Nat.le_refl _, hX⟩) (.inr (Nat.le_refl _))
section
variable {H : Type} {enc : TypeId × Value → H} {P : Program} {w : World} {sp : Nat → Bool}
/-- a struct of a slice of flat structs and two int64 -/
theorem open_pic {α : Type} {cl : α → List Int} {mk : List Int → α} {r : Reach} {b0 kk : Nat} {t e : TypeId} {f0 f1 f2 : Field} {v : Value} {d : DataW H} {ps : List MemPlace} (hmk : ∀ l, l.length = kk → cl (mk l) = l) (ht : P.underlying t = some (.struct #[f0, f1, f2]))
    (h0 : P.underlying f0.type = some (.slice e)) (hF : FlatI enc P w 0 sp true e kk) (hc : P.cellsOf e = kk) (hk : 0 < kk) (ha : P.underlying f1.type = some (.int .i64)) (hb : P.underlying f2.type = some (.int .i64))
    (o0 : f0.offset = 0) (oa : f1.offset = 1) (ob : f2.offset = 2) (n0 : P.cellsOf f0.type = 1) (na : P.cellsOf f1.type = 1) (nb : P.cellsOf f2.type = 1) (nt : P.cellsOf t = 3)
    (hval : Value.okWide P w r b0 t v) (hd : DataW.Trod enc P w 0 sp true t v d ps) :
    ∃ A c, ∃ xs : List α, ∃ p q : Int, v = .agg #[.slice A xs.length c, .int .i64 p, .int .i64 q] ∧ S64 cl w w.heap.size A xs ∧ xs.length ≤ maxLen ∧
      (-9223372036854775808 ≤ p ∧ p ≤ 9223372036854775807) ∧ (-9223372036854775808 ≤ q ∧ q ≤ 9223372036854775807) := by
  obtain ⟨cs, rfl, _⟩ := okWide_struct ht hval
  obtain ⟨fuel, hf⟩ := hd
  obtain ⟨zs, n, _, _, hl, hzs, hg⟩ := DataW.trod_struct ht hf
  have g : ∀ (j : Nat) (f : Field), #[f0, f1, f2][j]? = some f → ∃ y, DataW.trod enc P w 0 sp true n f.type (((Value.agg cs).cells.toList.drop f.offset).take (P.cellsOf f.type)) = some y := fun j f hj => by
    have h5 := hg j f hj
    have hj2 : j < zs.length := by
      rw [hzs]; exact (Array.getElem?_eq_some_iff.1 hj).1
    rw [List.getElem?_eq_getElem hj2] at h5
    exact ⟨_, h5⟩
  obtain ⟨_, g0⟩ := g 0 f0 rfl
  obtain ⟨_, ga⟩ := g 1 f1 rfl
  obtain ⟨_, gb⟩ := g 2 f2 rfl
  obtain ⟨l⟩ := cs
  simp only [Value.cells, o0, oa, ob, n0, na, nb, nt] at hl ga gb g0
  match l, hl with
  | [a, b, c], _ =>
    simp at ga gb g0
    obtain ⟨p, ea, _, wa⟩ := DataW.trod_int ha ga
    obtain ⟨q, eb, _, wb⟩ := DataW.trod_int hb gb
    obtain ⟨A, c, xs, e1, hx, lx⟩ := open_cell_S64 hmk h0 hF hc hk g0
    simp at ea eb e1
    exact ⟨A, c, xs, p, q, by rw [ea, eb, e1], hx, lx, by simpa [Lit.wf, IntKind.min, IntKind.max, IntKind.signed, IntKind.bits] using wa, by simpa [Lit.wf, IntKind.min, IntKind.max, IntKind.signed, IntKind.bits] using wb⟩
end
section
variable {H : Type} {enc : TypeId × Value → H} {w : World} {sp : Nat → Bool} {r : Reach} {b0 : Nat} {v : Value} {d : DataW H} {ps : List MemPlace}
end
end Go.Proofs.YthbljfanoaibkaaGreatDoor
