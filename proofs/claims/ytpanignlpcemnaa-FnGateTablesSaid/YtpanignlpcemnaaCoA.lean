/- Costs: contracts. -/
import Derived.Test.YtpanignlpcemnaaIIMem
import Derived.BigQuiet
namespace Go.Proofs.Ytpanignlpcemnaa
open Go.RowKit Go.ChangeShapes Go.WideShapes Go.ChangeAt
set_option linter.unusedVariables false
set_option linter.unusedSimpArgs false
def rowB (n0 : Nat) (xs : List Int) : Bool := decide (xs.length ≤ 6) && (decide (xs.length = n0) && allB xs (-1) 1000000000000)
def arek (xss : List (List Int)) (k : Nat) : Bool := (List.range k).all fun i => rowB (xss.getD 0 []).length (xss.getD i [])
/-- costs -/
def areB (xss : List (List Int)) : Bool := decide (xss.length ≤ 6) && arek xss xss.length
theorem arek_succ {xss : List (List Int)} {k : Nat} : arek xss (k + 1) = (arek xss k && rowB (xss.getD 0 []).length (xss.getD k [])) := by simp [arek, List.range_succ]
theorem arek_no {xss : List (List Int)} {k n : Nat} (hk : k < n) (h : rowB (xss.getD 0 []).length (xss.getD k []) = false) : arek xss n = false := by
  rw [arek, List.all_eq_false]
  exact ⟨k, by simpa using hk, by simp only [h]; decide⟩
theorem arek_of {xss : List (List Int)} {n k : Nat} (h : arek xss n = true) (hk : k < n) : rowB (xss.getD 0 []).length (xss.getD k []) = true := List.all_eq_true.1 h k (by simpa using hk)
theorem lget_of {xss : List (List Int)} {k : Nat} {xs : List Int} (h : xss[k]? = some xs) : xss.getD k [] = xs := by simp [List.getD, h]
theorem impl_areWithin' (A : Option Addr) (c : Nat) (xs : List Int) (lo hi : Int) (b : Bool) (w : World) (hr : I64 w w.heap.size A xs) (hl : xs.length ≤ 9223372036854775807) (h : allB xs lo hi = b) :
    Calls Try.prog 71 #[.slice A xs.length c, .int .i64 lo, .int .i64 hi] w fun e w' => e = .returned (.bool b) ∧ w' = w := by
  rw [← h]; exact (impl_areWithin A c xs lo hi w hr hl).mono fun _ _ ⟨a, b⟩ => ⟨a, b.symm⟩
set_option maxHeartbeats 1600000 in
theorem impl_AreCosts (A : Option Addr) (c : Nat) (xss : List (List Int)) (w : World) (hr : II64 w w.heap.size A xss) (hl : xss.length ≤ 1099511627776) (hm : ∀ (i : Nat) (xs : List Int), xss[i]? = some xs → xs.length ≤ 1099511627776) :
    Calls Try.prog 37 #[.slice A xss.length c] w fun e w' => e = .returned (.bool (areB xss)) ∧ Below w.heap.size w w' := by
  go_enter Try.func37, Try.ntmps37
  repeat' (first | fail | go_values | go_skip | go_guarded | go_step | go_upon | (simp only []; go_step) | (go_ite <;> go_prune <;> (try go_simp)))
  
  go_loopw [7] (fun i wr => ∃ k : Nat, k ≤ xss.length ∧ i = .int .i64 k ∧ Hid (arek xss k = true) ∧ Below w.heap.size w wr) (fun i _ => xss.length - (intOf i).toNat)
  case atStart => exact ⟨0, Nat.zero_le _, rfl, by simp [arek, Hid], by repeat' (first | (with_reducible exact Below.refl _ _) | (with_reducible assumption) | (with_reducible refine Below.new ?_ _) | (with_reducible refine Below.alloc ?_ ?_ _) | (with_reducible refine Below.drew ?_) | (with_reducible refine below_drewN ?_ _) | (with_reducible refine Below.setCell ?_ ?_ _) | (refine Below.next ?_ (by with_reducible assumption)) | (refine Below.row ?_ (by with_reducible assumption) (by omega)) | (refine Below.trans ?_ (by with_reducible assumption)) | (refine Below.after ?_ ?_ (by with_reducible assumption)) | go_size)⟩
  case round =>
    obtain ⟨k, hk, rfl, ha, hbr⟩ := hrel
    by_cases hlt : k < xss.length
    · obtain ⟨xs, hx⟩ := get_of_lt hlt
      obtain ⟨x0, hx0⟩ := get_of_lt (xs := xss) (k := 0) (by omega)
      obtain ⟨b, o, A', c', rfl, hb, hc, hi2⟩ := (hr.up hbr).at_ hx
      obtain ⟨b0, o0, A0, c0, e0, hb0, hc0, _⟩ := (hr.up hbr).at_ hx0
      simp only [Option.some.injEq, Addr.mk.injEq, and_true] at e0
      obtain ⟨rfl, rfl⟩ := e0
      have hc00 : wr.cell? ⟨b, o, none⟩ = some (.slice A0 x0.length c0) := by simpa using hc0
      have m1 := hm k xs hx
      have m0 := hm 0 x0 hx0
      have gx := Lib.hid (lget_of hx)
      have g0 : Hid ((xss.getD 0 []).length = x0.length) := by unfold Hid; rw [lget_of hx0]
      have p0 : (0 : Int) ≤ (k : Int) := by omega
      have p1 : (k : Int) < (xss.length : Int) := by omega
      have p2 : (0 : Int) < (xss.length : Int) := by omega
      clear hx hx0
      by_cases h1 : (6 : Int) < (xs.length : Int)
      · have d1 : decide ((6 : Int) < (xs.length : Int)) = true := decide_eq_true h1
        repeat' (first | fail | go_values | go_skip | go_guarded | go_step | go_upon | (simp only []; go_step) | (go_ite <;> go_prune <;> (try go_simp)))
        try go_quiet (first | (go_at_call 71; exact Calls.quiet_of_same (impl_areWithin' _ _ _ _ _ _ _ (by first | assumption | exact I64.up (by assumption) (by repeat' (first | (with_reducible exact Below.refl _ _) | (with_reducible assumption) | (with_reducible refine Below.new ?_ _) | (with_reducible refine Below.alloc ?_ ?_ _) | (with_reducible refine Below.drew ?_) | (with_reducible refine below_drewN ?_ _) | (with_reducible refine Below.setCell ?_ ?_ _) | (refine Below.next ?_ (by with_reducible assumption)) | (refine Below.row ?_ (by with_reducible assumption) (by omega)) | (refine Below.trans ?_ (by with_reducible assumption)) | (refine Below.after ?_ ?_ (by with_reducible assumption)) | go_size))) (by omega) (by assumption))))
        repeat' (first | (first | (go_at_call 71; refine (impl_areWithin _ _ _ _ _ _ (by first | assumption | exact I64.up (by assumption) (by repeat' (first | (with_reducible exact Below.refl _ _) | (with_reducible assumption) | (with_reducible refine Below.new ?_ _) | (with_reducible refine Below.alloc ?_ ?_ _) | (with_reducible refine Below.drew ?_) | (with_reducible refine below_drewN ?_ _) | (with_reducible refine Below.setCell ?_ ?_ _) | (refine Below.next ?_ (by with_reducible assumption)) | (refine Below.row ?_ (by with_reducible assumption) (by omega)) | (refine Below.trans ?_ (by with_reducible assumption)) | (refine Below.after ?_ ?_ (by with_reducible assumption)) | go_size))) (by omega)).mono ?_; rintro e w' ⟨rfl, rfl⟩)) | go_values | go_skip | go_guarded | go_step | go_upon | (simp only []; go_step) | (go_ite <;> go_prune <;> (try go_simp)))
        go_returns
        exact ⟨ret_bool (by rw [areB, arek_no hlt (by rw [g0.out, gx.out]; simp [rowB, show ¬ xs.length ≤ 6 by omega])]; simp), by repeat' (first | (with_reducible exact Below.refl _ _) | (with_reducible assumption) | (with_reducible refine Below.new ?_ _) | (with_reducible refine Below.alloc ?_ ?_ _) | (with_reducible refine Below.drew ?_) | (with_reducible refine below_drewN ?_ _) | (with_reducible refine Below.setCell ?_ ?_ _) | (refine Below.next ?_ (by with_reducible assumption)) | (refine Below.row ?_ (by with_reducible assumption) (by omega)) | (refine Below.trans ?_ (by with_reducible assumption)) | (refine Below.after ?_ ?_ (by with_reducible assumption)) | go_size)⟩
      · have d1 : decide ((6 : Int) < (xs.length : Int)) = false := decide_eq_false h1
        by_cases h2 : xs.length = x0.length
        · have e2 : ((xs.length : Int) != (x0.length : Int)) = false := by simp [h2]
          have H2 := Lib.hid h2
          clear h2
          cases h3 : allB xs (-1) 1000000000000
          · skip
            repeat' (first | fail | go_values | go_skip | go_guarded | go_step | go_upon | (simp only []; go_step) | (go_ite <;> go_prune <;> (try go_simp)))
            try go_quiet (first | (go_at_call 71; exact Calls.quiet_of_same (impl_areWithin' _ _ _ _ _ _ _ (by first | assumption | exact I64.up (by assumption) (by repeat' (first | (with_reducible exact Below.refl _ _) | (with_reducible assumption) | (with_reducible refine Below.new ?_ _) | (with_reducible refine Below.alloc ?_ ?_ _) | (with_reducible refine Below.drew ?_) | (with_reducible refine below_drewN ?_ _) | (with_reducible refine Below.setCell ?_ ?_ _) | (refine Below.next ?_ (by with_reducible assumption)) | (refine Below.row ?_ (by with_reducible assumption) (by omega)) | (refine Below.trans ?_ (by with_reducible assumption)) | (refine Below.after ?_ ?_ (by with_reducible assumption)) | go_size))) (by omega) (by assumption))))
            repeat' (first | (first | (go_at_call 71; refine (impl_areWithin _ _ _ _ _ _ (by first | assumption | exact I64.up (by assumption) (by repeat' (first | (with_reducible exact Below.refl _ _) | (with_reducible assumption) | (with_reducible refine Below.new ?_ _) | (with_reducible refine Below.alloc ?_ ?_ _) | (with_reducible refine Below.drew ?_) | (with_reducible refine below_drewN ?_ _) | (with_reducible refine Below.setCell ?_ ?_ _) | (refine Below.next ?_ (by with_reducible assumption)) | (refine Below.row ?_ (by with_reducible assumption) (by omega)) | (refine Below.trans ?_ (by with_reducible assumption)) | (refine Below.after ?_ ?_ (by with_reducible assumption)) | go_size))) (by omega)).mono ?_; rintro e w' ⟨rfl, rfl⟩)) | go_values | go_skip | go_guarded | go_step | go_upon | (simp only []; go_step) | (go_ite <;> go_prune <;> (try go_simp)))
            go_returns
            exact ⟨ret_bool (by rw [areB, arek_no hlt (by rw [g0.out, gx.out]; simp [rowB, h3])]; simp), by repeat' (first | (with_reducible exact Below.refl _ _) | (with_reducible assumption) | (with_reducible refine Below.new ?_ _) | (with_reducible refine Below.alloc ?_ ?_ _) | (with_reducible refine Below.drew ?_) | (with_reducible refine below_drewN ?_ _) | (with_reducible refine Below.setCell ?_ ?_ _) | (refine Below.next ?_ (by with_reducible assumption)) | (refine Below.row ?_ (by with_reducible assumption) (by omega)) | (refine Below.trans ?_ (by with_reducible assumption)) | (refine Below.after ?_ ?_ (by with_reducible assumption)) | go_size)⟩
          · skip
            repeat' (first | fail | go_values | go_skip | go_guarded | go_step | go_upon | (simp only []; go_step) | (go_ite <;> go_prune <;> (try go_simp)))
            try go_quiet (first | (go_at_call 71; exact Calls.quiet_of_same (impl_areWithin' _ _ _ _ _ _ _ (by first | assumption | exact I64.up (by assumption) (by repeat' (first | (with_reducible exact Below.refl _ _) | (with_reducible assumption) | (with_reducible refine Below.new ?_ _) | (with_reducible refine Below.alloc ?_ ?_ _) | (with_reducible refine Below.drew ?_) | (with_reducible refine below_drewN ?_ _) | (with_reducible refine Below.setCell ?_ ?_ _) | (refine Below.next ?_ (by with_reducible assumption)) | (refine Below.row ?_ (by with_reducible assumption) (by omega)) | (refine Below.trans ?_ (by with_reducible assumption)) | (refine Below.after ?_ ?_ (by with_reducible assumption)) | go_size))) (by omega) (by assumption))))
            repeat' (first | (first | (go_at_call 71; refine (impl_areWithin _ _ _ _ _ _ (by first | assumption | exact I64.up (by assumption) (by repeat' (first | (with_reducible exact Below.refl _ _) | (with_reducible assumption) | (with_reducible refine Below.new ?_ _) | (with_reducible refine Below.alloc ?_ ?_ _) | (with_reducible refine Below.drew ?_) | (with_reducible refine below_drewN ?_ _) | (with_reducible refine Below.setCell ?_ ?_ _) | (refine Below.next ?_ (by with_reducible assumption)) | (refine Below.row ?_ (by with_reducible assumption) (by omega)) | (refine Below.trans ?_ (by with_reducible assumption)) | (refine Below.after ?_ ?_ (by with_reducible assumption)) | go_size))) (by omega)).mono ?_; rintro e w' ⟨rfl, rfl⟩)) | go_values | go_skip | go_guarded | go_step | go_upon | (simp only []; go_step) | (go_ite <;> go_prune <;> (try go_simp)))
            exact ⟨⟨k + 1, by omega, by go_num, by unfold Hid; rw [arek_succ, ha.out, g0.out, gx.out]; have := H2.out; simp [rowB, h3]; omega, by repeat' (first | (with_reducible exact Below.refl _ _) | (with_reducible assumption) | (with_reducible refine Below.new ?_ _) | (with_reducible refine Below.alloc ?_ ?_ _) | (with_reducible refine Below.drew ?_) | (with_reducible refine below_drewN ?_ _) | (with_reducible refine Below.setCell ?_ ?_ _) | (refine Below.next ?_ (by with_reducible assumption)) | (refine Below.row ?_ (by with_reducible assumption) (by omega)) | (refine Below.trans ?_ (by with_reducible assumption)) | (refine Below.after ?_ ?_ (by with_reducible assumption)) | go_size)⟩, by simp [intOf]; omega⟩
        · have e2 : ((xs.length : Int) != (x0.length : Int)) = true := by simp; omega
          repeat' (first | fail | go_values | go_skip | go_guarded | go_step | go_upon | (simp only []; go_step) | (go_ite <;> go_prune <;> (try go_simp)))
          try go_quiet (first | (go_at_call 71; exact Calls.quiet_of_same (impl_areWithin' _ _ _ _ _ _ _ (by first | assumption | exact I64.up (by assumption) (by repeat' (first | (with_reducible exact Below.refl _ _) | (with_reducible assumption) | (with_reducible refine Below.new ?_ _) | (with_reducible refine Below.alloc ?_ ?_ _) | (with_reducible refine Below.drew ?_) | (with_reducible refine below_drewN ?_ _) | (with_reducible refine Below.setCell ?_ ?_ _) | (refine Below.next ?_ (by with_reducible assumption)) | (refine Below.row ?_ (by with_reducible assumption) (by omega)) | (refine Below.trans ?_ (by with_reducible assumption)) | (refine Below.after ?_ ?_ (by with_reducible assumption)) | go_size))) (by omega) (by assumption))))
          repeat' (first | (first | (go_at_call 71; refine (impl_areWithin _ _ _ _ _ _ (by first | assumption | exact I64.up (by assumption) (by repeat' (first | (with_reducible exact Below.refl _ _) | (with_reducible assumption) | (with_reducible refine Below.new ?_ _) | (with_reducible refine Below.alloc ?_ ?_ _) | (with_reducible refine Below.drew ?_) | (with_reducible refine below_drewN ?_ _) | (with_reducible refine Below.setCell ?_ ?_ _) | (refine Below.next ?_ (by with_reducible assumption)) | (refine Below.row ?_ (by with_reducible assumption) (by omega)) | (refine Below.trans ?_ (by with_reducible assumption)) | (refine Below.after ?_ ?_ (by with_reducible assumption)) | go_size))) (by omega)).mono ?_; rintro e w' ⟨rfl, rfl⟩)) | go_values | go_skip | go_guarded | go_step | go_upon | (simp only []; go_step) | (go_ite <;> go_prune <;> (try go_simp)))
          go_returns
          exact ⟨ret_bool (by rw [areB, arek_no hlt (by rw [g0.out, gx.out]; simp [rowB, h2])]; simp), by repeat' (first | (with_reducible exact Below.refl _ _) | (with_reducible assumption) | (with_reducible refine Below.new ?_ _) | (with_reducible refine Below.alloc ?_ ?_ _) | (with_reducible refine Below.drew ?_) | (with_reducible refine below_drewN ?_ _) | (with_reducible refine Below.setCell ?_ ?_ _) | (refine Below.next ?_ (by with_reducible assumption)) | (refine Below.row ?_ (by with_reducible assumption) (by omega)) | (refine Below.trans ?_ (by with_reducible assumption)) | (refine Below.after ?_ ?_ (by with_reducible assumption)) | go_size)⟩
    · have e : k = xss.length := by omega
      subst e
      repeat' (first | fail | go_values | go_skip | go_guarded | go_step | go_upon | (simp only []; go_step) | (go_ite <;> go_prune <;> (try go_simp)))
      all_goals go_returns
      all_goals exact ⟨ret_bool (by rw [areB, ha.out]; simp; try omega), by repeat' (first | (with_reducible exact Below.refl _ _) | (with_reducible assumption) | (with_reducible refine Below.new ?_ _) | (with_reducible refine Below.alloc ?_ ?_ _) | (with_reducible refine Below.drew ?_) | (with_reducible refine below_drewN ?_ _) | (with_reducible refine Below.setCell ?_ ?_ _) | (refine Below.next ?_ (by with_reducible assumption)) | (refine Below.row ?_ (by with_reducible assumption) (by omega)) | (refine Below.trans ?_ (by with_reducible assumption)) | (refine Below.after ?_ ?_ (by with_reducible assumption)) | go_size)⟩
end Go.Proofs.Ytpanignlpcemnaa
