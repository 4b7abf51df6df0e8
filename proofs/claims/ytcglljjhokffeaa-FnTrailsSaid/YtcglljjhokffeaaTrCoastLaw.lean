/- CoastsFor: the law's walk (no condition). -/
import Derived.Test.YtcglljjhokffeaaTrMissLaw
namespace Go.Proofs.Ytcglljjhokffeaa
open Go.RowKit
set_option linter.unusedVariables false
set_option linter.unusedSimpArgs false
/-- how many scans without a contact until a trail is lost -/
def coN : Nat → Tr → Nat
  | 0, _ => 0
  | f + 1, a => if a.t = 2 then 0 else 1 + coN f (fCoast a)
theorem coN_lost {f : Nat} {a : Tr} (h : a.t = 2) : coN f a = 0 := by cases f <;> simp [coN, h]
theorem coN_step {k N : Nat} {a b : Tr} (h : ¬ a.t = 2) (hk : k ≤ 4) (hf : fCoast a = b) (hN : k + coN (5 - k) a = N) : k + 1 + coN (5 - (k + 1)) b = N := by
  obtain ⟨j, hj⟩ : ∃ j, 5 - k = j + 1 := ⟨4 - k, by omega⟩
  rw [hj, coN, if_neg h, hf] at hN
  rw [show 5 - (k + 1) = j by omega]
  omega
def fCoasts (a : Tr) : Int × Int := if trB a.x a.y a.p a.q a.s a.t a.h a.m then ((coN 5 a : Int), 0) else (0, 1)
/-- a trail's cells -/
def TrAt (w : World) (b : Nat) (a : Tr) : Prop := w.cell? ⟨b, 0, none⟩ = some (.int .i64 a.x) ∧ w.cell? ⟨b, 1, none⟩ = some (.int .i64 a.y) ∧ w.cell? ⟨b, 2, none⟩ = some (.int .i64 a.p) ∧ w.cell? ⟨b, 3, none⟩ = some (.int .i64 a.q) ∧ w.cell? ⟨b, 4, none⟩ = some (.int .i64 a.s) ∧ w.cell? ⟨b, 5, none⟩ = some (.int .i64 a.t) ∧ w.cell? ⟨b, 6, none⟩ = some (.int .i64 a.h) ∧ w.cell? ⟨b, 7, none⟩ = some (.int .i64 a.m) ∧ ∀ o, w.frozen? ⟨b, o, none⟩ = false
theorem trB_mk {x y p q s t h m : Int} (h1 : moB x y p q s = true) (h2 : 1 ≤ h ∧ h ≤ 1000) (h3 : (t = 0 ∧ 0 ≤ m ∧ m ≤ 1 ∧ h < 3) ∨ (t = 1 ∧ 0 ≤ m ∧ m ≤ 3 ∧ 3 ≤ h) ∨ (t = 2 ∧ 0 ≤ m ∧ m ≤ 4)) : trB x y p q s t h m = true := by
  unfold trB
  rw [h1, inB_t h2, Bool.true_and, Bool.true_and]
  unfold staB
  rcases h3 with ⟨rfl, a, b, c⟩ | ⟨rfl, a, b, c⟩ | ⟨rfl, a, b⟩
  · rw [if_pos rfl, inB_t ⟨a, b⟩, Bool.true_and]; exact decide_eq_true c
  · rw [if_neg (by omega), if_pos rfl, inB_t ⟨a, b⟩, Bool.true_and]; exact decide_eq_true c
  · rw [if_neg (by omega), if_neg (by omega), if_pos rfl]; exact inB_t ⟨a, b⟩
theorem coast_ok {x y p q s t h m xv yv pv qv sv tv hv mv : Int} (hb : trB x y p q s t h m = true) (ht : ¬ t = 2) (hf : fCoast ⟨x, y, p, q, s, t, h, m⟩ = ⟨xv, yv, pv, qv, sv, tv, hv, mv⟩) : trB xv yv pv qv sv tv hv mv = true ∧ (tv = 2 ∨ mv = m + 1) := by
  obtain ⟨hx, hy, hp, hq, hs, hh, hst⟩ := tr_facts hb
  have hmo : moB x y p q s = true := by unfold trB at hb; rw [Bool.and_eq_true] at hb; exact hb.1
  unfold fCoast at hf
  cases hc : coB (x + p) (y + q)
  · rw [moved_out ht hc] at hf
    have : fMiss ⟨x, y, p, q, s, 2, h, m⟩ = ⟨x, y, p, q, s, 2, h, m⟩ := by simp [fMiss]
    rw [this] at hf
    injection hf with e0 e1 e2 e3 e4 e5 e6 e7
    subst e0 e1 e2 e3 e4 e5 e6 e7
    exact ⟨trB_mk hmo hh (by omega), .inl rfl⟩
  · rw [moved_on ht hc] at hf
    have hm2 := (moB_on (x := x) (y := y) hp hq hs).trans hc
    by_cases hd : t = 0 ∧ m + 1 = 2 ∨ m + 1 = 4
    · have : fMiss ⟨x + p, y + q, p, q, min (s + 50) 10000, t, h, m⟩ = ⟨x + p, y + q, p, q, min (s + 50) 10000, 2, h, m + 1⟩ := by simp only [fMiss, if_neg ht, if_pos hd]
      rw [this] at hf
      injection hf with e0 e1 e2 e3 e4 e5 e6 e7
      subst e0 e1 e2 e3 e4 e5 e6 e7
      exact ⟨trB_mk hm2 hh (by omega), .inl rfl⟩
    · have : fMiss ⟨x + p, y + q, p, q, min (s + 50) 10000, t, h, m⟩ = ⟨x + p, y + q, p, q, min (s + 50) 10000, t, h, m + 1⟩ := by simp only [fMiss, if_neg ht, if_neg hd]
      rw [this] at hf
      injection hf with e0 e1 e2 e3 e4 e5 e6 e7
      subst e0 e1 e2 e3 e4 e5 e6 e7
      exact ⟨trB_mk hm2 hh (by omega), .inr rfl⟩
set_option maxRecDepth 4000 in
set_option maxHeartbeats 3200000 in
theorem impl_CoastsFor (xo yo po qo so to ho mo : Int) (w : World) : Calls Try.prog 25 #[.agg #[.int .i64 xo, .int .i64 yo, .int .i64 po, .int .i64 qo, .int .i64 so, .int .i64 to, .int .i64 ho, .int .i64 mo]] w fun e w' => e = .returned (.tuple #[.int .i64 (fCoasts ⟨xo, yo, po, qo, so, to, ho, mo⟩).1, .int .i64 (fCoasts ⟨xo, yo, po, qo, so, to, ho, mo⟩).2]) ∧ Below w.heap.size w w' := by
  cases hb : trB xo yo po qo so to ho mo
  · have ef : fCoasts ⟨xo, yo, po, qo, so, to, ho, mo⟩ = (0, 1) := by simp [fCoasts, hb]
    rw [ef]
    go_enter Try.func25, Try.ntmps25
    repeat' (first | fail | go_values | go_skip | go_guarded | go_step | go_upon | (simp only []; go_step) | (go_ite <;> go_prune <;> (try go_simp)))
    refine (impl_IsTrail _ _ _ _ _ _ _ _ _).mono ?_; rintro e w1 ⟨rfl, hbw1⟩; have hzw1 := hbw1.size; (try simp only [World.size_alloc, World.size_setCell, World.size_drew] at hzw1); have hs1 : w.heap.size < w1.heap.size := (by omega); have q1 := bx_id (w := w1) (X := w.heap.size) (o := 0) (by exact bxc); (try simp only [List.getElem_toArray, List.getElem_cons_succ, List.getElem_cons_zero] at q1); have q1 := bx_id (w := w1) (X := w.heap.size) (o := 1) (by exact bxc); (try simp only [List.getElem_toArray, List.getElem_cons_succ, List.getElem_cons_zero] at q1); have q1 := bx_id (w := w1) (X := w.heap.size) (o := 2) (by exact bxc); (try simp only [List.getElem_toArray, List.getElem_cons_succ, List.getElem_cons_zero] at q1); have q1 := bx_id (w := w1) (X := w.heap.size) (o := 3) (by exact bxc); (try simp only [List.getElem_toArray, List.getElem_cons_succ, List.getElem_cons_zero] at q1); have q1 := bx_id (w := w1) (X := w.heap.size) (o := 4) (by exact bxc); (try simp only [List.getElem_toArray, List.getElem_cons_succ, List.getElem_cons_zero] at q1); have q1 := bx_id (w := w1) (X := w.heap.size) (o := 5) (by exact bxc); (try simp only [List.getElem_toArray, List.getElem_cons_succ, List.getElem_cons_zero] at q1); have q1 := bx_id (w := w1) (X := w.heap.size) (o := 6) (by exact bxc); (try simp only [List.getElem_toArray, List.getElem_cons_succ, List.getElem_cons_zero] at q1); have q1 := bx_id (w := w1) (X := w.heap.size) (o := 7) (by exact bxc); (try simp only [List.getElem_toArray, List.getElem_cons_succ, List.getElem_cons_zero] at q1); have z1 : ∀ o, w1.frozen? ⟨w.heap.size, o, none⟩ = false := (by exact bxm)
    rw [hb]
    repeat' (first | fail | go_values | go_skip | go_guarded | go_step | go_upon | (simp only []; go_step) | (go_ite <;> go_prune <;> (try go_simp)))
    all_goals go_returns
    all_goals exact ⟨rfl, by exact bgr⟩
  · have ef : fCoasts ⟨xo, yo, po, qo, so, to, ho, mo⟩ = ((coN 5 ⟨xo, yo, po, qo, so, to, ho, mo⟩ : Int), 0) := by simp [fCoasts, hb]
    rw [ef]
    generalize hN : coN 5 ⟨xo, yo, po, qo, so, to, ho, mo⟩ = N
    go_enter Try.func25, Try.ntmps25
    repeat' (first | fail | go_values | go_skip | go_guarded | go_step | go_upon | (simp only []; go_step) | (go_ite <;> go_prune <;> (try go_simp)))
    refine (impl_IsTrail _ _ _ _ _ _ _ _ _).mono ?_; rintro e w1 ⟨rfl, hbw1⟩; have hzw1 := hbw1.size; (try simp only [World.size_alloc, World.size_setCell, World.size_drew] at hzw1); have hs1 : w.heap.size < w1.heap.size := (by omega); have q1 := bx_id (w := w1) (X := w.heap.size) (o := 0) (by exact bxc); (try simp only [List.getElem_toArray, List.getElem_cons_succ, List.getElem_cons_zero] at q1); have q1 := bx_id (w := w1) (X := w.heap.size) (o := 1) (by exact bxc); (try simp only [List.getElem_toArray, List.getElem_cons_succ, List.getElem_cons_zero] at q1); have q1 := bx_id (w := w1) (X := w.heap.size) (o := 2) (by exact bxc); (try simp only [List.getElem_toArray, List.getElem_cons_succ, List.getElem_cons_zero] at q1); have q1 := bx_id (w := w1) (X := w.heap.size) (o := 3) (by exact bxc); (try simp only [List.getElem_toArray, List.getElem_cons_succ, List.getElem_cons_zero] at q1); have q1 := bx_id (w := w1) (X := w.heap.size) (o := 4) (by exact bxc); (try simp only [List.getElem_toArray, List.getElem_cons_succ, List.getElem_cons_zero] at q1); have q1 := bx_id (w := w1) (X := w.heap.size) (o := 5) (by exact bxc); (try simp only [List.getElem_toArray, List.getElem_cons_succ, List.getElem_cons_zero] at q1); have q1 := bx_id (w := w1) (X := w.heap.size) (o := 6) (by exact bxc); (try simp only [List.getElem_toArray, List.getElem_cons_succ, List.getElem_cons_zero] at q1); have q1 := bx_id (w := w1) (X := w.heap.size) (o := 7) (by exact bxc); (try simp only [List.getElem_toArray, List.getElem_cons_succ, List.getElem_cons_zero] at q1); have z1 : ∀ o, w1.frozen? ⟨w.heap.size, o, none⟩ = false := (by exact bxm)
    rw [hb]
    repeat' (first | fail | go_values | go_skip | go_guarded | go_step | go_upon | (simp only []; go_step) | (go_ite <;> go_prune <;> (try go_simp)))

    go_loopw [4] (fun c wr => ∃ (k : Nat) (x y p q s t h m : Int), c = .int .i64 k ∧ TrAt wr w.heap.size ⟨x, y, p, q, s, t, h, m⟩ ∧ trB x y p q s t h m = true ∧ (t = 2 ∨ (k : Int) ≤ m) ∧ k ≤ 5 ∧ Hid (k + coN (5 - k) ⟨x, y, p, q, s, t, h, m⟩ = N) ∧ Below w.heap.size w wr ∧ w.heap.size + 1 ≤ wr.heap.size) (fun c _ => 5 - (intOf c).toNat)
    case atStart => exact ⟨0, xo, yo, po, qo, so, to, ho, mo, rfl, ⟨by assumption, by assumption, by assumption, by assumption, by assumption, by assumption, by assumption, by assumption, by assumption⟩, hb, by have := (tr_facts hb).2.2.2.2.2.2; omega, by omega, by simpa [Hid] using hN, by exact bgr, by omega⟩
    case round =>
      obtain ⟨k, x, y, p, q, s, t, h, m, rfl, ⟨c0, c1, c2, c3, c4, c5, c6, c7, z⟩, hb2, hkm, hk5, hH, hbr, hsz⟩ := hrel
      have hfa := tr_facts hb2
      obtain ⟨hx, hy, hp, hq, hs, hh, hst⟩ := hfa
      by_cases ht : t = 2
      · subst ht
        have e : k = N := by have := hH.out; rw [coN_lost rfl] at this; omega
        subst e
        repeat' (first | fail | go_values | go_skip | go_guarded | go_step | go_upon | (simp only []; go_step) | (go_ite <;> go_prune <;> (try go_simp)))
        all_goals go_returns
        all_goals exact ⟨rfl, by exact bgr⟩
      · have e1 : (t != 2) = true := by simpa using ht
        have hkm' : (k : Int) ≤ m := by omega
        rcases hf : fCoast ⟨x, y, p, q, s, t, h, m⟩ with ⟨xv, yv, pv, qv, sv, tv, hv, mv⟩
        have hst2 := coast_ok hb2 ht hf
        have hN2 := Lib.hid (coN_step (k := k) ht (by omega) hf hH.out)
        rcases hmv : fMoved ⟨x, y, p, q, s, t, h, m⟩ with ⟨xz, yz, pz, qz, sz, tz, hz, mz⟩
        have em : Hid (mz = m) := by have := moved_m ⟨x, y, p, q, s, t, h, m⟩; rw [hmv] at this; exact this
        have hf' : fMiss ⟨xz, yz, pz, qz, sz, tz, hz, mz⟩ = ⟨xv, yv, pv, qv, sv, tv, hv, mv⟩ := by rw [fCoast, hmv] at hf; exact hf
        have hfH := Lib.hid hf'
        have hmH := Lib.hid hmv
        clear hf hf' hmv
        repeat' (first | fail | go_values | go_skip | go_guarded | go_step | go_upon | (simp only []; go_step) | (go_ite <;> go_prune <;> (try go_simp)))
        refine (impl_moved x y p q s t h m xz yz pz qz sz tz hz mz _ hb2 hmH.out).mono ?_; rintro e w2 ⟨rfl, hbw2⟩; have hzw2 := hbw2.size; (try simp only [World.size_alloc, World.size_setCell, World.size_drew] at hzw2); have hs1 : w.heap.size < w2.heap.size := (by omega); have q1 := bx_id (w := w2) (X := w.heap.size) (o := 0) (by exact bxc); (try simp only [List.getElem_toArray, List.getElem_cons_succ, List.getElem_cons_zero] at q1); have q1 := bx_id (w := w2) (X := w.heap.size) (o := 1) (by exact bxc); (try simp only [List.getElem_toArray, List.getElem_cons_succ, List.getElem_cons_zero] at q1); have q1 := bx_id (w := w2) (X := w.heap.size) (o := 2) (by exact bxc); (try simp only [List.getElem_toArray, List.getElem_cons_succ, List.getElem_cons_zero] at q1); have q1 := bx_id (w := w2) (X := w.heap.size) (o := 3) (by exact bxc); (try simp only [List.getElem_toArray, List.getElem_cons_succ, List.getElem_cons_zero] at q1); have q1 := bx_id (w := w2) (X := w.heap.size) (o := 4) (by exact bxc); (try simp only [List.getElem_toArray, List.getElem_cons_succ, List.getElem_cons_zero] at q1); have q1 := bx_id (w := w2) (X := w.heap.size) (o := 5) (by exact bxc); (try simp only [List.getElem_toArray, List.getElem_cons_succ, List.getElem_cons_zero] at q1); have q1 := bx_id (w := w2) (X := w.heap.size) (o := 6) (by exact bxc); (try simp only [List.getElem_toArray, List.getElem_cons_succ, List.getElem_cons_zero] at q1); have q1 := bx_id (w := w2) (X := w.heap.size) (o := 7) (by exact bxc); (try simp only [List.getElem_toArray, List.getElem_cons_succ, List.getElem_cons_zero] at q1); have z1 : ∀ o, w2.frozen? ⟨w.heap.size, o, none⟩ = false := (by exact bxm)
        repeat' (first | fail | go_values | go_skip | go_guarded | go_step | go_upon | (simp only []; go_step) | (go_ite <;> go_prune <;> (try go_simp)))
        refine (impl_miss xz yz pz qz sz tz hz mz xv yv pv qv sv tv hv mv _ (by have := em.out; omega) hfH.out).mono ?_; rintro e w3 ⟨rfl, hbw3⟩; have hzw3 := hbw3.size; (try simp only [World.size_alloc, World.size_setCell, World.size_drew] at hzw3); have hs1 : w.heap.size < w3.heap.size := (by omega); have q1 := bx_id (w := w3) (X := w.heap.size) (o := 0) (by exact bxc); (try simp only [List.getElem_toArray, List.getElem_cons_succ, List.getElem_cons_zero] at q1); have q1 := bx_id (w := w3) (X := w.heap.size) (o := 1) (by exact bxc); (try simp only [List.getElem_toArray, List.getElem_cons_succ, List.getElem_cons_zero] at q1); have q1 := bx_id (w := w3) (X := w.heap.size) (o := 2) (by exact bxc); (try simp only [List.getElem_toArray, List.getElem_cons_succ, List.getElem_cons_zero] at q1); have q1 := bx_id (w := w3) (X := w.heap.size) (o := 3) (by exact bxc); (try simp only [List.getElem_toArray, List.getElem_cons_succ, List.getElem_cons_zero] at q1); have q1 := bx_id (w := w3) (X := w.heap.size) (o := 4) (by exact bxc); (try simp only [List.getElem_toArray, List.getElem_cons_succ, List.getElem_cons_zero] at q1); have q1 := bx_id (w := w3) (X := w.heap.size) (o := 5) (by exact bxc); (try simp only [List.getElem_toArray, List.getElem_cons_succ, List.getElem_cons_zero] at q1); have q1 := bx_id (w := w3) (X := w.heap.size) (o := 6) (by exact bxc); (try simp only [List.getElem_toArray, List.getElem_cons_succ, List.getElem_cons_zero] at q1); have q1 := bx_id (w := w3) (X := w.heap.size) (o := 7) (by exact bxc); (try simp only [List.getElem_toArray, List.getElem_cons_succ, List.getElem_cons_zero] at q1); have z1 : ∀ o, w3.frozen? ⟨w.heap.size, o, none⟩ = false := (by exact bxm)
        repeat' (first | fail | go_values | go_skip | go_guarded | go_step | go_upon | (simp only []; go_step) | (go_ite <;> go_prune <;> (try go_simp)))
        exact ⟨⟨k + 1, xv, yv, pv, qv, sv, tv, hv, mv, by go_num, ⟨by exact bxc, by exact bxc, by exact bxc, by exact bxc, by exact bxc, by exact bxc, by exact bxc, by exact bxc, by exact bxm⟩, hst2.1, by have := hst2.2; omega, by omega, hN2.out, by exact bgr, by simp only [World.size_setCell]; omega⟩, by simp [intOf]; omega⟩
set_option maxRecDepth 4000 in
set_option maxHeartbeats 3200000 in
theorem spec_CoastsFor (xo yo po qo so to ho mo : Int) (w : World) : Calls Try.prog 26 #[.agg #[.int .i64 xo, .int .i64 yo, .int .i64 po, .int .i64 qo, .int .i64 so, .int .i64 to, .int .i64 ho, .int .i64 mo]] w fun e w' => e = .returned (.tuple #[.int .i64 (fCoasts ⟨xo, yo, po, qo, so, to, ho, mo⟩).1, .int .i64 (fCoasts ⟨xo, yo, po, qo, so, to, ho, mo⟩).2]) ∧ Below w.heap.size w w' := by
  cases hb : trB xo yo po qo so to ho mo
  · have ef : fCoasts ⟨xo, yo, po, qo, so, to, ho, mo⟩ = (0, 1) := by simp [fCoasts, hb]
    rw [ef]
    go_enter Try.func26, Try.ntmps26
    repeat' (first | fail | go_values | go_skip | go_guarded | go_step | go_upon | (simp only []; go_step) | (go_ite <;> go_prune <;> (try go_simp)))
    refine (spec_IsTrail _ _ _ _ _ _ _ _ _).mono ?_; rintro e w1 ⟨rfl, hbw1⟩; have hzw1 := hbw1.size; (try simp only [World.size_alloc, World.size_setCell, World.size_drew] at hzw1); have hs1 : w.heap.size < w1.heap.size := (by omega); have q1 := bx_id (w := w1) (X := w.heap.size) (o := 0) (by exact bxc); (try simp only [List.getElem_toArray, List.getElem_cons_succ, List.getElem_cons_zero] at q1); have q1 := bx_id (w := w1) (X := w.heap.size) (o := 1) (by exact bxc); (try simp only [List.getElem_toArray, List.getElem_cons_succ, List.getElem_cons_zero] at q1); have q1 := bx_id (w := w1) (X := w.heap.size) (o := 2) (by exact bxc); (try simp only [List.getElem_toArray, List.getElem_cons_succ, List.getElem_cons_zero] at q1); have q1 := bx_id (w := w1) (X := w.heap.size) (o := 3) (by exact bxc); (try simp only [List.getElem_toArray, List.getElem_cons_succ, List.getElem_cons_zero] at q1); have q1 := bx_id (w := w1) (X := w.heap.size) (o := 4) (by exact bxc); (try simp only [List.getElem_toArray, List.getElem_cons_succ, List.getElem_cons_zero] at q1); have q1 := bx_id (w := w1) (X := w.heap.size) (o := 5) (by exact bxc); (try simp only [List.getElem_toArray, List.getElem_cons_succ, List.getElem_cons_zero] at q1); have q1 := bx_id (w := w1) (X := w.heap.size) (o := 6) (by exact bxc); (try simp only [List.getElem_toArray, List.getElem_cons_succ, List.getElem_cons_zero] at q1); have q1 := bx_id (w := w1) (X := w.heap.size) (o := 7) (by exact bxc); (try simp only [List.getElem_toArray, List.getElem_cons_succ, List.getElem_cons_zero] at q1); have z1 : ∀ o, w1.frozen? ⟨w.heap.size, o, none⟩ = false := (by exact bxm)
    rw [hb]
    repeat' (first | fail | go_values | go_skip | go_guarded | go_step | go_upon | (simp only []; go_step) | (go_ite <;> go_prune <;> (try go_simp)))
    all_goals go_returns
    all_goals exact ⟨rfl, by exact bgr⟩
  · have ef : fCoasts ⟨xo, yo, po, qo, so, to, ho, mo⟩ = ((coN 5 ⟨xo, yo, po, qo, so, to, ho, mo⟩ : Int), 0) := by simp [fCoasts, hb]
    rw [ef]
    generalize hN : coN 5 ⟨xo, yo, po, qo, so, to, ho, mo⟩ = N
    go_enter Try.func26, Try.ntmps26
    repeat' (first | fail | go_values | go_skip | go_guarded | go_step | go_upon | (simp only []; go_step) | (go_ite <;> go_prune <;> (try go_simp)))
    refine (spec_IsTrail _ _ _ _ _ _ _ _ _).mono ?_; rintro e w1 ⟨rfl, hbw1⟩; have hzw1 := hbw1.size; (try simp only [World.size_alloc, World.size_setCell, World.size_drew] at hzw1); have hs1 : w.heap.size < w1.heap.size := (by omega); have q1 := bx_id (w := w1) (X := w.heap.size) (o := 0) (by exact bxc); (try simp only [List.getElem_toArray, List.getElem_cons_succ, List.getElem_cons_zero] at q1); have q1 := bx_id (w := w1) (X := w.heap.size) (o := 1) (by exact bxc); (try simp only [List.getElem_toArray, List.getElem_cons_succ, List.getElem_cons_zero] at q1); have q1 := bx_id (w := w1) (X := w.heap.size) (o := 2) (by exact bxc); (try simp only [List.getElem_toArray, List.getElem_cons_succ, List.getElem_cons_zero] at q1); have q1 := bx_id (w := w1) (X := w.heap.size) (o := 3) (by exact bxc); (try simp only [List.getElem_toArray, List.getElem_cons_succ, List.getElem_cons_zero] at q1); have q1 := bx_id (w := w1) (X := w.heap.size) (o := 4) (by exact bxc); (try simp only [List.getElem_toArray, List.getElem_cons_succ, List.getElem_cons_zero] at q1); have q1 := bx_id (w := w1) (X := w.heap.size) (o := 5) (by exact bxc); (try simp only [List.getElem_toArray, List.getElem_cons_succ, List.getElem_cons_zero] at q1); have q1 := bx_id (w := w1) (X := w.heap.size) (o := 6) (by exact bxc); (try simp only [List.getElem_toArray, List.getElem_cons_succ, List.getElem_cons_zero] at q1); have q1 := bx_id (w := w1) (X := w.heap.size) (o := 7) (by exact bxc); (try simp only [List.getElem_toArray, List.getElem_cons_succ, List.getElem_cons_zero] at q1); have z1 : ∀ o, w1.frozen? ⟨w.heap.size, o, none⟩ = false := (by exact bxm)
    rw [hb]
    repeat' (first | fail | go_values | go_skip | go_guarded | go_step | go_upon | (simp only []; go_step) | (go_ite <;> go_prune <;> (try go_simp)))

    go_loopw [4] (fun c wr => ∃ (k : Nat) (x y p q s t h m : Int), c = .int .i64 k ∧ TrAt wr w.heap.size ⟨x, y, p, q, s, t, h, m⟩ ∧ trB x y p q s t h m = true ∧ (t = 2 ∨ (k : Int) ≤ m) ∧ k ≤ 5 ∧ Hid (k + coN (5 - k) ⟨x, y, p, q, s, t, h, m⟩ = N) ∧ Below w.heap.size w wr ∧ w.heap.size + 1 ≤ wr.heap.size) (fun c _ => 5 - (intOf c).toNat)
    case atStart => exact ⟨0, xo, yo, po, qo, so, to, ho, mo, rfl, ⟨by assumption, by assumption, by assumption, by assumption, by assumption, by assumption, by assumption, by assumption, by assumption⟩, hb, by have := (tr_facts hb).2.2.2.2.2.2; omega, by omega, by simpa [Hid] using hN, by exact bgr, by omega⟩
    case round =>
      obtain ⟨k, x, y, p, q, s, t, h, m, rfl, ⟨c0, c1, c2, c3, c4, c5, c6, c7, z⟩, hb2, hkm, hk5, hH, hbr, hsz⟩ := hrel
      have hfa := tr_facts hb2
      obtain ⟨hx, hy, hp, hq, hs, hh, hst⟩ := hfa
      by_cases ht : t = 2
      · subst ht
        have e : k = N := by have := hH.out; rw [coN_lost rfl] at this; omega
        subst e
        repeat' (first | fail | go_values | go_skip | go_guarded | go_step | go_upon | (simp only []; go_step) | (go_ite <;> go_prune <;> (try go_simp)))
        all_goals go_returns
        all_goals exact ⟨rfl, by exact bgr⟩
      · have e1 : (t != 2) = true := by simpa using ht
        have hkm' : (k : Int) ≤ m := by omega
        rcases hf : fCoast ⟨x, y, p, q, s, t, h, m⟩ with ⟨xv, yv, pv, qv, sv, tv, hv, mv⟩
        have hst2 := coast_ok hb2 ht hf
        have hN2 := Lib.hid (coN_step (k := k) ht (by omega) hf hH.out)
        have hfH := Lib.hid hf
        clear hf
        repeat' (first | fail | go_values | go_skip | go_guarded | go_step | go_upon | (simp only []; go_step) | (go_ite <;> go_prune <;> (try go_simp)))
        refine (spec_coast x y p q s t h m xv yv pv qv sv tv hv mv _ hb2 hfH.out).mono ?_; rintro e w2 ⟨rfl, hbw2⟩; have hzw2 := hbw2.size; (try simp only [World.size_alloc, World.size_setCell, World.size_drew] at hzw2); have hs1 : w.heap.size < w2.heap.size := (by omega); have q1 := bx_id (w := w2) (X := w.heap.size) (o := 0) (by exact bxc); (try simp only [List.getElem_toArray, List.getElem_cons_succ, List.getElem_cons_zero] at q1); have q1 := bx_id (w := w2) (X := w.heap.size) (o := 1) (by exact bxc); (try simp only [List.getElem_toArray, List.getElem_cons_succ, List.getElem_cons_zero] at q1); have q1 := bx_id (w := w2) (X := w.heap.size) (o := 2) (by exact bxc); (try simp only [List.getElem_toArray, List.getElem_cons_succ, List.getElem_cons_zero] at q1); have q1 := bx_id (w := w2) (X := w.heap.size) (o := 3) (by exact bxc); (try simp only [List.getElem_toArray, List.getElem_cons_succ, List.getElem_cons_zero] at q1); have q1 := bx_id (w := w2) (X := w.heap.size) (o := 4) (by exact bxc); (try simp only [List.getElem_toArray, List.getElem_cons_succ, List.getElem_cons_zero] at q1); have q1 := bx_id (w := w2) (X := w.heap.size) (o := 5) (by exact bxc); (try simp only [List.getElem_toArray, List.getElem_cons_succ, List.getElem_cons_zero] at q1); have q1 := bx_id (w := w2) (X := w.heap.size) (o := 6) (by exact bxc); (try simp only [List.getElem_toArray, List.getElem_cons_succ, List.getElem_cons_zero] at q1); have q1 := bx_id (w := w2) (X := w.heap.size) (o := 7) (by exact bxc); (try simp only [List.getElem_toArray, List.getElem_cons_succ, List.getElem_cons_zero] at q1); have z1 : ∀ o, w2.frozen? ⟨w.heap.size, o, none⟩ = false := (by exact bxm)
        repeat' (first | fail | go_values | go_skip | go_guarded | go_step | go_upon | (simp only []; go_step) | (go_ite <;> go_prune <;> (try go_simp)))
        exact ⟨⟨k + 1, xv, yv, pv, qv, sv, tv, hv, mv, by go_num, ⟨by exact bxc, by exact bxc, by exact bxc, by exact bxc, by exact bxc, by exact bxc, by exact bxc, by exact bxc, by exact bxm⟩, hst2.1, by have := hst2.2; omega, by omega, hN2.out, by exact bgr, by simp only [World.size_setCell]; omega⟩, by simp [intOf]; omega⟩
end Go.Proofs.Ytcglljjhokffeaa
