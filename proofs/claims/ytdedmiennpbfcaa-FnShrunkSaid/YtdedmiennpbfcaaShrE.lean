/- Shrunk mosaics: contracts of both ShrinkMosaic, all ways. -/
import Derived.Test.YtdedmiennpbfcaaShrD
namespace Go.Proofs.Ytdedmiennpbfcaa
open Go.RowKit Go.ChangeShapes Go.WideShapes Go.ChangeAt
set_option linter.unusedVariables false
set_option linter.unusedSimpArgs false
def okSh (p q k : Int) (xs ys : List Int) : Bool := mosB p q xs ys && inB k 1 40
def cSh (p q k : Int) (xs ys : List Int) : Int := if mosB p q xs ys then (if inB k 1 40 then 0 else 2) else 1
def aSh (p q k : Int) (xs ys : List Int) (a : Int) : Int := if okSh p q k xs ys then (cdn a.toNat k.toNat : Int) else 0
def vSh (p q k : Int) (xs ys : List Int) : List Int := if okSh p q k xs ys then shV p.toNat q.toNat k.toNat xs ys (cdn p.toNat k.toNat * cdn q.toNat k.toNat) else []
def gSh (p q k : Int) (xs ys : List Int) : List Int := if okSh p q k xs ys then shG p.toNat q.toNat k.toNat xs ys (cdn p.toNat k.toNat * cdn q.toNat k.toNat) else []
theorem sh_len {p q k : Int} {xs ys : List Int} : (vSh p q k xs ys).length ≤ 1600 ∧ (gSh p q k xs ys).length ≤ 1600 := by
  unfold vSh gSh
  by_cases h : okSh p q k xs ys = true
  · rw [if_pos h, if_pos h, shV_len, shG_len]
    simp only [okSh, Bool.and_eq_true] at h
    obtain ⟨⟨p1, p2⟩, ⟨q1, q2⟩, _⟩ := mos_facts h.1
    have hk := of_inB h.2
    have h3 := cdn_bd (a := p.toNat) (b := k.toNat) (by omega) (by omega)
    have h4 := cdn_bd (a := q.toNat) (b := k.toNat) (by omega) (by omega)
    have := Nat.mul_le_mul h3.2 h4.2
    omega
  · rw [if_neg h, if_neg h]; simp
set_option maxHeartbeats 1600000 in
theorem impl_Shrink_all (p q k : Int) (A B : Option Addr) (c d : Nat) (xs ys : List Int) (w : World) (hr : I64 w w.heap.size A xs) (hs : I64 w w.heap.size B ys) (hl : xs.length ≤ 1099511627776) (hm : ys.length ≤ 1099511627776) :
    Calls Try.prog 6 #[.agg #[.int .i64 p, .int .i64 q, .slice A xs.length c, .slice B ys.length d], .int .i64 k] w fun e w' => ∃ v u, e = .returned (.tuple #[.agg #[.int .i64 (aSh p q k xs ys p), .int .i64 (aSh p q k xs ys q), v, u], .int .i64 (cSh p q k xs ys)]) ∧ OwnI w' w.heap.size v (vSh p q k xs ys) ∧ OwnI w' w.heap.size u (gSh p q k xs ys) ∧ Apart2 v u ∧ Below w.heap.size w w' := by
  cases h1 : mosB p q xs ys
  · have e : okSh p q k xs ys = false := by simp [okSh, h1]
    have ec : cSh p q k xs ys = 1 := by simp [cSh, h1]
    simp only [aSh, vSh, gSh, e, ec, Bool.false_eq_true, if_false]
    go_enter Try.func6, Try.ntmps6
    repeat' (first | fail | go_values | go_skip | go_guarded | go_step | go_upon | (simp only []; go_step) | (go_ite <;> go_prune <;> (try go_simp)))
    refine (impl_IsMosaic _ _ _ _ _ _ _ _ _ (hr.up (by exact bgr)) (hs.up (by exact bgr)) hl hm).mono ?_; rintro e w1 ⟨rfl, hbw1⟩; have hzw1 := hbw1.size; (try simp only [World.size_alloc, World.size_setCell, World.size_drew] at hzw1); have hs1 : w.heap.size < w1.heap.size := (by omega); have q1 := bx_id (w := w1) (X := w.heap.size) (o := 0) (by exact bxc); (try simp only [List.getElem_toArray, List.getElem_cons_succ, List.getElem_cons_zero] at q1); have q1 := bx_id (w := w1) (X := w.heap.size) (o := 1) (by exact bxc); (try simp only [List.getElem_toArray, List.getElem_cons_succ, List.getElem_cons_zero] at q1); have q1 := bx_id (w := w1) (X := w.heap.size) (o := 2) (by exact bxc); (try simp only [List.getElem_toArray, List.getElem_cons_succ, List.getElem_cons_zero] at q1); have q1 := bx_id (w := w1) (X := w.heap.size) (o := 3) (by exact bxc); (try simp only [List.getElem_toArray, List.getElem_cons_succ, List.getElem_cons_zero] at q1); have z1 : ∀ o, w1.frozen? ⟨w.heap.size, o, none⟩ = false := (by exact bxm); have hs1 : w.heap.size + 1 < w1.heap.size := (by omega); have q1 := bx_id (w := w1) (X := w.heap.size + 1) (o := 0) (by exact bxc); (try simp only [List.getElem_toArray, List.getElem_cons_succ, List.getElem_cons_zero] at q1); have q1 := bx_id (w := w1) (X := w.heap.size + 1) (o := 1) (by exact bxc); (try simp only [List.getElem_toArray, List.getElem_cons_succ, List.getElem_cons_zero] at q1); have q1 := bx_id (w := w1) (X := w.heap.size + 1) (o := 2) (by exact bxc); (try simp only [List.getElem_toArray, List.getElem_cons_succ, List.getElem_cons_zero] at q1); have q1 := bx_id (w := w1) (X := w.heap.size + 1) (o := 3) (by exact bxc); (try simp only [List.getElem_toArray, List.getElem_cons_succ, List.getElem_cons_zero] at q1); have z1 : ∀ o, w1.frozen? ⟨w.heap.size + 1, o, none⟩ = false := (by exact bxm)
    rw [h1]
    repeat' (first | (first | (go_at_call 17; refine (impl_isMosaicSide _ _).mono ?_; rintro e w' ⟨rfl, rfl⟩)) | go_values | go_skip | go_guarded | go_step | go_upon | (simp only []; go_step) | (go_ite <;> go_prune <;> (try go_simp)))
    ((try simp only [Exit.inBlock, Exit.then]); refine bodyPost_ret (by simp [results, Try.results6, go_sem, *]; try rfl) rfl ?_)
    exact ⟨_, _, rfl, OwnI.nil _ _, OwnI.nil _ _, .inl rfl, by exact bgr⟩
  · cases h2 : inB k 1 40
    · have e : okSh p q k xs ys = false := by simp [okSh, h2]
      have ec : cSh p q k xs ys = 2 := by simp [cSh, h1, h2]
      simp only [aSh, vSh, gSh, e, ec, Bool.false_eq_true, if_false]
      go_enter Try.func6, Try.ntmps6
      repeat' (first | fail | go_values | go_skip | go_guarded | go_step | go_upon | (simp only []; go_step) | (go_ite <;> go_prune <;> (try go_simp)))
      refine (impl_IsMosaic _ _ _ _ _ _ _ _ _ (hr.up (by exact bgr)) (hs.up (by exact bgr)) hl hm).mono ?_; rintro e w1 ⟨rfl, hbw1⟩; have hzw1 := hbw1.size; (try simp only [World.size_alloc, World.size_setCell, World.size_drew] at hzw1); have hs1 : w.heap.size < w1.heap.size := (by omega); have q1 := bx_id (w := w1) (X := w.heap.size) (o := 0) (by exact bxc); (try simp only [List.getElem_toArray, List.getElem_cons_succ, List.getElem_cons_zero] at q1); have q1 := bx_id (w := w1) (X := w.heap.size) (o := 1) (by exact bxc); (try simp only [List.getElem_toArray, List.getElem_cons_succ, List.getElem_cons_zero] at q1); have q1 := bx_id (w := w1) (X := w.heap.size) (o := 2) (by exact bxc); (try simp only [List.getElem_toArray, List.getElem_cons_succ, List.getElem_cons_zero] at q1); have q1 := bx_id (w := w1) (X := w.heap.size) (o := 3) (by exact bxc); (try simp only [List.getElem_toArray, List.getElem_cons_succ, List.getElem_cons_zero] at q1); have z1 : ∀ o, w1.frozen? ⟨w.heap.size, o, none⟩ = false := (by exact bxm); have hs1 : w.heap.size + 1 < w1.heap.size := (by omega); have q1 := bx_id (w := w1) (X := w.heap.size + 1) (o := 0) (by exact bxc); (try simp only [List.getElem_toArray, List.getElem_cons_succ, List.getElem_cons_zero] at q1); have q1 := bx_id (w := w1) (X := w.heap.size + 1) (o := 1) (by exact bxc); (try simp only [List.getElem_toArray, List.getElem_cons_succ, List.getElem_cons_zero] at q1); have q1 := bx_id (w := w1) (X := w.heap.size + 1) (o := 2) (by exact bxc); (try simp only [List.getElem_toArray, List.getElem_cons_succ, List.getElem_cons_zero] at q1); have q1 := bx_id (w := w1) (X := w.heap.size + 1) (o := 3) (by exact bxc); (try simp only [List.getElem_toArray, List.getElem_cons_succ, List.getElem_cons_zero] at q1); have z1 : ∀ o, w1.frozen? ⟨w.heap.size + 1, o, none⟩ = false := (by exact bxm)
      rw [h1]
      repeat' (first | (first | (go_at_call 17; refine (impl_isMosaicSide _ _).mono ?_; rintro e w' ⟨rfl, rfl⟩)) | go_values | go_skip | go_guarded | go_step | go_upon | (simp only []; go_step) | (go_ite <;> go_prune <;> (try go_simp)))
      ((try simp only [Exit.inBlock, Exit.then]); refine bodyPost_ret (by simp [results, Try.results6, go_sem, *]; try rfl) rfl ?_)
      exact ⟨_, _, rfl, OwnI.nil _ _, OwnI.nil _ _, .inl rfl, by exact bgr⟩
    · have e : okSh p q k xs ys = true := by simp [okSh, h1, h2]
      have ec : cSh p q k xs ys = 0 := by simp [cSh, h1, h2]
      simp only [aSh, vSh, gSh, e, ec, if_true]
      obtain ⟨⟨p1, p2⟩, ⟨q1, q2⟩, _⟩ := mos_facts h1
      have hk := of_inB h2
      obtain ⟨P, rfl⟩ := Int.eq_ofNat_of_zero_le (show 0 ≤ p by omega)
      obtain ⟨Q, rfl⟩ := Int.eq_ofNat_of_zero_le (show 0 ≤ q by omega)
      obtain ⟨K, rfl⟩ := Int.eq_ofNat_of_zero_le (show 0 ≤ k by omega)
      simp only [Int.toNat_natCast]
      exact impl_Shrink_ok P Q K _ A B c d xs ys w hr hs h1 (by omega) rfl
set_option maxHeartbeats 1600000 in
theorem spec_Shrink_all (p q k : Int) (A B : Option Addr) (c d : Nat) (xs ys : List Int) (w : World) (hr : I64 w w.heap.size A xs) (hs : I64 w w.heap.size B ys) (hl : xs.length ≤ 1099511627776) (hm : ys.length ≤ 1099511627776) :
    Calls Try.prog 7 #[.agg #[.int .i64 p, .int .i64 q, .slice A xs.length c, .slice B ys.length d], .int .i64 k] w fun e w' => ∃ v u, e = .returned (.tuple #[.agg #[.int .i64 (aSh p q k xs ys p), .int .i64 (aSh p q k xs ys q), v, u], .int .i64 (cSh p q k xs ys)]) ∧ OwnI w' w.heap.size v (vSh p q k xs ys) ∧ OwnI w' w.heap.size u (gSh p q k xs ys) ∧ Below w.heap.size w w' := by
  cases h1 : mosB p q xs ys
  · have e : okSh p q k xs ys = false := by simp [okSh, h1]
    have ec : cSh p q k xs ys = 1 := by simp [cSh, h1]
    simp only [aSh, vSh, gSh, e, ec, Bool.false_eq_true, if_false]
    go_enter Try.func7, Try.ntmps7
    repeat' (first | fail | go_values | go_skip | go_guarded | go_step | go_upon | (simp only []; go_step) | (go_ite <;> go_prune <;> (try go_simp)))
    refine (spec_IsMosaic _ _ _ _ _ _ _ _ _ (hr.up (by exact bgr)) (hs.up (by exact bgr)) hl hm).mono ?_; rintro e w1 ⟨rfl, hbw1⟩; have hzw1 := hbw1.size; (try simp only [World.size_alloc, World.size_setCell, World.size_drew] at hzw1); have hs1 : w.heap.size < w1.heap.size := (by omega); have q1 := bx_id (w := w1) (X := w.heap.size) (o := 0) (by exact bxc); (try simp only [List.getElem_toArray, List.getElem_cons_succ, List.getElem_cons_zero] at q1); have q1 := bx_id (w := w1) (X := w.heap.size) (o := 1) (by exact bxc); (try simp only [List.getElem_toArray, List.getElem_cons_succ, List.getElem_cons_zero] at q1); have q1 := bx_id (w := w1) (X := w.heap.size) (o := 2) (by exact bxc); (try simp only [List.getElem_toArray, List.getElem_cons_succ, List.getElem_cons_zero] at q1); have q1 := bx_id (w := w1) (X := w.heap.size) (o := 3) (by exact bxc); (try simp only [List.getElem_toArray, List.getElem_cons_succ, List.getElem_cons_zero] at q1); have z1 : ∀ o, w1.frozen? ⟨w.heap.size, o, none⟩ = false := (by exact bxm); have hs1 : w.heap.size + 1 < w1.heap.size := (by omega); have q1 := bx_id (w := w1) (X := w.heap.size + 1) (o := 0) (by exact bxc); (try simp only [List.getElem_toArray, List.getElem_cons_succ, List.getElem_cons_zero] at q1); have q1 := bx_id (w := w1) (X := w.heap.size + 1) (o := 1) (by exact bxc); (try simp only [List.getElem_toArray, List.getElem_cons_succ, List.getElem_cons_zero] at q1); have q1 := bx_id (w := w1) (X := w.heap.size + 1) (o := 2) (by exact bxc); (try simp only [List.getElem_toArray, List.getElem_cons_succ, List.getElem_cons_zero] at q1); have q1 := bx_id (w := w1) (X := w.heap.size + 1) (o := 3) (by exact bxc); (try simp only [List.getElem_toArray, List.getElem_cons_succ, List.getElem_cons_zero] at q1); have z1 : ∀ o, w1.frozen? ⟨w.heap.size + 1, o, none⟩ = false := (by exact bxm)
    rw [h1]
    repeat' (first | (first | (go_at_call 22; refine (spec_l01In _ _ _ _).mono ?_; rintro e w' ⟨rfl, rfl⟩)) | go_values | go_skip | go_guarded | go_step | go_upon | (simp only []; go_step) | (go_ite <;> go_prune <;> (try go_simp)))
    ((try simp only [Exit.inBlock, Exit.then]); refine bodyPost_ret (by simp [results, Try.results7, go_sem, *]; try rfl) rfl ?_)
    exact ⟨_, _, rfl, OwnI.nil _ _, OwnI.nil _ _, by exact bgr⟩
  · cases h2 : inB k 1 40
    · have e : okSh p q k xs ys = false := by simp [okSh, h2]
      have ec : cSh p q k xs ys = 2 := by simp [cSh, h1, h2]
      simp only [aSh, vSh, gSh, e, ec, Bool.false_eq_true, if_false]
      go_enter Try.func7, Try.ntmps7
      repeat' (first | fail | go_values | go_skip | go_guarded | go_step | go_upon | (simp only []; go_step) | (go_ite <;> go_prune <;> (try go_simp)))
      refine (spec_IsMosaic _ _ _ _ _ _ _ _ _ (hr.up (by exact bgr)) (hs.up (by exact bgr)) hl hm).mono ?_; rintro e w1 ⟨rfl, hbw1⟩; have hzw1 := hbw1.size; (try simp only [World.size_alloc, World.size_setCell, World.size_drew] at hzw1); have hs1 : w.heap.size < w1.heap.size := (by omega); have q1 := bx_id (w := w1) (X := w.heap.size) (o := 0) (by exact bxc); (try simp only [List.getElem_toArray, List.getElem_cons_succ, List.getElem_cons_zero] at q1); have q1 := bx_id (w := w1) (X := w.heap.size) (o := 1) (by exact bxc); (try simp only [List.getElem_toArray, List.getElem_cons_succ, List.getElem_cons_zero] at q1); have q1 := bx_id (w := w1) (X := w.heap.size) (o := 2) (by exact bxc); (try simp only [List.getElem_toArray, List.getElem_cons_succ, List.getElem_cons_zero] at q1); have q1 := bx_id (w := w1) (X := w.heap.size) (o := 3) (by exact bxc); (try simp only [List.getElem_toArray, List.getElem_cons_succ, List.getElem_cons_zero] at q1); have z1 : ∀ o, w1.frozen? ⟨w.heap.size, o, none⟩ = false := (by exact bxm); have hs1 : w.heap.size + 1 < w1.heap.size := (by omega); have q1 := bx_id (w := w1) (X := w.heap.size + 1) (o := 0) (by exact bxc); (try simp only [List.getElem_toArray, List.getElem_cons_succ, List.getElem_cons_zero] at q1); have q1 := bx_id (w := w1) (X := w.heap.size + 1) (o := 1) (by exact bxc); (try simp only [List.getElem_toArray, List.getElem_cons_succ, List.getElem_cons_zero] at q1); have q1 := bx_id (w := w1) (X := w.heap.size + 1) (o := 2) (by exact bxc); (try simp only [List.getElem_toArray, List.getElem_cons_succ, List.getElem_cons_zero] at q1); have q1 := bx_id (w := w1) (X := w.heap.size + 1) (o := 3) (by exact bxc); (try simp only [List.getElem_toArray, List.getElem_cons_succ, List.getElem_cons_zero] at q1); have z1 : ∀ o, w1.frozen? ⟨w.heap.size + 1, o, none⟩ = false := (by exact bxm)
      rw [h1]
      repeat' (first | (first | (go_at_call 22; refine (spec_l01In _ _ _ _).mono ?_; rintro e w' ⟨rfl, rfl⟩)) | go_values | go_skip | go_guarded | go_step | go_upon | (simp only []; go_step) | (go_ite <;> go_prune <;> (try go_simp)))
      ((try simp only [Exit.inBlock, Exit.then]); refine bodyPost_ret (by simp [results, Try.results7, go_sem, *]; try rfl) rfl ?_)
      exact ⟨_, _, rfl, OwnI.nil _ _, OwnI.nil _ _, by exact bgr⟩
    · have e : okSh p q k xs ys = true := by simp [okSh, h1, h2]
      have ec : cSh p q k xs ys = 0 := by simp [cSh, h1, h2]
      simp only [aSh, vSh, gSh, e, ec, if_true]
      obtain ⟨⟨p1, p2⟩, ⟨q1, q2⟩, _⟩ := mos_facts h1
      have hk := of_inB h2
      obtain ⟨P, rfl⟩ := Int.eq_ofNat_of_zero_le (show 0 ≤ p by omega)
      obtain ⟨Q, rfl⟩ := Int.eq_ofNat_of_zero_le (show 0 ≤ q by omega)
      obtain ⟨K, rfl⟩ := Int.eq_ofNat_of_zero_le (show 0 ≤ k by omega)
      simp only [Int.toNat_natCast]
      exact spec_Shrink_ok P Q K _ A B c d xs ys w hr hs h1 (by omega) rfl
end Go.Proofs.Ytdedmiennpbfcaa
