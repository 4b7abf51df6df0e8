/- New mosaics: contracts of both NewMosaic. -/
import Derived.Test.YthnnnhjhgjbmcaaNewA
import Derived.Test.YthnnnhjhgjbmcaaNewS
namespace Go.Proofs.Ythnnnhjhgjbmcaa
open Go.RowKit Go.ChangeShapes Go.WideShapes Go.ChangeAt
set_option linter.unusedVariables false
set_option linter.unusedSimpArgs false
def sideB (p q : Int) : Bool := inB p 1 40 && inB q 1 40
def nmv (p q : Int) : List Int := if sideB p q then List.replicate (p * q).toNat (-1) else []
def nmg (p q : Int) : List Int := if sideB p q then List.replicate (p * q).toNat 0 else []
def nms (p q a : Int) : Int := if sideB p q then a else 0
def nmc (p q : Int) : Int := if sideB p q then 0 else 2
theorem side_facts {p q : Int} (h : sideB p q = true) : (1 ≤ p ∧ p ≤ 40) ∧ (1 ≤ q ∧ q ≤ 40) ∧ ∃ n : Nat, p * q = (n : Int) ∧ (p * q).toNat = n ∧ 1 ≤ n ∧ n ≤ 1600 := by
  simp only [sideB, Bool.and_eq_true] at h
  have h3 := side_bd h.1 h.2
  exact ⟨of_inB h.1, of_inB h.2, (p * q).toNat, by omega, rfl, by omega, by omega⟩
theorem nmv_len {p q : Int} : (nmv p q).length ≤ 1600 := by
  unfold nmv
  split
  · rename_i h; obtain ⟨_, _, n, _, e, _, h2⟩ := side_facts h; rw [e]; simpa using h2
  · simp
theorem nmg_len {p q : Int} : (nmg p q).length ≤ 1600 := by
  unfold nmg
  split
  · rename_i h; obtain ⟨_, _, n, _, e, _, h2⟩ := side_facts h; rw [e]; simpa using h2
  · simp
/-- a value of the call's own and another in a block of its own -/
def Apart2 (v u : Value) : Prop := v.ownBlock = none ∨ v.ownBlock ≠ u.ownBlock
theorem apart_nm {w : World} {base : Nat} {v u : Value} {n : Nat} (hv : OwnI w base v (List.replicate n (-1))) (hu : OwnI w base u (List.replicate n 0)) (hn : 1 ≤ n) : Apart2 v u := by
  obtain ⟨m, rfl⟩ : ∃ m, n = m + 1 := ⟨n - 1, by omega⟩
  rw [List.replicate_succ] at hv hu
  obtain ⟨A, c, rfl, _⟩ := id hu
  obtain ⟨g, rfl, _, hc, _⟩ := hu.cell (k := 0) (x := 0) rfl
  exact .inr fun e => own_ne_cell hv hc (by simp) (e.trans (by simp [Value.ownBlock]))
theorem impl_NewMosaic (p q : Int) (w : World) : Calls Try.prog 20 #[.int .i64 p, .int .i64 q] w fun e w' => ∃ v u, e = .returned (.tuple #[.agg #[.int .i64 (nms p q p), .int .i64 (nms p q q), v, u], .int .i64 (nmc p q)]) ∧ OwnI w' w.heap.size v (nmv p q) ∧ OwnI w' w.heap.size u (nmg p q) ∧ Apart2 v u ∧ Below w.heap.size w w' := by
  cases h1 : inB p 1 40
  · have e : sideB p q = false := by simp [sideB, h1]
    simp only [nms, nmc, nmv, nmg, e, Bool.false_eq_true, if_false]
    go_enter Try.func20, Try.ntmps20
    repeat' (first | (first | (go_at_call 52; refine (impl_isMosaicSide _ _).mono ?_; rintro e w' ⟨rfl, rfl⟩)) | go_values | go_skip | go_guarded | go_step | go_upon | (simp only []; go_step) | (go_ite <;> go_prune <;> (try go_simp)))
    ((try simp only [Exit.inBlock, Exit.then]); refine bodyPost_ret (by simp [results, Try.results20, go_sem, *]; try rfl) rfl ?_)
    exact ⟨_, _, rfl, OwnI.nil _ _, OwnI.nil _ _, .inl rfl, by repeat' (first | (with_reducible exact Below.refl _ _) | (with_reducible assumption) | (with_reducible refine Below.new ?_ _) | (with_reducible refine Below.alloc ?_ ?_ _) | (with_reducible refine Below.drew ?_) | (with_reducible refine below_drewN ?_ _) | (with_reducible refine Below.setCell ?_ ?_ _) | (refine Below.next ?_ (by with_reducible assumption)) | (refine Below.row ?_ (by with_reducible assumption) (by omega)) | (refine Below.trans ?_ (by with_reducible assumption)) | (refine Below.after ?_ ?_ (by with_reducible assumption)) | go_size)⟩
  · cases h2 : inB q 1 40
    · have e : sideB p q = false := by simp [sideB, h1, h2]
      simp only [nms, nmc, nmv, nmg, e, Bool.false_eq_true, if_false]
      go_enter Try.func20, Try.ntmps20
      repeat' (first | (first | (go_at_call 52; refine (impl_isMosaicSide _ _).mono ?_; rintro e w' ⟨rfl, rfl⟩)) | go_values | go_skip | go_guarded | go_step | go_upon | (simp only []; go_step) | (go_ite <;> go_prune <;> (try go_simp)))
      ((try simp only [Exit.inBlock, Exit.then]); refine bodyPost_ret (by simp [results, Try.results20, go_sem, *]; try rfl) rfl ?_)
      exact ⟨_, _, rfl, OwnI.nil _ _, OwnI.nil _ _, .inl rfl, by repeat' (first | (with_reducible exact Below.refl _ _) | (with_reducible assumption) | (with_reducible refine Below.new ?_ _) | (with_reducible refine Below.alloc ?_ ?_ _) | (with_reducible refine Below.drew ?_) | (with_reducible refine below_drewN ?_ _) | (with_reducible refine Below.setCell ?_ ?_ _) | (refine Below.next ?_ (by with_reducible assumption)) | (refine Below.row ?_ (by with_reducible assumption) (by omega)) | (refine Below.trans ?_ (by with_reducible assumption)) | (refine Below.after ?_ ?_ (by with_reducible assumption)) | go_size)⟩
    · have e : sideB p q = true := by simp [sideB, h1, h2]
      obtain ⟨b1, b2, n, hn, hn2, n1, n2⟩ := side_facts e
      simp only [nms, nmc, nmv, nmg, e, if_true, hn2]
      have hnH := Lib.hid hn
      clear hn hn2
      go_enter Try.func20, Try.ntmps20
      repeat' (first | (first | (go_at_call 52; refine (impl_isMosaicSide _ _).mono ?_; rintro e w' ⟨rfl, rfl⟩)) | go_values | go_skip | go_guarded | go_step | go_upon | (simp only []; go_step) | (go_ite <;> go_prune <;> (try go_simp)))
      refine (impl_newMosaic p q n _ b1 b2 hnH.out n1 n2).mono ?_; rintro e w1 ⟨v, u, rfl, ov, ou, hbw1⟩; have hzw1 := hbw1.size; (try simp only [World.size_alloc, World.size_setCell, World.size_drew] at hzw1); have hs1 : w.heap.size < w1.heap.size := (by omega); have q1 := bx_id (w := w1) (X := w.heap.size) (o := 0) (by repeat' (first | (with_reducible assumption) | ((with_reducible apply bx_new) <;> first | (simp only [World.size_alloc, World.size_setCell]; done) | rfl) | (with_reducible apply bx_alloc) | (with_reducible apply bx_other; (first | (simp only [World.size_alloc, World.size_setCell]; omega) | omega)) | (with_reducible apply bx_same) | (with_reducible apply bx_drew) | (with_reducible apply bx_drew1) | (with_reducible apply bx_keep; with_reducible assumption) | fail)); (try simp only [List.getElem_toArray, List.getElem_cons_succ, List.getElem_cons_zero] at q1); have q1 := bx_id (w := w1) (X := w.heap.size) (o := 1) (by repeat' (first | (with_reducible assumption) | ((with_reducible apply bx_new) <;> first | (simp only [World.size_alloc, World.size_setCell]; done) | rfl) | (with_reducible apply bx_alloc) | (with_reducible apply bx_other; (first | (simp only [World.size_alloc, World.size_setCell]; omega) | omega)) | (with_reducible apply bx_same) | (with_reducible apply bx_drew) | (with_reducible apply bx_drew1) | (with_reducible apply bx_keep; with_reducible assumption) | fail)); (try simp only [List.getElem_toArray, List.getElem_cons_succ, List.getElem_cons_zero] at q1); have q1 := bx_id (w := w1) (X := w.heap.size) (o := 2) (by repeat' (first | (with_reducible assumption) | ((with_reducible apply bx_new) <;> first | (simp only [World.size_alloc, World.size_setCell]; done) | rfl) | (with_reducible apply bx_alloc) | (with_reducible apply bx_other; (first | (simp only [World.size_alloc, World.size_setCell]; omega) | omega)) | (with_reducible apply bx_same) | (with_reducible apply bx_drew) | (with_reducible apply bx_drew1) | (with_reducible apply bx_keep; with_reducible assumption) | fail)); (try simp only [List.getElem_toArray, List.getElem_cons_succ, List.getElem_cons_zero] at q1); have q1 := bx_id (w := w1) (X := w.heap.size) (o := 3) (by repeat' (first | (with_reducible assumption) | ((with_reducible apply bx_new) <;> first | (simp only [World.size_alloc, World.size_setCell]; done) | rfl) | (with_reducible apply bx_alloc) | (with_reducible apply bx_other; (first | (simp only [World.size_alloc, World.size_setCell]; omega) | omega)) | (with_reducible apply bx_same) | (with_reducible apply bx_drew) | (with_reducible apply bx_drew1) | (with_reducible apply bx_keep; with_reducible assumption) | fail)); (try simp only [List.getElem_toArray, List.getElem_cons_succ, List.getElem_cons_zero] at q1); have z1 : ∀ o, w1.frozen? ⟨w.heap.size, o, none⟩ = false := (by repeat' (first | (with_reducible assumption) | (with_reducible apply bm_set) | ((with_reducible apply bm_new) <;> (simp only [World.size_alloc, World.size_setCell, World.size_drew]; done)) | (with_reducible apply bm_old; (first | omega | (simp only [World.size_alloc, World.size_setCell, World.size_drew]; omega))) | (with_reducible apply bm_drew) | (with_reducible apply bm_drew1) | (with_reducible apply bm_keep; (with_reducible assumption); (first | omega | (simp only [World.size_alloc, World.size_setCell, World.size_drew]; omega))) | fail))
      have ov1 := OwnI.mono (base' := w.heap.size + 1) ov (by simp)
      have ou1 := OwnI.mono (base' := w.heap.size + 1) ou (by simp)
      have ap : Apart2 v u := apart_nm ov1 ou1 n1
      obtain ⟨Av, cv, ev, _⟩ := id ov1
      rw [List.length_replicate] at ev
      subst ev
      obtain ⟨Au, cu, eu, _⟩ := id ou1
      rw [List.length_replicate] at eu
      subst eu
      clear ov ou
      repeat' (first | fail | go_values | go_skip | go_guarded | go_step | go_upon | (simp only []; go_step) | (go_ite <;> go_prune <;> (try go_simp)))
      refine q_gen (fun W1 hW1 => ?_)
      have k0 := bx_id (w := W1) (X := w.heap.size) (o := 0) (v := .int .i64 p) (by rw [hW1]; repeat' (first | (with_reducible assumption) | ((with_reducible apply bx_new) <;> first | (simp only [World.size_alloc, World.size_setCell]; done) | rfl) | (with_reducible apply bx_alloc) | (with_reducible apply bx_other; (first | (simp only [World.size_alloc, World.size_setCell]; omega) | omega)) | (with_reducible apply bx_same) | (with_reducible apply bx_drew) | (with_reducible apply bx_drew1) | (with_reducible apply bx_keep; with_reducible assumption) | fail))
      have k1 := bx_id (w := W1) (X := w.heap.size) (o := 1) (v := .int .i64 q) (by rw [hW1]; repeat' (first | (with_reducible assumption) | ((with_reducible apply bx_new) <;> first | (simp only [World.size_alloc, World.size_setCell]; done) | rfl) | (with_reducible apply bx_alloc) | (with_reducible apply bx_other; (first | (simp only [World.size_alloc, World.size_setCell]; omega) | omega)) | (with_reducible apply bx_same) | (with_reducible apply bx_drew) | (with_reducible apply bx_drew1) | (with_reducible apply bx_keep; with_reducible assumption) | fail))
      have k2 := bx_id (w := W1) (X := w.heap.size) (o := 2) (by rw [hW1]; repeat' (first | (with_reducible assumption) | ((with_reducible apply bx_new) <;> first | (simp only [World.size_alloc, World.size_setCell]; done) | rfl) | (with_reducible apply bx_alloc) | (with_reducible apply bx_other; (first | (simp only [World.size_alloc, World.size_setCell]; omega) | omega)) | (with_reducible apply bx_same) | (with_reducible apply bx_drew) | (with_reducible apply bx_drew1) | (with_reducible apply bx_keep; with_reducible assumption) | fail))
      have k3 := bx_id (w := W1) (X := w.heap.size) (o := 3) (by rw [hW1]; repeat' (first | (with_reducible assumption) | ((with_reducible apply bx_new) <;> first | (simp only [World.size_alloc, World.size_setCell]; done) | rfl) | (with_reducible apply bx_alloc) | (with_reducible apply bx_other; (first | (simp only [World.size_alloc, World.size_setCell]; omega) | omega)) | (with_reducible apply bx_same) | (with_reducible apply bx_drew) | (with_reducible apply bx_drew1) | (with_reducible apply bx_keep; with_reducible assumption) | fail))
      have ov2 : OwnI W1 (w.heap.size + 1) (.slice Av n cv) (List.replicate n (-1)) := by rw [hW1]; repeat' (first | (with_reducible assumption) | (refine OwnI.off ?_ (by omega) _) | (refine OwnI.alloc ?_ _) | (refine OwnI.drewN ?_ _) | (refine OwnI.below ?_ (by with_reducible assumption)))
      have ou2 : OwnI W1 (w.heap.size + 1) (.slice Au n cu) (List.replicate n 0) := by rw [hW1]; repeat' (first | (with_reducible assumption) | (refine OwnI.off ?_ (by omega) _) | (refine OwnI.alloc ?_ _) | (refine OwnI.drewN ?_ _) | (refine OwnI.below ?_ (by with_reducible assumption)))
      have hB : Below w.heap.size w W1 := by rw [hW1]; repeat' (first | (with_reducible exact Below.refl _ _) | (with_reducible assumption) | (with_reducible refine Below.new ?_ _) | (with_reducible refine Below.alloc ?_ ?_ _) | (with_reducible refine Below.drew ?_) | (with_reducible refine below_drewN ?_ _) | (with_reducible refine Below.setCell ?_ ?_ _) | (refine Below.next ?_ (by with_reducible assumption)) | (refine Below.row ?_ (by with_reducible assumption) (by omega)) | (refine Below.trans ?_ (by with_reducible assumption)) | (refine Below.after ?_ ?_ (by with_reducible assumption)) | go_size)
      clear hW1
      ((try simp only [Exit.inBlock, Exit.then]); refine bodyPost_ret (by simp [results, Try.results20, go_sem, *]; try rfl) rfl ?_)
      exact ⟨_, _, rfl, ov2.mono (by omega), ou2.mono (by omega), ap, hB⟩
theorem spec_NewMosaic (p q : Int) (w : World) : Calls Try.prog 19 #[.int .i64 p, .int .i64 q] w fun e w' => ∃ v u, e = .returned (.tuple #[.agg #[.int .i64 (nms p q p), .int .i64 (nms p q q), v, u], .int .i64 (nmc p q)]) ∧ OwnI w' w.heap.size v (nmv p q) ∧ OwnI w' w.heap.size u (nmg p q) ∧ Below w.heap.size w w' := by
  cases h1 : inB p 1 40
  · have e : sideB p q = false := by simp [sideB, h1]
    simp only [nms, nmc, nmv, nmg, e, Bool.false_eq_true, if_false]
    go_enter Try.func19, Try.ntmps19
    repeat' (first | (first | (go_at_call 49; refine (spec_l01In _ _ _ _).mono ?_; rintro e w' ⟨rfl, rfl⟩)) | go_values | go_skip | go_guarded | go_step | go_upon | (simp only []; go_step) | (go_ite <;> go_prune <;> (try go_simp)))
    ((try simp only [Exit.inBlock, Exit.then]); refine bodyPost_ret (by simp [results, Try.results19, go_sem, *]; try rfl) rfl ?_)
    exact ⟨_, _, rfl, OwnI.nil _ _, OwnI.nil _ _, by repeat' (first | (with_reducible exact Below.refl _ _) | (with_reducible assumption) | (with_reducible refine Below.new ?_ _) | (with_reducible refine Below.alloc ?_ ?_ _) | (with_reducible refine Below.drew ?_) | (with_reducible refine below_drewN ?_ _) | (with_reducible refine Below.setCell ?_ ?_ _) | (refine Below.next ?_ (by with_reducible assumption)) | (refine Below.row ?_ (by with_reducible assumption) (by omega)) | (refine Below.trans ?_ (by with_reducible assumption)) | (refine Below.after ?_ ?_ (by with_reducible assumption)) | go_size)⟩
  · cases h2 : inB q 1 40
    · have e : sideB p q = false := by simp [sideB, h1, h2]
      simp only [nms, nmc, nmv, nmg, e, Bool.false_eq_true, if_false]
      go_enter Try.func19, Try.ntmps19
      repeat' (first | (first | (go_at_call 49; refine (spec_l01In _ _ _ _).mono ?_; rintro e w' ⟨rfl, rfl⟩)) | go_values | go_skip | go_guarded | go_step | go_upon | (simp only []; go_step) | (go_ite <;> go_prune <;> (try go_simp)))
      ((try simp only [Exit.inBlock, Exit.then]); refine bodyPost_ret (by simp [results, Try.results19, go_sem, *]; try rfl) rfl ?_)
      exact ⟨_, _, rfl, OwnI.nil _ _, OwnI.nil _ _, by repeat' (first | (with_reducible exact Below.refl _ _) | (with_reducible assumption) | (with_reducible refine Below.new ?_ _) | (with_reducible refine Below.alloc ?_ ?_ _) | (with_reducible refine Below.drew ?_) | (with_reducible refine below_drewN ?_ _) | (with_reducible refine Below.setCell ?_ ?_ _) | (refine Below.next ?_ (by with_reducible assumption)) | (refine Below.row ?_ (by with_reducible assumption) (by omega)) | (refine Below.trans ?_ (by with_reducible assumption)) | (refine Below.after ?_ ?_ (by with_reducible assumption)) | go_size)⟩
    · have e : sideB p q = true := by simp [sideB, h1, h2]
      obtain ⟨b1, b2, n, hn, hn2, n1, n2⟩ := side_facts e
      simp only [nms, nmc, nmv, nmg, e, if_true, hn2]
      have hnH := Lib.hid hn
      clear hn hn2
      go_enter Try.func19, Try.ntmps19
      repeat' (first | (first | (go_at_call 49; refine (spec_l01In _ _ _ _).mono ?_; rintro e w' ⟨rfl, rfl⟩)) | go_values | go_skip | go_guarded | go_step | go_upon | (simp only []; go_step) | (go_ite <;> go_prune <;> (try go_simp)))
      refine (spec_l19New p q n _ b1 b2 hnH.out n1 n2).mono ?_; rintro e w1 ⟨v, u, rfl, ov, ou, hbw1⟩; have hzw1 := hbw1.size; (try simp only [World.size_alloc, World.size_setCell, World.size_drew] at hzw1); have hs1 : w.heap.size < w1.heap.size := (by omega); have q1 := bx_id (w := w1) (X := w.heap.size) (o := 0) (by repeat' (first | (with_reducible assumption) | ((with_reducible apply bx_new) <;> first | (simp only [World.size_alloc, World.size_setCell]; done) | rfl) | (with_reducible apply bx_alloc) | (with_reducible apply bx_other; (first | (simp only [World.size_alloc, World.size_setCell]; omega) | omega)) | (with_reducible apply bx_same) | (with_reducible apply bx_drew) | (with_reducible apply bx_drew1) | (with_reducible apply bx_keep; with_reducible assumption) | fail)); (try simp only [List.getElem_toArray, List.getElem_cons_succ, List.getElem_cons_zero] at q1); have q1 := bx_id (w := w1) (X := w.heap.size) (o := 1) (by repeat' (first | (with_reducible assumption) | ((with_reducible apply bx_new) <;> first | (simp only [World.size_alloc, World.size_setCell]; done) | rfl) | (with_reducible apply bx_alloc) | (with_reducible apply bx_other; (first | (simp only [World.size_alloc, World.size_setCell]; omega) | omega)) | (with_reducible apply bx_same) | (with_reducible apply bx_drew) | (with_reducible apply bx_drew1) | (with_reducible apply bx_keep; with_reducible assumption) | fail)); (try simp only [List.getElem_toArray, List.getElem_cons_succ, List.getElem_cons_zero] at q1); have q1 := bx_id (w := w1) (X := w.heap.size) (o := 2) (by repeat' (first | (with_reducible assumption) | ((with_reducible apply bx_new) <;> first | (simp only [World.size_alloc, World.size_setCell]; done) | rfl) | (with_reducible apply bx_alloc) | (with_reducible apply bx_other; (first | (simp only [World.size_alloc, World.size_setCell]; omega) | omega)) | (with_reducible apply bx_same) | (with_reducible apply bx_drew) | (with_reducible apply bx_drew1) | (with_reducible apply bx_keep; with_reducible assumption) | fail)); (try simp only [List.getElem_toArray, List.getElem_cons_succ, List.getElem_cons_zero] at q1); have q1 := bx_id (w := w1) (X := w.heap.size) (o := 3) (by repeat' (first | (with_reducible assumption) | ((with_reducible apply bx_new) <;> first | (simp only [World.size_alloc, World.size_setCell]; done) | rfl) | (with_reducible apply bx_alloc) | (with_reducible apply bx_other; (first | (simp only [World.size_alloc, World.size_setCell]; omega) | omega)) | (with_reducible apply bx_same) | (with_reducible apply bx_drew) | (with_reducible apply bx_drew1) | (with_reducible apply bx_keep; with_reducible assumption) | fail)); (try simp only [List.getElem_toArray, List.getElem_cons_succ, List.getElem_cons_zero] at q1); have z1 : ∀ o, w1.frozen? ⟨w.heap.size, o, none⟩ = false := (by repeat' (first | (with_reducible assumption) | (with_reducible apply bm_set) | ((with_reducible apply bm_new) <;> (simp only [World.size_alloc, World.size_setCell, World.size_drew]; done)) | (with_reducible apply bm_old; (first | omega | (simp only [World.size_alloc, World.size_setCell, World.size_drew]; omega))) | (with_reducible apply bm_drew) | (with_reducible apply bm_drew1) | (with_reducible apply bm_keep; (with_reducible assumption); (first | omega | (simp only [World.size_alloc, World.size_setCell, World.size_drew]; omega))) | fail))
      have ov1 := OwnI.mono (base' := w.heap.size + 1) ov (by simp)
      have ou1 := OwnI.mono (base' := w.heap.size + 1) ou (by simp)
      have ap : Apart2 v u := apart_nm ov1 ou1 n1
      obtain ⟨Av, cv, ev, _⟩ := id ov1
      rw [List.length_replicate] at ev
      subst ev
      obtain ⟨Au, cu, eu, _⟩ := id ou1
      rw [List.length_replicate] at eu
      subst eu
      clear ov ou
      repeat' (first | fail | go_values | go_skip | go_guarded | go_step | go_upon | (simp only []; go_step) | (go_ite <;> go_prune <;> (try go_simp)))
      refine q_gen (fun W1 hW1 => ?_)
      have k0 := bx_id (w := W1) (X := w.heap.size) (o := 0) (v := .int .i64 p) (by rw [hW1]; repeat' (first | (with_reducible assumption) | ((with_reducible apply bx_new) <;> first | (simp only [World.size_alloc, World.size_setCell]; done) | rfl) | (with_reducible apply bx_alloc) | (with_reducible apply bx_other; (first | (simp only [World.size_alloc, World.size_setCell]; omega) | omega)) | (with_reducible apply bx_same) | (with_reducible apply bx_drew) | (with_reducible apply bx_drew1) | (with_reducible apply bx_keep; with_reducible assumption) | fail))
      have k1 := bx_id (w := W1) (X := w.heap.size) (o := 1) (v := .int .i64 q) (by rw [hW1]; repeat' (first | (with_reducible assumption) | ((with_reducible apply bx_new) <;> first | (simp only [World.size_alloc, World.size_setCell]; done) | rfl) | (with_reducible apply bx_alloc) | (with_reducible apply bx_other; (first | (simp only [World.size_alloc, World.size_setCell]; omega) | omega)) | (with_reducible apply bx_same) | (with_reducible apply bx_drew) | (with_reducible apply bx_drew1) | (with_reducible apply bx_keep; with_reducible assumption) | fail))
      have k2 := bx_id (w := W1) (X := w.heap.size) (o := 2) (by rw [hW1]; repeat' (first | (with_reducible assumption) | ((with_reducible apply bx_new) <;> first | (simp only [World.size_alloc, World.size_setCell]; done) | rfl) | (with_reducible apply bx_alloc) | (with_reducible apply bx_other; (first | (simp only [World.size_alloc, World.size_setCell]; omega) | omega)) | (with_reducible apply bx_same) | (with_reducible apply bx_drew) | (with_reducible apply bx_drew1) | (with_reducible apply bx_keep; with_reducible assumption) | fail))
      have k3 := bx_id (w := W1) (X := w.heap.size) (o := 3) (by rw [hW1]; repeat' (first | (with_reducible assumption) | ((with_reducible apply bx_new) <;> first | (simp only [World.size_alloc, World.size_setCell]; done) | rfl) | (with_reducible apply bx_alloc) | (with_reducible apply bx_other; (first | (simp only [World.size_alloc, World.size_setCell]; omega) | omega)) | (with_reducible apply bx_same) | (with_reducible apply bx_drew) | (with_reducible apply bx_drew1) | (with_reducible apply bx_keep; with_reducible assumption) | fail))
      have ov2 : OwnI W1 (w.heap.size + 1) (.slice Av n cv) (List.replicate n (-1)) := by rw [hW1]; repeat' (first | (with_reducible assumption) | (refine OwnI.off ?_ (by omega) _) | (refine OwnI.alloc ?_ _) | (refine OwnI.drewN ?_ _) | (refine OwnI.below ?_ (by with_reducible assumption)))
      have ou2 : OwnI W1 (w.heap.size + 1) (.slice Au n cu) (List.replicate n 0) := by rw [hW1]; repeat' (first | (with_reducible assumption) | (refine OwnI.off ?_ (by omega) _) | (refine OwnI.alloc ?_ _) | (refine OwnI.drewN ?_ _) | (refine OwnI.below ?_ (by with_reducible assumption)))
      have hB : Below w.heap.size w W1 := by rw [hW1]; repeat' (first | (with_reducible exact Below.refl _ _) | (with_reducible assumption) | (with_reducible refine Below.new ?_ _) | (with_reducible refine Below.alloc ?_ ?_ _) | (with_reducible refine Below.drew ?_) | (with_reducible refine below_drewN ?_ _) | (with_reducible refine Below.setCell ?_ ?_ _) | (refine Below.next ?_ (by with_reducible assumption)) | (refine Below.row ?_ (by with_reducible assumption) (by omega)) | (refine Below.trans ?_ (by with_reducible assumption)) | (refine Below.after ?_ ?_ (by with_reducible assumption)) | go_size)
      clear hW1
      ((try simp only [Exit.inBlock, Exit.then]); refine bodyPost_ret (by simp [results, Try.results19, go_sem, *]; try rfl) rfl ?_)
      exact ⟨_, _, rfl, ov2.mono (by omega), ou2.mono (by omega), hB⟩
end Go.Proofs.Ythnnnhjhgjbmcaa
