/- ReadMosaic: the law's walk (from what the library wants of the world: its table of powers of ten, its two errors, a number). -/
import Derived.Test.YtgokiedhdihamaaDoorRmT
import Derived.Test.YtgokiedhdihamaaDoorRmM
namespace Go.Proofs.YtgokiedhdihamaaDoor
open Go.RowKit Go.ChangeShapes Go.WideShapes Go.ChangeAt
set_option linter.unusedVariables false
set_option linter.unusedSimpArgs false
/-- what ReadMosaic hands back, in plain values -/
def ReadAs (p q : Int) (xs ys : List Int) (ok : Bool) (w : World) (e : Ending) (w' : World) : Prop := ∃ v u, e = .returned (.tuple #[.agg #[.int .i64 p, .int .i64 q, v, u], .bool ok]) ∧ OwnI w' w.heap.size v xs ∧ OwnI w' w.heap.size u ys ∧ Apart2 v u ∧ Below w.heap.size w w'
theorem ReadTo.as {f : List UInt8 → Option (Int × Int)} {ok : Bool} {l : List UInt8} {w w' : World} {e : Ending} (h : ReadTo f ok l w e w') : ReadAs (rdP ok l) (rdQ ok l) (rdV f ok l) (rdG f ok l) ok w e w' := by
  obtain ⟨A, c, B, d, rfl, ⟨o1, o2, h3⟩, hb⟩ := h
  exact ⟨_, _, rfl, o1, o2, h3, hb⟩
theorem rd_agree (l : List UInt8) : rdV cI (okI l) l = rdV cS (okI l) l ∧ rdG cI (okI l) l = rdG cS (okI l) l := by
  cases h : okI l
  · exact ⟨rfl, rfl⟩
  · obtain ⟨a, b⟩ := ok_cells h
    exact ⟨by simpa [rdV] using a, by simpa [rdG] using b⟩
theorem rd_short (l : List UInt8) : (rdV cI (okI l) l).length ≤ 1600 ∧ (rdG cI (okI l) l).length ≤ 1600 := by
  cases h : okI l
  · simp [rdV, rdG]
  · have hm : mosB (wid l) (hig l) (rdX cI (celO l)) (rdY cI (celO l)) = true := by
      simp only [okI, Bool.and_eq_true] at h
      exact h.2.2
    obtain ⟨_, _, h3, h4, _, h6, _⟩ := mos_facts hm
    have e1 : rdV cI true l = rdX cI (celO l) := rfl
    have e2 : rdG cI true l = rdY cI (celO l) := rfl
    rw [e1, e2]
    omega
set_option maxHeartbeats 3200000 in
set_option maxRecDepth 100000 in
theorem walk_ReadMosaic (s : ByteArray) (w : World) (hv : Env w) : Calls Tryd.prog 3 #[.string s] w fun e w' => e = .returned (.bool true) ∧ Below w.heap.size w w' := by
  have hvH := Lib.hid hv
  clear hv
  by_cases hbig : (1048576 : Int) < (s.size : Int)
  · go_enter Tryd.func3, Tryd.ntmps3
    repeat' (first | fail | go_values | go_skip | go_guarded | go_step | go_upon | (simp only []; go_step) | (go_ite <;> go_prune <;> (try go_simp)))
    go_returns
    exact ⟨rfl, by exact bgr⟩
  obtain ⟨l, hs⟩ : ∃ l, s = mkT l := ⟨s.data.toList, by apply bytes_inj; simp [mkT]⟩
  have hl : l.length ≤ 1048576 := by
    have := mkT_size l
    rw [hs, this] at hbig
    omega
  have hS := fun w => (spec_ReadMosaic l w hl).mono fun _ _ h => h.as
  have hI := fun w h => (impl_ReadMosaic l w hl h).mono fun _ _ h => h.as
  rw [← ok_same] at hS
  obtain ⟨lx, ly⟩ := rd_short l
  rw [← (rd_agree l).1, ← (rd_agree l).2] at hS
  rw [← hs] at hS hI
  obtain ⟨a, ha⟩ : ∃ a, a = rdP (okI l) l := ⟨_, rfl⟩
  obtain ⟨b, hb⟩ : ∃ b, b = rdQ (okI l) l := ⟨_, rfl⟩
  obtain ⟨xs, hx⟩ : ∃ xs, xs = rdV cI (okI l) l := ⟨_, rfl⟩
  obtain ⟨ys, hy⟩ : ∃ ys, ys = rdG cI (okI l) l := ⟨_, rfl⟩
  obtain ⟨cc, hc⟩ : ∃ c, c = okI l := ⟨_, rfl⟩
  rw [← ha, ← hb, ← hx, ← hy, ← hc] at hS hI
  rw [← hx] at lx
  rw [← hy] at ly
  have hSH := Lib.hid hS
  have hIH := Lib.hid hI
  have hcc : (cc != cc) = false := by cases cc <;> rfl
  clear hS hI ha hb hc hx hy hs hl
  go_enter Tryd.func3, Tryd.ntmps3
  repeat' (first | fail | go_values | go_skip | go_guarded | go_step | go_upon | (simp only []; go_step) | (go_ite <;> go_prune <;> (try go_simp)))
  refine (hSH.out _).mono ?_; rintro e w1 ⟨vs, us, rfl, osv, osu, hap0, hbw1⟩; have hzw1 := hbw1.size; (try simp only [World.size_alloc, World.size_setCell, World.size_drew] at hzw1)
  clear hap0
  have osv : OwnR w1 w.heap.size w1.heap.size vs xs := OwnI.inR osv
  have osu : OwnR w1 w.heap.size w1.heap.size us ys := OwnI.inR osu
  obtain ⟨As, cs, rfl⟩ := osv.form
  obtain ⟨Bs, ds, rfl⟩ := osu.form
  repeat' (first | fail | go_values | go_skip | go_guarded | go_step | go_upon | (simp only []; go_step) | (go_ite <;> go_prune <;> (try go_simp)))
  refine (hIH.out _ (hvH.out.up (by exact bgr))).mono ?_; rintro e w2 ⟨vg, ug, rfl, ogv, ogu, hap, hbw2⟩; have hzw2 := hbw2.size; (try simp only [World.size_alloc, World.size_setCell, World.size_drew] at hzw2); have hs1 : w1.heap.size < w2.heap.size := (by omega); have q1 := bx_id (w := w2) (X := w1.heap.size) (o := 0) (by exact bxc); (try simp only [List.getElem_toArray, List.getElem_cons_succ, List.getElem_cons_zero] at q1); have q1 := bx_id (w := w2) (X := w1.heap.size) (o := 1) (by exact bxc); (try simp only [List.getElem_toArray, List.getElem_cons_succ, List.getElem_cons_zero] at q1); have q1 := bx_id (w := w2) (X := w1.heap.size) (o := 2) (by exact bxc); (try simp only [List.getElem_toArray, List.getElem_cons_succ, List.getElem_cons_zero] at q1); have q1 := bx_id (w := w2) (X := w1.heap.size) (o := 3) (by exact bxc); (try simp only [List.getElem_toArray, List.getElem_cons_succ, List.getElem_cons_zero] at q1); have z1 : ∀ o, w2.frozen? ⟨w1.heap.size, o, none⟩ = false := (by exact bxm)
  have ogv : OwnR w2 (w1.heap.size + 1) w2.heap.size vg xs := OwnI.inR (OwnI.mono ogv (by simp))
  have ogu : OwnR w2 (w1.heap.size + 1) w2.heap.size ug ys := OwnI.inR (OwnI.mono ogu (by simp))
  obtain ⟨Ag, cg, rfl⟩ := ogv.form
  obtain ⟨Bg, dg, rfl⟩ := ogu.form
  have hapH := Lib.hid hap
  clear hap
  have osv2 := osv.next (w' := w2) (by exact bgr)
  have osu2 := osu.next (w' := w2) (by exact bgr)
  repeat' (first | fail | go_values | go_skip | go_guarded | go_step | go_upon | (simp only []; go_step) | (go_ite <;> go_prune <;> (try go_simp)))
  refine (laws_eqMosaic _ _ _ _ _ _ _ _ _ _ _ _ _ _ _ (ogv.rd.up (by exact bgr)) (ogu.rd.up (by exact bgr)) (osv2.rd.up (by exact bgr)) (osu2.rd.up (by exact bgr)) (by omega) (by omega) (by omega) (by omega)).mono ?_; rintro e w3 ⟨rfl, hbw3⟩; have hzw3 := hbw3.size; (try simp only [World.size_alloc, World.size_setCell, World.size_drew] at hzw3); have hs1 : w1.heap.size < w3.heap.size := (by omega); have q1 := bx_id (w := w3) (X := w1.heap.size) (o := 0) (by exact bxc); (try simp only [List.getElem_toArray, List.getElem_cons_succ, List.getElem_cons_zero] at q1); have q1 := bx_id (w := w3) (X := w1.heap.size) (o := 1) (by exact bxc); (try simp only [List.getElem_toArray, List.getElem_cons_succ, List.getElem_cons_zero] at q1); have q1 := bx_id (w := w3) (X := w1.heap.size) (o := 2) (by exact bxc); (try simp only [List.getElem_toArray, List.getElem_cons_succ, List.getElem_cons_zero] at q1); have q1 := bx_id (w := w3) (X := w1.heap.size) (o := 3) (by exact bxc); (try simp only [List.getElem_toArray, List.getElem_cons_succ, List.getElem_cons_zero] at q1); have z1 : ∀ o, w3.frozen? ⟨w1.heap.size, o, none⟩ = false := (by exact bxm); have hs1 : w2.heap.size < w3.heap.size := (by omega); have q1 := bx_id (w := w3) (X := w2.heap.size) (o := 0) (by exact bxc); (try simp only [List.getElem_toArray, List.getElem_cons_succ, List.getElem_cons_zero] at q1); have q1 := bx_id (w := w3) (X := w2.heap.size) (o := 1) (by exact bxc); (try simp only [List.getElem_toArray, List.getElem_cons_succ, List.getElem_cons_zero] at q1); have q1 := bx_id (w := w3) (X := w2.heap.size) (o := 2) (by exact bxc); (try simp only [List.getElem_toArray, List.getElem_cons_succ, List.getElem_cons_zero] at q1); have q1 := bx_id (w := w3) (X := w2.heap.size) (o := 3) (by exact bxc); (try simp only [List.getElem_toArray, List.getElem_cons_succ, List.getElem_cons_zero] at q1); have z1 : ∀ o, w3.frozen? ⟨w2.heap.size, o, none⟩ = false := (by exact bxm)
  rw [show (decide (xs = xs) && decide (ys = ys)) = true by simp]
  repeat' (first | fail | go_values | go_skip | go_guarded | go_step | go_upon | (simp only []; go_step) | (go_ite <;> go_prune <;> (try go_simp)))
  have ogv3 := ogv.next (w' := w3) (by exact bgr)
  have ogu3 := ogu.next (w' := w3) (by exact bgr)
  have osv3 := osv2.next (w' := w3) (by exact bgr)
  have osu3 := osu2.next (w' := w3) (by exact bgr)
  have B3 : Below w.heap.size w w3 := by exact bgr
  have sz3 : w2.heap.size + 1 ≤ w3.heap.size := by omega
  have s0 : w3.cell? ⟨w1.heap.size, 0, none⟩ = some (.int .i64 a) := by assumption
  have s1 : w3.cell? ⟨w1.heap.size, 1, none⟩ = some (.int .i64 b) := by assumption
  have s2 : w3.cell? ⟨w1.heap.size, 2, none⟩ = some (.slice As xs.length cs) := by assumption
  have s3 : w3.cell? ⟨w1.heap.size, 3, none⟩ = some (.slice Bs ys.length ds) := by assumption
  have g0 : w3.cell? ⟨w2.heap.size, 0, none⟩ = some (.int .i64 a) := by assumption
  have g1 : w3.cell? ⟨w2.heap.size, 1, none⟩ = some (.int .i64 b) := by assumption
  have g2 : w3.cell? ⟨w2.heap.size, 2, none⟩ = some (.slice Ag xs.length cg) := by assumption
  have g3 : w3.cell? ⟨w2.heap.size, 3, none⟩ = some (.slice Bg ys.length dg) := by assumption
  refine (laws_markMosaic _ _ _ _ _ _ _ _ (w1.heap.size + 1) w2.heap.size xs ys _ _ (by first | exact ogv3 | exact ogv3.next (by exact bgr)) (by first | exact ogu3 | exact ogu3.next (by exact bgr)) hapH.out (by omega) (by omega) (by omega) (by omega) (by omega)).mono ?_
  rintro e w4 ⟨rfl, mv, mu, hW4⟩
  have hz4 := hW4.size
  (try simp only [World.size_drew, World.size_alloc] at hz4)
  have B4 : Below w.heap.size w w4 := B3.trans (hW4.below (by omega) (by omega))
  have kp : ∀ (X o : Nat) (v : Value), w3.cell? ⟨X, o, none⟩ = some v → (X < w1.heap.size + 1 ∨ w2.heap.size ≤ X) → w4.cell? ⟨X, o, none⟩ = some v := fun X o v h hx => (World.cell?_of_block (a := ⟨X, o, none⟩) (hW4.block X (World.block_lt_of_cell? w3 ⟨X, o, none⟩ h) hx)).trans h
  have t0 := kp _ _ _ s0 (by omega)
  have t1 := kp _ _ _ s1 (by omega)
  have t2 := kp _ _ _ s2 (by omega)
  have t3 := kp _ _ _ s3 (by omega)
  have u0 := kp _ _ _ g0 (by omega)
  have u1 := kp _ _ _ g1 (by omega)
  have u2 := kp _ _ _ g2 (by omega)
  have u3 := kp _ _ _ g3 (by omega)
  have osv4 := osv3.apart hW4 (by omega)
  have osu4 := osu3.apart hW4 (by omega)
  clear kp ogv3 ogu3 hW4
  repeat' (first | fail | go_values | go_skip | go_guarded | go_step | go_upon | (simp only []; go_step) | (go_ite <;> go_prune <;> (try go_simp)))
  refine (laws_heldMosaic _ _ _ _ _ _ _ _ _ _ (mv.rd.up (by exact bgr)) (mu.rd.up (by exact bgr)) (by omega) (by omega) (by omega) (by omega)).mono ?_; rintro e w5 ⟨rfl, hbw5⟩; have hzw5 := hbw5.size; (try simp only [World.size_alloc, World.size_setCell, World.size_drew] at hzw5); have hs1 : w1.heap.size < w5.heap.size := (by omega); have q1 := bx_id (w := w5) (X := w1.heap.size) (o := 0) (by exact bxc); (try simp only [List.getElem_toArray, List.getElem_cons_succ, List.getElem_cons_zero] at q1); have q1 := bx_id (w := w5) (X := w1.heap.size) (o := 1) (by exact bxc); (try simp only [List.getElem_toArray, List.getElem_cons_succ, List.getElem_cons_zero] at q1); have q1 := bx_id (w := w5) (X := w1.heap.size) (o := 2) (by exact bxc); (try simp only [List.getElem_toArray, List.getElem_cons_succ, List.getElem_cons_zero] at q1); have q1 := bx_id (w := w5) (X := w1.heap.size) (o := 3) (by exact bxc); (try simp only [List.getElem_toArray, List.getElem_cons_succ, List.getElem_cons_zero] at q1); have hs1 : w2.heap.size < w5.heap.size := (by omega); have q1 := bx_id (w := w5) (X := w2.heap.size) (o := 0) (by exact bxc); (try simp only [List.getElem_toArray, List.getElem_cons_succ, List.getElem_cons_zero] at q1); have q1 := bx_id (w := w5) (X := w2.heap.size) (o := 1) (by exact bxc); (try simp only [List.getElem_toArray, List.getElem_cons_succ, List.getElem_cons_zero] at q1); have q1 := bx_id (w := w5) (X := w2.heap.size) (o := 2) (by exact bxc); (try simp only [List.getElem_toArray, List.getElem_cons_succ, List.getElem_cons_zero] at q1); have q1 := bx_id (w := w5) (X := w2.heap.size) (o := 3) (by exact bxc); (try simp only [List.getElem_toArray, List.getElem_cons_succ, List.getElem_cons_zero] at q1)
  have n1 : ¬ (1 + (xs.length : Int) + (ys.length : Int)) < 0 := by omega
  repeat' (first | fail | go_values | go_skip | go_guarded | go_step | go_upon | (simp only []; go_step) | (go_ite <;> go_prune <;> (try go_simp)))
  refine (hIH.out _ (hvH.out.up (Below.next B4 (by exact bgr)))).mono ?_; rintro e w6 ⟨vh, uh, rfl, ohv, ohu, hap2, hbw6⟩; have hzw6 := hbw6.size; (try simp only [World.size_alloc, World.size_setCell, World.size_drew] at hzw6); have hs1 : w1.heap.size < w6.heap.size := (by omega); have q1 := bx_id (w := w6) (X := w1.heap.size) (o := 0) (by exact bxc); (try simp only [List.getElem_toArray, List.getElem_cons_succ, List.getElem_cons_zero] at q1); have q1 := bx_id (w := w6) (X := w1.heap.size) (o := 1) (by exact bxc); (try simp only [List.getElem_toArray, List.getElem_cons_succ, List.getElem_cons_zero] at q1); have q1 := bx_id (w := w6) (X := w1.heap.size) (o := 2) (by exact bxc); (try simp only [List.getElem_toArray, List.getElem_cons_succ, List.getElem_cons_zero] at q1); have q1 := bx_id (w := w6) (X := w1.heap.size) (o := 3) (by exact bxc); (try simp only [List.getElem_toArray, List.getElem_cons_succ, List.getElem_cons_zero] at q1); have hs1 : w2.heap.size < w6.heap.size := (by omega); have q1 := bx_id (w := w6) (X := w2.heap.size) (o := 0) (by exact bxc); (try simp only [List.getElem_toArray, List.getElem_cons_succ, List.getElem_cons_zero] at q1); have q1 := bx_id (w := w6) (X := w2.heap.size) (o := 1) (by exact bxc); (try simp only [List.getElem_toArray, List.getElem_cons_succ, List.getElem_cons_zero] at q1); have q1 := bx_id (w := w6) (X := w2.heap.size) (o := 2) (by exact bxc); (try simp only [List.getElem_toArray, List.getElem_cons_succ, List.getElem_cons_zero] at q1); have q1 := bx_id (w := w6) (X := w2.heap.size) (o := 3) (by exact bxc); (try simp only [List.getElem_toArray, List.getElem_cons_succ, List.getElem_cons_zero] at q1)
  have ohv : OwnR w6 w5.heap.size w6.heap.size vh xs := OwnI.inR ohv
  have ohu : OwnR w6 w5.heap.size w6.heap.size uh ys := OwnI.inR ohu
  obtain ⟨Ah, ch, rfl⟩ := ohv.form
  obtain ⟨Bh, dh, rfl⟩ := ohu.form
  clear hap2
  have B6 : Below w4.heap.size w4 w6 := by exact bgr
  repeat' (first | fail | go_values | go_skip | go_guarded | go_step | go_upon | (simp only []; go_step) | (go_ite <;> go_prune <;> (try go_simp)))
  refine (laws_eqMosaic _ _ _ _ _ _ _ _ _ _ _ _ _ _ _ (ohv.rd.up (by exact bgr)) (ohu.rd.up (by exact bgr)) ((osv4.next B6).rd.up (by exact bgr)) ((osu4.next B6).rd.up (by exact bgr)) (by omega) (by omega) (by omega) (by omega)).mono ?_; rintro e w7 ⟨rfl, hbw7⟩; have hzw7 := hbw7.size; (try simp only [World.size_alloc, World.size_setCell, World.size_drew] at hzw7); have hs1 : w1.heap.size < w7.heap.size := (by omega); have q1 := bx_id (w := w7) (X := w1.heap.size) (o := 0) (by exact bxc); (try simp only [List.getElem_toArray, List.getElem_cons_succ, List.getElem_cons_zero] at q1); have q1 := bx_id (w := w7) (X := w1.heap.size) (o := 1) (by exact bxc); (try simp only [List.getElem_toArray, List.getElem_cons_succ, List.getElem_cons_zero] at q1); have q1 := bx_id (w := w7) (X := w1.heap.size) (o := 2) (by exact bxc); (try simp only [List.getElem_toArray, List.getElem_cons_succ, List.getElem_cons_zero] at q1); have q1 := bx_id (w := w7) (X := w1.heap.size) (o := 3) (by exact bxc); (try simp only [List.getElem_toArray, List.getElem_cons_succ, List.getElem_cons_zero] at q1); have hs1 : w2.heap.size < w7.heap.size := (by omega); have q1 := bx_id (w := w7) (X := w2.heap.size) (o := 0) (by exact bxc); (try simp only [List.getElem_toArray, List.getElem_cons_succ, List.getElem_cons_zero] at q1); have q1 := bx_id (w := w7) (X := w2.heap.size) (o := 1) (by exact bxc); (try simp only [List.getElem_toArray, List.getElem_cons_succ, List.getElem_cons_zero] at q1); have q1 := bx_id (w := w7) (X := w2.heap.size) (o := 2) (by exact bxc); (try simp only [List.getElem_toArray, List.getElem_cons_succ, List.getElem_cons_zero] at q1); have q1 := bx_id (w := w7) (X := w2.heap.size) (o := 3) (by exact bxc); (try simp only [List.getElem_toArray, List.getElem_cons_succ, List.getElem_cons_zero] at q1)
  rw [show (decide (xs = xs) && decide (ys = ys)) = true by simp]
  repeat' (first | fail | go_values | go_skip | go_guarded | go_step | go_upon | (simp only []; go_step) | (go_ite <;> go_prune <;> (try go_simp)))
  have B7 : Below w4.heap.size w4 w7 := by exact bgr
  refine (laws_heldMosaic _ _ _ _ _ _ _ _ _ _ ((mv.next B7).rd.up (by exact bgr)) ((mu.next B7).rd.up (by exact bgr)) (by omega) (by omega) (by omega) (by omega)).mono ?_; rintro e w8 ⟨rfl, hbw8⟩; have hzw8 := hbw8.size; (try simp only [World.size_alloc, World.size_setCell, World.size_drew] at hzw8)
  repeat' (first | fail | go_values | go_skip | go_guarded | go_step | go_upon | (simp only []; go_step) | (go_ite <;> go_prune <;> (try go_simp)))
  go_returns
  exact ⟨rfl, Below.next B4 (by exact bgr)⟩
end Go.Proofs.YtgokiedhdihamaaDoor
