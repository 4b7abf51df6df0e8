/- The source of the draws: contracts. -/
import Derived.Test.YthbljfanoaibkaaGreatDoorMKit
import Derived.Deep.DrawnRows
namespace Go.Proofs.YthbljfanoaibkaaGreatDoor
open Go.RowKit
set_option linter.unusedVariables false
set_option linter.unusedSimpArgs false
attribute [local go_sem ↓] Go.wp_at_zero Go.wp_at_succ

theorem U8.at_ {w : World} {B : Nat} {A : Option Addr} {xs : List Int} {k : Nat} {x : Int} (h : U8 w B A xs) (hk : xs[k]? = some x) : ∃ b o, A = some ⟨b, o, none⟩ ∧ b < B ∧ w.cell? ⟨b, o + k, none⟩ = some (.int .u8 x) :=
  Rd.at_ h (by rw [List.getElem?_map, hk]; rfl)

/-- the source: block g -/
def Src (w : World) (B g : Nat) : Prop :=
  ∃ A c, ∃ code : List Int, ∃ pos : Nat, ∃ seed : Int, w.heap[g]? = some (.cells #[.slice A code.length c, .int .i64 pos, .int .i64 seed] 64 (0, 0)) ∧ U8 w B A code ∧ (∀ x ∈ code, 0 ≤ x ∧ x ≤ 255) ∧ code.length ≤ 4096 ∧ pos ≤ code.length ∧ (0 ≤ seed ∧ seed < 2147483647) ∧ B ≤ g

theorem grownBy_set {a w : World} {g : Nat} (h : a.grownBy w (some g)) (j : Nat) (v : Value) : a.grownBy (w.setCell ⟨g, j, none⟩ v) (some g) :=
  ⟨h.os, h.tape, h.output, by simpa [World.setCell] using h.size, fun i hi hne => (Below.heap_setCell w ⟨g, j, none⟩ v i (fun e => hne (by rw [e]))).trans (h.block i hi hne)⟩
theorem grownBy_drewN {a w : World} {row : Option Nat} (h : a.grownBy w row) (n : Nat) : a.grownBy (w.drewN n) row := ⟨h.os, h.tape, h.output, h.size, h.block⟩
theorem grownBy_alloc' {a w : World} {row : Option Nat} (h : a.grownBy w row) (o : Obj) : a.grownBy (w.alloc o) row :=
  ⟨h.os, h.tape, h.output, Nat.le_trans h.size (by simp), fun i hi hne => (Below.heap_alloc w o i (Nat.lt_of_lt_of_le hi h.size)).trans (h.block i hi hne)⟩
theorem grownBy_next {a w w1 : World} {row : Option Nat} (h : a.grownBy w row) (hb : Below w.heap.size w w1) : a.grownBy w1 row := grownBy_trans h (grownBy_of_below hb row)
theorem bgb {p : Prop} (h : p := by repeat' (first | (with_reducible exact World.grownBy.refl _ _) | (with_reducible assumption) | (with_reducible refine grownBy_drewN ?_ _) | (with_reducible refine grownBy_set ?_ _ _) | (with_reducible refine grownBy_alloc' ?_ _) | (refine grownBy_trans ?_ (by with_reducible assumption)) | (refine grownBy_next ?_ (by with_reducible assumption)))) : p := h
theorem rd_far {w : World} {B g : Nat} {A : Option Addr} {xs : List Value} (h : Rd w B A xs) (hB : B ≤ g) (j : Nat) (v : Value) : Rd (w.setCell ⟨g, j, none⟩ v) B A xs :=
  h.keep fun b o hlt => World.cell?_of_block (a := ⟨b, o, none⟩) (Below.heap_setCell w ⟨g, j, none⟩ v b (by show b ≠ g; omega))
theorem emod_bd {x n : Int} (h : 1 < n) : 0 ≤ x % n ∧ x % n < n := ⟨Int.emod_nonneg _ (by omega), Int.emod_lt_of_pos _ (by omega)⟩
/-- three cells of the source, two of them stored anew -/
theorem src_set {w : World} {g : Nat} {v0 v1 v2 : Value} {t : TypeId} (hg : w.heap[g]? = some (.cells #[v0, v1, v2] t (0, 0))) (u : Value) :
    (w.setCell ⟨g, 2, none⟩ u).heap[g]? = some (.cells #[v0, v1, u] t (0, 0)) ∧ (w.setCell ⟨g, 1, none⟩ u).heap[g]? = some (.cells #[v0, u, v2] t (0, 0)) := by
  simp [World.setCell, Array.getElem?_modify, hg]

/-- what l01Next hands back -/
def NextIs (n r : Int) : Prop := 0 ≤ r ∧ (r < n ∨ (n ≤ 1 ∧ r = 0))
theorem nextIs_mod {x n : Int} (h : ¬ n ≤ 1) : NextIs n (x % n) := ⟨(emod_bd (by omega)).1, .inl (emod_bd (by omega)).2⟩
set_option maxRecDepth 100000 in
theorem spec_l01From (A : Option Addr) (c : Nat) (code : List Int) (w : World) (hr : U8 w w.heap.size A code) (hb : ∀ x ∈ code, 0 ≤ x ∧ x ≤ 255) (hl : code.length ≤ 4096) :
    Calls Tryz.prog 19 #[.slice A code.length c] w fun e w' => ∃ g, e = .returned (.pointer (some ⟨g, 0, none⟩)) ∧ w.heap.size ≤ g ∧ Src w' w.heap.size g ∧ Below w.heap.size w w' := by
  have hs0 : w.heap.size ≤ w.heap.size := Nat.le_refl _
  go_enter Tryz.func19, Tryz.ntmps19
  go_wp2
  go_loopw [4] (fun i wr => ∃ k : Nat, ∃ seed : Int, k ≤ code.length ∧ i = .int .i64 k ∧ (0 ≤ seed ∧ seed < 2147483647) ∧ wr.heap[w.heap.size]? = some (.cells #[.slice A code.length c, .int .i64 0, .int .i64 seed] 64 (0, 0)) ∧ Below w.heap.size w wr) (fun i _ => code.length - (intOf i).toNat)
  case atStart => exact ⟨0, 80051, Nat.zero_le _, rfl, by omega, heap_alloc_new w _, by exact bgr⟩
  case round =>
    obtain ⟨k, seed, hk, rfl, hsd, hg, hbr⟩ := hrel
    have c0 : wr.cell? ⟨w.heap.size, 0, none⟩ = some (.slice A code.length c) := by simp [World.cell?, hg]
    have c2 : wr.cell? ⟨w.heap.size, 2, none⟩ = some (.int .i64 seed) := by simp [World.cell?, hg]
    have z0 : ∀ j, wr.frozen? ⟨w.heap.size, j, none⟩ = false := fun j => by simp [World.frozen?, hg]
    have fin : k ≤ code.length → Src wr w.heap.size w.heap.size := fun _ => ⟨A, c, code, 0, seed, hg, Rd.below hr hbr, hb, hl, by omega, hsd, Nat.le_refl _⟩
    have fin' := Lib.hid fin
    clear fin
    by_cases hlt : k < code.length
    · by_cases h64 : k < 64
      · obtain ⟨x, hx⟩ := get_of_lt hlt
        have hxb := hb x (List.mem_of_getElem? hx)
        obtain ⟨b, o, rfl, hbB, hc⟩ := U8.at_ (Rd.below hr hbr) hx
        have p0 : (0 : Int) ≤ (k : Int) := by omega
        have p1 : (k : Int) < (code.length : Int) := by omega
        have sm := emod_bd (x := seed * 61 + x) (n := 2147483647) (by omega)
        have hg' := Lib.hid hg
        clear hx hg hr hb
        have w1 : IntKind.i64.wrap (seed * 61) = seed * 61 := IntWalk.i64_in _ (by omega)
        have w2 : IntKind.i64.wrap x = x := IntWalk.i64_in _ (by omega)
        have w3 : IntKind.i64.wrap (seed * 61 + x) = seed * 61 + x := IntWalk.i64_in _ (by omega)
        have w4 : IntKind.i64.wrap ((seed * 61 + x).tmod 2147483647) = (seed * 61 + x) % 2147483647 := by rw [Int.tmod_eq_emod_of_nonneg (by omega)]; exact IntWalk.i64_in _ (by omega)
        go_wp2_with fail
        go_still_tail 15, (by kernel_rfl)
        change wpList _ _ _ _ _ wr.drew
        go_wp2
        go_roundw
        case rel => exact ⟨k + 1, _, by omega, by go_num, sm, (src_set hg'.out _).1, by exact bgr⟩
        case measure => simp [intOf]; omega
      · go_wp2
        go_ret
        exact ⟨_, rfl, Nat.le_refl _, fin'.out hk, hbr⟩
    · go_wp2
      go_ret
      exact ⟨_, rfl, Nat.le_refl _, fin'.out hk, hbr⟩
set_option maxRecDepth 100000 in
theorem spec_l01Next (B g : Nat) (n : Int) (w : World) (hs : Src w B g) (hn : n ≤ 4611686018427387904) :
    Calls Tryz.prog 20 #[.pointer (some ⟨g, 0, none⟩), .int .i64 n] w fun e w' => ∃ r, e = .returned (.int .i64 r) ∧ NextIs n r ∧ Src w' B g ∧ w.grownBy w' (some g) := by
  obtain ⟨A, c, code, pos, seed, hg, hr, hb, hl, hp, hsd, hB⟩ := hs
  have c0 : w.cell? ⟨g, 0, none⟩ = some (.slice A code.length c) := by simp [World.cell?, hg]
  have c1 : w.cell? ⟨g, 1, none⟩ = some (.int .i64 pos) := by simp [World.cell?, hg]
  have c2 : w.cell? ⟨g, 2, none⟩ = some (.int .i64 seed) := by simp [World.cell?, hg]
  have z0 : ∀ j, w.frozen? ⟨g, j, none⟩ = false := fun j => by simp [World.frozen?, hg]
  by_cases h1 : n ≤ 1
  · go_enter Tryz.func20, Tryz.ntmps20
    go_wp2
    go_ret
    exact ⟨0, rfl, ⟨by omega, .inr ⟨by omega, rfl⟩⟩, ⟨A, c, code, pos, seed, hg, hr, hb, hl, hp, hsd, hB⟩, World.grownBy.refl _ _⟩
  · by_cases h2 : pos < code.length
    · obtain ⟨x, hx⟩ := get_of_lt h2
      have hxb := hb x (List.mem_of_getElem? hx)
      obtain ⟨b, o, rfl, hbB, hc⟩ := hr.at_ hx
      have hne : ¬ b = g := by omega
      have p0 : (0 : Int) ≤ (pos : Int) := by omega
      have p1 : (pos : Int) < (code.length : Int) := by omega
      have sm := emod_bd (x := seed * 48271 + 41) (n := 2147483647) (by omega)
      have hr' := hr
      have hr'' := Lib.hid hr'
      have hg' := Lib.hid hg
      clear hr hr' hg
      have fin : ∀ (v : Int) (wf : World) (u : Value), wf.heap[g]? = some (.cells #[.slice (some ⟨b, o, none⟩) code.length c, .int .i64 ((pos : Int) + 1), .int .i64 ((seed * 48271 + 41) % 2147483647)] 64 (0, 0)) → w.grownBy wf (some g) → Src wf B g :=
        fun v wf u h1 h2 => ⟨_, c, code, pos + 1, _, h1, hr''.out.keep (fun b' o' hlt => World.cell?_of_block (a := ⟨b', o', none⟩) (by
          rcases Nat.lt_or_ge b' w.heap.size with h3 | h3
          · exact h2.block b' h3 (by simp; omega)
          · have : g < w.heap.size := by have := hg'.out; exact (Array.getElem?_eq_some_iff.1 this).1
            omega)), hb, hl, by omega, by omega, hB⟩
      have fin' := Lib.hid fin
      clear fin
      have hgs := src_set hg'.out (.int .i64 ((seed * 48271 + 41) % 2147483647))
      have hg2 := Lib.hid (src_set hgs.1 (.int .i64 ((pos : Int) + 1))).2
      clear hgs
      by_cases h3 : n ≤ 256
      · by_cases h4 : ((pos : Int) + 1) % 2 = 0
        · have e4 : (((pos : Int) + 1) % 2 == 0) = true := by simpa using h4
          have h4' := Lib.hid h4
          clear h4
          go_enter Tryz.func20, Tryz.ntmps20
          go_wp2_with fail
          go_quiet (fail)
          go_wp2_with fail
          go_quiet (fail)
          go_wp2_with fail
          go_quiet (fail)
          go_wp2
          go_ret
          exact ⟨_, rfl, nextIs_mod (by omega), fin'.out 0 _ undef hg2.out (by exact bgb), (by exact bgb)⟩
        · have e4 : (((pos : Int) + 1) % 2 == 0) = false := by simpa using h4
          have h4' := Lib.hid h4
          clear h4
          go_enter Tryz.func20, Tryz.ntmps20
          go_wp2_with fail
          go_quiet (fail)
          go_wp2_with fail
          go_quiet (fail)
          go_wp2
          go_ret
          exact ⟨_, rfl, nextIs_mod (by omega), fin'.out 0 _ undef hg2.out (by exact bgb), (by exact bgb)⟩
      · go_enter Tryz.func20, Tryz.ntmps20
        go_wp2_with fail
        go_quiet (fail)
        go_wp2_with fail
        go_quiet (fail)
        go_wp2
        go_ret
        exact ⟨_, rfl, nextIs_mod (by omega), fin'.out 0 _ undef hg2.out (by exact bgb), (by exact bgb)⟩
    · have sm := emod_bd (x := seed * 48271 + 41) (n := 2147483647) (by omega)
      have p1 : (code.length : Int) ≤ (pos : Int) := by omega
      have hr' := Lib.hid hr
      have hgs := Lib.hid (src_set hg (.int .i64 ((seed * 48271 + 41) % 2147483647))).1
      clear hr hg
      go_enter Tryz.func20, Tryz.ntmps20
      go_wp2_with fail
      go_quiet (fail)
      go_wp2
      go_ret
      exact ⟨_, rfl, nextIs_mod (by omega), ⟨A, c, code, pos, _, hgs.out, rd_far hr'.out hB _ _, hb, hl, hp, sm, hB⟩, (by exact bgb)⟩
theorem Src.lt {w : World} {B g : Nat} (h : Src w B g) : B ≤ g ∧ g < w.heap.size := by
  obtain ⟨A, c, code, pos, seed, hg, _, _, _, _, _, hB⟩ := h
  exact ⟨hB, (Array.getElem?_eq_some_iff.1 hg).1⟩
theorem Src.below {w w' : World} {B g : Nat} (h : Src w B g) (hb : Below w.heap.size w w') : Src w' B g := by
  have hl := h.lt
  obtain ⟨A, c, code, pos, seed, hg, h1, h2, h3, h4, h5, hB⟩ := h
  exact ⟨A, c, code, pos, seed, (hb.block g hl.2).trans hg, Rd.below h1 (hb.mono (by omega)), h2, h3, h4, h5, hB⟩
theorem Src.alloc {w : World} {B g : Nat} (h : Src w B g) (o : Obj) : Src (w.alloc o) B g := h.below (Below.new (Below.refl _ _) o)
theorem Src.drewN {w : World} {B g : Nat} (h : Src w B g) (n : Nat) : Src (w.drewN n) B g := h
theorem Src.other {w w' : World} {B g : Nat} {row : Option Nat} (h : Src w B g) (hg : w.grownBy w' row) (hr : ∀ k, row = some k → g < k) : Src w' B g := by
  have hl := h.lt
  obtain ⟨A, c, code, pos, seed, hg', h1, h2, h3, h4, h5, hB⟩ := h
  refine ⟨A, c, code, pos, seed, (hg.block g hl.2 (fun e => ?_)).trans hg', Rd.grown h1 hg (by omega) (fun k hk => by have := hr k hk; omega), h2, h3, h4, h5, hB⟩
  have := hr g e.symm
  omega
set_option maxRecDepth 100000 in
theorem spec_l01Pick (B g h : Nat) (xs : List Int) (w : World) (hs : Src w B g) (hh : w.heap[h]? = some (.cells (xs.map (Value.int .i64)).toArray 2 (0, 0))) (hne : g < h) (h0 : 0 < xs.length) (h1 : xs.length ≤ 100) :
    Calls Tryz.prog 59 #[.pointer (some ⟨g, 0, none⟩), .slice (some ⟨h, 0, none⟩) xs.length xs.length] w fun e w' => ∃ r, e = .returned (.int .i64 r) ∧ r ∈ xs ∧ Src w' B g ∧ w.grownBy w' (some g) := by
  go_enter Tryz.func59, Tryz.ntmps59
  go_wp2_with fail
  refine (spec_l01Next _ _ _ _ hs (by omega)).mono ?_
  rintro e w1 ⟨r1, rfl, ⟨hr1, ht1⟩, hs1, hg1⟩
  obtain ⟨k, rfl⟩ := Int.eq_ofNat_of_zero_le hr1
  have hk : k < xs.length := by omega
  obtain ⟨x, hx⟩ := get_of_lt hk
  have hh1 : w1.heap[h]? = some (.cells (xs.map (Value.int .i64)).toArray 2 (0, 0)) := (hg1.block h (Array.getElem?_eq_some_iff.1 hh).1 (by simp; omega)).trans hh
  have hc : w1.cell? ⟨h, k, none⟩ = some (.int .i64 x) := by simp [World.cell?, hh1, hx]
  have hx' := Lib.hid hx
  clear hx ht1 hh hh1 hr1
  go_wp2
  go_ret
  exact ⟨x, rfl, List.mem_of_getElem? hx'.out, hs1, hg1⟩
theorem pick2 (B g h : Nat) (a b : Int) (w : World) (hs : Src w B g) (hh : w.heap[h]? = some (.cells #[.int .i64 a, .int .i64 b] 2 (0, 0))) (hne : g < h) :
    Calls Tryz.prog 59 #[.pointer (some ⟨g, 0, none⟩), .slice (some ⟨h, 0, none⟩) 2 2] w fun e w' => ∃ r, e = .returned (.int .i64 r) ∧ (r = a ∨ r = b) ∧ Src w' B g ∧ w.grownBy w' (some g) :=
  (spec_l01Pick B g h [a, b] w hs hh hne (by simp) (by simp)).mono fun e w' ⟨r, he, hm, h1, h2⟩ => ⟨r, he, by simpa using hm, h1, h2⟩
theorem pick3 (B g h : Nat) (a b c : Int) (w : World) (hs : Src w B g) (hh : w.heap[h]? = some (.cells #[.int .i64 a, .int .i64 b, .int .i64 c] 2 (0, 0))) (hne : g < h) :
    Calls Tryz.prog 59 #[.pointer (some ⟨g, 0, none⟩), .slice (some ⟨h, 0, none⟩) 3 3] w fun e w' => ∃ r, e = .returned (.int .i64 r) ∧ (r = a ∨ r = b ∨ r = c) ∧ Src w' B g ∧ w.grownBy w' (some g) :=
  (spec_l01Pick B g h [a, b, c] w hs hh hne (by simp) (by simp)).mono fun e w' ⟨r, he, hm, h1, h2⟩ => ⟨r, he, by simpa using hm, h1, h2⟩
theorem pick4 (B g h : Nat) (a b c d : Int) (w : World) (hs : Src w B g) (hh : w.heap[h]? = some (.cells #[.int .i64 a, .int .i64 b, .int .i64 c, .int .i64 d] 2 (0, 0))) (hne : g < h) :
    Calls Tryz.prog 59 #[.pointer (some ⟨g, 0, none⟩), .slice (some ⟨h, 0, none⟩) 4 4] w fun e w' => ∃ r, e = .returned (.int .i64 r) ∧ (r = a ∨ r = b ∨ r = c ∨ r = d) ∧ Src w' B g ∧ w.grownBy w' (some g) :=
  (spec_l01Pick B g h [a, b, c, d] w hs hh hne (by simp) (by simp)).mono fun e w' ⟨r, he, hm, h1, h2⟩ => ⟨r, he, by simpa using hm, h1, h2⟩
theorem pick5 (B g h : Nat) (a b c d p : Int) (w : World) (hs : Src w B g) (hh : w.heap[h]? = some (.cells #[.int .i64 a, .int .i64 b, .int .i64 c, .int .i64 d, .int .i64 p] 2 (0, 0))) (hne : g < h) :
    Calls Tryz.prog 59 #[.pointer (some ⟨g, 0, none⟩), .slice (some ⟨h, 0, none⟩) 5 5] w fun e w' => ∃ r, e = .returned (.int .i64 r) ∧ (r = a ∨ r = b ∨ r = c ∨ r = d ∨ r = p) ∧ Src w' B g ∧ w.grownBy w' (some g) :=
  (spec_l01Pick B g h [a, b, c, d, p] w hs hh hne (by simp) (by simp)).mono fun e w' ⟨r, he, hm, h1, h2⟩ => ⟨r, he, by simpa using hm, h1, h2⟩
theorem pick6 (B g h : Nat) (a b c d p k : Int) (w : World) (hs : Src w B g) (hh : w.heap[h]? = some (.cells #[.int .i64 a, .int .i64 b, .int .i64 c, .int .i64 d, .int .i64 p, .int .i64 k] 2 (0, 0))) (hne : g < h) :
    Calls Tryz.prog 59 #[.pointer (some ⟨g, 0, none⟩), .slice (some ⟨h, 0, none⟩) 6 6] w fun e w' => ∃ r, e = .returned (.int .i64 r) ∧ (r = a ∨ r = b ∨ r = c ∨ r = d ∨ r = p ∨ r = k) ∧ Src w' B g ∧ w.grownBy w' (some g) :=
  (spec_l01Pick B g h [a, b, c, d, p, k] w hs hh hne (by simp) (by simp)).mono fun e w' ⟨r, he, hm, h1, h2⟩ => ⟨r, he, by simpa using hm, h1, h2⟩
theorem pick7 (B g h : Nat) (a b c d p k m : Int) (w : World) (hs : Src w B g) (hh : w.heap[h]? = some (.cells #[.int .i64 a, .int .i64 b, .int .i64 c, .int .i64 d, .int .i64 p, .int .i64 k, .int .i64 m] 2 (0, 0))) (hne : g < h) :
    Calls Tryz.prog 59 #[.pointer (some ⟨g, 0, none⟩), .slice (some ⟨h, 0, none⟩) 7 7] w fun e w' => ∃ r, e = .returned (.int .i64 r) ∧ (r = a ∨ r = b ∨ r = c ∨ r = d ∨ r = p ∨ r = k ∨ r = m) ∧ Src w' B g ∧ w.grownBy w' (some g) :=
  (spec_l01Pick B g h [a, b, c, d, p, k, m] w hs hh hne (by simp) (by simp)).mono fun e w' ⟨r, he, hm, h1, h2⟩ => ⟨r, he, by simpa using hm, h1, h2⟩
theorem OwnI.far {w w' : World} {base g : Nat} {v : Value} {xs : List Int} (h : OwnI w base v xs) (hg : w.grownBy w' (some g)) (hlt : g < base) : OwnI w' base v xs :=
  h.kept hg (by
    cases hv : v.ownBlock with
    | none => simp
    | some k => right; have := h.lt k hv; simp; omega)
end Go.Proofs.YthbljfanoaibkaaGreatDoor
