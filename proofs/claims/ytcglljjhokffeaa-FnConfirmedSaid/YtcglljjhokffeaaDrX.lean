/- The draws of a trail with its scans, of a first contact: contracts. Printed by gen_drx.py. -/
import Derived.Test.YtcglljjhokffeaaDrU
import Derived.Test.YtcglljjhokffeaaRwA
namespace Go.Proofs.Ytcglljjhokffeaa
open Go.RowKit Go.ChangeShapes Go.WideShapes Go.ChangeAt
set_option linter.unusedVariables false
set_option linter.unusedSimpArgs false
set_option maxRecDepth 100000 in
theorem spec_DrawFirstTrail (A : Option Addr) (c : Nat) (code : List Int) (w : World) (hr : U8 w w.heap.size A code) (hb : ∀ x ∈ code, 0 ≤ x ∧ x ≤ 255) (hl : code.length ≤ 4096) :
    Calls Try.prog 32 #[.slice A code.length c] w fun e w' => ∃ a b, e = .returned (.agg #[.int .i64 a, .int .i64 b]) ∧ Below w.heap.size w w' := by
  go_enter Try.func32, Try.ntmps32
  go_wp2_with fail
  refine calls_gen (fun W0 hW0 => ?_)
  have rb : IBox W0 43 w.heap.size [0, 0] := by rw [hW0]; exact IBox.new (w := w) (T := 43) (l := [0, 0]) rfl
  have B0 : Below w.heap.size w W0 := by rw [hW0]; exact Below.new (Below.refl _ _) _
  clear hW0
  have z0 := rb.lt
  refine (spec_l01From _ _ _ _ (Rd.up hr B0) hb hl).mono ?_
  rintro e w1 ⟨g, rfl, hg0, hs1, hb1⟩
  have rb := rb.next hb1
  have B1 : Below w.heap.size w w1 := B0.trans (hb1.mono B0.size)
  go_wp2_with fail
  refine (spec_l14DrawContact _ _ _ _ _ _ _ _ hs1).mono ?_
  rintro e w2 ⟨a, b, rfl, hs2, hg2⟩
  have rb := rb.grown hg2 (by simp; omega)
  have B2 : Below w.heap.size w w2 := below_row B1 hg2 (by omega)
  clear hg2 B1 hb1 hs1 B0
  have b0 := rb.cell (j := 0) rfl
  have b1 := rb.cell (j := 1) rfl
  have bf := rb.fz
  go_wp2_with fail
  all_goals ((try simp only [Exit.inBlock, Exit.then]); refine bodyPost_ret (by simp [results, Try.results32, go_sem, *]; try rfl) rfl ?_)
  all_goals exact ⟨_, _, rfl, by exact bgr⟩
/-- a trail and scans that were drawn -/
def DrawnRun (w : World) (e : Ending) (w' : World) : Prop := ∃ x y p q s t h m A c css, e = .returned (.tuple #[.agg #[.int .i64 x, .int .i64 y, .int .i64 p, .int .i64 q, .int .i64 s, .int .i64 t, .int .i64 h, .int .i64 m], .slice A css.length c]) ∧ CC64 w' w'.heap.size A css ∧ css.length ≤ 1000 ∧ (∀ (i : Nat) (cs : Cts), css[i]? = some cs → cs.length ≤ 7) ∧ Below w.heap.size w w'
set_option maxRecDepth 100000 in
set_option maxHeartbeats 3200000 in
theorem spec_DrawRunTrail (A : Option Addr) (c : Nat) (code : List Int) (w : World) (hr : U8 w w.heap.size A code) (hb : ∀ x ∈ code, 0 ≤ x ∧ x ≤ 255) (hl : code.length ≤ 4096) :
    Calls Try.prog 35 #[.slice A code.length c] w (DrawnRun w) := by
  obtain ⟨i0, hi, hz0, hz1, hz2⟩ := info_parts cts_info
  go_enter Try.func35, Try.ntmps35
  go_wp2_with fail
  refine calls_gen (fun W0 hW0 => ?_)
  have rb : IBox W0 41 w.heap.size [0, 0, 0, 0, 0, 0, 0, 0] := by rw [hW0]; exact IBox.new (w := w) (T := 41) (l := [0, 0, 0, 0, 0, 0, 0, 0]) rfl
  have B0 : Below w.heap.size w W0 := by rw [hW0]; exact Below.new (Below.refl _ _) _
  clear hW0
  have z0 := rb.lt
  refine (spec_l01From _ _ _ _ (Rd.up hr B0) hb hl).mono ?_
  rintro e w1 ⟨g, rfl, hg0, hs1, hb1⟩
  have rb := rb.next hb1
  have B1 : Below w.heap.size w w1 := B0.trans (hb1.mono B0.size)
  have hrb : w.heap.size < g := by omega
  go_wp2_with fail
  refine (spec_l16Draw _ _ _ hs1).mono ?_
  rintro e w2 ⟨x, y, p, q, s, t, h, m, rfl, hs2, hg2⟩
  have rb := rb.grown hg2 (by simp; omega)
  have B2 : Below w.heap.size w w2 := below_row B1 hg2 (by omega)
  have hgt := hs2.lt
  clear hg2 B1 hb1 hs1 B0 hr hb
  obtain ⟨Z, hZ⟩ : ∃ Z, Z = w2.heap.size := ⟨_, rfl⟩
  go_wp2_with fail
  refine calls_gen (fun W3 hW3 => ?_)
  have tb : IBox W3 41 Z [x, y, p, q, s, t, h, m] := by rw [hW3, hZ]; exact ((IBox.new (w := w2) (T := 41) (l := [x, y, p, q, s, t, h, m]) rfl).alloc _).alloc _
  have ol : OwnRw W3 Z W3.heap.size (.slice (some ⟨w2.heap.size + 1, 0, none⟩) 0 0) [] := by
    have h1 := (OwnRw.lit0 (W := w2.alloc (.cells #[.int .i64 x, .int .i64 y, .int .i64 p, .int .i64 q, .int .i64 s, .int .i64 t, .int .i64 h, .int .i64 m] 41)) (lo := Z) (by rw [hZ]; simp))
    have h2 := OwnRw.top (OwnRw.alloc h1 (.cells #[.int .i64 x, .int .i64 y, .int .i64 p, .int .i64 q, .int .i64 s] 39))
    rw [hW3]; simpa using h2
  have mb : IBox W3 39 (w2.heap.size + 2) [x, y, p, q, s] := by rw [hW3]; exact IBox.new (w := (w2.alloc _).alloc _) (T := 39) (l := [x, y, p, q, s]) (by simp)
  have rb : IBox W3 41 w.heap.size [0, 0, 0, 0, 0, 0, 0, 0] := by rw [hW3]; exact ((rb.alloc _).alloc _).alloc _
  have hs3 : Src W3 W0.heap.size g := by rw [hW3]; exact ((hs2.alloc _).alloc _).alloc _
  have B3 : Below w.heap.size w W3 := by rw [hW3]; exact Below.new (Below.new (Below.new B2 _) _) _
  clear hW3 hs2 B2
  obtain ⟨M, hM⟩ : ∃ M, M = w2.heap.size + 2 := ⟨_, rfl⟩
  rw [← hM] at mb ⊢
  rw [← hZ] at ol ⊢
  have zM : Z < M := by omega
  have zg : g < Z := by omega
  have wg : w.heap.size < g := by omega
  clear hM hZ hgt z0
  refine (spec_l01Next _ _ _ _ hs3 (by omega)).mono ?_
  rintro e w4 ⟨r4, rfl, ⟨hr4, ht4⟩, hs4, hg4⟩
  have tb := tb.src hg4 (by omega)
  have mb := mb.src hg4 (by omega)
  have rb := rb.grown hg4 (by simp; omega)
  have ol := OwnRw.top (ol.src hg4 (by omega))
  have B4 : Below w.heap.size w w4 := below_row B3 hg4 (by omega)
  clear hg4 hs3 B3
  go_wp2_with fail
  go_loopw [6, 8] (fun l9 n9 wr => ∃ (v : Value) (css : List Cts) (k a b c d f : Int), v = l9 ∧ n9 = .int .i64 k ∧ 0 ≤ k ∧ k + css.length ≤ 7 ∧ Hid (∀ (i : Nat) (cs : Cts), css[i]? = some cs → cs.length ≤ 7) ∧ OwnRw wr Z wr.heap.size v css ∧ IBox wr 39 M [a, b, c, d, f] ∧ IBox wr 41 Z [x, y, p, q, s, t, h, m] ∧ IBox wr 41 w.heap.size [0, 0, 0, 0, 0, 0, 0, 0] ∧ Src wr W0.heap.size g ∧ Below w.heap.size w wr) (fun _ n9 _ => (intOf n9).toNat)
  case atStart => exact ⟨_, [], r4, _, _, _, _, _, rfl, rfl, hr4, by simp; omega, fun i cs hi => by simp at hi, ol, mb, tb, rb, hs4, B4⟩
  case round =>
    clear ol mb tb rb hs4 B4 hr4 ht4
    obtain ⟨v, css, k, a, b, c, d, f, rfl, rfl, k0, k1, h7, ol, mb, tb, rb, hsr, B5⟩ := hrel
    have zr := mb.lt
    have m0 := mb.cell (j := 0) rfl
    have m1 := mb.cell (j := 1) rfl
    have m2 := mb.cell (j := 2) rfl
    have m3 := mb.cell (j := 3) rfl
    have m4 := mb.cell (j := 4) rfl
    have mf := mb.fz
    obtain ⟨Av, cv, rfl⟩ := OwnRw.form ol
    by_cases hk : 0 < k
    · go_wp2_with fail
      refine (spec_l14MoveAny _ _ _ _ _ _ _).mono ?_
      rintro e w6 ⟨a2, b2, c2, d2, f2, rfl, hb6⟩
      have mb := mb.next hb6
      have tb := tb.next hb6
      have rb := rb.next hb6
      have ol := OwnRw.top (ol.next hb6)
      have hs6 := Src.below hsr hb6
      have B6 : Below w.heap.size w w6 := B5.trans (hb6.mono B5.size)
      clear hb6 hsr B5 m0 m1 m2 m3 m4 mf
      have m0 := mb.cell (j := 0) rfl
      have m1 := mb.cell (j := 1) rfl
      have m2 := mb.cell (j := 2) rfl
      have m3 := mb.cell (j := 3) rfl
      have m4 := mb.cell (j := 4) rfl
      have mf := mb.fz
      go_wp2_with fail
      refine calls_gen (fun w7 hw7 => ?_)
      have gm : w6.grownBy w7 (some M) := by rw [hw7]; exact grownBy_set (grownBy_set (grownBy_set (grownBy_set (grownBy_set (World.grownBy.refl _ _) _ _) _ _) _ _) _ _) _ _
      have ol := OwnRw.top (OwnRw.boxed ol mb (by decide) (by decide) gm)
      have tb := tb.grown gm (by simp; omega)
      have rb := rb.grown gm (by simp; omega)
      have hs7 : Src w7 W0.heap.size g := hs6.other gm (fun q hq => by simp at hq; omega)
      have B7 : Below w.heap.size w w7 := below_row B6 gm (by omega)
      have mb : IBox w7 39 M [a2, b2, c2, d2, f2] := by rw [hw7]; exact ((((mb.set 0 _).set 1 _).set 2 _).set 3 _).set 4 _
      have z7 := mb.lt
      clear hw7 gm hs6 B6 m0 m1 m2 m3 m4 mf
      refine (spec_l14DrawContacts _ _ _ _ _ _ _ _ hs7).mono ?_
      rintro e w8 ⟨vc, cs, rfl, oc, hc7, hs8, hg8⟩
      have mb := mb.src hg8 (by omega)
      have tb := tb.src hg8 (by omega)
      have rb := rb.grown hg8 (by simp; omega)
      have ol := OwnRw.top (ol.src hg8 (by omega))
      have oc : OwnCt w8 Z w8.heap.size vc cs := OwnS.mono oc (by have := mb.lt; have := hg8.size; have := zr; omega) (Nat.le_refl _)
      have B8 : Below w.heap.size w w8 := below_row B7 hg8 (by omega)
      clear hg8 hs7 B7
      obtain ⟨Ac, cc, rfl⟩ := OwnS.form oc
      go_wp2_with (at_builtin; refine push_rw w8.heap.size (by simp) ol oc rfl _ _ (by rfl) (by rfl) (by rfl) (by have := mb.lt; omega) (by omega) ?_; intro v9 w9 ol9 hb9 hg9)
      have hs9 : Src w9 W0.heap.size g := hs8.other hg9 (fun q hq => by have := (ol.lt q hq).1; omega)
      have mb9 := mb.grown hg9 (ol.ne mb (by decide))
      have tb9 := tb.grown hg9 (ol.ne tb (by decide))
      have rb9 := rb.grown hg9 (ol.ne rb (by decide))
      have B9 : Below w.heap.size w w9 := B8.trans (hb9.mono (by omega))
      go_roundw
      case rel => exact ⟨_, _, k - 1, _, _, _, _, _, rfl, rfl, by omega, by simp; omega, fun i cs' hi => (by
        rcases Nat.lt_or_ge i css.length with h | h
        · rw [List.getElem?_append_left h] at hi; exact h7.out i cs' hi
        · rw [List.getElem?_append_right h] at hi
          have e : i - css.length = 0 := by have := lt_of_get hi; simp at this; omega
          rw [e] at hi; simp at hi; subst hi; exact hc7), ol9, mb9, tb9, rb9, hs9, B9⟩
      case measure => simp [intOf]; omega
    · clear m0 m1 m2 m3 m4 mf
      go_wp2_with fail
      refine (spec_l01Next _ _ _ _ hsr (by omega)).mono ?_
      rintro e w6 ⟨r6, rfl, ⟨hr6, ht6⟩, hs6, hg6⟩
      have tb := tb.src hg6 (by omega)
      have rb := rb.grown hg6 (by simp; omega)
      have ol := OwnRw.top (ol.src hg6 (by omega))
      have B6 : Below w.heap.size w w6 := below_row B5 hg6 (by omega)
      clear hg6 hsr B5
      by_cases q6 : r6 = 0
      · subst q6
        go_wp2_with fail
        refine (spec_l01Next _ _ _ _ hs6 (by omega)).mono ?_
        rintro e w7 ⟨r7, rfl, ⟨hr7, ht7⟩, hs7, hg7⟩
        have tb := tb.src hg7 (by omega)
        have rb := rb.grown hg7 (by simp; omega)
        have B7 : Below w.heap.size w w7 := below_row B6 hg7 (by omega)
        have zr7 := tb.lt
        clear hg7 hs6 B6 ol
        obtain ⟨N, hN⟩ : ∃ N : Nat, (N : Int) = 200 + r7 := ⟨(200 + r7).toNat, by omega⟩
        have e7 : r7 = (N : Int) - 200 := by omega
        have hN2 : N ≤ 201 := by omega
        have e8 : 200 + ((N : Int) - 200) = (N : Int) := by omega
        have e9 : IntKind.i64.wrap (200 + ((N : Int) - 200)) = (N : Int) := by rw [e8]; exact IntWalk.i64_in _ (by omega)
        subst e7
        clear hN
        go_wp2_with (at_make; (try simp only [e9, e8]); refine wpList_make_full _ rfl _ _ 55 rfl Z 27 i0 _ 1 Try.underlying55 hi hz0 hz1 .i64 .i64 _ _ N rfl rfl rfl rfl (by rw [hz2]; omega) (by simp only [maxLen]; omega) (by omega) ?_; intro w8 hown hg8; have ol8 : OwnRw w8 Z w8.heap.size (.slice (some ⟨w7.heap.size, 0, none⟩) N N) (List.replicate N []) := OwnRw.made (by have h := hown; simp only [show (Value.slice none 0 0).cells = #[Value.slice none 0 0] from rfl, Nat.mul_one, toList_madeCells_one] at h; simpa using h); have hb8 : Below w7.heap.size w7 w8 := ⟨hg8.os, hg8.tape, hg8.output, hg8.size, fun k hk => hg8.block k hk (by simp)⟩; have tb := tb.next hb8; have rb := rb.next hb8; have B8 : Below w.heap.size w w8 := B7.trans (hb8.mono (by omega)); have t0 := tb.cell (j := 0) rfl; have t1 := tb.cell (j := 1) rfl; have t2 := tb.cell (j := 2) rfl; have t3 := tb.cell (j := 3) rfl; have t4 := tb.cell (j := 4) rfl; have t5 := tb.cell (j := 5) rfl; have t6 := tb.cell (j := 6) rfl; have t7 := tb.cell (j := 7) rfl; have tf := tb.fz; have b0 := rb.cell (j := 0) rfl; have b1 := rb.cell (j := 1) rfl; have b2 := rb.cell (j := 2) rfl; have b3 := rb.cell (j := 3) rfl; have b4 := rb.cell (j := 4) rfl; have b5 := rb.cell (j := 5) rfl; have b6 := rb.cell (j := 6) rfl; have b7 := rb.cell (j := 7) rfl; have bf := rb.fz)
        all_goals ((try simp only [Exit.inBlock, Exit.then]); refine bodyPost_ret (by simp [results, Try.results35, go_sem, *]; try rfl) rfl ?_)
        all_goals exact ⟨_, _, _, _, _, _, _, _, _, _, List.replicate N [], by rw [List.length_replicate], (OwnRw.boxed ol8 rb (by decide) (by decide) (grownBy_set (grownBy_set (grownBy_set (grownBy_set (grownBy_set (grownBy_set (grownBy_set (grownBy_set (World.grownBy.refl _ _) _ _) _ _) _ _) _ _) _ _) _ _) _ _) _ _)).rd.2, by simp; omega, fun i cs hx => by rw [List.getElem?_replicate] at hx; split at hx <;> simp at hx; subst hx; simp, by exact bgr⟩
      · have e6 : (r6 == 0) = false := by simpa using q6
        have t0 := tb.cell (j := 0) rfl
        have t1 := tb.cell (j := 1) rfl
        have t2 := tb.cell (j := 2) rfl
        have t3 := tb.cell (j := 3) rfl
        have t4 := tb.cell (j := 4) rfl
        have t5 := tb.cell (j := 5) rfl
        have t6 := tb.cell (j := 6) rfl
        have t7 := tb.cell (j := 7) rfl
        have tf := tb.fz
        have b0 := rb.cell (j := 0) rfl
        have b1 := rb.cell (j := 1) rfl
        have b2 := rb.cell (j := 2) rfl
        have b3 := rb.cell (j := 3) rfl
        have b4 := rb.cell (j := 4) rfl
        have b5 := rb.cell (j := 5) rfl
        have b6 := rb.cell (j := 6) rfl
        have b7 := rb.cell (j := 7) rfl
        have bf := rb.fz
        go_wp2_with fail
        all_goals ((try simp only [Exit.inBlock, Exit.then]); refine bodyPost_ret (by simp [results, Try.results35, go_sem, *]; try rfl) rfl ?_)
        all_goals exact ⟨_, _, _, _, _, _, _, _, _, _, css, rfl, (OwnRw.boxed ol rb (by decide) (by decide) (grownBy_set (grownBy_set (grownBy_set (grownBy_set (grownBy_set (grownBy_set (grownBy_set (grownBy_set (World.grownBy.refl _ _) _ _) _ _) _ _) _ _) _ _) _ _) _ _) _ _)).rd.2, by omega, h7.out, by exact bgr⟩
end Go.Proofs.Ytcglljjhokffeaa
