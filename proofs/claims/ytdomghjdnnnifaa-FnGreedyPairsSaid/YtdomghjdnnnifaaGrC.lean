/- Greedy pairs: contract of the program's GreedyPairs. -/
import Derived.Test.YtdomghjdnnnifaaGrB
import Derived.Deep.LoopGhost
namespace Go.Proofs.Ytdomghjdnnnifaa
open Go.RowKit Go.ChangeShapes Go.WideShapes Go.ChangeAt
set_option linter.unusedVariables false
set_option linter.unusedSimpArgs false
theorem lit1g {W : World} {b : Nat} {x : Int} (h : W.cell? ⟨b, 0, none⟩ = some (.int .i64 x)) : I64 W W.heap.size (some ⟨b, 0, none⟩) [x] :=
  .inr ⟨b, 0, rfl, World.block_lt_of_cell? W ⟨b, 0, none⟩ h, fun j v hj => by
    have h0 : j = 0 := by have := (List.getElem?_eq_some_iff.1 hj).1; simp at this; omega
    subst h0
    simp at hj
    subst hj
    exact h⟩
set_option maxHeartbeats 400000 in
set_option maxRecDepth 100000 in
theorem slices_Repeat0 (A : Option Addr) (c : Nat) (x : Int) (w : World) (hr : I64 w w.heap.size A [x]) :
    Calls Try.prog 70 #[.slice A 1 c, .int .i64 0] w fun e w' => ∃ v, e = .returned v ∧ OwnI w' w.heap.size v [] ∧ Below w.heap.size w w' := by
  obtain ⟨i0, hi, hz0, hz1, hz2⟩ := info_parts int_info
  have hsz1 : (Try.prog.info? 2).map (·.size) = some 1 := by kernel_rfl
  go_enter Try.func70, Try.ntmps70
  go_wp2_with (first | (go_at_call 85; refine (bits_Mul_1 0 _ (by omega)).mono ?_; rintro e w' ⟨rfl, rfl⟩) | (at_make; refine wpList_make_full _ rfl _ _ 27 rfl w.heap.size 2 i0 _ 1 Try.underlying27 hi hz0 hz1 .i64 .i64 _ _ 0 rfl rfl rfl rfl (by rw [hz2]; omega) (by simp only [maxLen]; omega) (Nat.le_refl _) ?_; intro w1 hown hg; have hb1 : Below w.heap.size w w1 := ⟨hg.os, hg.tape, hg.output, hg.size, fun k hk => hg.block k hk (by simp)⟩) | (refine wpList_copy_nothing rfl _ _ _ _ rfl 2 Try.underlying27 hsz1 _ _ _ _ _ _ rfl rfl (by rfl) ?_))
  all_goals repeat' (first | fail | go_values | go_skip | go_guarded | go_step | go_upon | (simp only []; go_step) | (go_ite <;> go_prune <;> (try go_simp)))
  go_loopw [8] (fun nv wr => nv = .int .i64 0 ∧ wr = w1) (fun _ _ => 0)
  case atStart => exact ⟨rfl, rfl⟩
  case round =>
    obtain ⟨rfl, rfl⟩ := hrel
    repeat' (first | fail | go_values | go_skip | go_guarded | go_step | go_upon | (simp only []; go_step) | (go_ite <;> go_prune <;> (try go_simp)))
    all_goals go_returns
    have h := hown
    simp only [show (Value.int .i64 0).cells = #[Value.int .i64 0] from rfl, Nat.mul_one, toList_madeCells_one, List.replicate_zero] at h
    exact ⟨_, rfl, ⟨some ⟨w.heap.size, 0, none⟩, 0, rfl, by simpa using h⟩, hb1⟩
theorem slices_RepeatN (A : Option Addr) (c n : Nat) (x : Int) (w : World) (hr : I64 w w.heap.size A [x]) (hn : n ≤ 100000) :
    Calls Try.prog 70 #[.slice A 1 c, .int .i64 n] w fun e w' => ∃ v, e = .returned v ∧ OwnI w' w.heap.size v (List.replicate n x) ∧ Below w.heap.size w w' := by
  rcases Nat.eq_zero_or_pos n with h | h
  · subst h; exact slices_Repeat0 A c x w hr
  · exact slices_Repeat1 A c n x w hr hn h
theorem impl_cheapest' (A : Option Addr) (c : Nat) (xss : List (List Int)) (miss : Int) (B : Option Addr) (n d : Nat) (ps : List Int) (a b : Int) (w : World) (hn : n = ps.length) (hr : II64 w w.heap.size A xss) (hs : I64 w w.heap.size B ps) (hA : areB xss = true) (hlen : ps.length = xss.length) (h0 : 0 ≤ miss) (h1 : miss ≤ 1000000000000) (ha : rwP (chP miss xss ps xss.length) = a) (hb : clP (chP miss xss ps xss.length) = b) :
    Calls Try.prog 71 #[.slice A xss.length c, .int .i64 miss, .slice B n d] w fun e w' => e = .returned (.tuple #[.int .i64 a, .int .i64 b]) ∧ Below w.heap.size w w' := by
  subst hn ha hb
  exact impl_cheapest A c xss miss B d ps w hr hs hA hlen h0 h1
set_option maxHeartbeats 1600000 in
theorem impl_GreedyPairs (A : Option Addr) (c : Nat) (xss : List (List Int)) (miss : Int) (w : World) (hr : II64 w w.heap.size A xss) (hl : xss.length ≤ 1099511627776) (hm : ∀ (i : Nat) (xs : List Int), xss[i]? = some xs → xs.length ≤ 1099511627776) :
    Calls Try.prog 41 #[.slice A xss.length c, .int .i64 miss] w fun e w' => ∃ v, e = .returned (.tuple #[v, .int .i64 (codeC xss miss)]) ∧ OwnI w' w.heap.size v (fGreedy xss miss) ∧ Below w.heap.size w w' := by
  obtain ⟨g, hg⟩ : ∃ g, g = codeC xss miss := ⟨_, rfl⟩
  by_cases h0 : g = 0
  · subst h0
    obtain ⟨hA, hm0, hm1⟩ := codeC_0 hg.symm
    have e : fGreedy xss miss = grP miss xss := by simp [fGreedy, ← hg]
    have h6 := (are_facts hA).1
    rw [e, ← hg]
    have hgH := Lib.hid hg
    have hAH := Lib.hid hA
    clear e hg hA
    go_enter Try.func41, Try.ntmps41
    repeat' (first | fail | go_values | go_skip | go_guarded | go_step | go_upon | (simp only []; go_step) | (go_ite <;> go_prune <;> (try go_simp)))
    refine (impl_costCode _ _ _ _ _ (hr.up (by repeat' (first | (with_reducible exact Below.refl _ _) | (with_reducible assumption) | (with_reducible refine Below.new ?_ _) | (with_reducible refine Below.alloc ?_ ?_ _) | (with_reducible refine Below.drew ?_) | (with_reducible refine below_drewN ?_ _) | (with_reducible refine Below.setCell ?_ ?_ _) | (refine Below.next ?_ (by with_reducible assumption)) | (refine Below.row ?_ (by with_reducible assumption) (by omega)) | (refine Below.trans ?_ (by with_reducible assumption)) | (refine Below.after ?_ ?_ (by with_reducible assumption)) | go_size))) hl hm).mono ?_; rintro e w1 ⟨rfl, hbw1⟩; have hzw1 := hbw1.size; (try simp only [World.size_alloc, World.size_setCell, World.size_drew] at hzw1)
    rw [← hgH.out]
    repeat' (first | fail | go_values | go_skip | go_guarded | go_step | go_upon | (simp only []; go_step) | (go_ite <;> go_prune <;> (try go_simp)))
    refine (slices_RepeatN _ _ xss.length (-1) _ (lit1g (by repeat' (first | (with_reducible assumption) | ((with_reducible apply bx_new) <;> first | (simp only [World.size_alloc, World.size_setCell]; done) | rfl) | (with_reducible apply bx_alloc) | (with_reducible apply bx_other; (first | (simp only [World.size_alloc, World.size_setCell]; omega) | omega)) | (with_reducible apply bx_same) | (with_reducible apply bx_drew) | (with_reducible apply bx_drew1) | (with_reducible apply bx_keep; with_reducible assumption) | fail))) (by omega)).mono ?_; rintro e w2 ⟨v, rfl, ov, hbw2⟩; have hzw2 := hbw2.size; (try simp only [World.size_alloc, World.size_setCell, World.size_drew] at hzw2)
    have ov : OwnI w2 w.heap.size v (itP miss xss 0) := OwnI.mono ov (by first | omega | (simp only [World.size_alloc]; omega))
    have hB2 : Below w.heap.size w w2 := by repeat' (first | (with_reducible exact Below.refl _ _) | (with_reducible assumption) | (with_reducible refine Below.new ?_ _) | (with_reducible refine Below.alloc ?_ ?_ _) | (with_reducible refine Below.drew ?_) | (with_reducible refine below_drewN ?_ _) | (with_reducible refine Below.setCell ?_ ?_ _) | (refine Below.next ?_ (by with_reducible assumption)) | (refine Below.row ?_ (by with_reducible assumption) (by omega)) | (refine Below.trans ?_ (by with_reducible assumption)) | (refine Below.after ?_ ?_ (by with_reducible assumption)) | go_size)
    obtain ⟨Av, cv, ev, _⟩ := id ov
    rw [it_len] at ev
    subst ev
    clear hbw2
    repeat' (first | fail | go_values | go_skip | go_guarded | go_step | go_upon | (simp only []; go_step) | (go_ite <;> go_prune <;> (try go_simp)))
    go_loopg [] xss.length (fun gg wr => ∃ n : Nat, n + gg = xss.length ∧ OwnI wr w.heap.size (.slice Av xss.length cv) (itP miss xss n) ∧ Hid (∀ m, m < n → (chP miss xss (itP miss xss m) xss.length).isSome = true) ∧ Below w.heap.size w wr)
    case atStart => exact ⟨0, by omega, ov, fun m hm => by omega, hB2⟩
    case round =>
      clear ov hB2
      obtain ⟨n, hn, ov, hsome, hbr⟩ := hrel
      have hlen := it_len (miss := miss) (xss := xss) n
      have hgo := good_ch (miss := miss) (xss := xss) (ps := itP miss xss n) xss.length (Nat.le_refl _)
      have hsz := hbr.size
      have hnl : n ≤ xss.length := by omega
      have hgkH := Lib.hid hn
      have hlenH := Lib.hid hlen
      clear hn hlen
      rcases hc : chP miss xss (itP miss xss n) xss.length with _ | ⟨i, k⟩
      · have hcH := Lib.hid hc
        clear hc hgo
        repeat' (first | fail | go_values | go_skip | go_guarded | go_step | go_upon | (simp only []; go_step) | (go_ite <;> go_prune <;> (try go_simp)))
        refine (impl_cheapest' _ _ _ _ _ _ _ (itP miss xss n) (-1) (-1) _ hlenH.out.symm (hr.up (by repeat' (first | (with_reducible exact Below.refl _ _) | (with_reducible assumption) | (with_reducible refine Below.new ?_ _) | (with_reducible refine Below.alloc ?_ ?_ _) | (with_reducible refine Below.drew ?_) | (with_reducible refine below_drewN ?_ _) | (with_reducible refine Below.setCell ?_ ?_ _) | (refine Below.next ?_ (by with_reducible assumption)) | (refine Below.row ?_ (by with_reducible assumption) (by omega)) | (refine Below.trans ?_ (by with_reducible assumption)) | (refine Below.after ?_ ?_ (by with_reducible assumption)) | go_size))) (ov.reads.2.up (by repeat' (first | (with_reducible exact Below.refl _ _) | (with_reducible assumption) | (with_reducible refine Below.new ?_ _) | (with_reducible refine Below.alloc ?_ ?_ _) | (with_reducible refine Below.drew ?_) | (with_reducible refine below_drewN ?_ _) | (with_reducible refine Below.setCell ?_ ?_ _) | (refine Below.next ?_ (by with_reducible assumption)) | (refine Below.row ?_ (by with_reducible assumption) (by omega)) | (refine Below.trans ?_ (by with_reducible assumption)) | (refine Below.after ?_ ?_ (by with_reducible assumption)) | go_size))) hAH.out hlenH.out hm0 hm1 (by rw [hcH.out]; rfl) (by rw [hcH.out]; rfl)).mono ?_; rintro e w3 ⟨rfl, hbw3⟩; have hzw3 := hbw3.size; (try simp only [World.size_alloc, World.size_setCell, World.size_drew] at hzw3)
        have ov3 := ov.below (w' := w3) (by repeat' (first | (with_reducible exact Below.refl _ _) | (with_reducible assumption) | (with_reducible refine Below.new ?_ _) | (with_reducible refine Below.alloc ?_ ?_ _) | (with_reducible refine Below.drew ?_) | (with_reducible refine below_drewN ?_ _) | (with_reducible refine Below.setCell ?_ ?_ _) | (refine Below.next ?_ (by with_reducible assumption)) | (refine Below.row ?_ (by with_reducible assumption) (by omega)) | (refine Below.trans ?_ (by with_reducible assumption)) | (refine Below.after ?_ ?_ (by with_reducible assumption)) | go_size))
        repeat' (first | fail | go_values | go_skip | go_guarded | go_step | go_upon | (simp only []; go_step) | (go_ite <;> go_prune <;> (try go_simp)))
        all_goals go_returns
        all_goals exact ⟨_, rfl, by rw [← gr_of hnl hcH.out]; exact ov3, by repeat' (first | (with_reducible exact Below.refl _ _) | (with_reducible assumption) | (with_reducible refine Below.new ?_ _) | (with_reducible refine Below.alloc ?_ ?_ _) | (with_reducible refine Below.drew ?_) | (with_reducible refine below_drewN ?_ _) | (with_reducible refine Below.setCell ?_ ?_ _) | (refine Below.next ?_ (by with_reducible assumption)) | (refine Below.row ?_ (by with_reducible assumption) (by omega)) | (refine Below.trans ?_ (by with_reducible assumption)) | (refine Below.after ?_ ?_ (by with_reducible assumption)) | go_size)⟩
      · obtain ⟨xs, y, hx, hy, hok⟩ := hgo i k hc
        have hil := lt_of_get hx
        obtain ⟨z, hz⟩ := get_of_lt (xs := itP miss xss n) (k := i) (by have := hlenH.out; omega)
        have hnx : Hid (itP miss xss (n + 1) = (itP miss xss n).set i (k : Int)) := by unfold Hid; rw [itP, nxP, hc]
        have hmore : Hid (∀ m, m < n + 1 → (chP miss xss (itP miss xss m) xss.length).isSome = true) := fun m hm => by
          rcases Nat.lt_or_ge m n with h | h
          · exact hsome.out m h
          · rw [show m = n by omega, hc]; rfl
        have hn1 := it_more hmore.out
        have hcH := Lib.hid hc
        have p0 : (0 : Int) ≤ (i : Int) := by omega
        have p1 : (i : Int) < (xss.length : Int) := by omega
        have hzH := Lib.hid hz
        clear hc hgo hx hy hok hz
        repeat' (first | fail | go_values | go_skip | go_guarded | go_step | go_upon | (simp only []; go_step) | (go_ite <;> go_prune <;> (try go_simp)))
        refine (impl_cheapest' _ _ _ _ _ _ _ (itP miss xss n) i k _ hlenH.out.symm (hr.up (by repeat' (first | (with_reducible exact Below.refl _ _) | (with_reducible assumption) | (with_reducible refine Below.new ?_ _) | (with_reducible refine Below.alloc ?_ ?_ _) | (with_reducible refine Below.drew ?_) | (with_reducible refine below_drewN ?_ _) | (with_reducible refine Below.setCell ?_ ?_ _) | (refine Below.next ?_ (by with_reducible assumption)) | (refine Below.row ?_ (by with_reducible assumption) (by omega)) | (refine Below.trans ?_ (by with_reducible assumption)) | (refine Below.after ?_ ?_ (by with_reducible assumption)) | go_size))) (ov.reads.2.up (by repeat' (first | (with_reducible exact Below.refl _ _) | (with_reducible assumption) | (with_reducible refine Below.new ?_ _) | (with_reducible refine Below.alloc ?_ ?_ _) | (with_reducible refine Below.drew ?_) | (with_reducible refine below_drewN ?_ _) | (with_reducible refine Below.setCell ?_ ?_ _) | (refine Below.next ?_ (by with_reducible assumption)) | (refine Below.row ?_ (by with_reducible assumption) (by omega)) | (refine Below.trans ?_ (by with_reducible assumption)) | (refine Below.after ?_ ?_ (by with_reducible assumption)) | go_size))) hAH.out hlenH.out hm0 hm1 (by rw [hcH.out]; rfl) (by rw [hcH.out]; rfl)).mono ?_; rintro e w3 ⟨rfl, hbw3⟩; have hzw3 := hbw3.size; (try simp only [World.size_alloc, World.size_setCell, World.size_drew] at hzw3)
        have ov3 := ov.below (w' := w3) (by repeat' (first | (with_reducible exact Below.refl _ _) | (with_reducible assumption) | (with_reducible refine Below.new ?_ _) | (with_reducible refine Below.alloc ?_ ?_ _) | (with_reducible refine Below.drew ?_) | (with_reducible refine below_drewN ?_ _) | (with_reducible refine Below.setCell ?_ ?_ _) | (refine Below.next ?_ (by with_reducible assumption)) | (refine Below.row ?_ (by with_reducible assumption) (by omega)) | (refine Below.trans ?_ (by with_reducible assumption)) | (refine Below.after ?_ ?_ (by with_reducible assumption)) | go_size))
        obtain ⟨gb, rfl, hgb, hcz, hfz, hst⟩ := ov3.cell hzH.out
        have hst' := (hst (k : Int)).1
        clear hst
        repeat' (first | fail | go_values | go_skip | go_guarded | go_step | go_upon | (simp only []; go_step) | (go_ite <;> go_prune <;> (try go_simp)))
        go_roundg (gk - 1)
        case measure => have := hgkH.out; omega
        case rel => exact ⟨n + 1, by have := hgkH.out; omega, by rw [hnx.out]; exact hst', hmore.out, by repeat' (first | (with_reducible exact Below.refl _ _) | (with_reducible assumption) | (with_reducible refine Below.new ?_ _) | (with_reducible refine Below.alloc ?_ ?_ _) | (with_reducible refine Below.drew ?_) | (with_reducible refine below_drewN ?_ _) | (with_reducible refine Below.setCell ?_ ?_ _) | (refine Below.next ?_ (by with_reducible assumption)) | (refine Below.row ?_ (by with_reducible assumption) (by omega)) | (refine Below.trans ?_ (by with_reducible assumption)) | (refine Below.after ?_ ?_ (by with_reducible assumption)) | go_size)⟩
  · have e : fGreedy xss miss = [] := by simp [fGreedy, ← hg, h0]
    rw [e, ← hg]
    have hgH := Lib.hid hg
    have h0' : (g != 0) = true := by simp [h0]
    clear e hg
    go_enter Try.func41, Try.ntmps41
    repeat' (first | fail | go_values | go_skip | go_guarded | go_step | go_upon | (simp only []; go_step) | (go_ite <;> go_prune <;> (try go_simp)))
    refine (impl_costCode _ _ _ _ _ (hr.up (by repeat' (first | (with_reducible exact Below.refl _ _) | (with_reducible assumption) | (with_reducible refine Below.new ?_ _) | (with_reducible refine Below.alloc ?_ ?_ _) | (with_reducible refine Below.drew ?_) | (with_reducible refine below_drewN ?_ _) | (with_reducible refine Below.setCell ?_ ?_ _) | (refine Below.next ?_ (by with_reducible assumption)) | (refine Below.row ?_ (by with_reducible assumption) (by omega)) | (refine Below.trans ?_ (by with_reducible assumption)) | (refine Below.after ?_ ?_ (by with_reducible assumption)) | go_size))) hl hm).mono ?_; rintro e w1 ⟨rfl, hbw1⟩; have hzw1 := hbw1.size; (try simp only [World.size_alloc, World.size_setCell, World.size_drew] at hzw1)
    rw [← hgH.out]
    repeat' (first | fail | go_values | go_skip | go_guarded | go_step | go_upon | (simp only []; go_step) | (go_ite <;> go_prune <;> (try go_simp)))
    all_goals go_returns
    all_goals exact ⟨_, rfl, OwnI.nil _ _, by repeat' (first | (with_reducible exact Below.refl _ _) | (with_reducible assumption) | (with_reducible refine Below.new ?_ _) | (with_reducible refine Below.alloc ?_ ?_ _) | (with_reducible refine Below.drew ?_) | (with_reducible refine below_drewN ?_ _) | (with_reducible refine Below.setCell ?_ ?_ _) | (refine Below.next ?_ (by with_reducible assumption)) | (refine Below.row ?_ (by with_reducible assumption) (by omega)) | (refine Below.trans ?_ (by with_reducible assumption)) | (refine Below.after ?_ ?_ (by with_reducible assumption)) | go_size)⟩
end Go.Proofs.Ytdomghjdnnnifaa
