/- All pairings by the program: bestPairs. -/
import Derived.Test.YtdomghjdnnnifaaAllEb
import Derived.Lib.SliceRun
import Derived.Test.YtdomghjdnnnifaaAllF
namespace Go.Proofs.Ytdomghjdnnnifaa
open Go.RowKit Go.ChangeShapes Go.WideShapes Go.ChangeAt
set_option linter.unusedVariables false
set_option linter.unusedSimpArgs false
/-- the best pairing so far, and its sum -/
def stB (miss : Int) (css : List (List Int)) (acc : List Int × Int) (qs : List Int) : List Int × Int := if acc.2 < 0 ∨ psk miss css qs qs.length < acc.2 then (qs, psk miss css qs qs.length) else acc
def foB (miss : Int) (css vis : List (List Int)) : List Int × Int := vis.foldl (stB miss css) ([], -1)
theorem foB_snoc {miss : Int} {css vis : List (List Int)} {qs : List Int} : foB miss css (vis ++ [qs]) = stB miss css (foB miss css vis) qs := by rw [foB, List.foldl_append]; rfl
theorem foB_take {miss : Int} {css all : List (List Int)} (h : ∀ (i : Nat) (qs : List Int), all[i]? = some qs → 0 ≤ psk miss css qs qs.length) : ∀ k, k < all.length → foB miss css (all.take (k + 1)) = (all.getD (mI (sumA miss css all) k) [], sumA miss css all (mI (sumA miss css all) k))
  | 0, hk => by
    obtain ⟨x, hx⟩ := get_of_lt hk
    rw [take_snoc hx, foB_snoc]
    simp [foB, stB, mI, sumA, List.getD, hx]
  | k + 1, hk => by
    have ih := foB_take h k (by omega)
    obtain ⟨x, hx⟩ := get_of_lt hk
    have hm := mI_le (f := sumA miss css all) k
    obtain ⟨y, hy⟩ := get_of_lt (xs := all) (k := mI (sumA miss css all) k) (by omega)
    have h0 : 0 ≤ sumA miss css all (mI (sumA miss css all) k) := by
      have := h _ y hy
      rw [sumA, show all.getD (mI (sumA miss css all) k) [] = y by simp [List.getD, hy]]; exact this
    have e1 : sumA miss css all (k + 1) = psk miss css x x.length := by rw [sumA, show all.getD (k + 1) [] = x by simp [List.getD, hx]]
    rw [take_snoc hx, foB_snoc, ih, stB, mI_succ, e1]
    by_cases hc : psk miss css x x.length < sumA miss css all (mI (sumA miss css all) k)
    · rw [if_pos (.inr hc), if_pos hc, e1, show all.getD (k + 1) [] = x by simp [List.getD, hx]]
    · rw [if_neg hc, if_neg (fun e => e.elim (fun e => by have : sumA miss css all (mI (sumA miss css all) k) < 0 := e; omega) hc)]
theorem foB_best {css : List (List Int)} {miss : Int} (hA : areB css = true) (h0 : 0 ≤ miss) (h1 : miss ≤ 1000000000000) : foB miss css (allP css) = (bstP css miss, lstP css miss) := by
  have hp : ∀ (i : Nat) (qs : List Int), (allP css)[i]? = some qs → 0 ≤ psk miss css qs qs.length := fun i qs h => (psk_bd hA (allP_pair (List.mem_of_getElem? h)) h0 h1 qs.length (Nat.le_refl _)).1
  have hpos : 0 < (allP css).length := allR_pos
  have h := foB_take hp ((allP css).length - 1) (by omega)
  rw [List.take_of_length_le (by omega)] at h
  rw [h]; rfl
theorem slices_CloneO (g n c base : Nat) (xs : List Int) (w : World) (ho : OwnI w base (.slice (some ⟨g, 0, none⟩) n c) xs) (hl : xs.length ≤ 1048576) :
    Calls Try.prog 84 #[.slice (some ⟨g, 0, none⟩) n c] w fun e w' => ∃ v, e = .returned v ∧ OwnI w' w.heap.size v xs ∧ Below w.heap.size w w' := by
  have hoH := Lib.hid ho
  have hnil : ∀ w, (binOp .eql 27 (.slice (some ⟨g, 0, none⟩) n c) (.slice none 0 0)).run Try.prog w = .ok (.bool false) w := fun w => Lib.run_eql_slice_nil w _ _ _ _ _ _ _ Try.underlying27
  clear ho
  go_enter Try.func84, Try.ntmps84
  go_wp2_with (at_builtin; refine push_ints (OwnI.lit0 (Nat.le_refl _)) (hoH.out.alloc _) rfl _ _ rfl (by rfl) (by rfl) (by simp) (by simp) hl ?_; intro v' w1 ho1 hg1 hb1)
  all_goals go_returns
  all_goals exact ⟨_, rfl, by simpa using ho1, (Below.new (Below.refl _ _) _).trans (hb1)⟩
/-- the boxes of bestPairs -/
structure BI (Co Mi Le Be : Nat) (A : Option Addr) (c : Nat) (css : List (List Int)) (miss : Int) (g : Nat) (vis : List (List Int)) (w : World) : Prop where
  co : w.cell? ⟨Co, 0, none⟩ = some (.slice A css.length c)
  mi : w.cell? ⟨Mi, 0, none⟩ = some (.int .i64 miss)
  le : w.cell? ⟨Le, 0, none⟩ = some (.int .i64 (foB miss css vis).2)
  be : ∃ v, w.cell? ⟨Be, 0, none⟩ = some v ∧ OwnI w (g + 1) v (foB miss css vis).1
  zl : ∀ o, w.frozen? ⟨Le, o, none⟩ = false
  zb : ∀ o, w.frozen? ⟨Be, o, none⟩ = false
section
variable {Co Mi Le Be : Nat} {A : Option Addr} {c : Nat} {css : List (List Int)} {miss : Int} {g : Nat} {vis : List (List Int)} {w w' : World}
theorem BI.off {S : Nat → Prop} (h : BI Co Mi Le Be A c css miss g vis w) (hw : Off S w w') (h1 : ¬ S Co) (h2 : ¬ S Mi) (h3 : ¬ S Le) (h4 : ¬ S Be) (h5 : ∀ k, g < k → ¬ S k) : BI Co Mi Le Be A c css miss g vis w' := by
  obtain ⟨v, hv, ho⟩ := h.be
  exact ⟨hw.cell h.co h1, hw.cell h.mi h2, hw.cell h.le h3, ⟨v, hw.cell hv h4, ho.offS hw (fun k hk => h5 k (by have := (ho.lt k hk).1; omega))⟩, hw.frozen (World.block_lt_of_cell? w ⟨Le, 0, none⟩ h.le) h3 h.zl, hw.frozen (World.block_lt_of_cell? w ⟨Be, 0, none⟩ hv) h4 h.zb⟩
end
set_option maxHeartbeats 1600000 in
theorem impl_best_do (B Co Mi Le Be g n cp c : Nat) (A : Option Addr) (css : List (List Int)) (miss : Int) (vis : List (List Int)) (qs : List Int) (w : World) (h : BI Co Mi Le Be A c css miss g vis w) (hA : areB css = true) (h0 : 0 ≤ miss) (h1 : miss ≤ 1000000000000)
    (hr : II64 w B A css) (hB : B ≤ w.heap.size) (ho : OwnI w B (.slice (some ⟨g, 0, none⟩) n cp) qs) (hp : pairB css qs = true) (hne : ¬ Le = Be) (hne2 : ¬ Be = Le) (hcl : Co ≠ Le) (hcb : Co ≠ Be) (hml : Mi ≠ Le) (hmb : Mi ≠ Be) (hgl : Le < g) (hgb : Be < g) :
    Calls Try.prog 83 #[.slice (some ⟨g, 0, none⟩) n cp, .pointer (some ⟨Co, 0, none⟩), .pointer (some ⟨Mi, 0, none⟩), .pointer (some ⟨Le, 0, none⟩), .pointer (some ⟨Be, 0, none⟩)] w fun e w' => e = .returned (.tuple #[]) ∧ BI Co Mi Le Be A c css miss g (vis ++ [qs]) w' ∧ Off (fun k => k = Le ∨ k = Be) w w' := by
  obtain ⟨c0, c1, c2, ⟨v, c3, ov⟩, z2, z3⟩ := h
  obtain ⟨bl, hbl⟩ : ∃ bl, bl = (foB miss css vis).1 := ⟨_, rfl⟩
  obtain ⟨l, hl⟩ : ∃ l, l = (foB miss css vis).2 := ⟨_, rfl⟩
  obtain ⟨s, hs⟩ : ∃ s, s = psk miss css qs qs.length := ⟨_, rfl⟩
  rw [← hbl] at ov
  rw [← hl] at c2
  have hsn : foB miss css (vis ++ [qs]) = if l < 0 ∨ s < l then (qs, s) else (bl, l) := by rw [foB_snoc, stB, ← hl, ← hs, hbl, hl]
  have hq := ho.reads
  obtain ⟨rfl, hqr⟩ := hq
  have hq6 : qs.length ≤ 6 := by have := (pair_facts hp).1; have := (are_facts hA).1; omega
  have hgw : g < w.heap.size := (ho.lt g rfl).2
  have hPS := fun w' (hb : Below w.heap.size w w') => impl_pairSum A c css miss (some ⟨g, 0, none⟩) cp qs w' ((hr.more hB).up hb) (by have := (are_facts hA).1; omega) (are_rows hA) (hqr.up hb) (by omega) hA hp h0 h1
  rw [← hs] at hPS
  have hPSH := Lib.hid hPS
  have hsnH := Lib.hid hsn
  have hoH := Lib.hid ho
  have ovH := Lib.hid ov
  have hnl := Lib.hid hne
  clear hPS hsn hbl hl hs ho hqr hr hp hA ov
  by_cases hc : l < 0 ∨ s < l
  · have hsn := hsnH.out
    rw [if_pos hc] at hsn
    have hsnH := Lib.hid hsn
    clear hsn
    rcases Int.lt_or_le l 0 with hl0 | hl0
    all_goals
      try (have hsl : s < l := by omega)
      clear hc
      go_enter Try.func83, Try.ntmps83
      repeat' (first | fail | go_values | go_skip | go_guarded | go_step | go_upon | (simp only []; go_step) | (go_ite <;> go_prune <;> (try go_simp)))
      refine (hPSH.out _ (Below.refl _ _)).mono ?_; rintro e w1 ⟨rfl, hbw1⟩; have hzw1 := hbw1.size; (try simp only [World.size_alloc, World.size_setCell, World.size_drew] at hzw1)
      have d2 := bx_keep hbw1 c2
      have d3 := bx_keep hbw1 c3
      have y2 : ∀ o, w1.frozen? ⟨Le, o, none⟩ = false := bm_keep hbw1 (World.block_lt_of_cell? w ⟨Le, 0, none⟩ c2) z2
      have y3 : ∀ o, w1.frozen? ⟨Be, o, none⟩ = false := bm_keep hbw1 (World.block_lt_of_cell? w ⟨Be, 0, none⟩ c3) z3
      repeat' (first | fail | go_values | go_skip | go_guarded | go_step | go_upon | (simp only []; go_step) | (go_ite <;> go_prune <;> (try go_simp)))
      refine (slices_CloneO g qs.length cp B qs _ (hoH.out.below hbw1) (by omega)).mono ?_; rintro e w2 ⟨v2, rfl, ov2, hbw2⟩; have hzw2 := hbw2.size; (try simp only [World.size_alloc, World.size_setCell, World.size_drew] at hzw2)
      have e2 := bx_keep hbw2 d2
      have e3 := bx_keep hbw2 d3
      have x2 : ∀ o, w2.frozen? ⟨Le, o, none⟩ = false := bm_keep hbw2 (World.block_lt_of_cell? w1 ⟨Le, 0, none⟩ d2) y2
      have x3 : ∀ o, w2.frozen? ⟨Be, o, none⟩ = false := bm_keep hbw2 (World.block_lt_of_cell? w1 ⟨Be, 0, none⟩ d3) y3
      obtain ⟨Av, cv, rfl, hov⟩ := id ov2
      clear hov
      repeat' (first | fail | go_values | go_skip | go_guarded | go_step | go_upon | (simp only []; go_step) | (go_ite <;> go_prune <;> (try go_simp)))
      all_goals go_returns
      all_goals exact ⟨rfl, ⟨by repeat' (first | (with_reducible assumption) | ((with_reducible apply bx_new) <;> first | (simp only [World.size_alloc, World.size_setCell]; done) | rfl) | (with_reducible apply bx_alloc) | (with_reducible apply bx_other; (first | (simp only [World.size_alloc, World.size_setCell]; omega) | omega)) | (with_reducible apply bx_same) | (with_reducible apply bx_drew) | (with_reducible apply bx_drew1) | (with_reducible apply bx_keep; with_reducible assumption) | fail), by repeat' (first | (with_reducible assumption) | ((with_reducible apply bx_new) <;> first | (simp only [World.size_alloc, World.size_setCell]; done) | rfl) | (with_reducible apply bx_alloc) | (with_reducible apply bx_other; (first | (simp only [World.size_alloc, World.size_setCell]; omega) | omega)) | (with_reducible apply bx_same) | (with_reducible apply bx_drew) | (with_reducible apply bx_drew1) | (with_reducible apply bx_keep; with_reducible assumption) | fail), by rw [hsnH.out]; (show _ = some (Value.int .i64 s)); repeat' (first | (with_reducible assumption) | ((with_reducible apply bx_new) <;> first | (simp only [World.size_alloc, World.size_setCell]; done) | rfl) | (with_reducible apply bx_alloc) | (with_reducible apply bx_other; (first | (simp only [World.size_alloc, World.size_setCell]; omega) | omega)) | (with_reducible apply bx_same) | (with_reducible apply bx_drew) | (with_reducible apply bx_drew1) | (with_reducible apply bx_keep; with_reducible assumption) | fail), ⟨_, by repeat' (first | (with_reducible assumption) | ((with_reducible apply bx_new) <;> first | (simp only [World.size_alloc, World.size_setCell]; done) | rfl) | (with_reducible apply bx_alloc) | (with_reducible apply bx_other; (first | (simp only [World.size_alloc, World.size_setCell]; omega) | omega)) | (with_reducible apply bx_same) | (with_reducible apply bx_drew) | (with_reducible apply bx_drew1) | (with_reducible apply bx_keep; with_reducible assumption) | fail), by rw [hsnH.out]; exact ((OwnI.mono ov2 (by omega)).off (by omega) _).off (by omega) _⟩, bm_set (bm_set x2), bm_set (bm_set x3)⟩, (((Off.of_below hbw1).trans (Off.of_below hbw2)).set (.inr rfl)).set (.inl rfl)⟩
  · have hsn := hsnH.out
    rw [if_neg hc] at hsn
    have hsnH := Lib.hid hsn
    have hl0 : ¬ l < 0 := by omega
    have hsl : ¬ s < l := by omega
    clear hsn hc
    go_enter Try.func83, Try.ntmps83
    repeat' (first | fail | go_values | go_skip | go_guarded | go_step | go_upon | (simp only []; go_step) | (go_ite <;> go_prune <;> (try go_simp)))
    refine (hPSH.out _ (Below.refl _ _)).mono ?_; rintro e w1 ⟨rfl, hbw1⟩; have hzw1 := hbw1.size; (try simp only [World.size_alloc, World.size_setCell, World.size_drew] at hzw1)
    have d2 := bx_keep hbw1 c2
    repeat' (first | fail | go_values | go_skip | go_guarded | go_step | go_upon | (simp only []; go_step) | (go_ite <;> go_prune <;> (try go_simp)))
    all_goals go_returns
    all_goals exact ⟨rfl, ⟨bx_keep hbw1 c0, bx_keep hbw1 c1, by rw [hsnH.out]; exact d2, ⟨v, bx_keep hbw1 c3, by rw [hsnH.out]; exact ovH.out.below hbw1⟩, bm_keep hbw1 (World.block_lt_of_cell? w ⟨Le, 0, none⟩ c2) z2, bm_keep hbw1 (World.block_lt_of_cell? w ⟨Be, 0, none⟩ c3) z3⟩, Off.of_below hbw1⟩
set_option maxRecDepth 100000 in
set_option maxHeartbeats 3200000 in
theorem impl_each_best (I : Nat → List (List Int) → World → Prop) (S : Nat → Prop) (B c Co Mi Le Be : Nat) (A : Option Addr) (css : List (List Int)) (w : World) (hA : areB css = true) (hB : B ≤ w.heap.size) (hr : II64 w B A css) (hS : ∀ k, S k → B ≤ k ∧ k < w.heap.size)
    (hI0 : ∀ g, I g [] w) (hIal : ∀ g vis w1 w2, I g vis w1 → Below w1.heap.size w1 w2 → I g vis w2) (hIst : ∀ g vis w1 w2, w.heap.size ≤ g → I g vis w1 → Off (fun k => k = g) w1 w2 → I g vis w2)
    (hdo : ∀ (g n cp : Nat) vis w1 qs, w.heap.size ≤ g → I g vis w1 → B ≤ w1.heap.size → II64 w1 B A css → OwnI w1 B (.slice (some ⟨g, 0, none⟩) n cp) qs → pairB css qs = true →
      Calls Try.prog 83 #[.slice (some ⟨g, 0, none⟩) n cp, .pointer (some ⟨Co, 0, none⟩), .pointer (some ⟨Mi, 0, none⟩), .pointer (some ⟨Le, 0, none⟩), .pointer (some ⟨Be, 0, none⟩)] w1 fun e w' => e = .returned (.tuple #[]) ∧ I g (vis ++ [qs]) w' ∧ Off S w1 w') :
    Calls Try.prog 57 #[.slice A css.length c, .func (.func 83) #[] #[.pointer (some ⟨Co, 0, none⟩), .pointer (some ⟨Mi, 0, none⟩), .pointer (some ⟨Le, 0, none⟩), .pointer (some ⟨Be, 0, none⟩)]] w fun e w' => e = .returned (.tuple #[]) ∧ (∃ g, I g (allP css) w') ∧ Below B w w' ∧ w.heap.size ≤ w'.heap.size := by
  obtain ⟨i0, hi, hz0, hz1, hz2⟩ := info_parts int_info
  have hmf : ∀ (fn : Fn) (first cap : Array Value) (w : World), (Instr.makeFunc fn first cap).run Try.prog w = .ok (.func fn first cap) w := fun _ _ _ _ => rfl
  have hsf : ∀ (w : World) (a : Addr) (fn : Fn) (fi ca : Array Value) (m : Mode), (store a (.func fn fi ca) m).run Try.prog w = stored Try.prog w a (.func fn fi ca) m := fun w a fn fi ca m => run_store Try.prog w a _ m rfl
  have h6 := (are_facts hA).1
  have hI0H := Lib.hid hI0
  have hIalH := Lib.hid hIal
  have hIstH := Lib.hid hIst
  have hdoH := Lib.hid hdo
  clear hI0 hIal hIst hdo
  go_enter Try.func57, Try.ntmps57
  go_wp2_with (at_make; refine wpList_make_full _ rfl _ _ 27 rfl w.heap.size 2 i0 _ 1 Try.underlying27 hi hz0 hz1 .i64 .i64 _ _ css.length rfl rfl rfl rfl (by rw [hz2]; omega) (by simp only [maxLen]; omega) (by simp; omega) ?_; intro w1 hown hg; have hcw : ∀ o1 t, ((w1.alloc o1).alloc (.cells #[.nilFunc] t)).cell? ⟨w1.heap.size + 1, 0, none⟩ = some .nilFunc := fun o1 t => bx_new (by simp) rfl; have hfw : ∀ o1 t o, ((w1.alloc o1).alloc (.cells #[.nilFunc] t)).frozen? ⟨w1.heap.size + 1, o, none⟩ = false := fun o1 t o => bm_new (by simp) o)
  have hWb : Below ((w.alloc (.cells #[.slice A css.length c] 22)).alloc (.cells #[.func (.func 83) #[] #[.pointer (some ⟨Co, 0, none⟩), .pointer (some ⟨Mi, 0, none⟩), .pointer (some ⟨Le, 0, none⟩), .pointer (some ⟨Be, 0, none⟩)]] 56)).heap.size ((w.alloc (.cells #[.slice A css.length c] 22)).alloc (.cells #[.func (.func 83) #[] #[.pointer (some ⟨Co, 0, none⟩), .pointer (some ⟨Mi, 0, none⟩), .pointer (some ⟨Le, 0, none⟩), .pointer (some ⟨Be, 0, none⟩)]] 56)) w1 := ⟨hg.os, hg.tape, hg.output, hg.size, fun k hk => hg.block k hk (by simp)⟩
  have hgl := (hown.lt (w.heap.size + 1 + 1) (by simp [Value.ownBlock])).2
  have how : OwnI w1 B (.slice (some ⟨w.heap.size + 1 + 1, 0, none⟩) css.length css.length) (List.replicate css.length 0) := by
    refine OwnI.mono (base := w.heap.size) ⟨some ⟨w.heap.size + 1 + 1, 0, none⟩, css.length, by simp, ?_⟩ hB
    have h := hown
    simp only [show (Value.int .i64 0).cells = #[Value.int .i64 0] from rfl, Nat.mul_one, toList_madeCells_one] at h
    simpa using h
  clear hown hg hcw hfw
  have c0 : w1.cell? ⟨w.heap.size, 0, none⟩ = some (.slice A css.length c) := by repeat' (first | (with_reducible assumption) | ((with_reducible apply bx_new) <;> first | (simp only [World.size_alloc, World.size_setCell]; done) | rfl) | (with_reducible apply bx_alloc) | (with_reducible apply bx_other; (first | (simp only [World.size_alloc, World.size_setCell]; omega) | omega)) | (with_reducible apply bx_same) | (with_reducible apply bx_drew) | (with_reducible apply bx_drew1) | (with_reducible apply bx_keep; with_reducible assumption) | fail)
  have c1 : w1.cell? ⟨w.heap.size + 1, 0, none⟩ = some (.func (.func 83) #[] #[.pointer (some ⟨Co, 0, none⟩), .pointer (some ⟨Mi, 0, none⟩), .pointer (some ⟨Le, 0, none⟩), .pointer (some ⟨Be, 0, none⟩)]) := by repeat' (first | (with_reducible assumption) | ((with_reducible apply bx_new) <;> first | (simp only [World.size_alloc, World.size_setCell]; done) | rfl) | (with_reducible apply bx_alloc) | (with_reducible apply bx_other; (first | (simp only [World.size_alloc, World.size_setCell]; omega) | omega)) | (with_reducible apply bx_same) | (with_reducible apply bx_drew) | (with_reducible apply bx_drew1) | (with_reducible apply bx_keep; with_reducible assumption) | fail)
  have hw1 : Below w.heap.size w w1 := by repeat' (first | (with_reducible exact Below.refl _ _) | (with_reducible assumption) | (with_reducible refine Below.new ?_ _) | (with_reducible refine Below.alloc ?_ ?_ _) | (with_reducible refine Below.drew ?_) | (with_reducible refine below_drewN ?_ _) | (with_reducible refine Below.setCell ?_ ?_ _) | (refine Below.next ?_ (by with_reducible assumption)) | (refine Below.row ?_ (by with_reducible assumption) (by omega)) | (refine Below.trans ?_ (by with_reducible assumption)) | (refine Below.after ?_ ?_ (by with_reducible assumption)) | go_size)
  clear hWb
  have hnS : ∀ k, w.heap.size ≤ k → ¬ S k := fun k hk h => by have := (hS k h).2; omega
  have hC := hnS (w.heap.size) (by omega)
  have hD := hnS (w.heap.size + 1) (by omega)
  have hG := hnS (w.heap.size + 1 + 1) (by omega)
  have hP := hnS w1.heap.size (by omega)
  have hK := hnS (w1.heap.size + 1) (by omega)
  refine (each_walk_best (I (w.heap.size + 1 + 1)) S B w.heap.size (w.heap.size + 1) w1.heap.size (w1.heap.size + 1) (w.heap.size + 1 + 1) css.length css.length c Co Mi Le Be A css hA rfl (Nat.le_refl _) (fun k h => (hS k h).1) (by omega) hG ⟨hC, by omega⟩ ⟨hD, by omega⟩ ⟨hP, by omega⟩ ⟨hK, by omega⟩ (fun vis a b h1 h2 => hIstH.out _ vis a b (by omega) h1 h2) (fun vis a qs h1 h2 h3 _ h5 h6 => hdoH.out _ _ _ vis a qs (by omega) h1 h2 h3 h5 h6) css [] [] [] (List.replicate css.length 0) _ rfl rfl rfl ?_ ?_ ?_ rfl).mono ?_
  · exact ⟨by repeat' (first | (with_reducible assumption) | ((with_reducible apply bx_new) <;> first | (simp only [World.size_alloc, World.size_setCell]; done) | rfl) | (with_reducible apply bx_alloc) | (with_reducible apply bx_other; (first | (simp only [World.size_alloc, World.size_setCell]; omega) | omega)) | (with_reducible apply bx_same) | (with_reducible apply bx_drew) | (with_reducible apply bx_drew1) | (with_reducible apply bx_keep; with_reducible assumption) | fail), by repeat' (first | (with_reducible assumption) | ((with_reducible apply bx_new) <;> first | (simp only [World.size_alloc, World.size_setCell]; done) | rfl) | (with_reducible apply bx_alloc) | (with_reducible apply bx_other; (first | (simp only [World.size_alloc, World.size_setCell]; omega) | omega)) | (with_reducible apply bx_same) | (with_reducible apply bx_drew) | (with_reducible apply bx_drew1) | (with_reducible apply bx_keep; with_reducible assumption) | fail), by repeat' (first | (with_reducible assumption) | ((with_reducible apply bx_new) <;> first | (simp only [World.size_alloc, World.size_setCell]; done) | rfl) | (with_reducible apply bx_alloc) | (with_reducible apply bx_other; (first | (simp only [World.size_alloc, World.size_setCell]; omega) | omega)) | (with_reducible apply bx_same) | (with_reducible apply bx_drew) | (with_reducible apply bx_drew1) | (with_reducible apply bx_keep; with_reducible assumption) | fail), by repeat' (first | (with_reducible assumption) | ((with_reducible apply bx_new) <;> first | (simp only [World.size_alloc, World.size_setCell]; done) | rfl) | (with_reducible apply bx_alloc) | (with_reducible apply bx_other; (first | (simp only [World.size_alloc, World.size_setCell]; omega) | omega)) | (with_reducible apply bx_same) | (with_reducible apply bx_drew) | (with_reducible apply bx_drew1) | (with_reducible apply bx_keep; with_reducible assumption) | fail), hr.below (Below.mono (by repeat' (first | (with_reducible exact Below.refl _ _) | (with_reducible assumption) | (with_reducible refine Below.new ?_ _) | (with_reducible refine Below.alloc ?_ ?_ _) | (with_reducible refine Below.drew ?_) | (with_reducible refine below_drewN ?_ _) | (with_reducible refine Below.setCell ?_ ?_ _) | (refine Below.next ?_ (by with_reducible assumption)) | (refine Below.row ?_ (by with_reducible assumption) (by omega)) | (refine Below.trans ?_ (by with_reducible assumption)) | (refine Below.after ?_ ?_ (by with_reducible assumption)) | go_size)) hB), by simp only [World.size_alloc]; omega⟩
  · exact hIalH.out _ _ w _ (hI0H.out _) (by repeat' (first | (with_reducible exact Below.refl _ _) | (with_reducible assumption) | (with_reducible refine Below.new ?_ _) | (with_reducible refine Below.alloc ?_ ?_ _) | (with_reducible refine Below.drew ?_) | (with_reducible refine below_drewN ?_ _) | (with_reducible refine Below.setCell ?_ ?_ _) | (refine Below.next ?_ (by with_reducible assumption)) | (refine Below.row ?_ (by with_reducible assumption) (by omega)) | (refine Below.trans ?_ (by with_reducible assumption)) | (refine Below.after ?_ ?_ (by with_reducible assumption)) | go_size))
  · exact (how.alloc _).alloc _
  · rintro e w3 ⟨rfl, hI3, hO3, _⟩
    have hz3 := hO3.size
    (try simp only [World.size_alloc] at hz3)
    have hB3 := hO3.below (B := B) (fun k h => h.elim (fun h => (hS k h).1) (fun h => by omega)) (by simp only [World.size_alloc]; omega)
    repeat' (first | fail | go_values | go_skip | go_guarded | go_step | go_upon | (simp only []; go_step) | (go_ite <;> go_prune <;> (try go_simp)))
    all_goals go_returns
    all_goals exact ⟨rfl, ⟨_, hI3⟩, Below.trans (Below.mono (show Below w.heap.size w _ from by repeat' (first | (with_reducible exact Below.refl _ _) | (with_reducible assumption) | (with_reducible refine Below.new ?_ _) | (with_reducible refine Below.alloc ?_ ?_ _) | (with_reducible refine Below.drew ?_) | (with_reducible refine below_drewN ?_ _) | (with_reducible refine Below.setCell ?_ ?_ _) | (refine Below.next ?_ (by with_reducible assumption)) | (refine Below.row ?_ (by with_reducible assumption) (by omega)) | (refine Below.trans ?_ (by with_reducible assumption)) | (refine Below.after ?_ ?_ (by with_reducible assumption)) | go_size)) hB) hB3, by omega⟩
set_option maxHeartbeats 1600000 in
theorem impl_bestPairs (A : Option Addr) (c : Nat) (css : List (List Int)) (miss : Int) (w : World) (hr : II64 w w.heap.size A css) (hA : areB css = true) (h0 : 0 ≤ miss) (h1 : miss ≤ 1000000000000) :
    Calls Try.prog 68 #[.slice A css.length c, .int .i64 miss] w fun e w' => ∃ v, e = .returned (.tuple #[v, .int .i64 (lstP css miss)]) ∧ OwnI w' w.heap.size v (bstP css miss) ∧ Below w.heap.size w w' := by
  have hE : ∀ (B Co Mi Le Be : Nat) (w' : World) (hB : B ≤ w'.heap.size) (hr' : II64 w' B A css) (hw : B ≤ Co ∧ Co < w'.heap.size ∧ B ≤ Mi ∧ Mi < w'.heap.size ∧ B ≤ Le ∧ Le < w'.heap.size ∧ B ≤ Be ∧ Be < w'.heap.size) (hd : Co ≠ Le ∧ Co ≠ Be ∧ Mi ≠ Le ∧ Mi ≠ Be ∧ Le ≠ Be)
      (hI : ∀ g, BI Co Mi Le Be A c css miss g [] w'), Calls Try.prog 57 #[.slice A css.length c, .func (.func 83) #[] #[.pointer (some ⟨Co, 0, none⟩), .pointer (some ⟨Mi, 0, none⟩), .pointer (some ⟨Le, 0, none⟩), .pointer (some ⟨Be, 0, none⟩)]] w' fun e w2 => e = .returned (.tuple #[]) ∧ (∃ g, B ≤ g ∧ BI Co Mi Le Be A c css miss g (allP css) w2) ∧ Below B w' w2 ∧ w'.heap.size ≤ w2.heap.size := fun B Co Mi Le Be w' hB hr' hw hd hI =>
    (impl_each_best (fun g vis W => w'.heap.size ≤ g ∧ BI Co Mi Le Be A c css miss g vis W ∨ vis = [] ∧ BI Co Mi Le Be A c css miss g vis W) (fun k => k = Le ∨ k = Be) B c Co Mi Le Be A css w' hA hB hr' (fun k h => by rcases h with rfl | rfl <;> omega) (fun g => .inr ⟨rfl, hI g⟩)
      (fun g vis w1 w2 h hb => h.imp (fun ⟨a, h⟩ => ⟨a, h.off (Off.of_below (S := fun _ => False) hb) id id id id (fun _ _ => id)⟩) (fun ⟨a, h⟩ => ⟨a, h.off (Off.of_below (S := fun _ => False) hb) id id id id (fun _ _ => id)⟩))
      (fun g vis w1 w2 hg h ho => h.imp (fun ⟨a, h⟩ => ⟨a, h.off ho (by omega) (by omega) (by omega) (by omega) (fun k hk e => by omega)⟩) (fun ⟨a, h⟩ => ⟨a, h.off ho (by omega) (by omega) (by omega) (by omega) (fun k hk e => by omega)⟩))
      (fun g n cp vis w1 qs hg h hB1 hr1 ho hp => (impl_best_do B Co Mi Le Be g n cp c A css miss vis qs w1 (h.elim (·.2) (·.2)) hA h0 h1 hr1 hB1 ho hp hd.2.2.2.2 (fun e => hd.2.2.2.2 e.symm) hd.1 hd.2.1 hd.2.2.1 hd.2.2.2.1 (by omega) (by omega)).mono fun e w2 ⟨he, hi, hf⟩ => ⟨he, .inl ⟨hg, hi⟩, hf⟩)).mono
      fun e w2 ⟨he, ⟨g, hg⟩, hb, hs⟩ => ⟨he, hg.elim (fun ⟨a, h⟩ => ⟨g, by omega, h⟩) (fun ⟨a, _⟩ => absurd a (fun e => by have : 0 < (allP css).length := allR_pos; rw [e] at this; simp at this)), hb, hs⟩
  have hfin := foB_best hA h0 h1
  obtain ⟨bl, hbl⟩ : ∃ bl, bl = bstP css miss := ⟨_, rfl⟩
  obtain ⟨l, hl⟩ : ∃ l, l = lstP css miss := ⟨_, rfl⟩
  rw [← hbl, ← hl] at hfin ⊢
  have hEH := Lib.hid hE
  have hfinH := Lib.hid hfin
  obtain ⟨i0, hi, hz0, hz1, hz2⟩ := info_parts int_info
  have hmf : ∀ (fn : Fn) (first cap : Array Value) (w : World), (Instr.makeFunc fn first cap).run Try.prog w = .ok (.func fn first cap) w := fun _ _ _ _ => rfl
  clear hE hfin hbl hl
  go_enter Try.func68, Try.ntmps68
  repeat' (first | fail | go_values | go_skip | go_guarded | go_step | go_upon | (simp only []; go_step) | (go_ite <;> go_prune <;> (try go_simp)))
  refine (hEH.out w.heap.size w.heap.size (w.heap.size + 1) (w.heap.size + 1 + 1 + 1) (w.heap.size + 1 + 1) _ ?_ ?_ ?_ ?_ ?_).mono ?_
  · simp only [World.size_alloc]; omega
  · exact hr.below (by repeat' (first | (with_reducible exact Below.refl _ _) | (with_reducible assumption) | (with_reducible refine Below.new ?_ _) | (with_reducible refine Below.alloc ?_ ?_ _) | (with_reducible refine Below.drew ?_) | (with_reducible refine below_drewN ?_ _) | (with_reducible refine Below.setCell ?_ ?_ _) | (refine Below.next ?_ (by with_reducible assumption)) | (refine Below.row ?_ (by with_reducible assumption) (by omega)) | (refine Below.trans ?_ (by with_reducible assumption)) | (refine Below.after ?_ ?_ (by with_reducible assumption)) | go_size))
  · simp only [World.size_alloc]; omega
  · omega
  · intro g; exact ⟨by repeat' (first | (with_reducible assumption) | ((with_reducible apply bx_new) <;> first | (simp only [World.size_alloc, World.size_setCell]; done) | rfl) | (with_reducible apply bx_alloc) | (with_reducible apply bx_other; (first | (simp only [World.size_alloc, World.size_setCell]; omega) | omega)) | (with_reducible apply bx_same) | (with_reducible apply bx_drew) | (with_reducible apply bx_drew1) | (with_reducible apply bx_keep; with_reducible assumption) | fail), by repeat' (first | (with_reducible assumption) | ((with_reducible apply bx_new) <;> first | (simp only [World.size_alloc, World.size_setCell]; done) | rfl) | (with_reducible apply bx_alloc) | (with_reducible apply bx_other; (first | (simp only [World.size_alloc, World.size_setCell]; omega) | omega)) | (with_reducible apply bx_same) | (with_reducible apply bx_drew) | (with_reducible apply bx_drew1) | (with_reducible apply bx_keep; with_reducible assumption) | fail), by (show _ = some (Value.int .i64 (-1))); repeat' (first | (with_reducible assumption) | ((with_reducible apply bx_new) <;> first | (simp only [World.size_alloc, World.size_setCell]; done) | rfl) | (with_reducible apply bx_alloc) | (with_reducible apply bx_other; (first | (simp only [World.size_alloc, World.size_setCell]; omega) | omega)) | (with_reducible apply bx_same) | (with_reducible apply bx_drew) | (with_reducible apply bx_drew1) | (with_reducible apply bx_keep; with_reducible assumption) | fail), ⟨_, by repeat' (first | (with_reducible assumption) | ((with_reducible apply bx_new) <;> first | (simp only [World.size_alloc, World.size_setCell]; done) | rfl) | (with_reducible apply bx_alloc) | (with_reducible apply bx_other; (first | (simp only [World.size_alloc, World.size_setCell]; omega) | omega)) | (with_reducible apply bx_same) | (with_reducible apply bx_drew) | (with_reducible apply bx_drew1) | (with_reducible apply bx_keep; with_reducible assumption) | fail), OwnI.nil _ _⟩, by repeat' (first | (with_reducible assumption) | (with_reducible apply bm_set) | ((with_reducible apply bm_new) <;> (simp only [World.size_alloc, World.size_setCell, World.size_drew]; done)) | (with_reducible apply bm_old; (first | omega | (simp only [World.size_alloc, World.size_setCell, World.size_drew]; omega))) | (with_reducible apply bm_drew) | (with_reducible apply bm_drew1) | (with_reducible apply bm_keep; (with_reducible assumption); (first | omega | (simp only [World.size_alloc, World.size_setCell, World.size_drew]; omega))) | fail), by repeat' (first | (with_reducible assumption) | (with_reducible apply bm_set) | ((with_reducible apply bm_new) <;> (simp only [World.size_alloc, World.size_setCell, World.size_drew]; done)) | (with_reducible apply bm_old; (first | omega | (simp only [World.size_alloc, World.size_setCell, World.size_drew]; omega))) | (with_reducible apply bm_drew) | (with_reducible apply bm_drew1) | (with_reducible apply bm_keep; (with_reducible assumption); (first | omega | (simp only [World.size_alloc, World.size_setCell, World.size_drew]; omega))) | fail)⟩
  · rintro e w3 ⟨rfl, ⟨g, hg, hb⟩, hbw3, hs3⟩
    obtain ⟨_, _, c2, ⟨v, c3, ov⟩, _, _⟩ := hb
    rw [hfinH.out] at c2 ov
    have ov := ov.mono (base' := w.heap.size) (by omega)
    have hB3 : Below w.heap.size w w3 := Below.trans (by repeat' (first | (with_reducible exact Below.refl _ _) | (with_reducible assumption) | (with_reducible refine Below.new ?_ _) | (with_reducible refine Below.alloc ?_ ?_ _) | (with_reducible refine Below.drew ?_) | (with_reducible refine below_drewN ?_ _) | (with_reducible refine Below.setCell ?_ ?_ _) | (refine Below.next ?_ (by with_reducible assumption)) | (refine Below.row ?_ (by with_reducible assumption) (by omega)) | (refine Below.trans ?_ (by with_reducible assumption)) | (refine Below.after ?_ ?_ (by with_reducible assumption)) | go_size)) hbw3
    have ovH := Lib.hid ov
    clear ov hbw3
    repeat' (first | fail | go_values | go_skip | go_guarded | go_step | go_upon | (simp only []; go_step) | (go_ite <;> go_prune <;> (try go_simp)))
    all_goals (try go_quiet (fail))
    all_goals repeat' (first | fail | go_values | go_skip | go_guarded | go_step | go_upon | (simp only []; go_step) | (go_ite <;> go_prune <;> (try go_simp)))
    all_goals go_returns
    all_goals exact ⟨_, rfl, ovH.out, by repeat' (first | (with_reducible exact Below.refl _ _) | (with_reducible assumption) | (with_reducible refine Below.new ?_ _) | (with_reducible refine Below.alloc ?_ ?_ _) | (with_reducible refine Below.drew ?_) | (with_reducible refine below_drewN ?_ _) | (with_reducible refine Below.setCell ?_ ?_ _) | (refine Below.next ?_ (by with_reducible assumption)) | (refine Below.row ?_ (by with_reducible assumption) (by omega)) | (refine Below.trans ?_ (by with_reducible assumption)) | (refine Below.after ?_ ?_ (by with_reducible assumption)) | go_size)⟩
theorem impl_BestPairs (A : Option Addr) (c : Nat) (css : List (List Int)) (miss : Int) (w : World) (hr : II64 w w.heap.size A css) (hl : css.length ≤ 1099511627776) (hm : ∀ (i : Nat) (xs : List Int), css[i]? = some xs → xs.length ≤ 1099511627776) :
    Calls Try.prog 43 #[.slice A css.length c, .int .i64 miss] w fun e w' => ∃ v, e = .returned (.tuple #[v, .int .i64 (codeC css miss)]) ∧ OwnI w' w.heap.size v (fBest css miss) ∧ Below w.heap.size w w' := by
  obtain ⟨g, hg⟩ : ∃ g, g = codeC css miss := ⟨_, rfl⟩
  by_cases h0 : g = 0
  · subst h0
    obtain ⟨hA, hm0, hm1⟩ := codeC_0 hg.symm
    have e : fBest css miss = bstP css miss := by simp [fBest, ← hg]
    rw [e, ← hg]
    have hgH := Lib.hid hg
    have hAH := Lib.hid hA
    clear e hg hA
    go_enter Try.func43, Try.ntmps43
    repeat' (first | fail | go_values | go_skip | go_guarded | go_step | go_upon | (simp only []; go_step) | (go_ite <;> go_prune <;> (try go_simp)))
    refine (impl_costCode _ _ _ _ _ (hr.up (by repeat' (first | (with_reducible exact Below.refl _ _) | (with_reducible assumption) | (with_reducible refine Below.new ?_ _) | (with_reducible refine Below.alloc ?_ ?_ _) | (with_reducible refine Below.drew ?_) | (with_reducible refine below_drewN ?_ _) | (with_reducible refine Below.setCell ?_ ?_ _) | (refine Below.next ?_ (by with_reducible assumption)) | (refine Below.row ?_ (by with_reducible assumption) (by omega)) | (refine Below.trans ?_ (by with_reducible assumption)) | (refine Below.after ?_ ?_ (by with_reducible assumption)) | go_size))) hl hm).mono ?_; rintro e w1 ⟨rfl, hbw1⟩; have hzw1 := hbw1.size; (try simp only [World.size_alloc, World.size_setCell, World.size_drew] at hzw1)
    rw [← hgH.out]
    repeat' (first | fail | go_values | go_skip | go_guarded | go_step | go_upon | (simp only []; go_step) | (go_ite <;> go_prune <;> (try go_simp)))
    refine (impl_bestPairs _ _ _ _ _ (hr.up (by repeat' (first | (with_reducible exact Below.refl _ _) | (with_reducible assumption) | (with_reducible refine Below.new ?_ _) | (with_reducible refine Below.alloc ?_ ?_ _) | (with_reducible refine Below.drew ?_) | (with_reducible refine below_drewN ?_ _) | (with_reducible refine Below.setCell ?_ ?_ _) | (refine Below.next ?_ (by with_reducible assumption)) | (refine Below.row ?_ (by with_reducible assumption) (by omega)) | (refine Below.trans ?_ (by with_reducible assumption)) | (refine Below.after ?_ ?_ (by with_reducible assumption)) | go_size))) hAH.out hm0 hm1).mono ?_; rintro e w2 ⟨v, rfl, ov, hbw2⟩; have hzw2 := hbw2.size; (try simp only [World.size_alloc, World.size_setCell, World.size_drew] at hzw2)
    repeat' (first | fail | go_values | go_skip | go_guarded | go_step | go_upon | (simp only []; go_step) | (go_ite <;> go_prune <;> (try go_simp)))
    all_goals go_returns
    all_goals exact ⟨_, rfl, OwnI.mono ov (by omega), by repeat' (first | (with_reducible exact Below.refl _ _) | (with_reducible assumption) | (with_reducible refine Below.new ?_ _) | (with_reducible refine Below.alloc ?_ ?_ _) | (with_reducible refine Below.drew ?_) | (with_reducible refine below_drewN ?_ _) | (with_reducible refine Below.setCell ?_ ?_ _) | (refine Below.next ?_ (by with_reducible assumption)) | (refine Below.row ?_ (by with_reducible assumption) (by omega)) | (refine Below.trans ?_ (by with_reducible assumption)) | (refine Below.after ?_ ?_ (by with_reducible assumption)) | go_size)⟩
  · have e : fBest css miss = [] := by simp [fBest, ← hg, h0]
    rw [e, ← hg]
    have hgH := Lib.hid hg
    have h0' : (g != 0) = true := by simp [h0]
    clear e hg
    go_enter Try.func43, Try.ntmps43
    repeat' (first | fail | go_values | go_skip | go_guarded | go_step | go_upon | (simp only []; go_step) | (go_ite <;> go_prune <;> (try go_simp)))
    refine (impl_costCode _ _ _ _ _ (hr.up (by repeat' (first | (with_reducible exact Below.refl _ _) | (with_reducible assumption) | (with_reducible refine Below.new ?_ _) | (with_reducible refine Below.alloc ?_ ?_ _) | (with_reducible refine Below.drew ?_) | (with_reducible refine below_drewN ?_ _) | (with_reducible refine Below.setCell ?_ ?_ _) | (refine Below.next ?_ (by with_reducible assumption)) | (refine Below.row ?_ (by with_reducible assumption) (by omega)) | (refine Below.trans ?_ (by with_reducible assumption)) | (refine Below.after ?_ ?_ (by with_reducible assumption)) | go_size))) hl hm).mono ?_; rintro e w1 ⟨rfl, hbw1⟩; have hzw1 := hbw1.size; (try simp only [World.size_alloc, World.size_setCell, World.size_drew] at hzw1)
    rw [← hgH.out]
    repeat' (first | fail | go_values | go_skip | go_guarded | go_step | go_upon | (simp only []; go_step) | (go_ite <;> go_prune <;> (try go_simp)))
    all_goals go_returns
    all_goals exact ⟨_, rfl, OwnI.nil _ _, by repeat' (first | (with_reducible exact Below.refl _ _) | (with_reducible assumption) | (with_reducible refine Below.new ?_ _) | (with_reducible refine Below.alloc ?_ ?_ _) | (with_reducible refine Below.drew ?_) | (with_reducible refine below_drewN ?_ _) | (with_reducible refine Below.setCell ?_ ?_ _) | (refine Below.next ?_ (by with_reducible assumption)) | (refine Below.row ?_ (by with_reducible assumption) (by omega)) | (refine Below.trans ?_ (by with_reducible assumption)) | (refine Below.after ?_ ?_ (by with_reducible assumption)) | go_size)⟩
theorem impl_LeastSum (A : Option Addr) (c : Nat) (css : List (List Int)) (miss : Int) (w : World) (hr : II64 w w.heap.size A css) (hl : css.length ≤ 1099511627776) (hm : ∀ (i : Nat) (xs : List Int), css[i]? = some xs → xs.length ≤ 1099511627776) :
    Calls Try.prog 39 #[.slice A css.length c, .int .i64 miss] w fun e w' => e = .returned (.tuple #[.int .i64 (fLeast css miss), .int .i64 (codeC css miss)]) ∧ Below w.heap.size w w' := by
  obtain ⟨g, hg⟩ : ∃ g, g = codeC css miss := ⟨_, rfl⟩
  by_cases h0 : g = 0
  · subst h0
    obtain ⟨hA, hm0, hm1⟩ := codeC_0 hg.symm
    have e : fLeast css miss = lstP css miss := by simp [fLeast, ← hg]
    rw [e, ← hg]
    have hgH := Lib.hid hg
    have hAH := Lib.hid hA
    clear e hg hA
    go_enter Try.func39, Try.ntmps39
    repeat' (first | fail | go_values | go_skip | go_guarded | go_step | go_upon | (simp only []; go_step) | (go_ite <;> go_prune <;> (try go_simp)))
    refine (impl_costCode _ _ _ _ _ (hr.up (by repeat' (first | (with_reducible exact Below.refl _ _) | (with_reducible assumption) | (with_reducible refine Below.new ?_ _) | (with_reducible refine Below.alloc ?_ ?_ _) | (with_reducible refine Below.drew ?_) | (with_reducible refine below_drewN ?_ _) | (with_reducible refine Below.setCell ?_ ?_ _) | (refine Below.next ?_ (by with_reducible assumption)) | (refine Below.row ?_ (by with_reducible assumption) (by omega)) | (refine Below.trans ?_ (by with_reducible assumption)) | (refine Below.after ?_ ?_ (by with_reducible assumption)) | go_size))) hl hm).mono ?_; rintro e w1 ⟨rfl, hbw1⟩; have hzw1 := hbw1.size; (try simp only [World.size_alloc, World.size_setCell, World.size_drew] at hzw1)
    rw [← hgH.out]
    repeat' (first | fail | go_values | go_skip | go_guarded | go_step | go_upon | (simp only []; go_step) | (go_ite <;> go_prune <;> (try go_simp)))
    refine (impl_bestPairs _ _ _ _ _ (hr.up (by repeat' (first | (with_reducible exact Below.refl _ _) | (with_reducible assumption) | (with_reducible refine Below.new ?_ _) | (with_reducible refine Below.alloc ?_ ?_ _) | (with_reducible refine Below.drew ?_) | (with_reducible refine below_drewN ?_ _) | (with_reducible refine Below.setCell ?_ ?_ _) | (refine Below.next ?_ (by with_reducible assumption)) | (refine Below.row ?_ (by with_reducible assumption) (by omega)) | (refine Below.trans ?_ (by with_reducible assumption)) | (refine Below.after ?_ ?_ (by with_reducible assumption)) | go_size))) hAH.out hm0 hm1).mono ?_; rintro e w2 ⟨v, rfl, ov, hbw2⟩; have hzw2 := hbw2.size; (try simp only [World.size_alloc, World.size_setCell, World.size_drew] at hzw2)
    repeat' (first | fail | go_values | go_skip | go_guarded | go_step | go_upon | (simp only []; go_step) | (go_ite <;> go_prune <;> (try go_simp)))
    all_goals go_returns
    all_goals exact ⟨rfl, by repeat' (first | (with_reducible exact Below.refl _ _) | (with_reducible assumption) | (with_reducible refine Below.new ?_ _) | (with_reducible refine Below.alloc ?_ ?_ _) | (with_reducible refine Below.drew ?_) | (with_reducible refine below_drewN ?_ _) | (with_reducible refine Below.setCell ?_ ?_ _) | (refine Below.next ?_ (by with_reducible assumption)) | (refine Below.row ?_ (by with_reducible assumption) (by omega)) | (refine Below.trans ?_ (by with_reducible assumption)) | (refine Below.after ?_ ?_ (by with_reducible assumption)) | go_size)⟩
  · have e : fLeast css miss = 0 := by simp [fLeast, ← hg, h0]
    rw [e, ← hg]
    have hgH := Lib.hid hg
    have h0' : (g != 0) = true := by simp [h0]
    clear e hg
    go_enter Try.func39, Try.ntmps39
    repeat' (first | fail | go_values | go_skip | go_guarded | go_step | go_upon | (simp only []; go_step) | (go_ite <;> go_prune <;> (try go_simp)))
    refine (impl_costCode _ _ _ _ _ (hr.up (by repeat' (first | (with_reducible exact Below.refl _ _) | (with_reducible assumption) | (with_reducible refine Below.new ?_ _) | (with_reducible refine Below.alloc ?_ ?_ _) | (with_reducible refine Below.drew ?_) | (with_reducible refine below_drewN ?_ _) | (with_reducible refine Below.setCell ?_ ?_ _) | (refine Below.next ?_ (by with_reducible assumption)) | (refine Below.row ?_ (by with_reducible assumption) (by omega)) | (refine Below.trans ?_ (by with_reducible assumption)) | (refine Below.after ?_ ?_ (by with_reducible assumption)) | go_size))) hl hm).mono ?_; rintro e w1 ⟨rfl, hbw1⟩; have hzw1 := hbw1.size; (try simp only [World.size_alloc, World.size_setCell, World.size_drew] at hzw1)
    rw [← hgH.out]
    repeat' (first | fail | go_values | go_skip | go_guarded | go_step | go_upon | (simp only []; go_step) | (go_ite <;> go_prune <;> (try go_simp)))
    all_goals go_returns
    all_goals exact ⟨rfl, by repeat' (first | (with_reducible exact Below.refl _ _) | (with_reducible assumption) | (with_reducible refine Below.new ?_ _) | (with_reducible refine Below.alloc ?_ ?_ _) | (with_reducible refine Below.drew ?_) | (with_reducible refine below_drewN ?_ _) | (with_reducible refine Below.setCell ?_ ?_ _) | (refine Below.next ?_ (by with_reducible assumption)) | (refine Below.row ?_ (by with_reducible assumption) (by omega)) | (refine Below.trans ?_ (by with_reducible assumption)) | (refine Below.after ?_ ?_ (by with_reducible assumption)) | go_size)⟩
end Go.Proofs.Ytdomghjdnnnifaa
