/- All pairings by the program: eachPairing, CountPairings. -/
import Derived.Test.YtdomghjdnnnifaaAllE
import Derived.Test.YtdomghjdnnnifaaAllD
namespace Go.Proofs.Ytdomghjdnnnifaa
open Go.RowKit Go.ChangeShapes Go.WideShapes Go.ChangeAt
set_option linter.unusedVariables false
set_option linter.unusedSimpArgs false
theorem Off.set {S : Nat → Prop} {a b : World} {g j : Nat} {v : Value} (h : Off S a b) (hg : S g) : Off S a (b.setCell ⟨g, j, none⟩ v) :=
  ⟨h.os, h.tape, h.output, by simpa [World.setCell] using h.size, fun i hi hn => (Below.heap_setCell b ⟨g, j, none⟩ v i (fun e => hn (e ▸ hg))).trans (h.block i hi hn)⟩
theorem Off.drewN {S : Nat → Prop} {a b : World} (h : Off S a b) (n : Nat) : Off S a (b.drewN n) := ⟨h.os, h.tape, h.output, h.size, h.block⟩
theorem Off.frozen {S : Nat → Prop} {a b : World} (h : Off S a b) {X : Nat} (hx : X < a.heap.size) (hX : ¬ S X) (hf : ∀ o, a.frozen? ⟨X, o, none⟩ = false) : ∀ o, b.frozen? ⟨X, o, none⟩ = false := fun o =>
  (World.frozen?_of_block (a := ⟨X, o, none⟩) (h.block X hx hX)).trans (hf o)
/-- the counter's box -/
def cntI (K : Nat) (vis : List (List Int)) (w : World) : Prop := ∃ z : Int, w.cell? ⟨K, 0, none⟩ = some (.int .i64 z) ∧ (∀ o, w.frozen? ⟨K, o, none⟩ = false) ∧ (vis.length ≤ 1000000 → z = (vis.length : Int))
theorem cntI.off {S : Nat → Prop} {K : Nat} {vis : List (List Int)} {a b : World} (h : cntI K vis a) (hw : Off S a b) (hK : ¬ S K) : cntI K vis b := by
  obtain ⟨z, h1, h2, h3⟩ := h
  exact ⟨z, hw.cell h1 hK, hw.frozen (World.block_lt_of_cell? a ⟨K, 0, none⟩ h1) hK h2, h3⟩
theorem impl_count_do (K n cp : Nat) (A : Option Addr) (vis : List (List Int)) (qs : List Int) (w : World) (h : cntI K vis w) :
    Calls Try.prog 58 #[.slice A n cp, .pointer (some ⟨K, 0, none⟩)] w fun e w' => e = .returned (.tuple #[]) ∧ cntI K (vis ++ [qs]) w' ∧ Off (fun k => k = K) w w' := by
  obtain ⟨z, hc, hf, hz⟩ := h
  by_cases h6 : vis.length ≤ 1000000
  · obtain ⟨m, hm⟩ : ∃ m, m = vis.length := ⟨_, rfl⟩
    have e : z = (m : Int) := by rw [hm]; exact hz h6
    rw [← hm] at h6
    have hmH := Lib.hid hm
    subst e
    clear hz hm
    go_enter Try.func58, Try.ntmps58
    repeat' (first | fail | go_values | go_skip | go_guarded | go_step | go_upon | (simp only []; go_step) | (go_ite <;> go_prune <;> (try go_simp)))
    all_goals go_returns
    all_goals exact ⟨rfl, ⟨_, bx_same hc, bm_set hf, fun _ => by rw [List.length_append, ← hmH.out]; simp⟩, (Off.refl _ _).set rfl⟩
  · have h6' : ¬ (vis ++ [qs]).length ≤ 1000000 := fun h => by simp at h; omega
    have h6H := Lib.hid h6'
    clear hz h6 h6'
    go_enter Try.func58, Try.ntmps58
    repeat' (first | fail | go_values | go_skip | go_guarded | go_step | go_upon | (simp only []; go_step) | (go_ite <;> go_prune <;> (try go_simp)))
    all_goals go_returns
    all_goals exact ⟨rfl, ⟨_, bx_same hc, bm_set hf, fun h => absurd h h6H.out⟩, (Off.refl _ _).set rfl⟩
set_option maxRecDepth 100000 in
set_option maxHeartbeats 3200000 in
theorem impl_each_count (I : Nat → List (List Int) → World → Prop) (S : Nat → Prop) (B c K : Nat) (A : Option Addr) (css : List (List Int)) (w : World) (hA : areB css = true) (hB : B ≤ w.heap.size) (hr : II64 w B A css) (hS : ∀ k, S k → B ≤ k ∧ k < w.heap.size)
    (hI0 : ∀ g, I g [] w) (hIal : ∀ g vis w1 w2, I g vis w1 → Below w1.heap.size w1 w2 → I g vis w2) (hIst : ∀ g vis w1 w2, w.heap.size ≤ g → I g vis w1 → Off (fun k => k = g) w1 w2 → I g vis w2)
    (hdo : ∀ (g n cp : Nat) vis w1 qs, w.heap.size ≤ g → I g vis w1 → B ≤ w1.heap.size → II64 w1 B A css → OwnI w1 B (.slice (some ⟨g, 0, none⟩) n cp) qs → pairB css qs = true →
      Calls Try.prog 58 #[.slice (some ⟨g, 0, none⟩) n cp, .pointer (some ⟨K, 0, none⟩)] w1 fun e w' => e = .returned (.tuple #[]) ∧ I g (vis ++ [qs]) w' ∧ Off S w1 w') :
    Calls Try.prog 57 #[.slice A css.length c, .func (.func 58) #[] #[.pointer (some ⟨K, 0, none⟩)]] w fun e w' => e = .returned (.tuple #[]) ∧ (∃ g, I g (allP css) w') ∧ Below B w w' ∧ w.heap.size ≤ w'.heap.size := by
  obtain ⟨i0, hi, hz0, hz1, hz2⟩ := info_parts int_info
  have hmf : ∀ (fn : Fn) (first cap : Array Value) (w : World), (Instr.makeFunc fn first cap).run Try.prog w = .ok (.func fn first cap) w := fun _ _ _ _ => rfl
  have hsf : ∀ (w : World) (a : Addr) (fn : Fn) (fi ca : Array Value) (m : Mode), (store a (.func fn fi ca) m).run Try.prog w = stored Try.prog w a (.func fn fi ca) m := fun w a fn fi ca m => run_store Try.prog w a _ m rfl
  have h6 := (are_facts hA).1
  have hI0H := Lib.hid hI0
  have hIalH := Lib.hid hIal
  have hIstH := Lib.hid hIst
  have hdoH := Lib.hid hdo
  clear hI0 hIal hIst hdo
  go_enter Try.func57, Try.ntmps57
  go_wp2_with (at_make; refine wpList_make_full _ rfl _ _ 27 rfl w.heap.size 2 i0 _ 1 Try.underlying27 hi hz0 hz1 .i64 .i64 _ _ css.length rfl rfl rfl rfl (by rw [hz2]; omega) (by simp only [maxLen]; omega) (by simp; omega) ?_; intro w1 hown hg; have hcw : ∀ o1 t, ((w1.alloc o1).alloc (.cells #[.nilFunc] t)).cell? ⟨w1.heap.size + 1, 0, none⟩ = some .nilFunc := fun o1 t => bx_new (by simp) rfl; have hfw : ∀ o1 t o, ((w1.alloc o1).alloc (.cells #[.nilFunc] t)).frozen? ⟨w1.heap.size + 1, o, none⟩ = false := fun o1 t o => bm_new (by simp) o)
  have hWb : Below ((w.alloc (.cells #[.slice A css.length c] 22)).alloc (.cells #[.func (.func 58) #[] #[.pointer (some ⟨K, 0, none⟩)]] 56)).heap.size ((w.alloc (.cells #[.slice A css.length c] 22)).alloc (.cells #[.func (.func 58) #[] #[.pointer (some ⟨K, 0, none⟩)]] 56)) w1 := ⟨hg.os, hg.tape, hg.output, hg.size, fun k hk => hg.block k hk (by simp)⟩
  have hgl := (hown.lt (w.heap.size + 1 + 1) (by simp [Value.ownBlock])).2
  have how : OwnI w1 B (.slice (some ⟨w.heap.size + 1 + 1, 0, none⟩) css.length css.length) (List.replicate css.length 0) := by
    refine OwnI.mono (base := w.heap.size) ⟨some ⟨w.heap.size + 1 + 1, 0, none⟩, css.length, by simp, ?_⟩ hB
    have h := hown
    simp only [show (Value.int .i64 0).cells = #[Value.int .i64 0] from rfl, Nat.mul_one, toList_madeCells_one] at h
    simpa using h
  clear hown hg hcw hfw
  have c0 : w1.cell? ⟨w.heap.size, 0, none⟩ = some (.slice A css.length c) := by repeat' (first | (with_reducible assumption) | ((with_reducible apply bx_new) <;> first | (simp only [World.size_alloc, World.size_setCell]; done) | rfl) | (with_reducible apply bx_alloc) | (with_reducible apply bx_other; (first | (simp only [World.size_alloc, World.size_setCell]; omega) | omega)) | (with_reducible apply bx_same) | (with_reducible apply bx_drew) | (with_reducible apply bx_drew1) | (with_reducible apply bx_keep; with_reducible assumption) | fail)
  have c1 : w1.cell? ⟨w.heap.size + 1, 0, none⟩ = some (.func (.func 58) #[] #[.pointer (some ⟨K, 0, none⟩)]) := by repeat' (first | (with_reducible assumption) | ((with_reducible apply bx_new) <;> first | (simp only [World.size_alloc, World.size_setCell]; done) | rfl) | (with_reducible apply bx_alloc) | (with_reducible apply bx_other; (first | (simp only [World.size_alloc, World.size_setCell]; omega) | omega)) | (with_reducible apply bx_same) | (with_reducible apply bx_drew) | (with_reducible apply bx_drew1) | (with_reducible apply bx_keep; with_reducible assumption) | fail)
  have hw1 : Below w.heap.size w w1 := by repeat' (first | (with_reducible exact Below.refl _ _) | (with_reducible assumption) | (with_reducible refine Below.new ?_ _) | (with_reducible refine Below.alloc ?_ ?_ _) | (with_reducible refine Below.drew ?_) | (with_reducible refine below_drewN ?_ _) | (with_reducible refine Below.setCell ?_ ?_ _) | (refine Below.next ?_ (by with_reducible assumption)) | (refine Below.row ?_ (by with_reducible assumption) (by omega)) | (refine Below.trans ?_ (by with_reducible assumption)) | (refine Below.after ?_ ?_ (by with_reducible assumption)) | go_size)
  clear hWb
  have hnS : ∀ k, w.heap.size ≤ k → ¬ S k := fun k hk h => by have := (hS k h).2; omega
  have hC := hnS (w.heap.size) (by omega)
  have hD := hnS (w.heap.size + 1) (by omega)
  have hG := hnS (w.heap.size + 1 + 1) (by omega)
  have hP := hnS w1.heap.size (by omega)
  have hK := hnS (w1.heap.size + 1) (by omega)
  refine (each_walk_count (I (w.heap.size + 1 + 1)) S B w.heap.size (w.heap.size + 1) w1.heap.size (w1.heap.size + 1) (w.heap.size + 1 + 1) css.length css.length c K A css hA rfl (Nat.le_refl _) (fun k h => (hS k h).1) (by omega) hG ⟨hC, by omega⟩ ⟨hD, by omega⟩ ⟨hP, by omega⟩ ⟨hK, by omega⟩ (fun vis a b h1 h2 => hIstH.out _ vis a b (by omega) h1 h2) (fun vis a qs h1 h2 h3 _ h5 h6 => hdoH.out _ _ _ vis a qs (by omega) h1 h2 h3 h5 h6) css [] [] [] (List.replicate css.length 0) _ rfl rfl rfl ?_ ?_ ?_ rfl).mono ?_
  · exact ⟨by repeat' (first | (with_reducible assumption) | ((with_reducible apply bx_new) <;> first | (simp only [World.size_alloc, World.size_setCell]; done) | rfl) | (with_reducible apply bx_alloc) | (with_reducible apply bx_other; (first | (simp only [World.size_alloc, World.size_setCell]; omega) | omega)) | (with_reducible apply bx_same) | (with_reducible apply bx_drew) | (with_reducible apply bx_drew1) | (with_reducible apply bx_keep; with_reducible assumption) | fail), by repeat' (first | (with_reducible assumption) | ((with_reducible apply bx_new) <;> first | (simp only [World.size_alloc, World.size_setCell]; done) | rfl) | (with_reducible apply bx_alloc) | (with_reducible apply bx_other; (first | (simp only [World.size_alloc, World.size_setCell]; omega) | omega)) | (with_reducible apply bx_same) | (with_reducible apply bx_drew) | (with_reducible apply bx_drew1) | (with_reducible apply bx_keep; with_reducible assumption) | fail), by repeat' (first | (with_reducible assumption) | ((with_reducible apply bx_new) <;> first | (simp only [World.size_alloc, World.size_setCell]; done) | rfl) | (with_reducible apply bx_alloc) | (with_reducible apply bx_other; (first | (simp only [World.size_alloc, World.size_setCell]; omega) | omega)) | (with_reducible apply bx_same) | (with_reducible apply bx_drew) | (with_reducible apply bx_drew1) | (with_reducible apply bx_keep; with_reducible assumption) | fail), by repeat' (first | (with_reducible assumption) | ((with_reducible apply bx_new) <;> first | (simp only [World.size_alloc, World.size_setCell]; done) | rfl) | (with_reducible apply bx_alloc) | (with_reducible apply bx_other; (first | (simp only [World.size_alloc, World.size_setCell]; omega) | omega)) | (with_reducible apply bx_same) | (with_reducible apply bx_drew) | (with_reducible apply bx_drew1) | (with_reducible apply bx_keep; with_reducible assumption) | fail), hr.below (Below.mono (by repeat' (first | (with_reducible exact Below.refl _ _) | (with_reducible assumption) | (with_reducible refine Below.new ?_ _) | (with_reducible refine Below.alloc ?_ ?_ _) | (with_reducible refine Below.drew ?_) | (with_reducible refine below_drewN ?_ _) | (with_reducible refine Below.setCell ?_ ?_ _) | (refine Below.next ?_ (by with_reducible assumption)) | (refine Below.row ?_ (by with_reducible assumption) (by omega)) | (refine Below.trans ?_ (by with_reducible assumption)) | (refine Below.after ?_ ?_ (by with_reducible assumption)) | go_size)) hB), by simp only [World.size_alloc]; omega⟩
  · exact hIalH.out _ _ w _ (hI0H.out _) (by repeat' (first | (with_reducible exact Below.refl _ _) | (with_reducible assumption) | (with_reducible refine Below.new ?_ _) | (with_reducible refine Below.alloc ?_ ?_ _) | (with_reducible refine Below.drew ?_) | (with_reducible refine below_drewN ?_ _) | (with_reducible refine Below.setCell ?_ ?_ _) | (refine Below.next ?_ (by with_reducible assumption)) | (refine Below.row ?_ (by with_reducible assumption) (by omega)) | (refine Below.trans ?_ (by with_reducible assumption)) | (refine Below.after ?_ ?_ (by with_reducible assumption)) | go_size))
  · exact (how.alloc _).alloc _
  · rintro e w3 ⟨rfl, hI3, hO3, _⟩
    have hz3 := hO3.size
    (try simp only [World.size_alloc] at hz3)
    have hB3 := hO3.below (B := B) (fun k h => h.elim (fun h => (hS k h).1) (fun h => by omega)) (by simp only [World.size_alloc]; omega)
    repeat' (first | fail | go_values | go_skip | go_guarded | go_step | go_upon | (simp only []; go_step) | (go_ite <;> go_prune <;> (try go_simp)))
    all_goals go_returns
    all_goals exact ⟨rfl, ⟨_, hI3⟩, Below.trans (Below.mono (show Below w.heap.size w _ from by repeat' (first | (with_reducible exact Below.refl _ _) | (with_reducible assumption) | (with_reducible refine Below.new ?_ _) | (with_reducible refine Below.alloc ?_ ?_ _) | (with_reducible refine Below.drew ?_) | (with_reducible refine below_drewN ?_ _) | (with_reducible refine Below.setCell ?_ ?_ _) | (refine Below.next ?_ (by with_reducible assumption)) | (refine Below.row ?_ (by with_reducible assumption) (by omega)) | (refine Below.trans ?_ (by with_reducible assumption)) | (refine Below.after ?_ ?_ (by with_reducible assumption)) | go_size)) hB) hB3, by omega⟩
set_option maxHeartbeats 1600000 in
theorem impl_CountPairings (A : Option Addr) (c : Nat) (css : List (List Int)) (w : World) (hr : II64 w w.heap.size A css) (hl : css.length ≤ 1099511627776) (hm : ∀ (i : Nat) (xs : List Int), css[i]? = some xs → xs.length ≤ 1099511627776) :
    Calls Try.prog 27 #[.slice A css.length c] w fun e w' => e = .returned (.tuple #[.int .i64 (fCnt css).1, .int .i64 (fCnt css).2]) ∧ Below w.heap.size w w' := by
  cases hA : areB css
  · have e : fCnt css = (0, 1) := by simp [fCnt, hA]
    rw [e]
    go_enter Try.func27, Try.ntmps27
    repeat' (first | fail | go_values | go_skip | go_guarded | go_step | go_upon | (simp only []; go_step) | (go_ite <;> go_prune <;> (try go_simp)))
    refine (impl_AreCosts _ _ _ _ (hr.up (by repeat' (first | (with_reducible exact Below.refl _ _) | (with_reducible assumption) | (with_reducible refine Below.new ?_ _) | (with_reducible refine Below.alloc ?_ ?_ _) | (with_reducible refine Below.drew ?_) | (with_reducible refine below_drewN ?_ _) | (with_reducible refine Below.setCell ?_ ?_ _) | (refine Below.next ?_ (by with_reducible assumption)) | (refine Below.row ?_ (by with_reducible assumption) (by omega)) | (refine Below.trans ?_ (by with_reducible assumption)) | (refine Below.after ?_ ?_ (by with_reducible assumption)) | go_size))) hl hm).mono ?_; rintro e w1 ⟨rfl, hbw1⟩; have hzw1 := hbw1.size; (try simp only [World.size_alloc, World.size_setCell, World.size_drew] at hzw1)
    rw [hA]
    repeat' (first | fail | go_values | go_skip | go_guarded | go_step | go_upon | (simp only []; go_step) | (go_ite <;> go_prune <;> (try go_simp)))
    all_goals go_returns
    all_goals exact ⟨rfl, by repeat' (first | (with_reducible exact Below.refl _ _) | (with_reducible assumption) | (with_reducible refine Below.new ?_ _) | (with_reducible refine Below.alloc ?_ ?_ _) | (with_reducible refine Below.drew ?_) | (with_reducible refine below_drewN ?_ _) | (with_reducible refine Below.setCell ?_ ?_ _) | (refine Below.next ?_ (by with_reducible assumption)) | (refine Below.row ?_ (by with_reducible assumption) (by omega)) | (refine Below.trans ?_ (by with_reducible assumption)) | (refine Below.after ?_ ?_ (by with_reducible assumption)) | go_size)⟩
  · have e : fCnt css = (((allP css).length : Int), 0) := by simp [fCnt, hA]
    have hlen := allP_len hA
    have hE := fun (B K : Nat) (w' : World) (hB : B ≤ w'.heap.size) (hr' : II64 w' B A css) (hK : B ≤ K ∧ K < w'.heap.size) (hc : w'.cell? ⟨K, 0, none⟩ = some (.int .i64 0)) (hf : ∀ o, w'.frozen? ⟨K, o, none⟩ = false) =>
      impl_each_count (fun _ => cntI K) (fun k => k = K) B c K A css w' hA hB hr' (fun k h => h ▸ hK) (fun _ => ⟨0, hc, hf, fun _ => rfl⟩)
        (fun _ vis w1 w2 h hb => h.off (Off.of_below (S := fun _ => False) hb) (fun h => h)) (fun g vis w1 w2 hg h ho => h.off ho (fun e => by omega))
        (fun g n cp vis w1 qs hg h _ _ _ _ => impl_count_do K n cp _ vis qs w1 h)
    obtain ⟨m, hme⟩ : ∃ m, m = (allP css).length := ⟨_, rfl⟩
    have hfin : ∀ K w', cntI K (allP css) w' → w'.cell? ⟨K, 0, none⟩ = some (.int .i64 (m : Int)) := fun K w' h => by
      obtain ⟨z, h1, h2, h3⟩ := h
      rw [h1, h3 (by omega), hme]
    rw [e, ← hme]
    have hEH := Lib.hid hE
    have hfH := Lib.hid hfin
    clear e hE hfin hme hlen
    go_enter Try.func27, Try.ntmps27
    repeat' (first | fail | go_values | go_skip | go_guarded | go_step | go_upon | (simp only []; go_step) | (go_ite <;> go_prune <;> (try go_simp)))
    refine (impl_AreCosts _ _ _ _ (hr.up (by repeat' (first | (with_reducible exact Below.refl _ _) | (with_reducible assumption) | (with_reducible refine Below.new ?_ _) | (with_reducible refine Below.alloc ?_ ?_ _) | (with_reducible refine Below.drew ?_) | (with_reducible refine below_drewN ?_ _) | (with_reducible refine Below.setCell ?_ ?_ _) | (refine Below.next ?_ (by with_reducible assumption)) | (refine Below.row ?_ (by with_reducible assumption) (by omega)) | (refine Below.trans ?_ (by with_reducible assumption)) | (refine Below.after ?_ ?_ (by with_reducible assumption)) | go_size))) hl hm).mono ?_; rintro e w1 ⟨rfl, hbw1⟩; have hzw1 := hbw1.size; (try simp only [World.size_alloc, World.size_setCell, World.size_drew] at hzw1)
    rw [hA]
    repeat' (first | fail | go_values | go_skip | go_guarded | go_step | go_upon | (simp only []; go_step) | (go_ite <;> go_prune <;> (try go_simp)))
    have hr1 := hr.up (w' := w1) (by repeat' (first | (with_reducible exact Below.refl _ _) | (with_reducible assumption) | (with_reducible refine Below.new ?_ _) | (with_reducible refine Below.alloc ?_ ?_ _) | (with_reducible refine Below.drew ?_) | (with_reducible refine below_drewN ?_ _) | (with_reducible refine Below.setCell ?_ ?_ _) | (refine Below.next ?_ (by with_reducible assumption)) | (refine Below.row ?_ (by with_reducible assumption) (by omega)) | (refine Below.trans ?_ (by with_reducible assumption)) | (refine Below.after ?_ ?_ (by with_reducible assumption)) | go_size))
    have hB1 : Below w.heap.size w w1 := by repeat' (first | (with_reducible exact Below.refl _ _) | (with_reducible assumption) | (with_reducible refine Below.new ?_ _) | (with_reducible refine Below.alloc ?_ ?_ _) | (with_reducible refine Below.drew ?_) | (with_reducible refine below_drewN ?_ _) | (with_reducible refine Below.setCell ?_ ?_ _) | (refine Below.next ?_ (by with_reducible assumption)) | (refine Below.row ?_ (by with_reducible assumption) (by omega)) | (refine Below.trans ?_ (by with_reducible assumption)) | (refine Below.after ?_ ?_ (by with_reducible assumption)) | go_size)
    refine (hEH.out w1.heap.size w1.heap.size _ ?_ ?_ ?_ ?_ ?_).mono ?_
    · simp
    · exact hr1.below (Below.new (Below.refl _ _) _)
    · exact ⟨Nat.le_refl _, by simp⟩
    · repeat' (first | (with_reducible assumption) | ((with_reducible apply bx_new) <;> first | (simp only [World.size_alloc, World.size_setCell]; done) | rfl) | (with_reducible apply bx_alloc) | (with_reducible apply bx_other; (first | (simp only [World.size_alloc, World.size_setCell]; omega) | omega)) | (with_reducible apply bx_same) | (with_reducible apply bx_drew) | (with_reducible apply bx_drew1) | (with_reducible apply bx_keep; with_reducible assumption) | fail)
    · repeat' (first | (with_reducible assumption) | (with_reducible apply bm_set) | ((with_reducible apply bm_new) <;> (simp only [World.size_alloc, World.size_setCell, World.size_drew]; done)) | (with_reducible apply bm_old; (first | omega | (simp only [World.size_alloc, World.size_setCell, World.size_drew]; omega))) | (with_reducible apply bm_drew) | (with_reducible apply bm_drew1) | (with_reducible apply bm_keep; (with_reducible assumption); (first | omega | (simp only [World.size_alloc, World.size_setCell, World.size_drew]; omega))) | fail)
    rintro e w3 ⟨rfl, ⟨g, hIf⟩, hbw3, hs3⟩
    have hcc := hfH.out _ _ hIf
    have hB3 : Below w.heap.size w w3 := (Below.new hB1 _).trans (hbw3.mono hB1.size)
    clear hIf
    repeat' (first | fail | go_values | go_skip | go_guarded | go_step | go_upon | (simp only []; go_step) | (go_ite <;> go_prune <;> (try go_simp)))
    all_goals go_returns
    all_goals exact ⟨rfl, hB3⟩
end Go.Proofs.Ytdomghjdnnnifaa
