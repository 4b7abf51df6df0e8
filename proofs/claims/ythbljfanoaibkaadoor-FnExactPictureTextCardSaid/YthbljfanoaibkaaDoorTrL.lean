/- Lists of trails in the laws: words, sized, copied, compared, marked. -/
import Derived.Test.YthbljfanoaibkaaDoorTrFirst
import Derived.Test.YthbljfanoaibkaaDoorRtA
import Derived.Test.YthbljfanoaibkaaDoorOwnS
import Derived.Test.YthbljfanoaibkaaDoorRegKit
namespace Go.Proofs.YthbljfanoaibkaaDoor
open Go.RowKit Go.ChangeShapes Go.WideShapes Go.ChangeAt
set_option linter.unusedVariables false
set_option linter.unusedSimpArgs false
/-- a slice of trails -/
def T64 (w : World) (B : Nat) (A : Option Addr) (ts : List Tr) : Prop := S64 trl w B A ts
section
variable {w w' : World} {B B' : Nat} {A : Option Addr} {ts : List Tr}
theorem T64.below (h : T64 w B A ts) (hb : Below B w w') : T64 w' B A ts := S64.below h hb
theorem T64.more (h : T64 w B A ts) (hB : B ≤ B') : T64 w B' A ts := S64.more h hB
theorem T64.up (h : T64 w w.heap.size A ts) (hb : Below w.heap.size w w') : T64 w' w'.heap.size A ts := S64.up h hb
theorem T64.nil : T64 w B A [] := S64.nil
theorem T64.at_ {i : Nat} {x y p q s t u r : Int} (h : T64 w B A ts) (hx : ts[i]? = some ⟨x, y, p, q, s, t, u, r⟩) : ∃ b o, A = some ⟨b, o, none⟩ ∧ b < B ∧ w.cell? ⟨b, o + i * 8, none⟩ = some (.int .i64 x) ∧ w.cell? ⟨b, o + i * 8 + 1, none⟩ = some (.int .i64 y) ∧ w.cell? ⟨b, o + i * 8 + 2, none⟩ = some (.int .i64 p) ∧ w.cell? ⟨b, o + i * 8 + 3, none⟩ = some (.int .i64 q) ∧ w.cell? ⟨b, o + i * 8 + 4, none⟩ = some (.int .i64 s) ∧ w.cell? ⟨b, o + i * 8 + 5, none⟩ = some (.int .i64 t) ∧ w.cell? ⟨b, o + i * 8 + 6, none⟩ = some (.int .i64 u) ∧ w.cell? ⟨b, o + i * 8 + 7, none⟩ = some (.int .i64 r) := by
  obtain ⟨b, o, h1, h2, h3⟩ := S64.at_ trl_len (by omega) h hx
  exact ⟨b, o, h1, h2, h3 0 x rfl, h3 1 y rfl, h3 2 p rfl, h3 3 q rfl, h3 4 s rfl, h3 5 t rfl, h3 6 u rfl, h3 7 r rfl⟩
end
theorem trail_info : (Tryd.prog.info? 30).map (fun i => (i.zero, i.size, i.bytes)) = some (some (.agg #[.int .i64 0, .int .i64 0, .int .i64 0, .int .i64 0, .int .i64 0, .int .i64 0, .int .i64 0, .int .i64 0]), 8, 64) := by kernel_rfl
/-- a slice of trails that the call made in the blocks lo .. hi - 1 -/
abbrev OwnT (w : World) (lo hi : Nat) (v : Value) (ts : List Tr) : Prop := OwnS trl 30 8 w lo hi v ts
theorem OwnS.rdT {w : World} {lo hi n c : Nat} {A : Option Addr} {ts : List Tr} (h : OwnT w lo hi (.slice A n c) ts) : T64 w w.heap.size A ts := h.rd
theorem OwnS.cellT {w : World} {lo hi n c i : Nat} {A : Option Addr} {ts : List Tr} {x y p q s t u r : Int} (h : OwnT w lo hi (.slice A n c) ts) (hx : ts[i]? = some ⟨x, y, p, q, s, t, u, r⟩) :
    ∃ g, A = some ⟨g, 0, none⟩ ∧ lo ≤ g ∧ g < hi ∧ g < w.heap.size ∧ w.cell? ⟨g, i * 8, none⟩ = some (.int .i64 x) ∧ w.cell? ⟨g, i * 8 + 1, none⟩ = some (.int .i64 y) ∧ w.cell? ⟨g, i * 8 + 2, none⟩ = some (.int .i64 p) ∧ w.cell? ⟨g, i * 8 + 3, none⟩ = some (.int .i64 q) ∧ w.cell? ⟨g, i * 8 + 4, none⟩ = some (.int .i64 s) ∧ w.cell? ⟨g, i * 8 + 5, none⟩ = some (.int .i64 t) ∧ w.cell? ⟨g, i * 8 + 6, none⟩ = some (.int .i64 u) ∧ w.cell? ⟨g, i * 8 + 7, none⟩ = some (.int .i64 r) ∧ (∀ o, w.frozen? ⟨g, o, none⟩ = false) ∧
    ∀ a0 a1 a2 a3 a4 a5 a6 a7 : Int, OwnT (((((((((w.setCell ⟨g, i * 8, none⟩ (.int .i64 a0)).setCell ⟨g, i * 8 + 1, none⟩ (.int .i64 a1)).setCell ⟨g, i * 8 + 2, none⟩ (.int .i64 a2)).setCell ⟨g, i * 8 + 3, none⟩ (.int .i64 a3)).setCell ⟨g, i * 8 + 4, none⟩ (.int .i64 a4)).setCell ⟨g, i * 8 + 5, none⟩ (.int .i64 a5)).setCell ⟨g, i * 8 + 6, none⟩ (.int .i64 a6)).setCell ⟨g, i * 8 + 7, none⟩ (.int .i64 a7))) lo hi (.slice (some ⟨g, 0, none⟩) n c) (ts.set i ⟨a0, a1, a2, a3, a4, a5, a6, a7⟩) ∧
      w.grownBy (((((((((w.setCell ⟨g, i * 8, none⟩ (.int .i64 a0)).setCell ⟨g, i * 8 + 1, none⟩ (.int .i64 a1)).setCell ⟨g, i * 8 + 2, none⟩ (.int .i64 a2)).setCell ⟨g, i * 8 + 3, none⟩ (.int .i64 a3)).setCell ⟨g, i * 8 + 4, none⟩ (.int .i64 a4)).setCell ⟨g, i * 8 + 5, none⟩ (.int .i64 a5)).setCell ⟨g, i * 8 + 6, none⟩ (.int .i64 a6)).setCell ⟨g, i * 8 + 7, none⟩ (.int .i64 a7))) (some g) := by
  obtain ⟨g, h1, h2, h3, h4, h5, h6, h7⟩ := h.cell trl_len (by omega) hx
  exact ⟨g, h1, h2, h3, h4, h5 0 x rfl, h5 1 y rfl, h5 2 p rfl, h5 3 q rfl, h5 4 s rfl, h5 5 t rfl, h5 6 u rfl, h5 7 r rfl, h6, fun a0 a1 a2 a3 a4 a5 a6 a7 => h7 ⟨a0, a1, a2, a3, a4, a5, a6, a7⟩⟩
theorem laws_szTrailS (A : Option Addr) (n c : Nat) (left : Int) (w : World) (h0 : -1 ≤ left) (h1 : left ≤ 1048576) (hn : n ≤ maxLen) :
    Calls Tryd.prog 19 #[.slice A n c, .int .i64 left] w fun e w' => e = .returned (.int .i64 (fsz left n)) ∧ w = w' := by
  unfold maxLen at hn
  by_cases h : left - n < 0
  · go_enter Tryd.func19, Tryd.ntmps19
    go_wp2
    go_ret
    exact ⟨ret_int (by rw [fsz, if_pos h]), rfl⟩
  · go_enter Tryd.func19, Tryd.ntmps19
    go_wp2
    go_ret
    exact ⟨ret_int (by rw [fsz, if_neg (by omega)]), rfl⟩
set_option maxRecDepth 100000 in
set_option maxHeartbeats 1600000 in
theorem laws_toTrailS (A : Option Addr) (c : Nat) (ts : List Tr) (w : World) (hr : T64 w w.heap.size A ts) (hl : ts.length ≤ 1048576) :
    Calls Tryd.prog 22 #[.slice A ts.length c] w fun e w' => ∃ g, e = .returned (.slice (some ⟨g, 0, none⟩) ts.length ts.length) ∧ OwnT w' w.heap.size w'.heap.size (.slice (some ⟨g, 0, none⟩) ts.length ts.length) ts ∧ Below w.heap.size w w' := by
  obtain ⟨i0, hi, hz0, hz1, hz2⟩ := info_parts trail_info
  have hr0 := hr
  go_enter Tryd.func22, Tryd.ntmps22
  go_wp2_with (at_make; refine wpList_make_full _ rfl _ _ 38 rfl w.heap.size 30 i0 _ 8 Tryd.underlying38 hi hz0 hz1 .i64 .i64 _ _ ts.length rfl rfl rfl rfl (by rw [hz2]; omega) (by simp only [maxLen]; omega) (Nat.le_refl _) ?_; intro w1 hown hg)
  have hb1 : Below w.heap.size w w1 := ⟨hg.os, hg.tape, hg.output, hg.size, fun k hk => hg.block k hk (by simp)⟩
  have hlt1 : w.heap.size < w1.heap.size := hown.lt w.heap.size rfl |>.2
  have ho1 : OwnT w1 w.heap.size (w.heap.size + 1) (.slice (some ⟨w.heap.size, 0, none⟩) ts.length ts.length) (List.replicate ts.length (⟨0, 0, 0, 0, 0, 0, 0, 0⟩ : Tr)) := by
    refine ⟨⟨some ⟨w.heap.size, 0, none⟩, ts.length, by simp, ?_⟩, fun q hq => by simp [Value.ownBlock] at hq; omega⟩
    rw [made_flat (cl := trl) (x0 := (⟨0, 0, 0, 0, 0, 0, 0, 0⟩ : Tr)) trl_len (by omega) (by simp [trl]) rfl (fun j hj => by
      have : j = 0 ∨ j = 1 ∨ j = 2 ∨ j = 3 ∨ j = 4 ∨ j = 5 ∨ j = 6 ∨ j = 7 := by omega
      rcases this with rfl | rfl | rfl | rfl | rfl | rfl | rfl | rfl <;> rfl)] at hown
    simpa using hown
  clear hg hr hown
  go_loopw [4] (fun i wr => ∃ k : Nat, ∃ zs : List Tr, k ≤ ts.length ∧ i = .int .i64 k ∧ zs.length = ts.length ∧ Hid (zs.take k = ts.take k) ∧ OwnT wr w.heap.size (w.heap.size + 1) (.slice (some ⟨w.heap.size, 0, none⟩) ts.length ts.length) zs ∧ Below w.heap.size w wr ∧ w.heap.size < wr.heap.size) (fun i _ => ts.length - (intOf i).toNat)
  case atStart => exact ⟨0, List.replicate ts.length (⟨0, 0, 0, 0, 0, 0, 0, 0⟩ : Tr), Nat.zero_le _, rfl, by simp, by simp [Hid], ho1, hb1, hlt1⟩
  case round =>
    clear ho1 hb1
    obtain ⟨k, zs, hk, rfl, hz, ht, ho, hbr, hsz⟩ := hrel
    have hz' := Lib.hid hz
    clear hz
    by_cases hlt : k < ts.length
    · obtain ⟨⟨x, y, p, q, s, t, u, r⟩, hx⟩ := get_of_lt hlt
      obtain ⟨b, o, rfl, hb, hc0, hc1, hc2, hc3, hc4, hc5, hc6, hc7⟩ := T64.at_ (hr0.below hbr) hx
      obtain ⟨⟨z0, z1, z2, z3, z4, z5, z6, z7⟩, hzk⟩ := get_of_lt (xs := zs) (k := k) (by have := hz'.out; omega)
      have hx' := Lib.hid hx
      have hzk' := Lib.hid hzk
      clear hx hzk
      repeat' (first | fail | go_values | go_skip | go_guarded | go_step | go_upon | (simp only []; go_step) | (go_ite <;> go_prune <;> (try go_simp)))
      refine (laws_toTrail _ _ _ _ _ _ _ _ _).mono ?_
      rintro e w2 ⟨rfl, hb2⟩
      obtain ⟨g, eg, _, _, hg2, c0, c1, c2, c3, c4, c5, c6, c7, hf, hst⟩ := (ho.next hb2).cellT hzk'.out
      simp only [Option.some.injEq, Addr.mk.injEq, and_true] at eg
      subst eg
      have hst' := (hst x y p q s t u r).1
      have hf0 := hf (k * 8)
      have hf1 := hf (k * 8 + 1)
      have hf2 := hf (k * 8 + 2)
      have hf3 := hf (k * 8 + 3)
      have hf4 := hf (k * 8 + 4)
      have hf5 := hf (k * 8 + 5)
      have hf6 := hf (k * 8 + 6)
      have hf7 := hf (k * 8 + 7)
      clear hst hf ho
      repeat' (first | fail | go_values | go_skip | go_guarded | go_step | go_upon | (simp only []; go_step) | (go_ite <;> go_prune <;> (try go_simp)))
      refine ⟨⟨k + 1, zs.set k ⟨x, y, p, q, s, t, u, r⟩, by omega, by go_num, by simpa using hz'.out, by unfold Hid; rw [take_set_snoc (by have := hz'.out; omega), ht.out, take_snoc hx'.out], hst', by exact bgr, by simp only [World.size_setCell]; have := hb2.size; omega⟩, by simp [intOf]; omega⟩
    · repeat' (first | fail | go_values | go_skip | go_guarded | go_step | go_upon | (simp only []; go_step) | (go_ite <;> go_prune <;> (try go_simp)))
      all_goals go_returns
      have hkk : k = ts.length := by omega
      subst hkk
      have e : zs = ts := by have := ht.out; rw [take_all (xs := zs) (by have := hz'.out; omega), take_all (xs := ts) (by omega)] at this; exact this
      rw [e] at ho
      exact ⟨_, rfl, ho.mono (Nat.le_refl _) (by omega), hbr⟩
set_option maxRecDepth 100000 in
set_option maxHeartbeats 1600000 in
theorem laws_eqTrailS (A B : Option Addr) (c d : Nat) (ts : List Tr) (w : World) (hr : T64 w w.heap.size A ts) (hs : T64 w w.heap.size B ts) (hl : ts.length ≤ 1099511627776) :
    Calls Tryd.prog 25 #[.slice A ts.length c, .slice B ts.length d] w fun e w' => e = .returned (.bool true) ∧ Below w.heap.size w w' := by
  have hne : (ts.length != ts.length) = false := by simp
  have hne' : ((ts.length : Int) != (ts.length : Int)) = false := by simp
  go_enter Tryd.func25, Tryd.ntmps25
  repeat' (first | fail | go_values | go_skip | go_guarded | go_step | go_upon | (simp only []; go_step) | (go_ite <;> go_prune <;> (try go_simp)))
  go_loopw [5] (fun i wr => ∃ k : Nat, k ≤ ts.length ∧ i = .int .i64 k ∧ Below w.heap.size w wr) (fun i _ => ts.length - (intOf i).toNat)
  case atStart => exact ⟨0, Nat.zero_le _, rfl, by exact bgr⟩
  case round =>
    obtain ⟨k, hk, rfl, hbr⟩ := hrel
    by_cases hlt : k < ts.length
    · obtain ⟨⟨x, y, p, q, s, t, u, r⟩, hx⟩ := get_of_lt hlt
      obtain ⟨b, o, rfl, hb, hc0, hc1, hc2, hc3, hc4, hc5, hc6, hc7⟩ := T64.at_ (hr.up hbr) hx
      obtain ⟨b2, o2, rfl, hb2, hd0, hd1, hd2, hd3, hd4, hd5, hd6, hd7⟩ := T64.at_ (hs.up hbr) hx
      have p0 : (0 : Int) ≤ (k : Int) := by omega
      have p1 : (k : Int) < (ts.length : Int) := by omega
      clear hx
      repeat' (first | fail | go_values | go_skip | go_guarded | go_step | go_upon | (simp only []; go_step) | (go_ite <;> go_prune <;> (try go_simp)))
      (refine wp_region_noPanic ?_; refine wp_region_held_drew (S := (fun w' => w'.cell? ⟨b, o + k * 8, none⟩ = some (.int .i64 x) ∧ w'.cell? ⟨b, o + k * 8 + 1, none⟩ = some (.int .i64 y) ∧ w'.cell? ⟨b, o + k * 8 + 2, none⟩ = some (.int .i64 p) ∧ w'.cell? ⟨b, o + k * 8 + 3, none⟩ = some (.int .i64 q) ∧ w'.cell? ⟨b, o + k * 8 + 4, none⟩ = some (.int .i64 s) ∧ w'.cell? ⟨b, o + k * 8 + 5, none⟩ = some (.int .i64 t) ∧ w'.cell? ⟨b, o + k * 8 + 6, none⟩ = some (.int .i64 u) ∧ w'.cell? ⟨b, o + k * 8 + 7, none⟩ = some (.int .i64 r) ∧ w'.cell? ⟨b2, o2 + k * 8, none⟩ = some (.int .i64 x) ∧ w'.cell? ⟨b2, o2 + k * 8 + 1, none⟩ = some (.int .i64 y) ∧ w'.cell? ⟨b2, o2 + k * 8 + 2, none⟩ = some (.int .i64 p) ∧ w'.cell? ⟨b2, o2 + k * 8 + 3, none⟩ = some (.int .i64 q) ∧ w'.cell? ⟨b2, o2 + k * 8 + 4, none⟩ = some (.int .i64 s) ∧ w'.cell? ⟨b2, o2 + k * 8 + 5, none⟩ = some (.int .i64 t) ∧ w'.cell? ⟨b2, o2 + k * 8 + 6, none⟩ = some (.int .i64 u) ∧ w'.cell? ⟨b2, o2 + k * 8 + 7, none⟩ = some (.int .i64 r))) (by kernel_rfl) ?_ (fun hHeld => ?_); (focus ((try dsimp only); (refine ⟨?_, ?_, ?_, ?_, ?_, ?_, ?_, ?_, ?_, ?_, ?_, ?_, ?_, ?_, ?_, ?_⟩ <;> exact bxc))); (refine takeT (i := 0) (d := 17) rfl rfl (by kernel_rfl) (by kernel_rfl) (by kernel_rfl) (by rfl) (by assumption) (v := ?_) ?_ ?_; rotate_left; (focus (intro wq hSw; (try dsimp only at hSw); go_simp; (try (with_reducible rfl)); done)); (try simp only [Act.put, List.setIfInBounds_toArray, List.set_cons_zero, List.set_cons_succ])); (refine takeT (i := 1) (d := 18) rfl rfl (by kernel_rfl) (by kernel_rfl) (by kernel_rfl) (by rfl) (by assumption) (v := ?_) ?_ ?_; rotate_left; (focus (intro wq hSw; (try dsimp only at hSw); go_simp; (try (with_reducible rfl)); done)); (try simp only [Act.put, List.setIfInBounds_toArray, List.set_cons_zero, List.set_cons_succ])); (refine takeT (i := 2) (d := 19) rfl rfl (by kernel_rfl) (by kernel_rfl) (by kernel_rfl) (by rfl) (by assumption) (v := ?_) ?_ ?_; rotate_left; (focus (intro wq hSw; (try dsimp only at hSw); go_simp; (try (with_reducible rfl)); done)); (try simp only [Act.put, List.setIfInBounds_toArray, List.set_cons_zero, List.set_cons_succ])); (refine takeT (i := 3) (d := 20) rfl rfl (by kernel_rfl) (by kernel_rfl) (by kernel_rfl) (by rfl) (by assumption) (v := ?_) ?_ ?_; rotate_left; (focus (intro wq hSw; (try dsimp only at hSw); go_simp; (try (with_reducible rfl)); done)); (try simp only [Act.put, List.setIfInBounds_toArray, List.set_cons_zero, List.set_cons_succ])); (refine takeT (i := 4) (d := 21) rfl rfl (by kernel_rfl) (by kernel_rfl) (by kernel_rfl) (by rfl) (by assumption) (v := ?_) ?_ ?_; rotate_left; (focus (intro wq hSw; (try dsimp only at hSw); go_simp; (try (with_reducible rfl)); done)); (try simp only [Act.put, List.setIfInBounds_toArray, List.set_cons_zero, List.set_cons_succ])); (refine takeT (i := 5) (d := 22) rfl rfl (by kernel_rfl) (by kernel_rfl) (by kernel_rfl) (by rfl) (by assumption) (v := ?_) ?_ ?_; rotate_left; (focus (intro wq hSw; (try dsimp only at hSw); go_simp; (try (with_reducible rfl)); done)); (try simp only [Act.put, List.setIfInBounds_toArray, List.set_cons_zero, List.set_cons_succ])); (refine takeT (i := 6) (d := 23) rfl rfl (by kernel_rfl) (by kernel_rfl) (by kernel_rfl) (by rfl) (by assumption) (v := ?_) ?_ ?_; rotate_left; (focus (intro wq hSw; (try dsimp only at hSw); go_simp; (try (with_reducible rfl)); done)); (try simp only [Act.put, List.setIfInBounds_toArray, List.set_cons_zero, List.set_cons_succ])); (refine takeT (i := 7) (d := 24) rfl rfl (by kernel_rfl) (by kernel_rfl) (by kernel_rfl) (by rfl) (by assumption) (v := ?_) ?_ ?_; rotate_left; (focus (intro wq hSw; (try dsimp only at hSw); go_simp; (try (with_reducible rfl)); done)); (try simp only [Act.put, List.setIfInBounds_toArray, List.set_cons_zero, List.set_cons_succ])); (refine wpAnyH_ready (rs := [8]) (by kernel_rfl) (by simp) ?_; refine AllReadyH.cons rfl (fun K hK => ?_) AllReadyH.nil; go_simp; (first | (go_at_call 35; refine (laws_eqTrail _ _ _ _ _ _ _ _ _).mono ?_; rintro e w1 ⟨rfl, hb1⟩) | skip); (try go_wp2_with fail); refine hK.out _ _ ?_ (fun hHeld => ?_); (focus ((try dsimp only); (refine ⟨?_, ?_, ?_, ?_, ?_, ?_, ?_, ?_, ?_, ?_, ?_, ?_, ?_, ?_, ?_, ?_⟩ <;> exact bxc))); clear hK K; (try simp only [Act.put, List.setIfInBounds_toArray, List.set_cons_zero, List.set_cons_succ])); (refine takeT (i := 9) (d := 26) rfl rfl (by kernel_rfl) (by kernel_rfl) (by kernel_rfl) (by rfl) (by assumption) (v := ?_) ?_ ?_; rotate_left; (focus (intro wq hSw; (try dsimp only at hSw); go_simp; (try (with_reducible rfl)); done)); (try simp only [Act.put, List.setIfInBounds_toArray, List.set_cons_zero, List.set_cons_succ])); refine wpAnyH_done (by kernel_rfl) ?_ _; refine NoPanic.normal ?_)
      all_goals repeat' (first | fail | go_values | go_skip | go_guarded | go_step | go_upon | (simp only []; go_step) | (go_ite <;> go_prune <;> (try go_simp)))
      all_goals exact ⟨⟨k + 1, by omega, by go_num, by exact bgr⟩, by simp [intOf]; omega⟩
    · repeat' (first | fail | go_values | go_skip | go_guarded | go_step | go_upon | (simp only []; go_step) | (go_ite <;> go_prune <;> (try go_simp)))
      all_goals go_returns
      all_goals exact ⟨rfl, hbr⟩
/-- the numbers that a marked trail holds -/
def mt (z : Int) : Tr := ⟨z, z + 1, z + 1 + 1, z + 1 + 1 + 1, z + 1 + 1 + 1 + 1, z + 1 + 1 + 1 + 1 + 1, z + 1 + 1 + 1 + 1 + 1 + 1, z + 1 + 1 + 1 + 1 + 1 + 1 + 1⟩
def mtr (k : Int) (n : Nat) : List Tr := (List.range n).map fun (i : Nat) => mt (k + 8 * (i : Int))
theorem mtr_len (k : Int) (n : Nat) : (mtr k n).length = n := by simp [mtr]
theorem mtr_get {k : Int} {n i : Nat} (h : i < n) : (mtr k n)[i]? = some (mt (k + 8 * (i : Int))) := by simp [mtr, h]
end Go.Proofs.YthbljfanoaibkaaDoor
