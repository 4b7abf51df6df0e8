/- Lists of motions in the laws: sized, copied, compared, marked. -/
import Derived.Test.YtgjdahgecbdclaaMoS
import Derived.Test.YtgjdahgecbdclaaTrFirst
import Derived.Test.YtgjdahgecbdclaaOwnS
import Derived.Test.YtgjdahgecbdclaaRegKit
namespace Go.Proofs.Ytgjdahgecbdclaa
open Go.RowKit Go.ChangeShapes Go.WideShapes Go.ChangeAt
set_option linter.unusedVariables false
set_option linter.unusedSimpArgs false
theorem motion_info : (Try.prog.info? 27).map (fun i => (i.zero, i.size, i.bytes)) = some (some (.agg #[.int .i64 0, .int .i64 0, .int .i64 0, .int .i64 0, .int .i64 0]), 5, 40) := by kernel_rfl
/-- a slice of motions that the call made in the blocks lo .. hi - 1 -/
abbrev OwnM (w : World) (lo hi : Nat) (v : Value) (ms : List Mo) : Prop := OwnS mol 27 5 w lo hi v ms
theorem OwnS.rdM {w : World} {lo hi n c : Nat} {A : Option Addr} {ms : List Mo} (h : OwnM w lo hi (.slice A n c) ms) : M64 w w.heap.size A ms := h.rd
theorem OwnS.cellM {w : World} {lo hi n c i : Nat} {A : Option Addr} {ms : List Mo} {x y p q s : Int} (h : OwnM w lo hi (.slice A n c) ms) (hx : ms[i]? = some ⟨x, y, p, q, s⟩) :
    ∃ g, A = some ⟨g, 0, none⟩ ∧ lo ≤ g ∧ g < hi ∧ g < w.heap.size ∧ w.cell? ⟨g, i * 5, none⟩ = some (.int .i64 x) ∧ w.cell? ⟨g, i * 5 + 1, none⟩ = some (.int .i64 y) ∧ w.cell? ⟨g, i * 5 + 2, none⟩ = some (.int .i64 p) ∧ w.cell? ⟨g, i * 5 + 3, none⟩ = some (.int .i64 q) ∧ w.cell? ⟨g, i * 5 + 4, none⟩ = some (.int .i64 s) ∧ (∀ o, w.frozen? ⟨g, o, none⟩ = false) ∧
    ∀ a b d e f : Int, OwnM (((((w.setCell ⟨g, i * 5, none⟩ (.int .i64 a)).setCell ⟨g, i * 5 + 1, none⟩ (.int .i64 b)).setCell ⟨g, i * 5 + 2, none⟩ (.int .i64 d)).setCell ⟨g, i * 5 + 3, none⟩ (.int .i64 e)).setCell ⟨g, i * 5 + 4, none⟩ (.int .i64 f)) lo hi (.slice (some ⟨g, 0, none⟩) n c) (ms.set i ⟨a, b, d, e, f⟩) ∧
      w.grownBy (((((w.setCell ⟨g, i * 5, none⟩ (.int .i64 a)).setCell ⟨g, i * 5 + 1, none⟩ (.int .i64 b)).setCell ⟨g, i * 5 + 2, none⟩ (.int .i64 d)).setCell ⟨g, i * 5 + 3, none⟩ (.int .i64 e)).setCell ⟨g, i * 5 + 4, none⟩ (.int .i64 f)) (some g) := by
  obtain ⟨g, h1, h2, h3, h4, h5, h6, h7⟩ := h.cell mol_len (by omega) hx
  exact ⟨g, h1, h2, h3, h4, h5 0 x rfl, h5 1 y rfl, h5 2 p rfl, h5 3 q rfl, h5 4 s rfl, h6, fun a b d e f => h7 ⟨a, b, d, e, f⟩⟩
theorem laws_szMotionS (A : Option Addr) (n c : Nat) (left : Int) (w : World) (h0 : -1 ≤ left) (h1 : left ≤ 1048576) (hn : n ≤ maxLen) :
    Calls Try.prog 36 #[.slice A n c, .int .i64 left] w fun e w' => e = .returned (.int .i64 (fsz left n)) ∧ w = w' := by
  unfold maxLen at hn
  by_cases h : left - n < 0
  · go_enter Try.func36, Try.ntmps36
    go_wp2
    go_ret
    exact ⟨ret_int (by rw [fsz, if_pos h]), rfl⟩
  · go_enter Try.func36, Try.ntmps36
    go_wp2
    go_ret
    exact ⟨ret_int (by rw [fsz, if_neg (by omega)]), rfl⟩
set_option maxHeartbeats 1600000 in
theorem laws_toMotionS (A : Option Addr) (c : Nat) (ms : List Mo) (w : World) (hr : M64 w w.heap.size A ms) (hl : ms.length ≤ 1048576) :
    Calls Try.prog 38 #[.slice A ms.length c] w fun e w' => ∃ g, e = .returned (.slice (some ⟨g, 0, none⟩) ms.length ms.length) ∧ OwnM w' w.heap.size w'.heap.size (.slice (some ⟨g, 0, none⟩) ms.length ms.length) ms ∧ Below w.heap.size w w' := by
  obtain ⟨i0, hi, hz0, hz1, hz2⟩ := info_parts motion_info
  have hr0 := hr
  go_enter Try.func38, Try.ntmps38
  go_wp2_with (at_make; refine wpList_make_full _ rfl _ _ 61 rfl w.heap.size 27 i0 _ 5 Try.underlying61 hi hz0 hz1 .i64 .i64 _ _ ms.length rfl rfl rfl rfl (by rw [hz2]; omega) (by simp only [maxLen]; omega) (Nat.le_refl _) ?_; intro w1 hown hg)
  have hb1 : Below w.heap.size w w1 := ⟨hg.os, hg.tape, hg.output, hg.size, fun k hk => hg.block k hk (by simp)⟩
  have hlt1 : w.heap.size < w1.heap.size := hown.lt w.heap.size rfl |>.2
  have ho1 : OwnM w1 w.heap.size (w.heap.size + 1) (.slice (some ⟨w.heap.size, 0, none⟩) ms.length ms.length) (List.replicate ms.length ⟨0, 0, 0, 0, 0⟩) := by
    refine ⟨⟨some ⟨w.heap.size, 0, none⟩, ms.length, by simp, ?_⟩, fun q hq => by simp [Value.ownBlock] at hq; omega⟩
    rw [made_flat (cl := mol) (x0 := ⟨0, 0, 0, 0, 0⟩) mol_len (by omega) (by simp [mol]) rfl (fun j hj => by
      have : j = 0 ∨ j = 1 ∨ j = 2 ∨ j = 3 ∨ j = 4 := by omega
      rcases this with rfl | rfl | rfl | rfl | rfl <;> rfl)] at hown
    simpa using hown
  clear hg hr hown
  go_loopw [4] (fun i wr => ∃ k : Nat, ∃ zs : List Mo, k ≤ ms.length ∧ i = .int .i64 k ∧ zs.length = ms.length ∧ Hid (zs.take k = ms.take k) ∧ OwnM wr w.heap.size (w.heap.size + 1) (.slice (some ⟨w.heap.size, 0, none⟩) ms.length ms.length) zs ∧ Below w.heap.size w wr ∧ w.heap.size < wr.heap.size) (fun i _ => ms.length - (intOf i).toNat)
  case atStart => exact ⟨0, List.replicate ms.length ⟨0, 0, 0, 0, 0⟩, Nat.zero_le _, rfl, by simp, by simp [Hid], ho1, hb1, hlt1⟩
  case round =>
    clear ho1 hb1
    obtain ⟨k, zs, hk, rfl, hz, ht, ho, hbr, hsz⟩ := hrel
    have hz' := Lib.hid hz
    clear hz
    by_cases hlt : k < ms.length
    · obtain ⟨⟨x, y, p, q, s⟩, hx⟩ := get_of_lt hlt
      obtain ⟨b, o, rfl, hb, hc0, hc1, hc2, hc3, hc4⟩ := M64.at_ (hr0.below hbr) hx
      obtain ⟨⟨z0, z1, z2, z3, z4⟩, hzk⟩ := get_of_lt (xs := zs) (k := k) (by have := hz'.out; omega)
      have hx' := Lib.hid hx
      have hzk' := Lib.hid hzk
      clear hx hzk
      repeat' (first | fail | go_values | go_skip | go_guarded | go_step | go_upon | (simp only []; go_step) | (go_ite <;> go_prune <;> (try go_simp)))
      refine (laws_toMotion _ _ _ _ _ _).mono ?_
      rintro e w2 ⟨rfl, hb2⟩
      obtain ⟨g, eg, _, _, hg2, c0, c1, c2, c3, c4, hf, hst⟩ := (ho.next hb2).cellM hzk'.out
      simp only [Option.some.injEq, Addr.mk.injEq, and_true] at eg
      subst eg
      have hst' := (hst x y p q s).1
      have hf0 := hf (k * 5)
      have hf1 := hf (k * 5 + 1)
      have hf2 := hf (k * 5 + 2)
      have hf3 := hf (k * 5 + 3)
      have hf4 := hf (k * 5 + 4)
      clear hst hf ho
      repeat' (first | fail | go_values | go_skip | go_guarded | go_step | go_upon | (simp only []; go_step) | (go_ite <;> go_prune <;> (try go_simp)))
      refine ⟨⟨k + 1, zs.set k ⟨x, y, p, q, s⟩, by omega, by go_num, by simpa using hz'.out, by unfold Hid; rw [take_set_snoc (by have := hz'.out; omega), ht.out, take_snoc hx'.out], hst', by repeat' (first | (with_reducible exact Below.refl _ _) | (with_reducible assumption) | (with_reducible refine Below.new ?_ _) | (with_reducible refine Below.alloc ?_ ?_ _) | (with_reducible refine Below.drew ?_) | (with_reducible refine below_drewN ?_ _) | (with_reducible refine Below.setCell ?_ ?_ _) | (refine Below.next ?_ (by with_reducible assumption)) | (refine Below.row ?_ (by with_reducible assumption) (by omega)) | (refine Below.trans ?_ (by with_reducible assumption)) | (refine Below.after ?_ ?_ (by with_reducible assumption)) | go_size), by simp only [World.size_setCell]; have := hb2.size; omega⟩, by simp [intOf]; omega⟩
    · repeat' (first | fail | go_values | go_skip | go_guarded | go_step | go_upon | (simp only []; go_step) | (go_ite <;> go_prune <;> (try go_simp)))
      all_goals go_returns
      have hkk : k = ms.length := by omega
      subst hkk
      have e : zs = ms := by have := ht.out; rw [take_all (xs := zs) (by have := hz'.out; omega), take_all (xs := ms) (by omega)] at this; exact this
      rw [e] at ho
      exact ⟨_, rfl, ho.mono (Nat.le_refl _) (by omega), hbr⟩
theorem OwnCR.apart {w w' : World} {lo hi lo' hi' : Nat} {v : Value} {cs : List (Int × Int)} (h : OwnCR w lo hi v cs) (hw : Within lo' hi' w w') (hd : hi ≤ lo' ∨ hi' ≤ lo) : OwnCR w' lo hi v cs := by
  obtain ⟨⟨A, c, rfl, h1, h2⟩, hq⟩ := h
  refine ⟨⟨A, c, rfl, h1, ?_⟩, hq⟩
  rcases h2 with h2 | ⟨g, cap, cur, q1, q2, q3, q4⟩
  · exact .inl h2
  · have hg : g < hi := hq g (by rw [q1]; rfl)
    exact .inr ⟨g, cap, cur, q1, q2, by rw [hw.block g (Array.getElem?_eq_some_iff.1 q3).1 (by omega)]; exact q3, q4⟩
set_option maxHeartbeats 1600000 in
theorem laws_eqMotionS (A B : Option Addr) (c d : Nat) (ms : List Mo) (w : World) (hr : M64 w w.heap.size A ms) (hs : M64 w w.heap.size B ms) (hl : ms.length ≤ 1099511627776) :
    Calls Try.prog 41 #[.slice A ms.length c, .slice B ms.length d] w fun e w' => e = .returned (.bool true) ∧ Below w.heap.size w w' := by
  have hne : (ms.length != ms.length) = false := by simp
  have hne' : ((ms.length : Int) != (ms.length : Int)) = false := by simp
  go_enter Try.func41, Try.ntmps41
  repeat' (first | fail | go_values | go_skip | go_guarded | go_step | go_upon | (simp only []; go_step) | (go_ite <;> go_prune <;> (try go_simp)))
  go_loopw [5] (fun i wr => ∃ k : Nat, k ≤ ms.length ∧ i = .int .i64 k ∧ Below w.heap.size w wr) (fun i _ => ms.length - (intOf i).toNat)
  case atStart => exact ⟨0, Nat.zero_le _, rfl, by repeat' (first | (with_reducible exact Below.refl _ _) | (with_reducible assumption) | (with_reducible refine Below.new ?_ _) | (with_reducible refine Below.alloc ?_ ?_ _) | (with_reducible refine Below.drew ?_) | (with_reducible refine below_drewN ?_ _) | (with_reducible refine Below.setCell ?_ ?_ _) | (refine Below.next ?_ (by with_reducible assumption)) | (refine Below.row ?_ (by with_reducible assumption) (by omega)) | (refine Below.trans ?_ (by with_reducible assumption)) | (refine Below.after ?_ ?_ (by with_reducible assumption)) | go_size)⟩
  case round =>
    obtain ⟨k, hk, rfl, hbr⟩ := hrel
    by_cases hlt : k < ms.length
    · obtain ⟨⟨x, y, p, q, s⟩, hx⟩ := get_of_lt hlt
      obtain ⟨b, o, rfl, hb, hc0, hc1, hc2, hc3, hc4⟩ := M64.at_ (hr.up hbr) hx
      obtain ⟨b2, o2, rfl, hb2, hd0, hd1, hd2, hd3, hd4⟩ := M64.at_ (hs.up hbr) hx
      have p0 : (0 : Int) ≤ (k : Int) := by omega
      have p1 : (k : Int) < (ms.length : Int) := by omega
      clear hx
      repeat' (first | fail | go_values | go_skip | go_guarded | go_step | go_upon | (simp only []; go_step) | (go_ite <;> go_prune <;> (try go_simp)))
      (refine wp_region_noPanic ?_; refine wp_region_held_drew (S := (fun w' => w'.cell? ⟨b, o + k * 5, none⟩ = some (.int .i64 x) ∧ w'.cell? ⟨b, o + k * 5 + 1, none⟩ = some (.int .i64 y) ∧ w'.cell? ⟨b, o + k * 5 + 2, none⟩ = some (.int .i64 p) ∧ w'.cell? ⟨b, o + k * 5 + 3, none⟩ = some (.int .i64 q) ∧ w'.cell? ⟨b, o + k * 5 + 4, none⟩ = some (.int .i64 s) ∧ w'.cell? ⟨b2, o2 + k * 5, none⟩ = some (.int .i64 x) ∧ w'.cell? ⟨b2, o2 + k * 5 + 1, none⟩ = some (.int .i64 y) ∧ w'.cell? ⟨b2, o2 + k * 5 + 2, none⟩ = some (.int .i64 p) ∧ w'.cell? ⟨b2, o2 + k * 5 + 3, none⟩ = some (.int .i64 q) ∧ w'.cell? ⟨b2, o2 + k * 5 + 4, none⟩ = some (.int .i64 s))) (by kernel_rfl) ?_ (fun hHeld => ?_); (focus ((try dsimp only); (refine ⟨?_, ?_, ?_, ?_, ?_, ?_, ?_, ?_, ?_, ?_⟩ <;> repeat' (first | (with_reducible assumption) | ((with_reducible apply bx_new) <;> first | (simp only [World.size_alloc, World.size_setCell]; done) | rfl) | (with_reducible apply bx_alloc) | (with_reducible apply bx_other; (first | (simp only [World.size_alloc, World.size_setCell]; omega) | omega)) | (with_reducible apply bx_same) | (with_reducible apply bx_drew) | (with_reducible apply bx_drew1) | (with_reducible apply bx_keep; with_reducible assumption) | fail)))); (refine takeT (i := 0) (d := 17) rfl rfl (by kernel_rfl) (by kernel_rfl) (by kernel_rfl) (by rfl) (by assumption) (v := ?_) ?_ ?_; rotate_left; (focus (intro wq hSw; (try dsimp only at hSw); go_simp; (try (with_reducible rfl)); done)); (try simp only [Act.put, List.setIfInBounds_toArray, List.set_cons_zero, List.set_cons_succ])); (refine takeT (i := 1) (d := 18) rfl rfl (by kernel_rfl) (by kernel_rfl) (by kernel_rfl) (by rfl) (by assumption) (v := ?_) ?_ ?_; rotate_left; (focus (intro wq hSw; (try dsimp only at hSw); go_simp; (try (with_reducible rfl)); done)); (try simp only [Act.put, List.setIfInBounds_toArray, List.set_cons_zero, List.set_cons_succ])); (refine takeT (i := 2) (d := 19) rfl rfl (by kernel_rfl) (by kernel_rfl) (by kernel_rfl) (by rfl) (by assumption) (v := ?_) ?_ ?_; rotate_left; (focus (intro wq hSw; (try dsimp only at hSw); go_simp; (try (with_reducible rfl)); done)); (try simp only [Act.put, List.setIfInBounds_toArray, List.set_cons_zero, List.set_cons_succ])); (refine takeT (i := 3) (d := 20) rfl rfl (by kernel_rfl) (by kernel_rfl) (by kernel_rfl) (by rfl) (by assumption) (v := ?_) ?_ ?_; rotate_left; (focus (intro wq hSw; (try dsimp only at hSw); go_simp; (try (with_reducible rfl)); done)); (try simp only [Act.put, List.setIfInBounds_toArray, List.set_cons_zero, List.set_cons_succ])); (refine takeT (i := 4) (d := 21) rfl rfl (by kernel_rfl) (by kernel_rfl) (by kernel_rfl) (by rfl) (by assumption) (v := ?_) ?_ ?_; rotate_left; (focus (intro wq hSw; (try dsimp only at hSw); go_simp; (try (with_reducible rfl)); done)); (try simp only [Act.put, List.setIfInBounds_toArray, List.set_cons_zero, List.set_cons_succ])); (refine takeT (i := 5) (d := 22) rfl rfl (by kernel_rfl) (by kernel_rfl) (by kernel_rfl) (by rfl) (by assumption) (v := ?_) ?_ ?_; rotate_left; (focus (intro wq hSw; (try dsimp only at hSw); go_simp; (try (with_reducible rfl)); done)); (try simp only [Act.put, List.setIfInBounds_toArray, List.set_cons_zero, List.set_cons_succ])); (refine takeT (i := 6) (d := 23) rfl rfl (by kernel_rfl) (by kernel_rfl) (by kernel_rfl) (by rfl) (by assumption) (v := ?_) ?_ ?_; rotate_left; (focus (intro wq hSw; (try dsimp only at hSw); go_simp; (try (with_reducible rfl)); done)); (try simp only [Act.put, List.setIfInBounds_toArray, List.set_cons_zero, List.set_cons_succ])); (refine takeT (i := 7) (d := 24) rfl rfl (by kernel_rfl) (by kernel_rfl) (by kernel_rfl) (by rfl) (by assumption) (v := ?_) ?_ ?_; rotate_left; (focus (intro wq hSw; (try dsimp only at hSw); go_simp; (try (with_reducible rfl)); done)); (try simp only [Act.put, List.setIfInBounds_toArray, List.set_cons_zero, List.set_cons_succ])); (refine wpAnyH_ready (rs := [8]) (by kernel_rfl) (by simp) ?_; refine AllReadyH.cons rfl (fun K hK => ?_) AllReadyH.nil; go_simp; (first | (go_at_call 82; refine (laws_eqMotion _ _ _ _ _ _).mono ?_; rintro e w1 ⟨rfl, hb1⟩) | skip); (try go_wp2_with fail); refine hK.out _ _ ?_ (fun hHeld => ?_); (focus ((try dsimp only); (refine ⟨?_, ?_, ?_, ?_, ?_, ?_, ?_, ?_, ?_, ?_⟩ <;> repeat' (first | (with_reducible assumption) | ((with_reducible apply bx_new) <;> first | (simp only [World.size_alloc, World.size_setCell]; done) | rfl) | (with_reducible apply bx_alloc) | (with_reducible apply bx_other; (first | (simp only [World.size_alloc, World.size_setCell]; omega) | omega)) | (with_reducible apply bx_same) | (with_reducible apply bx_drew) | (with_reducible apply bx_drew1) | (with_reducible apply bx_keep; with_reducible assumption) | fail)))); clear hK K; (try simp only [Act.put, List.setIfInBounds_toArray, List.set_cons_zero, List.set_cons_succ])); (refine takeT (i := 9) (d := 26) rfl rfl (by kernel_rfl) (by kernel_rfl) (by kernel_rfl) (by rfl) (by assumption) (v := ?_) ?_ ?_; rotate_left; (focus (intro wq hSw; (try dsimp only at hSw); go_simp; (try (with_reducible rfl)); done)); (try simp only [Act.put, List.setIfInBounds_toArray, List.set_cons_zero, List.set_cons_succ])); refine wpAnyH_done (by kernel_rfl) ?_ _; refine NoPanic.normal ?_)
      all_goals repeat' (first | fail | go_values | go_skip | go_guarded | go_step | go_upon | (simp only []; go_step) | (go_ite <;> go_prune <;> (try go_simp)))
      all_goals exact ⟨⟨k + 1, by omega, by go_num, by repeat' (first | (with_reducible exact Below.refl _ _) | (with_reducible assumption) | (with_reducible refine Below.new ?_ _) | (with_reducible refine Below.alloc ?_ ?_ _) | (with_reducible refine Below.drew ?_) | (with_reducible refine below_drewN ?_ _) | (with_reducible refine Below.setCell ?_ ?_ _) | (refine Below.next ?_ (by with_reducible assumption)) | (refine Below.row ?_ (by with_reducible assumption) (by omega)) | (refine Below.trans ?_ (by with_reducible assumption)) | (refine Below.after ?_ ?_ (by with_reducible assumption)) | go_size)⟩, by simp [intOf]; omega⟩
    · repeat' (first | fail | go_values | go_skip | go_guarded | go_step | go_upon | (simp only []; go_step) | (go_ite <;> go_prune <;> (try go_simp)))
      all_goals go_returns
      all_goals exact ⟨rfl, hbr⟩
set_option maxHeartbeats 1600000 in
theorem laws_markMotionS (A : Option Addr) (n c lo hi : Nat) (ms : List Mo) (k : Int) (w : World) (ho : OwnM w lo hi (.slice A n c) ms) (hl : ms.length ≤ 1048576) (hk0 : 0 ≤ k) (hk1 : k ≤ 1099511627776) :
    Calls Try.prog 42 #[.slice A n c, .int .i64 k] w fun e w' => e = .returned (.int .i64 (k + 5 * (ms.length : Int))) ∧ Within lo hi w w' := by
  obtain ⟨rfl, hr⟩ := ho.reads
  clear hr
  go_enter Try.func42, Try.ntmps42
  repeat' (first | fail | go_values | go_skip | go_guarded | go_step | go_upon | (simp only []; go_step) | (go_ite <;> go_prune <;> (try go_simp)))
  go_loopw [1, 5] (fun v i wr => ∃ j : Nat, ∃ zs : List Mo, j ≤ ms.length ∧ i = .int .i64 j ∧ v = .int .i64 (k + 5 * (j : Int)) ∧ zs.length = ms.length ∧ OwnM wr lo hi (.slice A ms.length c) zs ∧ Within lo hi w wr) (fun _ i _ => ms.length - (intOf i).toNat)
  case atStart => exact ⟨0, ms, Nat.zero_le _, rfl, by simp, rfl, ho, Within.refl _ _ _⟩
  case round =>
    obtain ⟨j, zs, hj, rfl, rfl, hz, hw, hW⟩ := hrel
    have hz' := Lib.hid hz
    clear hz
    by_cases hlt : j < ms.length
    · obtain ⟨⟨z0, z1, z2, z3, z4⟩, hzj⟩ := get_of_lt (xs := zs) (k := j) (by have := hz'.out; omega)
      obtain ⟨g, rfl, hb, hgs, hgz, hc0, hc1, hc2, hc3, hc4, hf, hst⟩ := hw.cellM hzj
      have hf0 := hf (j * 5)
      have hf1 := hf (j * 5 + 1)
      have hf2 := hf (j * 5 + 2)
      have hf3 := hf (j * 5 + 3)
      have hf4 := hf (j * 5 + 4)
      have hs := hst (k + 5 * (j : Int)) (k + 5 * (j : Int) + 1) (k + 5 * (j : Int) + 1 + 1) (k + 5 * (j : Int) + 1 + 1 + 1) (k + 5 * (j : Int) + 1 + 1 + 1 + 1)
      clear hzj hst hf
      repeat' (first | fail | go_values | go_skip | go_guarded | go_step | go_upon | (simp only []; go_step) | (go_ite <;> go_prune <;> (try go_simp)))
      refine ⟨⟨j + 1, zs.set j ⟨k + 5 * (j : Int), k + 5 * (j : Int) + 1, k + 5 * (j : Int) + 1 + 1, k + 5 * (j : Int) + 1 + 1 + 1, k + 5 * (j : Int) + 1 + 1 + 1 + 1⟩, by omega, by go_num, by congr 1; omega, by simpa using hz'.out, hs.1, hW.trans ⟨hs.2.os, hs.2.tape, hs.2.output, hs.2.size, fun i hi' hn => hs.2.block i hi' (fun e => by
        simp only [Option.some.injEq] at e
        omega)⟩⟩, by simp [intOf]; omega⟩
    · repeat' (first | fail | go_values | go_skip | go_guarded | go_step | go_upon | (simp only []; go_step) | (go_ite <;> go_prune <;> (try go_simp)))
      all_goals go_returns
      exact ⟨ret_int (by omega), hW⟩
end Go.Proofs.Ytgjdahgecbdclaa
