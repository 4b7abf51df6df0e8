/- Several texts in one. Printed by merge.py out of PaA, PaB, PaC, PaD. -/
import Derived.Test.YthbljfanoaibkaaGreatDoorMPic
import Derived.Test.YthbljfanoaibkaaGreatDoorMoL
import Derived.Test.YthbljfanoaibkaaGreatDoorGcA
import Derived.Test.YthbljfanoaibkaaGreatDoorGcB
import Derived.Test.YthbljfanoaibkaaGreatDoorAllM
import Derived.Lib.OwnKind
namespace Go.Proofs.YthbljfanoaibkaaGreatDoor
open Go.RowKit Go.ChangeShapes Go.WideShapes Go.ChangeAt
set_option linter.unusedVariables false
set_option linter.unusedSimpArgs false
/-- all trails, moved on -/
def mvs (ts : List Tr) : List Tr := ts.map fMoved
theorem mvs_snoc {ts : List Tr} {k : Nat} {T : Tr} (h : ts[k]? = some T) : mvs (ts.take (k + 1)) = mvs (ts.take k) ++ [fMoved T] := by rw [take_snoc h, mvs, List.map_append]; rfl
theorem mvs_len {ts : List Tr} : (mvs ts).length = ts.length := by simp [mvs]
theorem mvs_get {ts : List Tr} {k : Nat} {T : Tr} (h : (mvs ts)[k]? = some T) (hT : tsB ts = true) : trT T = true := by
  rw [mvs, List.getElem?_map, Option.map_eq_some_iff] at h
  obtain ⟨T0, h0, rfl⟩ := h
  exact movedT (tsB_of hT h0).1
/-- a trail goes on -/
def lvb (T : Tr) : Bool := decide (¬ T.t = 2)
def tmo (T : Tr) : Mo := ⟨T.x, T.y, T.p, T.q, T.s⟩
/-- the motions of the trails that go on -/
def lmo (ts : List Tr) : List Mo := (ts.filter lvb).map tmo
theorem lmo_yes {ts : List Tr} {k : Nat} {T : Tr} (h : ts[k]? = some T) (hT : ¬ T.t = 2) : lmo (ts.take (k + 1)) = lmo (ts.take k) ++ [tmo T] := by
  rw [take_snoc h, lmo, List.filter_append, List.map_append]; simp [lmo, lvb, hT]
theorem lmo_no {ts : List Tr} {k : Nat} {T : Tr} (h : ts[k]? = some T) (hT : T.t = 2) : lmo (ts.take (k + 1)) = lmo (ts.take k) := by
  rw [take_snoc h, lmo, List.filter_append, List.map_append]; simp [lmo, lvb, hT]
theorem lmo_len {ts : List Tr} : (lmo ts).length ≤ ts.length := by rw [lmo, List.length_map]; exact List.length_filter_le _ _
theorem lmo_le {ts : List Tr} (k : Nat) : (lmo (ts.take k)).length ≤ (lmo ts).length := by
  rw [lmo, lmo, List.length_map, List.length_map]
  exact (List.Sublist.filter lvb (List.take_sublist k ts)).length_le
theorem lmo_lt {ts : List Tr} {k : Nat} {T : Tr} (h : ts[k]? = some T) (hT : ¬ T.t = 2) : (lmo (ts.take k)).length < (lmo ts).length := by
  have := lmo_le (ts := ts) (k + 1)
  rw [lmo_yes h hT, List.length_append] at this
  simp at this; omega
theorem trT_mo {T : Tr} (h : trT T = true) : moB T.x T.y T.p T.q T.s = true := by unfold trT trB at h; rw [Bool.and_eq_true] at h; exact h.1
theorem lmo_ok {ts : List Tr} (h : ∀ (k : Nat) (T : Tr), ts[k]? = some T → trT T = true) : mssB (lmo ts) = true := by
  rw [mssB, List.all_eq_true]
  intro m hm
  rw [lmo, List.mem_map] at hm
  obtain ⟨T, hT, rfl⟩ := hm
  obtain ⟨k, hk⟩ := List.getElem?_of_mem (List.mem_filter.1 hT).1
  exact trT_mo (h k T hk)
/-- 'append(list, t)', t a trail in a block of its own -/
theorem push_T {ops : Array Oper} {rest : List Oper} {o : Oper} {a : Act} {Q : Exit → Act → World → Prop} {W : World} {x y p q s t u r : Int} {ts : List Tr} {v : Value} {lo hi : Nat} (H : Nat) (hH : W.heap.size = H) (hown : OwnT W lo hi v ts) (hgd : o.guard = none) (so xo : Operand)
    (ho : o.op = .call { callee := .builtin .append, args := #[so, xo], argTypes := #[26, 26] }) (hs : a.eval so = v) (hx : a.eval xo = .slice (some ⟨H, 0, none⟩) 1 1) (hbase : lo ≤ W.heap.size) (hb : ts.length ≤ 1000000)
    (h : ∀ v' w', OwnT w' lo w'.heap.size v' (ts ++ [⟨x, y, p, q, s, t, u, r⟩]) → Below lo W w' → W.grownBy w' v.ownBlock → wpList Tryz.prog ops Q rest (a.put o.dst v') w') : wpList Tryz.prog ops Q (o :: rest) a (W.alloc (.cells #[.int .i64 x, .int .i64 y, .int .i64 p, .int .i64 q, .int .i64 s, .int .i64 t, .int .i64 u, .int .i64 r] 40)) := by
  subst hH
  refine push_S (cl := trl) (y := (⟨x, y, p, q, s, t, u, r⟩ : Tr)) (t := W.heap.size) trl_len (by omega) Tryz.underlying26 trail_info rfl (by omega) (hown.next (Below.new (Below.refl _ _) _)) ?_ hgd so xo ho hs hx (by simp only [World.size_alloc]; omega) (by omega) ?_
  · intro j z hz
    have hj : j < 8 := lt_of_get hz
    have : j = 0 ∨ j = 1 ∨ j = 2 ∨ j = 3 ∨ j = 4 ∨ j = 5 ∨ j = 6 ∨ j = 7 := by omega
    rcases this with rfl | rfl | rfl | rfl | rfl | rfl | rfl | rfl <;> (simp [trl] at hz; subst hz; exact bx_new rfl rfl)
  · intro v' w' h1 h2 h3
    have hB : Below W.heap.size W (W.alloc (.cells #[.int .i64 x, .int .i64 y, .int .i64 p, .int .i64 q, .int .i64 s, .int .i64 t, .int .i64 u, .int .i64 r] 40)) := Below.new (Below.refl _ _) _
    exact h v' w' h1 ((hB.mono hbase).trans h3) ⟨h2.os, h2.tape, h2.output, Nat.le_trans (by simp) h2.size, fun k hk hne => (h2.block k (by simp; omega) hne).trans (Below.heap_alloc W _ k hk)⟩
theorem mo_info : (Tryz.prog.info? 38).map (fun i => (i.zero, i.size, i.bytes)) = some (some (.agg #[.int .i64 0, .int .i64 0, .int .i64 0, .int .i64 0, .int .i64 0]), 5, 40) := by kernel_rfl
/-- a slice of motions of the call's own -/
abbrev OwnMo (w : World) (lo hi : Nat) (v : Value) (ms : List Mo) : Prop := OwnS mol 38 5 w lo hi v ms
/-- 'append(list, m)', m a motion in a block of its own -/
theorem push_M {ops : Array Oper} {rest : List Oper} {o : Oper} {a : Act} {Q : Exit → Act → World → Prop} {W : World} {x y p q s : Int} {ms : List Mo} {v : Value} {lo hi : Nat} (H : Nat) (hH : W.heap.size = H) (hown : OwnMo W lo hi v ms) (hgd : o.guard = none) (so xo : Operand)
    (ho : o.op = .call { callee := .builtin .append, args := #[so, xo], argTypes := #[65, 65] }) (hs : a.eval so = v) (hx : a.eval xo = .slice (some ⟨H, 0, none⟩) 1 1) (hbase : lo ≤ W.heap.size) (hb : ms.length ≤ 1000000)
    (h : ∀ v' w', OwnMo w' lo w'.heap.size v' (ms ++ [⟨x, y, p, q, s⟩]) → Below lo W w' → W.grownBy w' v.ownBlock → wpList Tryz.prog ops Q rest (a.put o.dst v') w') : wpList Tryz.prog ops Q (o :: rest) a (W.alloc (.cells #[.int .i64 x, .int .i64 y, .int .i64 p, .int .i64 q, .int .i64 s] 38)) := by
  subst hH
  refine push_S (cl := mol) (y := (⟨x, y, p, q, s⟩ : Mo)) (t := W.heap.size) mol_len (by omega) Tryz.underlying65 mo_info rfl (by omega) (hown.next (Below.new (Below.refl _ _) _)) ?_ hgd so xo ho hs hx (by simp only [World.size_alloc]; omega) (by omega) ?_
  · intro j z hz
    have hj : j < 5 := lt_of_get hz
    have : j = 0 ∨ j = 1 ∨ j = 2 ∨ j = 3 ∨ j = 4 := by omega
    rcases this with rfl | rfl | rfl | rfl | rfl <;> (simp [mol] at hz; subst hz; exact bx_new rfl rfl)
  · intro v' w' h1 h2 h3
    have hB : Below W.heap.size W (W.alloc (.cells #[.int .i64 x, .int .i64 y, .int .i64 p, .int .i64 q, .int .i64 s] 38)) := Below.new (Below.refl _ _) _
    exact h v' w' h1 ((hB.mono hbase).trans h3) ⟨h2.os, h2.tape, h2.output, Nat.le_trans (by simp) h2.size, fun k hk hne => (h2.block k (by simp; omega) hne).trans (Below.heap_alloc W _ k hk)⟩
set_option maxRecDepth 100000 in
set_option maxHeartbeats 1600000 in
theorem impl_movedP (A : Option Addr) (c : Nat) (ts : List Tr) (s d : Int) (w : World) (hr : T64 w w.heap.size A ts) (h6 : ts.length ≤ 6) (hT : tsB ts = true) :
    Calls Tryz.prog 67 #[.agg #[.slice A ts.length c, .int .i64 s, .int .i64 d]] w fun e w' => ∃ v, e = .returned v ∧ OwnT w' w.heap.size w'.heap.size v (mvs ts) ∧ Below w.heap.size w w' := by
  have hTH := Lib.hid hT
  clear hT
  go_enter Tryz.func67, Tryz.ntmps67
  repeat' (first | fail | go_values | go_skip | go_guarded | go_step | go_upon | (simp only []; go_step) | (go_ite <;> go_prune <;> (try go_simp)))
  go_loopw [3, 9] (fun x iv wr => ∃ (v : Value) (k : Nat), v = x ∧ k ≤ ts.length ∧ iv = .int .i64 k ∧ OwnT wr w.heap.size wr.heap.size v (mvs (ts.take k)) ∧ Below w.heap.size w wr) (fun _ iv _ => ts.length - (intOf iv).toNat)
  case atStart => exact ⟨_, 0, rfl, Nat.zero_le _, rfl, OwnS.nil _ _ _, by exact bgr⟩
  case round =>
    obtain ⟨v, k, rfl, hk, rfl, ho, hbr⟩ := hrel
    have hsz := hbr.size
    by_cases hlt : k < ts.length
    · obtain ⟨⟨x, y, p, q, sp, t, u, r⟩, hx⟩ := get_of_lt hlt
      obtain ⟨b, o, rfl, hb, hc0, hc1, hc2, hc3, hc4, hc5, hc6, hc7⟩ := T64.at_ (hr.up hbr) hx
      have p0 : (0 : Int) ≤ (k : Int) := by omega
      have p1 : (k : Int) < (ts.length : Int) := by omega
      rcases hmv : fMoved ⟨x, y, p, q, sp, t, u, r⟩ with ⟨xz, yz, pz, qz, sz, tz, uz, rz⟩
      have hsu : Hid (mvs (ts.take (k + 1)) = mvs (ts.take k) ++ [⟨xz, yz, pz, qz, sz, tz, uz, rz⟩]) := by unfold Hid; rw [mvs_snoc hx, hmv]
      have hbH : Hid (trB x y p q sp t u r = true) := (tsB_of hTH.out hx).1
      have hmH := Lib.hid hmv
      have hlc : (mvs (ts.take k)).length ≤ 1000000 := by rw [mvs_len, List.length_take]; omega
      clear hx hmv
      obtain ⟨Av, cv, rfl⟩ := ho.form
      repeat' (first | fail | go_values | go_skip | go_guarded | go_step | go_upon | (simp only []; go_step) | (go_ite <;> go_prune <;> (try go_simp)))
      refine (impl_moved x y p q sp t u r xz yz pz qz sz tz uz rz _ hbH.out hmH.out).mono ?_; rintro e w2 ⟨rfl, hbw2⟩; have hzw2 := hbw2.size; (try simp only [World.size_alloc, World.size_setCell, World.size_drew] at hzw2)
      have ho2 := ho.next (w' := w2) (by exact bgr)
      have B2 : Below wr.heap.size wr w2 := by exact bgr
      have hs2 := B2.size
      go_wp2_with (at_builtin; refine push_T w2.heap.size rfl ho2 rfl _ _ (by rfl) (by rfl) (by rfl) (by omega) hlc ?_; intro v' w4 ho4 hb4 hg4)
      go_roundw
      case rel => exact ⟨_, k + 1, rfl, by omega, by go_num, by rw [hsu.out]; exact ho4, (hbr.trans (B2.mono hsz)).trans hb4⟩
      case measure => simp [intOf]; omega
    · have e : ts.take k = ts := take_all hlt
      rw [e] at ho
      obtain ⟨Av, cv, rfl⟩ := ho.form
      repeat' (first | fail | go_values | go_skip | go_guarded | go_step | go_upon | (simp only []; go_step) | (go_ite <;> go_prune <;> (try go_simp)))
      all_goals go_returns
      all_goals exact ⟨_, rfl, ho, hbr⟩
end Go.Proofs.YthbljfanoaibkaaGreatDoor
namespace Go.Proofs.YthbljfanoaibkaaGreatDoor
open Go.RowKit Go.ChangeShapes Go.WideShapes Go.ChangeAt
set_option linter.unusedVariables false
set_option linter.unusedSimpArgs false
theorem push_intG {ops : Array Oper} {rest : List Oper} {o : Oper} {a : Act} {Q : Exit → Act → World → Prop} {W : World} {y : Int} {xs : List Int} {v : Value} {base : Nat} (H : Nat) (hH : W.heap.size = H) (hown : OwnI W base v xs) (hgd : o.guard = none) (s x : Operand)
    (ho : o.op = .call { callee := .builtin .append, args := #[s, x], argTypes := #[34, 34] }) (hs : a.eval s = v) (hx : a.eval x = .slice (some ⟨H, 0, none⟩) 1 1) (hbase : base ≤ W.heap.size) (hb : xs.length ≤ 1099511627776)
    (h : ∀ v' w', OwnI w' base v' (xs ++ [y]) → W.grownBy w' v.ownBlock → Below base W w' → wpList Tryz.prog ops Q rest (a.put o.dst v') w') : wpList Tryz.prog ops Q (o :: rest) a (W.alloc (.cells #[.int .i64 y] 2)) := by
  subst hH; exact push_int hown hgd s x ho hs hx hbase hb h
theorem cell_within {lo hi : Nat} {a b : World} (h : Within lo hi a b) {X o : Nat} {v : Value} (hc : a.cell? ⟨X, o, none⟩ = some v) (hX : X < lo ∨ hi ≤ X) : b.cell? ⟨X, o, none⟩ = some v :=
  (World.cell?_of_block (a := ⟨X, o, none⟩) (h.block X (World.block_lt_of_cell? a ⟨X, o, none⟩ hc) hX)).trans hc
theorem OwnI.cap_le {w : World} {base n c : Nat} {A : Option Addr} {xs : List Int} (h : OwnI w base (.slice A n c) xs) : n ≤ c := by
  obtain ⟨A', c', hv, h1, h2⟩ := h
  injection hv with e1 e2 e3
  subst e1 e2 e3
  rcases h2 with ⟨e, e0⟩ | ⟨g, cap, cur, e, _, _, hc, _⟩
  · injection e with _ _ e; omega
  · injection e with _ _ e; omega
theorem I64.tl {w : World} {B b o : Nat} {xs : List Int} {y : Int} (h : I64 w B (some ⟨b, o, none⟩) (y :: xs)) : I64 w B (some ⟨b, o + 1, none⟩) xs := by
  rcases h with h | ⟨b', o', e, hb, hc⟩
  · simp at h
  · simp only [Option.some.injEq, Addr.mk.injEq, and_true] at e
    obtain ⟨rfl, rfl⟩ := e
    refine .inr ⟨_, _, rfl, hb, fun i v hi => ?_⟩
    have := hc (i + 1) v (by simpa using hi)
    rw [show o + 1 + i = o + (i + 1) by omega]; exact this
theorem gcA_are {ms : List Mo} {cs : List (Int × Int)} (hm : mssB ms = true) (hc : ctsB cs = true) (h1 : ms.length ≤ 6) (h2 : cs.length ≤ 6) : areB (gcAll ms cs) = true := by
  rw [areB, Bool.and_eq_true, decide_eq_true_eq, gcAll_len]
  refine ⟨h1, ?_⟩
  rw [arek, List.all_eq_true]
  intro i hi
  have hi : i < ms.length := by simpa using hi
  obtain ⟨xs, hx⟩ := get_of_lt (xs := gcAll ms cs) (k := i) (by rw [gcAll_len]; exact hi)
  obtain ⟨x0, hx0⟩ := get_of_lt (xs := gcAll ms cs) (k := 0) (by rw [gcAll_len]; omega)
  rw [lget_of hx, lget_of hx0, rowB, Bool.and_eq_true, Bool.and_eq_true, decide_eq_true_eq, decide_eq_true_eq, gcRows hx, gcRows hx0]
  refine ⟨h2, rfl, ?_⟩
  rw [gcAll, List.getElem?_map, Option.map_eq_some_iff] at hx
  obtain ⟨⟨x, y, p, q, s⟩, hmi, rfl⟩ := hx
  obtain ⟨b1, b2, _, _, b3⟩ := mo_bds (mssB_of hm hmi)
  rw [allB, List.all_eq_true]
  intro z hz
  rw [gcRow, List.mem_map] at hz
  obtain ⟨⟨a, b⟩, hab, rfl⟩ := hz
  obtain ⟨j, hj⟩ := List.getElem?_of_mem hab
  obtain ⟨b4, b5⟩ := co_bds (ctsB_of hc hj)
  have := cst_bd (x := x) (y := y) (a := a) (b := b) b1 b2 b4 b5
  show inB (gcv x y s a b) (-1) 1000000000000 = true
  unfold gcv inB
  split <;> simp <;> omega
/-- how many of the first k trails go on -/
def cnl (ts : List Tr) (k : Nat) : Nat := (lmo (ts.take k)).length
def t00 : Tr := ⟨0, 0, 0, 0, 0, 0, 0, 0⟩
def dpk (ts : List Tr) (bl : List Int) (k : Nat) : Int := if lvb (ts.getD k t00) then bl.getD (cnl ts k) 0 else -1
def dps (ts : List Tr) (bl : List Int) (n : Nat) : List Int := (List.range n).map (dpk ts bl)
theorem dps_succ {ts : List Tr} {bl : List Int} {n : Nat} : dps ts bl (n + 1) = dps ts bl n ++ [dpk ts bl n] := by simp [dps, List.range_succ]
theorem dps_len {ts : List Tr} {bl : List Int} {n : Nat} : (dps ts bl n).length = n := by simp [dps]
theorem dpk_no {ts : List Tr} {bl : List Int} {k : Nat} {T : Tr} (h : ts[k]? = some T) (hT : T.t = 2) : dpk ts bl k = -1 := by simp [dpk, List.getD, h, lvb, hT]
theorem dpk_yes {ts : List Tr} {bl : List Int} {k : Nat} {T : Tr} {y : Int} (h : ts[k]? = some T) (hT : ¬ T.t = 2) (hy : bl[cnl ts k]? = some y) : dpk ts bl k = y := by simp [dpk, List.getD, h, lvb, hT, hy]
theorem cnl_no {ts : List Tr} {k : Nat} {T : Tr} (h : ts[k]? = some T) (hT : T.t = 2) : cnl ts (k + 1) = cnl ts k := by rw [cnl, lmo_no h hT]; rfl
theorem cnl_yes {ts : List Tr} {k : Nat} {T : Tr} (h : ts[k]? = some T) (hT : ¬ T.t = 2) : cnl ts (k + 1) = cnl ts k + 1 := by rw [cnl, lmo_yes h hT, List.length_append]; rfl
/-- the contact that each trail gets, -1: none -/
def fPs (ts : List Tr) (cs : List (Int × Int)) : List Int := dps ts (bstP (gcAll (lmo ts) cs) 1000000) ts.length
theorem fPs_len {ts : List Tr} {cs : List (Int × Int)} : (fPs ts cs).length = ts.length := dps_len
theorem best_len {css : List (List Int)} {miss : Int} : (bstP css miss).length = css.length := (pair_facts (allP_pair bstP_mem)).1
set_option maxRecDepth 100000 in
set_option maxHeartbeats 1600000 in
theorem impl_pairsIn (A B : Option Addr) (c d : Nat) (ts : List Tr) (cs : List (Int × Int)) (w : World) (hr : T64 w w.heap.size A ts) (hs : C64 w w.heap.size B cs) (h6 : ts.length ≤ 6) (h7 : cs.length ≤ 6) (hT : ∀ (k : Nat) (T : Tr), ts[k]? = some T → trT T = true) (hcs : ctsB cs = true) :
    Calls Tryz.prog 68 #[.slice A ts.length c, .slice B cs.length d] w fun e w' => ∃ v, e = .returned v ∧ OwnI w' w.heap.size v (fPs ts cs) ∧ Below w.heap.size w w' := by
  obtain ⟨css, hcss⟩ : ∃ css, css = gcAll (lmo ts) cs := ⟨_, rfl⟩
  obtain ⟨bl, hbl⟩ : ∃ bl, bl = bstP css 1000000 := ⟨_, rfl⟩
  obtain ⟨l, hl⟩ : ∃ l, l = lstP css 1000000 := ⟨_, rfl⟩
  have hA : areB css = true := by rw [hcss]; exact gcA_are (lmo_ok hT) hcs (Nat.le_trans lmo_len h6) h7
  have hlen : bl.length = cnl ts ts.length := by rw [hbl, best_len, hcss, gcAll_len, cnl, List.take_length]
  have hfp : fPs ts cs = dps ts bl ts.length := by rw [fPs, hbl, hcss]
  have hB := fun w' A' c' (hr' : II64 w' w'.heap.size A' css) => impl_bestPairs A' c' css 1000000 w' hr' hA (by omega) (by omega)
  rw [← hbl, ← hl] at hB
  rw [hfp]
  have hBH := Lib.hid hB
  have hcssH := Lib.hid hcss
  have hTH := Lib.hid hT
  have hcsH := Lib.hid hcs
  have hlenH := Lib.hid hlen
  clear hB hcss hT hcs hlen hfp hA hbl hl
  go_enter Tryz.func68, Tryz.ntmps68
  repeat' (first | fail | go_values | go_skip | go_guarded | go_step | go_upon | (simp only []; go_step) | (go_ite <;> go_prune <;> (try go_simp)))
  go_loopw [5, 15] (fun x iv wr => ∃ (v : Value) (k : Nat), v = x ∧ k ≤ ts.length ∧ iv = .int .i64 k ∧ OwnLL wr w.heap.size wr.heap.size v (gcAll (lmo (ts.take k)) cs) ∧ Below w.heap.size w wr) (fun _ iv _ => ts.length - (intOf iv).toNat)
  case atStart => exact ⟨_, 0, rfl, Nat.zero_le _, rfl, OwnLL.nil _ _ _, by exact bgr⟩
  case round =>
    obtain ⟨v, k, rfl, hk, rfl, ho, hbr⟩ := hrel
    have hsz := hbr.size
    by_cases hlt : k < ts.length
    · obtain ⟨⟨x, y, p, q, sp, t, u, r⟩, hx⟩ := get_of_lt hlt
      obtain ⟨b, o, rfl, hb, hc0, hc1, hc2, hc3, hc4, hc5, hc6, hc7⟩ := T64.at_ (hr.up hbr) hx
      have p0 : (0 : Int) ≤ (k : Int) := by omega
      have p1 : (k : Int) < (ts.length : Int) := by omega
      have hleni : (gcAll (lmo (ts.take k)) cs).length ≤ 1048576 := by rw [gcAll_len]; have := lmo_len (ts := ts.take k); rw [List.length_take] at this; omega
      obtain ⟨Av, cv, rfl⟩ := ho.form
      by_cases ht : t = 2
      · have ht2 : (t != 2) = false := by simp [ht]
        have hsu : Hid (gcAll (lmo (ts.take (k + 1))) cs = gcAll (lmo (ts.take k)) cs) := by unfold Hid; rw [lmo_no hx ht]
        clear hx ht
        repeat' (first | fail | go_values | go_skip | go_guarded | go_step | go_upon | (simp only []; go_step) | (go_ite <;> go_prune <;> (try go_simp)))
        all_goals exact ⟨⟨_, k + 1, rfl, by omega, by go_num, by rw [hsu.out]; exact (ho.next (by exact bgr)).mono (Nat.le_refl _) (by simp), by exact bgr⟩, by simp [intOf]; omega⟩
      · have ht2 : (t != 2) = true := by simp [ht]
        have hsu : Hid (gcAll (lmo (ts.take (k + 1))) cs = gcAll (lmo (ts.take k)) cs ++ [gcRow x y sp cs]) := by unfold Hid; rw [lmo_yes hx ht, gcAll, List.map_append]; rfl
        have hmoH := Lib.hid (trT_mo (hTH.out k _ hx))
        clear hx ht
        repeat' (first | fail | go_values | go_skip | go_guarded | go_step | go_upon | (simp only []; go_step) | (go_ite <;> go_prune <;> (try go_simp)))
        refine (impl_gateCosts _ _ _ _ _ _ _ _ _ (hs.up (by exact bgr)) (by omega) hmoH.out hcsH.out).mono ?_; rintro e w2 ⟨v2, rfl, o2, hbw2⟩; have hzw2 := hbw2.size; (try simp only [World.size_alloc, World.size_setCell, World.size_drew] at hzw2)
        obtain ⟨Ar, cr, rfl, _⟩ := id o2
        have ho2 := ho.next (w' := w2) (by exact bgr)
        have o2' : OwnI w2 wr.heap.size (.slice Ar (gcRow x y sp cs).length cr) (gcRow x y sp cs) := OwnI.mono o2 (by first | omega | (simp only [World.size_alloc]; omega))
        have B2 : Below wr.heap.size wr w2 := by exact bgr
        have hs2 := B2.size
        go_wp2_with (at_builtin; refine push_row (lo := w.heap.size) (mid := wr.heap.size) (by exact ho2) (by exact o2') rfl _ _ rfl rfl rfl (by omega) (by omega) (by omega) ?_; intro v' w4 ho4 hg4 hb4)
        exact ⟨⟨_, k + 1, rfl, by omega, by go_num, by rw [hsu.out]; exact ho4, (hbr.trans (B2.mono (by omega))).trans hb4⟩, by simp [intOf]; omega⟩
    · have e : ts.take k = ts := take_all hlt
      rw [e, ← hcssH.out] at ho
      obtain ⟨Av, cv, rfl⟩ := ho.form
      have hsr := hr.up hbr
      repeat' (first | fail | go_values | go_skip | go_guarded | go_step | go_upon | (simp only []; go_step) | (go_ite <;> go_prune <;> (try go_simp)))
      refine (hBH.out _ _ _ (ho.rd.2)).mono ?_; rintro e w3 ⟨v3, rfl, o3, hbw3⟩; have hzw3 := hbw3.size; (try simp only [World.size_alloc, World.size_setCell, World.size_drew] at hzw3)
      have b3 : Below w.heap.size w w3 := by exact bgr
      have hs3 := hbw3.size
      obtain ⟨A3, c3, rfl, _⟩ := id o3
      have hcap := OwnI.cap_le o3
      have hi3 : I64 w3 w3.heap.size A3 bl := (OwnI.reads o3).2
      repeat' (first | fail | go_values | go_skip | go_guarded | go_step | go_upon | (simp only []; go_step) | (go_ite <;> go_prune <;> (try go_simp)))
      go_loopw [8, 10, 37] (fun bv pv iv wr => ∃ (v : Value) (k n cb : Nat) (Ab : Option Addr), v = pv ∧ k ≤ ts.length ∧ iv = .int .i64 k ∧ bv = .slice Ab n cb ∧ n ≤ cb ∧ Hid (n + cnl ts k = bl.length) ∧ I64 wr w3.heap.size Ab (bl.drop (cnl ts k)) ∧ OwnI wr w3.heap.size v (dps ts bl k) ∧ Below w3.heap.size w3 wr) (fun _ _ iv _ => ts.length - (intOf iv).toNat)
      case atStart => exact ⟨_, 0, _, _, _, rfl, Nat.zero_le _, rfl, rfl, hcap, by simp [Hid, cnl, lmo], by simpa [cnl, lmo] using hi3, OwnI.nil _ _, by exact bgr⟩
      case round =>
        clear hi3 o3 hcap
        obtain ⟨v, k, n, cb, Ab, rfl, hk, rfl, rfl, hcb, hn, hI, ho, hbq⟩ := hrel
        have hsz := hbq.size
        have hld : (dps ts bl k).length ≤ 1000 := by rw [dps_len]; omega
        by_cases hlt : k < ts.length
        · obtain ⟨⟨x, y, p, q, sp, t, u, r⟩, hx⟩ := get_of_lt hlt
          obtain ⟨b, o, rfl, hb, hc0, hc1, hc2, hc3, hc4, hc5, hc6, hc7⟩ := T64.at_ ((hr.up b3).up hbq) hx
          have p0 : (0 : Int) ≤ (k : Int) := by omega
          have p1 : (k : Int) < (ts.length : Int) := by omega
          obtain ⟨Av, cv, rfl, _⟩ := id ho
          by_cases ht : t = 2
          · have ht2 : (t == 2) = true := by simp [ht]
            have hsu : Hid (dps ts bl (k + 1) = dps ts bl k ++ [-1]) := by unfold Hid; rw [dps_succ, dpk_no hx ht]
            have hcn : Hid (cnl ts (k + 1) = cnl ts k) := cnl_no hx ht
            clear hx ht
            have ho1 : ∀ ob, OwnI (wr.alloc ob) w3.heap.size (.slice Av (dps ts bl k).length cv) (dps ts bl k) := fun ob => ho.alloc ob
            go_wp2_with (at_builtin; refine push_intG (wr.heap.size + 1) (by simp) (ho1 _) rfl _ _ (by rfl) (by rfl) (by rfl) (by simp only [World.size_alloc]; omega) (by omega) ?_; intro v' w4 ho4 hg4 hb4)
            have B1 : ∀ ob, Below w3.heap.size wr (wr.alloc ob) := fun ob => Below.mono (Below.new (Below.refl _ _) _) hsz
            go_roundw
            case rel => exact ⟨_, k + 1, _, _, _, rfl, by omega, by go_num, rfl, hcb, by rw [Hid, hcn.out]; exact hn.out, by rw [hcn.out]; exact (hI.below (B1 _)).below hb4, by rw [hsu.out]; exact ho4, (hbq.trans (B1 _)).trans hb4⟩
            case measure => simp [intOf]; omega
          · have ht2 : (t == 2) = false := by simp [ht]
            have hlt2 : cnl ts k < bl.length := by rw [hlenH.out, cnl, cnl, List.take_length]; exact lmo_lt hx ht
            obtain ⟨z, hz⟩ := get_of_lt hlt2
            have hdr : bl.drop (cnl ts k) = z :: bl.drop (cnl ts k + 1) := List.drop_eq_getElem?_toList_append ▸ by simp [hz]
            rw [hdr] at hI
            obtain ⟨b2, o2, rfl, hb2, hcz⟩ := hI.at_ (k := 0) (x := z) rfl
            rw [Nat.add_zero] at hcz
            have hczA : ∀ ob, (wr.alloc ob).cell? ⟨b2, o2, none⟩ = some (.int .i64 z) := fun ob => bx_alloc hcz
            have hn1 := hn.out
            have q1 : (1 : Int) ≤ (n : Int) := by omega
            have q0 : (0 : Int) < (n : Int) := by omega
            have hsu : Hid (dps ts bl (k + 1) = dps ts bl k ++ [z]) := by unfold Hid; rw [dps_succ, dpk_yes hx ht hz]
            have hcn : Hid (cnl ts (k + 1) = cnl ts k + 1) := cnl_yes hx ht
            have hn2 : Hid (n - 1 + cnl ts (k + 1) = bl.length) := by unfold Hid; rw [hcn.out]; omega
            have hI2 := Lib.hid hI.tl
            rw [← hcn.out] at hI2
            clear hx ht hdr hz hlt2 hI hn1
            have ho1 : ∀ ob, OwnI (wr.alloc ob) w3.heap.size (.slice Av (dps ts bl k).length cv) (dps ts bl k) := fun ob => ho.alloc ob
            have B1 : ∀ ob, Below w3.heap.size wr (wr.alloc ob) := fun ob => Below.mono (Below.new (Below.refl _ _) _) hsz
            by_cases h1 : cb = 1
            · have hd0 : Hid (bl.drop (cnl ts (k + 1)) = []) := by unfold Hid; have := hn2.out; exact List.drop_eq_nil_of_le (by omega)
              go_wp2_with (at_builtin; refine push_intG (wr.heap.size + 1) (by simp) (ho1 _) rfl _ _ (by rfl) (by rfl) (by rfl) (by simp only [World.size_alloc]; omega) (by omega) ?_; intro v' w4 ho4 hg4 hb4)
              go_roundw
              case rel => exact ⟨_, k + 1, _, _, _, rfl, by omega, by go_num, rfl, by omega, hn2, by rw [hd0.out]; exact I64.nil, by rw [hsu.out]; exact ho4, (hbq.trans (B1 _)).trans hb4⟩
              case measure => simp [intOf]; omega
            · go_wp2_with (at_builtin; refine push_intG (wr.heap.size + 1) (by simp) (ho1 _) rfl _ _ (by rfl) (by rfl) (by rfl) (by simp only [World.size_alloc]; omega) (by omega) ?_; intro v' w4 ho4 hg4 hb4)
              go_roundw
              case rel => exact ⟨_, k + 1, _, _, _, rfl, by omega, by go_num, rfl, by omega, hn2, (hI2.out.below (B1 _)).below hb4, by rw [hsu.out]; exact ho4, (hbq.trans (B1 _)).trans hb4⟩
              case measure => simp [intOf]; omega
        · have e : k = ts.length := by omega
          subst e
          obtain ⟨Av, cv, rfl, _⟩ := id ho
          repeat' (first | fail | go_values | go_skip | go_guarded | go_step | go_upon | (simp only []; go_step) | (go_ite <;> go_prune <;> (try go_simp)))
          all_goals go_returns
          all_goals exact ⟨_, rfl, ho.mono (by have := b3.size; omega), b3.trans (hbq.mono b3.size)⟩
end Go.Proofs.YthbljfanoaibkaaGreatDoor
namespace Go.Proofs.YthbljfanoaibkaaGreatDoor
open Go.RowKit Go.ChangeShapes Go.WideShapes Go.ChangeAt
set_option linter.unusedVariables false
set_option linter.unusedSimpArgs false
theorem cell_push {w w' : World} {row : Option Nat} (hg : w.grownBy w' row) {X o : Nat} {v : Value} (hX : X < w.heap.size) (hne : ∀ g, row = some g → g ≠ X) (h : w.cell? ⟨X, o, none⟩ = some v) : w'.cell? ⟨X, o, none⟩ = some v :=
  (World.cell?_of_block (a := ⟨X, o, none⟩) (hg.block X hX (fun e => hne X e.symm rfl))).trans h
theorem ownS_kinds {α β : Type} {cl : α → List Int} {cl' : β → List Int} {T T' : TypeId} {k k' lo hi lo' hi' : Nat} {w : World} {v v' : Value} {xs : List α} {ys : List β} (h : OwnS cl T k w lo hi v xs) (h' : OwnS cl' T' k' w lo' hi' v' ys) (hT : T ≠ T') : v.ownBlock = none ∨ v.ownBlock ≠ v'.ownBlock := by
  obtain ⟨⟨A, c, rfl, ho⟩, _⟩ := h
  obtain ⟨⟨A', c', rfl, ho'⟩, _⟩ := h'
  cases hz : (Value.slice A xs.length c).ownBlock with
  | none => exact .inl rfl
  | some g =>
    refine .inr fun e => ?_
    obtain ⟨c1, f1, e1⟩ := Lib.ownsRow_kind ho g hz
    obtain ⟨c2, f2, e2⟩ := Lib.ownsRow_kind ho' g e.symm
    rw [e1] at e2
    simp at e2
    exact hT e2.2.1
theorem OwnS.kept2 {α β : Type} {cl : α → List Int} {cl' : β → List Int} {T T' : TypeId} {k k' lo hi lo' hi' : Nat} {w w' : World} {v v' : Value} {xs : List α} {ys : List β} (hg : w.grownBy w' v'.ownBlock) (h : OwnS cl T k w lo hi v xs) (h' : OwnS cl' T' k' w lo' hi' v' ys) (hT : T ≠ T') : OwnS cl T k w' lo hi v xs := h.kept hg (ownS_kinds h h' hT)
/-- the indices of the trails that go on, among the first n -/
def rwk (ts : List Tr) (n : Nat) : List Int := ((List.range n).filter fun (j : Nat) => lvb (ts.getD j t00)).map fun (j : Nat) => (j : Int)
theorem rwk_yes {ts : List Tr} {k : Nat} {T : Tr} (h : ts[k]? = some T) (hT : ¬ T.t = 2) : rwk ts (k + 1) = rwk ts k ++ [(k : Int)] := by
  rw [rwk, List.range_succ, List.filter_append, List.map_append]; simp [rwk, lvb, List.getD, h, hT]
theorem rwk_no {ts : List Tr} {k : Nat} {T : Tr} (h : ts[k]? = some T) (hT : T.t = 2) : rwk ts (k + 1) = rwk ts k := by
  rw [rwk, List.range_succ, List.filter_append, List.map_append]; simp [rwk, lvb, List.getD, h, hT]
theorem rwk_len {ts : List Tr} {n : Nat} : (rwk ts n).length ≤ n := by
  rw [rwk, List.length_map]
  exact Nat.le_trans (List.length_filter_le _ _) (by simp)
def jl (x : Int) : List Int := [x]
theorem jl_len (x : Int) : (jl x).length = 1 := rfl
theorem flat_jl (xs : List Int) : flat jl xs = xs := by
  induction xs with
  | nil => rfl
  | cons x xs ih => rw [flat, List.flatMap_cons]; rw [flat] at ih; rw [ih]; rfl
theorem gint_info : (Tryz.prog.info? 3).map (fun i => (i.zero, i.size, i.bytes)) = some (some (.int .i64 0), 1, 8) := by kernel_rfl
/-- a slice of int of the call's own -/
abbrev OwnJ (w : World) (lo hi : Nat) (v : Value) (xs : List Int) : Prop := OwnS jl 3 1 w lo hi v xs
/-- 'append(list, n)', list of []int -/
theorem push_J {ops : Array Oper} {rest : List Oper} {o : Oper} {a : Act} {Q : Exit → Act → World → Prop} {W : World} {y : Int} {xs : List Int} {v : Value} {lo hi : Nat} (H : Nat) (hH : W.heap.size = H) (hown : OwnJ W lo hi v xs) (hgd : o.guard = none) (so xo : Operand)
    (ho : o.op = .call { callee := .builtin .append, args := #[so, xo], argTypes := #[96, 96] }) (hs : a.eval so = v) (hx : a.eval xo = .slice (some ⟨H, 0, none⟩) 1 1) (hbase : lo ≤ W.heap.size) (hb : xs.length ≤ 1000000)
    (h : ∀ v' w', OwnJ w' lo w'.heap.size v' (xs ++ [y]) → Below lo W w' → W.grownBy w' v.ownBlock → wpList Tryz.prog ops Q rest (a.put o.dst v') w') : wpList Tryz.prog ops Q (o :: rest) a (W.alloc (.cells #[.int .i64 y] 3)) := by
  subst hH
  refine push_S (cl := jl) (y := y) (t := W.heap.size) jl_len (by omega) Tryz.underlying96 gint_info rfl (by omega) (hown.next (Below.new (Below.refl _ _) _)) ?_ hgd so xo ho hs hx (by simp only [World.size_alloc]; omega) (by omega) ?_
  · intro j z hz
    have hj : j < 1 := lt_of_get hz
    have : j = 0 := by omega
    subst this
    simp [jl] at hz; subst hz; exact bx_new rfl rfl
  · intro v' w' h1 h2 h3
    have hB : Below W.heap.size W (W.alloc (.cells #[.int .i64 y] 3)) := Below.new (Below.refl _ _) _
    exact h v' w' h1 ((hB.mono hbase).trans h3) ⟨h2.os, h2.tape, h2.output, Nat.le_trans (by simp) h2.size, fun k hk hne => (h2.block k (by simp; omega) hne).trans (Below.heap_alloc W _ k hk)⟩
set_option maxRecDepth 100000 in
set_option maxHeartbeats 1600000 in
theorem spec_l17Moved (A : Option Addr) (c : Nat) (ts : List Tr) (s d : Int) (w : World) (hr : T64 w w.heap.size A ts) (h6 : ts.length ≤ 6) (hT : tsB ts = true) :
    Calls Tryz.prog 73 #[.agg #[.slice A ts.length c, .int .i64 s, .int .i64 d]] w fun e w' => ∃ a b j, e = .returned (.tuple #[a, b, j]) ∧ OwnT w' w.heap.size w'.heap.size a (mvs ts) ∧ OwnMo w' w.heap.size w'.heap.size b (lmo (mvs ts)) ∧ OwnJ w' w.heap.size w'.heap.size j (rwk (mvs ts) ts.length) ∧ Below w.heap.size w w' := by
  have hTH := Lib.hid hT
  clear hT
  go_enter Tryz.func73, Tryz.ntmps73
  repeat' (first | fail | go_values | go_skip | go_guarded | go_step | go_upon | (simp only []; go_step) | (go_ite <;> go_prune <;> (try go_simp)))
  refine wp_gen (fun W1 hW1 => ?_)
  have b0 := bx_id (w := W1) (X := w.heap.size) (o := 0) (v := .slice A ts.length c) (by rw [hW1]; exact bxc)
  have hb0 : Below w.heap.size w W1 := by rw [hW1]; exact bgr
  have hsz : w.heap.size < W1.heap.size := by rw [hW1]; first | omega | (simp only [World.size_alloc]; omega)
  have ha0 : OwnT W1 (w.heap.size + 1) W1.heap.size (.slice (some ⟨w.heap.size + 1, 0, none⟩) 0 0) [] := by
    rw [hW1]
    have := OwnS.lit0 (cl := trl) (T := 40) (k := 8) (W := w.alloc (.cells #[.slice A ts.length c, .int .i64 s, .int .i64 d] 28)) (lo := w.heap.size + 1) (by simp)
    simp only [World.size_alloc] at this
    exact OwnS.top (OwnS.next (OwnS.next this (Below.new (Below.refl _ _) _)) (Below.new (Below.refl _ _) _))
  have hm0 : OwnMo W1 (w.heap.size + 1) W1.heap.size (.slice (some ⟨w.heap.size + 1 + 1, 0, none⟩) 0 0) [] := by
    rw [hW1]
    have := OwnS.lit0 (cl := mol) (T := 38) (k := 5) (W := (w.alloc (.cells #[.slice A ts.length c, .int .i64 s, .int .i64 d] 28)).alloc (.cells #[] 40)) (lo := w.heap.size + 1) (by simp)
    simp only [World.size_alloc] at this
    exact OwnS.top (OwnS.next this (Below.new (Below.refl _ _) _))
  have hj0 : OwnJ W1 (w.heap.size + 1) W1.heap.size (.slice (some ⟨w.heap.size + 1 + 1 + 1, 0, none⟩) 0 0) [] := by
    rw [hW1]
    have := OwnS.lit0 (cl := jl) (T := 3) (k := 1) (W := ((w.alloc (.cells #[.slice A ts.length c, .int .i64 s, .int .i64 d] 28)).alloc (.cells #[] 40)).alloc (.cells #[] 38)) (lo := w.heap.size + 1) (by simp)
    simp only [World.size_alloc] at this
    exact OwnS.top this
  clear hW1
  go_loopw [5, 6, 7, 8] (fun xa xb xj iv wr => ∃ (a b j : Value) (k : Nat), a = xa ∧ b = xb ∧ j = xj ∧ k ≤ ts.length ∧ iv = .int .i64 k ∧ OwnT wr (w.heap.size + 1) wr.heap.size a (mvs (ts.take k)) ∧ OwnMo wr (w.heap.size + 1) wr.heap.size b (lmo ((mvs ts).take k)) ∧ OwnJ wr (w.heap.size + 1) wr.heap.size j (rwk (mvs ts) k) ∧ wr.cell? ⟨w.heap.size, 0, none⟩ = some (.slice A ts.length c) ∧ Below w.heap.size w wr ∧ w.heap.size < wr.heap.size) (fun _ _ _ iv _ => ts.length - (intOf iv).toNat)
  case atStart => exact ⟨_, _, _, 0, rfl, rfl, rfl, Nat.zero_le _, rfl, ha0, hm0, hj0, b0, hb0, hsz⟩
  case round =>
    clear b0 hb0 hsz ha0 hm0 hj0
    obtain ⟨a, b, j, k, rfl, rfl, rfl, hk, rfl, ho1, ho2, ho3, hbx, hbr, hsz⟩ := hrel
    by_cases hlt : k < ts.length
    · obtain ⟨⟨x, y, p, q, sp, t, u, r⟩, hx⟩ := get_of_lt hlt
      obtain ⟨B, o, rfl, hB, hc0, hc1, hc2, hc3, hc4, hc5, hc6, hc7⟩ := T64.at_ (hr.up hbr) hx
      have p0 : (0 : Int) ≤ (k : Int) := by omega
      have p1 : (k : Int) < (ts.length : Int) := by omega
      rcases hmv : fMoved ⟨x, y, p, q, sp, t, u, r⟩ with ⟨xz, yz, pz, qz, sz, tz, uz, rz⟩
      have hsu : Hid (mvs (ts.take (k + 1)) = mvs (ts.take k) ++ [⟨xz, yz, pz, qz, sz, tz, uz, rz⟩]) := by unfold Hid; rw [mvs_snoc hx, hmv]
      have hbT : trB x y p q sp t u r = true := (tsB_of hTH.out hx).1
      have hgo := moved_goes (T := ⟨x, y, p, q, sp, t, u, r⟩) hbT
      rw [hmv] at hgo
      have hbH := Lib.hid hbT
      have hmH := Lib.hid hmv
      have hmx : (mvs ts)[k]? = some ⟨xz, yz, pz, qz, sz, tz, uz, rz⟩ := by rw [mvs, List.getElem?_map, hx]; simp [hmv]
      have hl1 : (mvs (ts.take k)).length ≤ 1000000 := by rw [mvs_len, List.length_take]; omega
      have hl2 : (lmo ((mvs ts).take k)).length ≤ 1000000 := by have := lmo_len (ts := (mvs ts).take k); rw [List.length_take] at this; omega
      have hl3 : (rwk (mvs ts) k).length ≤ 1000000 := by have := rwk_len (ts := mvs ts) (n := k); omega
      clear hx hmv hbT
      obtain ⟨A1, c1, rfl⟩ := ho1.form
      obtain ⟨A2, c2, rfl⟩ := ho2.form
      obtain ⟨A3, c3, rfl⟩ := ho3.form
      obtain ⟨gb, hgb⟩ : ∃ gb, gb = fGoes ⟨x, y, p, q, sp, t, u, r⟩ := ⟨_, rfl⟩
      have hst := fun w' => spec_moved x y p q sp t u r xz yz pz qz sz tz uz rz w' hbH.out hmH.out
      rw [← hgb] at hgo hst
      have hstH := Lib.hid hst
      clear hst hgb
      cases gb
      · have ht : tz = 2 := hgo.2 rfl
        have hs2 : Hid (lmo ((mvs ts).take (k + 1)) = lmo ((mvs ts).take k)) := lmo_no hmx ht
        have hs3 : Hid (rwk (mvs ts) (k + 1) = rwk (mvs ts) k) := rwk_no hmx ht
        clear hgo hmx ht
        repeat' (first | fail | go_values | go_skip | go_guarded | go_step | go_upon | (simp only []; go_step) | (go_ite <;> go_prune <;> (try go_simp)))
        refine (hstH.out _).mono ?_; rintro e w2 ⟨rfl, hbw2⟩; have hzw2 := hbw2.size; (try simp only [World.size_alloc, World.size_setCell, World.size_drew] at hzw2)
        have q1 := ho1.next (w' := w2) (by exact bgr)
        have q2 := ho2.next (w' := w2) (by exact bgr)
        have q3 := ho3.next (w' := w2) (by exact bgr)
        have B2 : Below wr.heap.size wr w2 := by exact bgr
        have z2 := B2.size
        have hbx2 : w2.cell? ⟨w.heap.size, 0, none⟩ = _ := (B2.cell (p := ⟨w.heap.size, 0, none⟩) (by show w.heap.size < _; omega)).trans hbx
        clear hbw2
        go_wp2_with (at_builtin; refine push_T (w2.heap.size + 1) (by simp) (OwnS.next q1 (Below.new (Below.refl _ _) _)) rfl _ _ (by rfl) (by rfl) (by rfl) (by simp only [World.size_alloc]; omega) hl1 ?_; intro v4 w4 ho4 hb4 hg4)
        have q2' := OwnS.kept2 hg4 (OwnS.next q2 (Below.new (Below.refl _ _) _)) (OwnS.next q1 (Below.new (Below.refl _ _) _)) (by decide)
        have q3' := OwnS.kept2 hg4 (OwnS.next q3 (Below.new (Below.refl _ _) _)) (OwnS.next q1 (Below.new (Below.refl _ _) _)) (by decide)
        have z4 := hb4.size
        simp only [World.size_alloc] at z4
        exact ⟨⟨_, _, _, k + 1, rfl, rfl, rfl, by omega, by go_num, by rw [hsu.out]; exact ho4, by rw [hs2.out]; exact q2'.mono (Nat.le_refl _) (by omega), by rw [hs3.out]; exact q3'.mono (Nat.le_refl _) (by omega), (hb4.cell (p := ⟨w.heap.size, 0, none⟩) (by show w.heap.size < _; omega)).trans (bx_alloc hbx2), (hbr.trans (B2.mono (by omega))).trans ((Below.mono (Below.new (Below.refl _ _) _) (by omega)).trans (hb4.mono (by omega))), by omega⟩, by simp [intOf]; omega⟩
      · have ht : ¬ tz = 2 := hgo.1 rfl
        have hs2 : Hid (lmo ((mvs ts).take (k + 1)) = lmo ((mvs ts).take k) ++ [⟨xz, yz, pz, qz, sz⟩]) := by unfold Hid; rw [lmo_yes hmx ht]; rfl
        have hs3 : Hid (rwk (mvs ts) (k + 1) = rwk (mvs ts) k ++ [(k : Int)]) := rwk_yes hmx ht
        clear hgo hmx ht
        repeat' (first | fail | go_values | go_skip | go_guarded | go_step | go_upon | (simp only []; go_step) | (go_ite <;> go_prune <;> (try go_simp)))
        refine (hstH.out _).mono ?_; rintro e w2 ⟨rfl, hbw2⟩; have hzw2 := hbw2.size; (try simp only [World.size_alloc, World.size_setCell, World.size_drew] at hzw2)
        have q1 := ho1.next (w' := w2) (by exact bgr)
        have q2 := ho2.next (w' := w2) (by exact bgr)
        have q3 := ho3.next (w' := w2) (by exact bgr)
        have B2 : Below wr.heap.size wr w2 := by exact bgr
        have z2 := B2.size
        have hbx2 : w2.cell? ⟨w.heap.size, 0, none⟩ = _ := (B2.cell (p := ⟨w.heap.size, 0, none⟩) (by show w.heap.size < _; omega)).trans hbx
        clear hbw2
        go_wp2_with (first | (at_builtin; refine push_T (w2.heap.size + 1) (by simp) (OwnS.next q1 (Below.new (Below.refl _ _) _)) rfl _ _ (by rfl) (by rfl) (by rfl) (by simp only [World.size_alloc]; omega) hl1 ?_; intro v4 w4 ho4 hb4 hg4; have q2' := OwnS.kept2 hg4 (OwnS.next q2 (Below.new (Below.refl _ _) _)) (OwnS.next q1 (Below.new (Below.refl _ _) _)) (by decide); have q3' := OwnS.kept2 hg4 (OwnS.next q3 (Below.new (Below.refl _ _) _)) (OwnS.next q1 (Below.new (Below.refl _ _) _)) (by decide); have z4 := hb4.size; simp only [World.size_alloc] at z4; have d0 := cell_push (X := w2.heap.size) (o := 0) (v := .int .i64 xz) hg4 (by simp) (fun g hg e => by have := (OwnS.lt q1 g hg).2; omega) (bx_new rfl rfl); have d1 := cell_push (X := w2.heap.size) (o := 1) (v := .int .i64 yz) hg4 (by simp) (fun g hg e => by have := (OwnS.lt q1 g hg).2; omega) (bx_new rfl rfl); have d2 := cell_push (X := w2.heap.size) (o := 2) (v := .int .i64 pz) hg4 (by simp) (fun g hg e => by have := (OwnS.lt q1 g hg).2; omega) (bx_new rfl rfl); have d3 := cell_push (X := w2.heap.size) (o := 3) (v := .int .i64 qz) hg4 (by simp) (fun g hg e => by have := (OwnS.lt q1 g hg).2; omega) (bx_new rfl rfl); have d4 := cell_push (X := w2.heap.size) (o := 4) (v := .int .i64 sz) hg4 (by simp) (fun g hg e => by have := (OwnS.lt q1 g hg).2; omega) (bx_new rfl rfl)) | (at_builtin; refine push_M w4.heap.size rfl q2' rfl _ _ (by rfl) (by rfl) (by rfl) (by omega) hl2 ?_; intro v5 w5 ho5 hb5 hg5; have q1'' := OwnS.kept2 hg5 ho4 q2' (by decide); have q3'' := OwnS.kept2 hg5 q3' q2' (by decide); have z5 := hb5.size) | (at_builtin; refine push_J w5.heap.size rfl q3'' rfl _ _ (by rfl) (by rfl) (by rfl) (by omega) hl3 ?_; intro v6 w6 ho6 hb6 hg6; have r1 := OwnS.kept2 hg6 q1'' q3'' (by decide); have r2 := OwnS.kept2 hg6 ho5 q3'' (by decide); have z6 := hb6.size))
        have hb46 := hb4.trans (hb5.trans hb6)
        exact ⟨⟨_, _, _, k + 1, rfl, rfl, rfl, by omega, by go_num, by rw [hsu.out]; exact r1.mono (Nat.le_refl _) (by omega), by rw [hs2.out]; exact r2.mono (Nat.le_refl _) (by omega), by rw [hs3.out]; exact ho6, (hb46.cell (p := ⟨w.heap.size, 0, none⟩) (by show w.heap.size < _; omega)).trans (bx_alloc hbx2), (hbr.trans (B2.mono (by omega))).trans ((Below.mono (Below.new (Below.refl _ _) _) (by omega)).trans (hb46.mono (by omega))), by omega⟩, by simp [intOf]; omega⟩
    · have hk' : k = ts.length := by omega
      have e : ts.take k = ts := take_all hlt
      have e2 : (mvs ts).take k = mvs ts := take_all (by rw [mvs_len]; omega)
      rw [e] at ho1
      rw [e2] at ho2
      have hk'H := Lib.hid hk'
      clear hk' e e2
      obtain ⟨A1, c1, rfl⟩ := ho1.form
      obtain ⟨A2, c2, rfl⟩ := ho2.form
      obtain ⟨A3, c3, rfl⟩ := ho3.form
      repeat' (first | fail | go_values | go_skip | go_guarded | go_step | go_upon | (simp only []; go_step) | (go_ite <;> go_prune <;> (try go_simp)))
      all_goals go_returns
      all_goals exact ⟨_, _, _, rfl, ho1.mono (by omega) (Nat.le_refl _), ho2.mono (by omega) (Nat.le_refl _), by rw [← hk'H.out]; exact ho3.mono (by omega) (Nat.le_refl _), hbr⟩
end Go.Proofs.YthbljfanoaibkaaGreatDoor
namespace Go.Proofs.YthbljfanoaibkaaGreatDoor
open Go.RowKit Go.ChangeShapes Go.WideShapes Go.ChangeAt
set_option linter.unusedVariables false
set_option linter.unusedSimpArgs false
/-- the pairs, when the first i trails that go on have got theirs -/
def gpk (ts : List Tr) (bl : List Int) (i k : Nat) : Int := if lvb (ts.getD k t00) && decide (cnl ts k < i) then bl.getD (cnl ts k) 0 else -1
def gps (ts : List Tr) (bl : List Int) (i : Nat) : List Int := (List.range ts.length).map (gpk ts bl i)
theorem gps_len {ts : List Tr} {bl : List Int} {i : Nat} : (gps ts bl i).length = ts.length := by simp [gps]
theorem gps_zero {ts : List Tr} {bl : List Int} : gps ts bl 0 = List.replicate ts.length (-1) := by
  refine List.ext_getElem (by simp [gps]) fun j h1 h2 => ?_
  simp [gps, gpk]
theorem cnl_mono {ts : List Tr} {a b : Nat} (h : a ≤ b) : cnl ts a ≤ cnl ts b := by
  have := lmo_le (ts := ts.take b) a
  rw [List.take_take, Nat.min_eq_left h] at this
  exact this
theorem cnl_live {ts : List Tr} {k : Nat} (hk : k < ts.length) (hl : lvb (ts.getD k t00) = true) : cnl ts (k + 1) = cnl ts k + 1 := by
  obtain ⟨T, hT⟩ := get_of_lt hk
  have e : ts.getD k t00 = T := by simp [List.getD, hT]
  rw [e, lvb, decide_eq_true_eq] at hl
  exact cnl_yes hT hl
theorem gps_end {ts : List Tr} {bl : List Int} : gps ts bl (cnl ts ts.length) = dps ts bl ts.length := by
  rw [gps, dps]
  refine List.map_congr_left fun k hk => ?_
  have hk : k < ts.length := by simpa using hk
  unfold gpk dpk
  cases hl : lvb (ts.getD k t00)
  · simp
  · have h1 := cnl_live hk hl
    have h2 := cnl_mono (ts := ts) (a := k + 1) (b := ts.length) (by omega)
    simp; omega
theorem rwk_cnl {ts : List Tr} {n : Nat} (hn : n ≤ ts.length) : (rwk ts n).length = cnl ts n := by
  induction n with
  | zero => simp [rwk, cnl, lmo]
  | succ n ih =>
    obtain ⟨T, hT⟩ := get_of_lt (xs := ts) (k := n) (by omega)
    have ih := ih (by omega)
    by_cases h2 : T.t = 2
    · rw [rwk_no hT h2, cnl_no hT h2, ih]
    · rw [rwk_yes hT h2, cnl_yes hT h2, List.length_append, ih]; rfl
theorem rwk_at {ts : List Tr} {i : Nat} {z : Int} : ∀ {n : Nat}, n ≤ ts.length → (rwk ts n)[i]? = some z → ∃ r : Nat, z = (r : Int) ∧ r < n ∧ lvb (ts.getD r t00) = true ∧ cnl ts r = i := by
  intro n
  induction n with
  | zero => intro _ h; simp [rwk] at h
  | succ n ih =>
    intro hn h
    obtain ⟨T, hT⟩ := get_of_lt (xs := ts) (k := n) (by omega)
    by_cases h2 : T.t = 2
    · rw [rwk_no hT h2] at h
      obtain ⟨r, h1, h3, h4⟩ := ih (by omega) h
      exact ⟨r, h1, by omega, h4⟩
    · rw [rwk_yes hT h2] at h
      rcases Nat.lt_or_ge i (rwk ts n).length with h3 | h3
      · rw [List.getElem?_append_left h3] at h
        obtain ⟨r, h1, h3, h4⟩ := ih (by omega) h
        exact ⟨r, h1, by omega, h4⟩
      · rw [List.getElem?_append_right h3] at h
        have h4 := lt_of_get h
        simp at h4
        have h5 : i = (rwk ts n).length := by omega
        subst h5
        simp at h
        exact ⟨n, h.symm, by omega, by simp [List.getD, hT, lvb, h2], (rwk_cnl (by omega)).symm⟩
theorem gps_set {ts : List Tr} {bl : List Int} {i r : Nat} {y : Int} (hr : r < ts.length) (hl : lvb (ts.getD r t00) = true) (hc : cnl ts r = i) (hy : bl[i]? = some y) : gps ts bl (i + 1) = (gps ts bl i).set r y := by
  refine List.ext_getElem (by simp [gps]) fun j h1 h2 => ?_
  have hj : j < ts.length := by simpa [gps] using h1
  rw [List.getElem_set]
  simp only [gps, List.getElem_map, List.getElem_range]
  by_cases hjr : r = j
  · subst hjr
    rw [if_pos rfl, gpk, hl, hc]
    simp [hy]
  · rw [if_neg hjr]
    unfold gpk
    cases hlj : lvb (ts.getD j t00)
    · simp
    · have hne : ¬ cnl ts j = i := by
        intro e
        rcases Nat.lt_or_ge j r with h | h
        · have := cnl_live hj hlj
          have := cnl_mono (ts := ts) (a := j + 1) (b := r) (by omega)
          omega
        · have := cnl_live hr hl
          have := cnl_mono (ts := ts) (a := r + 1) (b := j) (by omega)
          omega
      have : decide (cnl ts j < i + 1) = decide (cnl ts j < i) := by
        by_cases h : cnl ts j < i
        · rw [decide_eq_true h, decide_eq_true (by omega)]
        · rw [decide_eq_false h, decide_eq_false (by omega)]
      rw [this]
theorem OwnS.rdJ {w : World} {lo hi n c : Nat} {A : Option Addr} {T : TypeId} {xs : List Int} (h : OwnS jl T 1 w lo hi (.slice A n c) xs) : I64 w w.heap.size A xs := by
  have := h.rd
  rw [S64, flat_jl] at this
  exact this
set_option maxRecDepth 100000 in
set_option maxHeartbeats 1600000 in
theorem spec_l17Pairs (A B : Option Addr) (c d : Nat) (ts : List Tr) (sq dq : Int) (cs : List (Int × Int)) (w : World) (hr : T64 w w.heap.size A ts) (hs : C64 w w.heap.size B cs) (h6 : ts.length ≤ 6) (h7 : cs.length ≤ 6) (hT : tsB ts = true) (hcs : ctsB cs = true) :
    Calls Tryz.prog 45 #[.agg #[.slice A ts.length c, .int .i64 sq, .int .i64 dq], .slice B cs.length d] w fun e w' => ∃ v, e = .returned v ∧ OwnI w' w.heap.size v (fPs (mvs ts) cs) ∧ Below w.heap.size w w' := by
  obtain ⟨ms, hms⟩ : ∃ ms, ms = lmo (mvs ts) := ⟨_, rfl⟩
  obtain ⟨rs, hrs⟩ : ∃ rs, rs = rwk (mvs ts) ts.length := ⟨_, rfl⟩
  obtain ⟨us, hus⟩ : ∃ us, us = mvs ts := ⟨_, rfl⟩
  obtain ⟨css, hcss⟩ : ∃ css, css = gcAll ms cs := ⟨_, rfl⟩
  obtain ⟨bl, hbl⟩ : ∃ bl, bl = bstP css 1000000 := ⟨_, rfl⟩
  have hM := fun w' (hr' : T64 w' w'.heap.size A ts) => spec_l17Moved A c ts sq dq w' hr' h6 hT
  have hul : us.length = ts.length := by rw [hus, mvs_len]
  have hmo : mssB ms = true := by rw [hms]; exact lmo_ok (fun k T h => mvs_get h hT)
  have hml : ms.length ≤ 6 := by have := lmo_len (ts := mvs ts); rw [hms]; rw [mvs_len] at this; omega
  have hA : areB css = true := by rw [hcss]; exact gcA_are hmo hcs hml h7
  have hbll : bl.length = rs.length := by rw [hbl, best_len, hcss, gcAll_len, hms, hrs, rwk_cnl (by rw [mvs_len]; omega), cnl, ← mvs_len (ts := ts), List.take_length]
  have hrl : rs.length = cnl us us.length := by rw [hrs, hus, rwk_cnl (by rw [mvs_len]; omega), mvs_len]
  have hfp : fPs (mvs ts) cs = gps us bl rs.length := by rw [hrl, gps_end, fPs, hbl, hcss, hms, hus]
  have hat : ∀ (i : Nat) (z : Int), rs[i]? = some z → ∃ r : Nat, z = (r : Int) ∧ r < us.length ∧ lvb (us.getD r t00) = true ∧ cnl us r = i := by
    intro i z h
    rw [hrs] at h
    obtain ⟨r, h1, h2, h3⟩ := rwk_at (by rw [mvs_len]; omega) h
    rw [hus]
    exact ⟨r, h1, by rw [mvs_len]; exact h2, h3⟩
  have hr6 : rs.length ≤ 6 := by rw [hrs]; exact Nat.le_trans rwk_len h6
  rw [← hms, ← hrs, ← hus] at hM
  rw [hfp]
  have hC := fun w' A' c' (hr' : M64 w' w'.heap.size A' ms) (hs' : C64 w' w'.heap.size B cs) => spec_l14Costs A' B c' d ms cs w' hr' hs' (by omega) (by omega) hmo hcs
  rw [← hcss] at hC
  have hB := fun w' A' c' (hr' : II64 w' w'.heap.size A' css) => spec_l15Best A' c' css 1000000 w' hr' hA (by omega) (by omega)
  rw [← hbl] at hB
  have hMH := Lib.hid hM
  have hCH := Lib.hid hC
  have hBH := Lib.hid hB
  have hatH := Lib.hid hat
  have hulH := Lib.hid hul
  have hbllH := Lib.hid hbll
  clear hM hC hB hat hul hbll hrl hfp hA hmo hT hcs hms hrs hus hcss hbl
  go_enter Tryz.func45, Tryz.ntmps45
  repeat' (first | fail | go_values | go_skip | go_guarded | go_step | go_upon | (simp only []; go_step) | (go_ite <;> go_prune <;> (try go_simp)))
  refine (hMH.out _ (hr.up (by exact bgr))).mono ?_; rintro e w1 ⟨v1, v2, v3, rfl, o1, o2, o3, hbw1⟩; have hzw1 := hbw1.size; (try simp only [World.size_alloc, World.size_setCell, World.size_drew] at hzw1); have hs1 : w.heap.size < w1.heap.size := (by omega); have q1 := bx_id (w := w1) (X := w.heap.size) (o := 0) (by exact bxc); (try simp only [List.getElem_toArray, List.getElem_cons_succ, List.getElem_cons_zero] at q1); have q1 := bx_id (w := w1) (X := w.heap.size) (o := 1) (by exact bxc); (try simp only [List.getElem_toArray, List.getElem_cons_succ, List.getElem_cons_zero] at q1); have q1 := bx_id (w := w1) (X := w.heap.size) (o := 2) (by exact bxc); (try simp only [List.getElem_toArray, List.getElem_cons_succ, List.getElem_cons_zero] at q1); have z1 : ∀ o, w1.frozen? ⟨w.heap.size, o, none⟩ = false := (by exact bxm)
  obtain ⟨A1, c1, rfl⟩ := OwnS.form o1
  obtain ⟨A2, c2, rfl⟩ := OwnS.form o2
  obtain ⟨A3, c3, rfl⟩ := OwnS.form o3
  have g2 : M64 w1 w1.heap.size A2 ms := OwnS.rd o2
  have g3 : I64 w1 w1.heap.size A3 rs := OwnS.rdJ o3
  clear o1 o2 o3
  repeat' (first | fail | go_values | go_skip | go_guarded | go_step | go_upon | (simp only []; go_step) | (go_ite <;> go_prune <;> (try go_simp)))
  refine (hCH.out _ _ _ g2 (hs.up (by exact bgr))).mono ?_; rintro e w2 ⟨v2, rfl, o2, hbw2⟩; have hzw2 := hbw2.size; (try simp only [World.size_alloc, World.size_setCell, World.size_drew] at hzw2); have hs1 : w.heap.size < w2.heap.size := (by omega); have q1 := bx_id (w := w2) (X := w.heap.size) (o := 0) (by exact bxc); (try simp only [List.getElem_toArray, List.getElem_cons_succ, List.getElem_cons_zero] at q1); have q1 := bx_id (w := w2) (X := w.heap.size) (o := 1) (by exact bxc); (try simp only [List.getElem_toArray, List.getElem_cons_succ, List.getElem_cons_zero] at q1); have q1 := bx_id (w := w2) (X := w.heap.size) (o := 2) (by exact bxc); (try simp only [List.getElem_toArray, List.getElem_cons_succ, List.getElem_cons_zero] at q1); have z1 : ∀ o, w2.frozen? ⟨w.heap.size, o, none⟩ = false := (by exact bxm)
  obtain ⟨A4, c4, rfl⟩ := OwnLL.form o2
  repeat' (first | fail | go_values | go_skip | go_guarded | go_step | go_upon | (simp only []; go_step) | (go_ite <;> go_prune <;> (try go_simp)))
  refine (hBH.out _ _ _ (OwnLL.rd o2).2).mono ?_; rintro e w3 ⟨v3, rfl, o3, hbw3⟩; have hzw3 := hbw3.size; (try simp only [World.size_alloc, World.size_setCell, World.size_drew] at hzw3); have hs1 : w.heap.size < w3.heap.size := (by omega); have q1 := bx_id (w := w3) (X := w.heap.size) (o := 0) (by exact bxc); (try simp only [List.getElem_toArray, List.getElem_cons_succ, List.getElem_cons_zero] at q1); have q1 := bx_id (w := w3) (X := w.heap.size) (o := 1) (by exact bxc); (try simp only [List.getElem_toArray, List.getElem_cons_succ, List.getElem_cons_zero] at q1); have q1 := bx_id (w := w3) (X := w.heap.size) (o := 2) (by exact bxc); (try simp only [List.getElem_toArray, List.getElem_cons_succ, List.getElem_cons_zero] at q1); have z1 : ∀ o, w3.frozen? ⟨w.heap.size, o, none⟩ = false := (by exact bxm)
  obtain ⟨A5, c5, rfl, _⟩ := id o3
  have B3 : Below w.heap.size w w3 := by exact bgr
  have z3 := B3.size
  have z4 : w.heap.size < w3.heap.size := by omega
  have g3' : I64 w3 w3.heap.size A3 rs := g3.up (hbw2.trans (hbw3.mono hbw2.size))
  have g5 : I64 w3 w3.heap.size A5 bl := (OwnI.reads o3).2
  have hbx : w3.cell? ⟨w.heap.size, 0, none⟩ = some (.slice A ts.length c) := by first | assumption | exact bxc
  clear g2 g3 o2 o3
  repeat' (first | fail | go_values | go_skip | go_guarded | go_step | go_upon | (simp only []; go_step) | (go_ite <;> go_prune <;> (try go_simp)))
  go_loopw [9, 10] (fun x iv wr => ∃ (v : Value) (k : Nat), v = x ∧ k ≤ ts.length ∧ iv = .int .i64 k ∧ OwnI wr w3.heap.size v (List.replicate k (-1)) ∧ Below w3.heap.size w3 wr) (fun _ iv _ => ts.length - (intOf iv).toNat)
  case atStart => exact ⟨_, 0, rfl, Nat.zero_le _, rfl, OwnI.lit0 (Nat.le_refl _), by exact bgr⟩
  case round =>
    obtain ⟨v, k, rfl, hk, rfl, ho, hbr⟩ := hrel
    have hsz := hbr.size
    have hbx4 : wr.cell? ⟨w.heap.size, 0, none⟩ = some (.slice A ts.length c) := (hbr.cell (p := ⟨w.heap.size, 0, none⟩) (by show w.heap.size < _; omega)).trans hbx
    by_cases hlt : k < ts.length
    · have p1 : (k : Int) < (ts.length : Int) := by omega
      obtain ⟨Av, cv, rfl, _⟩ := id ho
      go_wp2_with (at_builtin; refine push_intG wr.heap.size rfl ho rfl _ _ (by rfl) (by rfl) (by rfl) (by omega) (by simp; omega) ?_; intro v' w4 ho4 hg4 hb4)
      exact ⟨⟨_, k + 1, rfl, by omega, by go_num, by rw [List.replicate_succ']; exact ho4, hbr.trans hb4⟩, by simp [intOf]; omega⟩
    · have hk' : k = us.length := by rw [hulH.out]; omega
      rw [hk', ← gps_zero (bl := bl)] at ho
      clear hk'
      obtain ⟨Av, cv, rfl, _⟩ := id ho
      have hgl : (gps us bl 0).length = us.length := gps_len
      rw [hgl] at ho
      rw [hgl]
      clear hgl
      have ho := ho
      repeat' (first | fail | go_values | go_skip | go_guarded | go_step | go_upon | (simp only []; go_step) | (go_ite <;> go_prune <;> (try go_simp)))
      go_loopw [11] (fun iv wr => ∃ (i : Nat), i ≤ rs.length ∧ iv = .int .i64 i ∧ OwnI wr w3.heap.size (.slice Av us.length cv) (gps us bl i) ∧ Below w3.heap.size w3 wr) (fun iv _ => rs.length - (intOf iv).toNat)
      case atStart => exact ⟨0, Nat.zero_le _, rfl, ho, hbr⟩
      case round =>
        clear ho
        obtain ⟨i, hi, rfl, ho, hbr⟩ := hrel
        by_cases hlt : i < rs.length
        · obtain ⟨z, hz⟩ := get_of_lt hlt
          obtain ⟨r, rfl, hr1, hr2, hr3⟩ := hatH.out i z hz
          obtain ⟨y, hy⟩ := get_of_lt (xs := bl) (k := i) (by have := hbllH.out; omega)
          have hst := Lib.hid (gps_set hr1 hr2 hr3 hy)
          obtain ⟨zo, hzo⟩ := get_of_lt (xs := gps us bl i) (k := r) (by rw [gps_len]; exact hr1)
          obtain ⟨g, rfl, hg1, hg2, hg3, hg4⟩ := OwnI.cell ho hzo
          have hgs := (hg4 y).1
          have hgg := (hg4 y).2
          rw [← hst.out] at hgs
          obtain ⟨b3, q3, rfl, hb3, hc3⟩ := (g3'.below hbr).at_ hz
          obtain ⟨b5, q5, rfl, hb5, hc5⟩ := (g5.below hbr).at_ hy
          have hbb : Below w3.heap.size wr (wr.setCell ⟨g, r, none⟩ (.int .i64 y)) := ⟨hgg.os, hgg.tape, hgg.output, hgg.size, fun k hk => hgg.block k (by have := hbr.size; omega) (fun e => by injection e with e; omega)⟩
          have hfin := Lib.hid (And.intro hgs (hbr.trans hbb))
          have p0 : (0 : Int) ≤ (i : Int) := by omega
          have p1 : (i : Int) < (rs.length : Int) := by omega
          have p2 : (i : Int) < (bl.length : Int) := by have := hbllH.out; omega
          have p3 : (0 : Int) ≤ (r : Int) := by omega
          have p4 : (r : Int) < (us.length : Int) := by omega
          clear hz hy hzo hst hg4 hgs hgg hbb ho hr1 hr2 hr3
          repeat' (first | fail | go_values | go_skip | go_guarded | go_step | go_upon | (simp only []; go_step) | (go_ite <;> go_prune <;> (try go_simp)))
          (refine wp_region_noPanic ?_; refine wp_region_held_drew (S := (fun w' => w'.cell? ⟨b3, q3 + i, none⟩ = some (.int .i64 r) ∧ w'.cell? ⟨b5, q5 + i, none⟩ = some (.int .i64 y))) (by kernel_rfl) ?_ (fun hHeld => ?_); (focus ((try dsimp only); (refine ⟨?_, ?_⟩ <;> exact bxc))); (refine takeT (i := 0) (d := 39) rfl rfl (by kernel_rfl) (by kernel_rfl) (by kernel_rfl) (by rfl) (by assumption) (v := ?_) ?_ ?_; rotate_left; (focus (intro wq hSw; (try dsimp only at hSw); go_simp; (try (with_reducible rfl)); done)); (try simp only [Act.put, List.setIfInBounds_toArray, List.set_cons_zero, List.set_cons_succ])); (refine takeT (i := 1) (d := 40) rfl rfl (by kernel_rfl) (by kernel_rfl) (by kernel_rfl) (by rfl) (by assumption) (v := ?_) ?_ ?_; rotate_left; (focus (intro wq hSw; (try dsimp only at hSw); go_simp; (try (with_reducible rfl)); done)); (try simp only [Act.put, List.setIfInBounds_toArray, List.set_cons_zero, List.set_cons_succ])); (refine takeT (i := 2) (d := 41) rfl rfl (by kernel_rfl) (by kernel_rfl) (by kernel_rfl) (by rfl) (by assumption) (v := ?_) ?_ ?_; rotate_left; (focus (intro wq hSw; (try dsimp only at hSw); go_simp; (try (with_reducible rfl)); done)); (try simp only [Act.put, List.setIfInBounds_toArray, List.set_cons_zero, List.set_cons_succ])); (refine takeT (i := 3) (d := 42) rfl rfl (by kernel_rfl) (by kernel_rfl) (by kernel_rfl) (by rfl) (by assumption) (v := ?_) ?_ ?_; rotate_left; (focus (intro wq hSw; (try dsimp only at hSw); go_simp; (try (with_reducible rfl)); done)); (try simp only [Act.put, List.setIfInBounds_toArray, List.set_cons_zero, List.set_cons_succ])); (refine takeT (i := 4) (d := 43) rfl rfl (by kernel_rfl) (by kernel_rfl) (by kernel_rfl) (by rfl) (by assumption) (v := ?_) ?_ ?_; rotate_left; (focus (intro wq hSw; (try dsimp only at hSw); go_simp; (try (with_reducible rfl)); done)); (try simp only [Act.put, List.setIfInBounds_toArray, List.set_cons_zero, List.set_cons_succ])); (refine takeT (i := 5) (d := 44) rfl rfl (by kernel_rfl) (by kernel_rfl) (by kernel_rfl) (by rfl) (by assumption) (v := ?_) ?_ ?_; rotate_left; (focus (intro wq hSw; (try dsimp only at hSw); go_simp; (try (with_reducible rfl)); done)); (try simp only [Act.put, List.setIfInBounds_toArray, List.set_cons_zero, List.set_cons_succ])); (refine takeT (i := 6) (d := 45) rfl rfl (by kernel_rfl) (by kernel_rfl) (by kernel_rfl) (by rfl) (by assumption) (v := ?_) ?_ ?_; rotate_left; (focus (intro wq hSw; (try dsimp only at hSw); go_simp; (try (with_reducible rfl)); done)); (try simp only [Act.put, List.setIfInBounds_toArray, List.set_cons_zero, List.set_cons_succ])); (refine takeT (i := 7) (d := 46) rfl rfl (by kernel_rfl) (by kernel_rfl) (by kernel_rfl) (by rfl) (by assumption) (v := ?_) ?_ ?_; rotate_left; (focus (intro wq hSw; (try dsimp only at hSw); go_simp; (try (with_reducible rfl)); done)); (try simp only [Act.put, List.setIfInBounds_toArray, List.set_cons_zero, List.set_cons_succ])); (refine takeT (i := 8) (d := 47) rfl rfl (by kernel_rfl) (by kernel_rfl) (by kernel_rfl) (by rfl) (by assumption) (v := ?_) ?_ ?_; rotate_left; (focus (intro wq hSw; (try dsimp only at hSw); go_simp; (try (with_reducible rfl)); done)); (try simp only [Act.put, List.setIfInBounds_toArray, List.set_cons_zero, List.set_cons_succ])); (refine takeT (i := 9) (d := 48) rfl rfl (by kernel_rfl) (by kernel_rfl) (by kernel_rfl) (by rfl) (by assumption) (v := ?_) ?_ ?_; rotate_left; (focus (intro wq hSw; (try dsimp only at hSw); go_simp; (try (with_reducible rfl)); done)); (try simp only [Act.put, List.setIfInBounds_toArray, List.set_cons_zero, List.set_cons_succ])); (refine wpAnyH_ready (rs := [10]) (by kernel_rfl) (by simp) ?_; refine AllReadyH.cons rfl (fun K hK => ?_) AllReadyH.nil; go_simp; (first | (skip) | skip); (try go_wp2_with fail); refine hK.out _ _ ?_ (fun hHeld => ?_); (focus ((try dsimp only); (refine ⟨?_, ?_⟩ <;> exact bxc))); clear hK K; (try simp only [Act.put, List.setIfInBounds_toArray, List.set_cons_zero, List.set_cons_succ])); refine wpAnyH_done (by kernel_rfl) ?_ _; refine NoPanic.normal ?_)
          all_goals repeat' (first | fail | go_values | go_skip | go_guarded | go_step | go_upon | (simp only []; go_step) | (go_ite <;> go_prune <;> (try go_simp)))
          all_goals exact ⟨⟨i + 1, by omega, by go_num, hfin.out.1, (by have hq := hfin.out.2; first | exact hq | exact ⟨hq.os, hq.tape, hq.output, hq.size, hq.block⟩ | exact bgr)⟩, by simp [intOf]; omega⟩
        · have hi' : i = rs.length := by omega
          rw [hi'] at ho
          clear hi'
          repeat' (first | fail | go_values | go_skip | go_guarded | go_step | go_upon | (simp only []; go_step) | (go_ite <;> go_prune <;> (try go_simp)))
          all_goals go_returns
          all_goals exact ⟨_, rfl, OwnI.mono ho (by omega), B3.trans (hbr.mono z3)⟩
end Go.Proofs.YthbljfanoaibkaaGreatDoor
