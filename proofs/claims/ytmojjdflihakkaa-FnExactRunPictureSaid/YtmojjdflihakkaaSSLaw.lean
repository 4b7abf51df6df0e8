/- Slices of contacts and motions in the laws: sized, copied, compared. -/
import Derived.Test.YtmojjdflihakkaaSSMem
import Derived.Test.YtmojjdflihakkaaLawKit
import Derived.Test.YtmojjdflihakkaaTrA
import Derived.Deep.RegionHeld3
namespace Go.Proofs.Ytmojjdflihakkaa
open Go.RowKit Go.ChangeShapes Go.WideShapes Go.ChangeAt
set_option linter.unusedVariables false
set_option linter.unusedSimpArgs false
def ctl (c : Int × Int) : List Int := [c.1, c.2]
def ctm (l : List Int) : Int × Int := (l.getD 0 0, l.getD 1 0)
theorem ctl_len (c : Int × Int) : (ctl c).length = 2 := rfl
theorem ctm_inv (l : List Int) (h : l.length = 2) : ctl (ctm l) = l := by
  match l, h with
  | [a, b], _ => rfl
/-- a slice of contacts -/
def C64 (w : World) (B : Nat) (A : Option Addr) (cs : List (Int × Int)) : Prop := S64 ctl w B A cs
section
variable {w w' : World} {B B' : Nat} {A : Option Addr} {cs : List (Int × Int)}
theorem C64.below (h : C64 w B A cs) (hb : Below B w w') : C64 w' B A cs := S64.below h hb
theorem C64.more (h : C64 w B A cs) (hB : B ≤ B') : C64 w B' A cs := S64.more h hB
theorem C64.up (h : C64 w w.heap.size A cs) (hb : Below w.heap.size w w') : C64 w' w'.heap.size A cs := S64.up h hb
theorem C64.nil : C64 w B A [] := S64.nil
theorem C64.at_ {i : Nat} {x y : Int} (h : C64 w B A cs) (hx : cs[i]? = some (x, y)) : ∃ b o, A = some ⟨b, o, none⟩ ∧ b < B ∧ w.cell? ⟨b, o + i * 2, none⟩ = some (.int .i64 x) ∧ w.cell? ⟨b, o + i * 2 + 1, none⟩ = some (.int .i64 y) := by
  obtain ⟨b, o, h1, h2, h3⟩ := S64.at_ ctl_len (by omega) h hx
  exact ⟨b, o, h1, h2, h3 0 x rfl, h3 1 y rfl⟩
end
theorem laws_szContactS (A : Option Addr) (n c : Nat) (left : Int) (w : World) (h0 : -1 ≤ left) (h1 : left ≤ 1048576) (hn : n ≤ maxLen) :
    Calls Try.prog 50 #[.slice A n c, .int .i64 left] w fun e w' => e = .returned (.int .i64 (fsz left n)) ∧ w = w' := by
  unfold maxLen at hn
  by_cases h : left - n < 0
  · go_enter Try.func50, Try.ntmps50
    go_wp2
    go_ret
    exact ⟨ret_int (by rw [fsz, if_pos h]), rfl⟩
  · go_enter Try.func50, Try.ntmps50
    go_wp2
    go_ret
    exact ⟨ret_int (by rw [fsz, if_neg (by omega)]), rfl⟩
theorem contact_info : (Try.prog.info? 42).map (fun i => (i.zero, i.size, i.bytes)) = some (some (.agg #[.int .i64 0, .int .i64 0]), 2, 16) := by kernel_rfl
/-- the value v is a slice of contacts that the call itself made, from block base on; it reads as cs -/
def OwnC (w : World) (base : Nat) (v : Value) (cs : List (Int × Int)) : Prop := ∃ A c, v = .slice A cs.length c ∧ w.ownsRow base 42 2 (.slice A cs.length c) cs.length ((flat ctl cs).map (Value.int .i64))
theorem madeCells_all {z : Array Value} {v : Value} (h0 : 0 < z.size) (h : ∀ j, j < z.size → z[j]! = v) (n : Nat) : (madeCells z n).toList = List.replicate n v := by
  refine List.ext_getElem? fun i => ?_
  rcases Nat.lt_or_ge i n with hi | hi
  · have := h (i % z.size) (Nat.mod_lt _ h0)
    simp [madeCells, List.getElem?_replicate, hi, this]
  · simp [madeCells, List.getElem?_replicate, hi]
theorem made_contact (n : Nat) : (madeCells (Value.agg #[.int .i64 0, .int .i64 0]).cells (n * 2)).toList = ((flat ctl (List.replicate n (0, 0))).map (Value.int .i64)) := by
  rw [madeCells_all (z := (Value.agg #[.int .i64 0, .int .i64 0]).cells) (v := .int .i64 0) (by decide) (fun j hj => by
    have hj : j < 2 := hj
    have : j = 0 ∨ j = 1 := by omega
    rcases this with rfl | rfl <;> rfl)]
  have e : ∀ n : Nat, flat ctl (List.replicate n (0, 0)) = List.replicate (n * 2) 0 := fun n => by
    induction n with
    | zero => rfl
    | succ n ih =>
      simp only [flat] at ih
      rw [List.replicate_succ, flat, List.flatMap_cons, ih, show (n + 1) * 2 = n * 2 + 1 + 1 by omega, List.replicate_succ, List.replicate_succ]; rfl
  rw [e, List.map_replicate]
section
variable {w w' : World} {base base' : Nat} {v u : Value} {cs ds : List (Int × Int)} {A : Option Addr} {n c : Nat}
theorem OwnC.reads (h : OwnC w base (.slice A n c) cs) : n = cs.length ∧ C64 w w.heap.size A cs := by
  obtain ⟨A', c', he, ho⟩ := h
  injection he with h1 h2 h3
  subst h1 h2 h3
  exact ⟨rfl, Rd.of_own ho⟩
theorem OwnC.lt (h : OwnC w base v cs) : ∀ k, v.ownBlock = some k → base ≤ k ∧ k < w.heap.size := by
  obtain ⟨A', c', rfl, ho⟩ := h
  exact ho.lt
theorem OwnC.kept (h : OwnC w base v cs) {row : Option Nat} (hg : w.grownBy w' row) (hne : v.ownBlock = none ∨ v.ownBlock ≠ row) : OwnC w' base v cs := by
  obtain ⟨A', c', rfl, ho⟩ := h
  exact ⟨A', c', rfl, ho.kept hg hne⟩
theorem OwnC.below (h : OwnC w base v cs) (hb : Below w.heap.size w w') : OwnC w' base v cs := h.kept (grownBy_of_below hb none) (by cases v.ownBlock <;> simp)
theorem OwnC.mono (h : OwnC w base v cs) (hb : base' ≤ base) : OwnC w base' v cs := by
  obtain ⟨A', c', rfl, h1, h2⟩ := h
  refine ⟨A', c', rfl, h1, ?_⟩
  rcases h2 with h2 | ⟨g, cap, cur, q1, q2, q3⟩
  · exact .inl h2
  · exact .inr ⟨g, cap, cur, q1, by omega, q3⟩
/-- an element of a row of the call's own, stored into -/
theorem OwnC.cell {i : Nat} {x y : Int} (h : OwnC w base (.slice A n c) cs) (hx : cs[i]? = some (x, y)) : ∃ g, A = some ⟨g, 0, none⟩ ∧ base ≤ g ∧ g < w.heap.size ∧ w.cell? ⟨g, i * 2, none⟩ = some (.int .i64 x) ∧ w.cell? ⟨g, i * 2 + 1, none⟩ = some (.int .i64 y) ∧ (∀ o, w.frozen? ⟨g, o, none⟩ = false) ∧
    ∀ a b, OwnC ((w.setCell ⟨g, i * 2, none⟩ (.int .i64 a)).setCell ⟨g, i * 2 + 1, none⟩ (.int .i64 b)) base (.slice (some ⟨g, 0, none⟩) n c) (cs.set i (a, b)) ∧ w.grownBy ((w.setCell ⟨g, i * 2, none⟩ (.int .i64 a)).setCell ⟨g, i * 2 + 1, none⟩ (.int .i64 b)) (some g) := by
  obtain ⟨A', c', he, ho⟩ := h
  injection he with h1 h2 h3
  subst h1 h2 h3
  have hk : i < cs.length := (List.getElem?_eq_some_iff.1 hx).1
  obtain ⟨g, cap, hv, hb, hlt⟩ := ho.form (by omega)
  injection hv with h1 h2 h3
  subst h1 h3
  have e0 : (flat ctl cs)[i * 2 + 0]? = some x := flat_get ctl_len hx rfl
  have e1 : (flat ctl cs)[i * 2 + 1]? = some y := flat_get ctl_len hx rfl
  refine ⟨g, rfl, hb, hlt, by rw [ho.cellAt (i * 2) (by omega), List.getElem?_map]; rw [Nat.add_zero] at e0; rw [e0]; rfl, by rw [ho.cellAt (i * 2 + 1) (by omega), List.getElem?_map, e1]; rfl, fun o => ho.frozenAt o, fun a b => ?_⟩
  have hs := ho.stored (i * 2) (.int .i64 a)
  have hs2 := hs.1.stored (i * 2 + 1) (.int .i64 b)
  rw [← List.map_set, ← List.map_set] at hs2
  have e : ((flat ctl cs).set (i * 2) a).set (i * 2 + 1) b = flat ctl (cs.set i (a, b)) := by
    rw [flat_set ctl_len hk]
    have hlen : (flat ctl cs).length = cs.length * 2 := flat_len ctl_len cs
    refine List.ext_getElem? fun j => ?_
    rw [List.getElem?_set, List.getElem?_set, List.length_set, hlen]
    have ht : ((flat ctl cs).take (i * 2)).length = i * 2 := by rw [List.length_take, hlen]; omega
    rcases Nat.lt_or_ge j (i * 2) with h | h
    · rw [if_neg (by omega), if_neg (by omega), List.append_assoc, List.getElem?_append_left (by omega), List.getElem?_take_of_lt h]
    · rw [List.append_assoc, List.getElem?_append_right (by omega), ht]
      rcases Nat.lt_or_ge j (i * 2 + 2) with h2 | h2
      · have : j = i * 2 ∨ j = i * 2 + 1 := by omega
        rcases this with rfl | rfl
        · rw [if_neg (by omega), if_pos rfl, if_pos (by omega), Nat.sub_self]; rfl
        · rw [if_pos rfl, if_pos (by omega), show i * 2 + 1 - i * 2 = 1 by omega]; rfl
      · rw [if_neg (by omega), if_neg (by omega), List.getElem?_append_right (by simp [ctl]; omega), List.getElem?_drop]
        congr 1
        simp [ctl]; omega
  rw [e] at hs2
  exact ⟨⟨some ⟨g, 0, none⟩, c, by simp, by simpa using hs2.1⟩, grownBy_trans hs.2 hs2.2⟩
end
set_option maxHeartbeats 800000 in
theorem laws_toContactS (A : Option Addr) (c : Nat) (cs : List (Int × Int)) (w : World) (hr : C64 w w.heap.size A cs) (hl : cs.length ≤ 1048576) :
    Calls Try.prog 52 #[.slice A cs.length c] w fun e w' => ∃ g, e = .returned (.slice (some ⟨g, 0, none⟩) cs.length cs.length) ∧ OwnC w' w.heap.size (.slice (some ⟨g, 0, none⟩) cs.length cs.length) cs ∧ Below w.heap.size w w' := by
  obtain ⟨i0, hi, hz0, hz1, hz2⟩ := info_parts contact_info
  have hr0 := hr
  go_enter Try.func52, Try.ntmps52
  go_wp2_with (at_make; refine wpList_make_full _ rfl _ _ 75 rfl w.heap.size 42 i0 _ 2 Try.underlying75 hi hz0 hz1 .i64 .i64 _ _ cs.length rfl rfl rfl rfl (by rw [hz2]; omega) (by simp only [maxLen]; omega) (Nat.le_refl _) ?_; intro w1 hown hg)
  have hb1 : Below w.heap.size w w1 := ⟨hg.os, hg.tape, hg.output, hg.size, fun k hk => hg.block k hk (by simp)⟩
  have hlt1 : w.heap.size < w1.heap.size := hown.lt w.heap.size rfl |>.2
  have ho1 : OwnC w1 w.heap.size (.slice (some ⟨w.heap.size, 0, none⟩) cs.length cs.length) (List.replicate cs.length (0, 0)) := by
    refine ⟨some ⟨w.heap.size, 0, none⟩, cs.length, by simp, ?_⟩
    rw [made_contact] at hown
    simpa using hown
  clear hg hr hown
  go_loopw [4] (fun i wr => ∃ k : Nat, ∃ zs : List (Int × Int), k ≤ cs.length ∧ i = .int .i64 k ∧ zs.length = cs.length ∧ Hid (zs.take k = cs.take k) ∧ OwnC wr w.heap.size (.slice (some ⟨w.heap.size, 0, none⟩) cs.length cs.length) zs ∧ Below w.heap.size w wr ∧ w.heap.size < wr.heap.size) (fun i _ => cs.length - (intOf i).toNat)
  case atStart => exact ⟨0, List.replicate cs.length (0, 0), Nat.zero_le _, rfl, by simp, by simp [Hid], ho1, hb1, hlt1⟩
  case round =>
    clear ho1 hb1
    obtain ⟨k, zs, hk, rfl, hz, ht, ho, hbr, hsz⟩ := hrel
    have hz' := Lib.hid hz
    clear hz
    by_cases hlt : k < cs.length
    · obtain ⟨⟨x, y⟩, hx⟩ := get_of_lt hlt
      obtain ⟨b, o, rfl, hb, hc0, hc1⟩ := (hr0.below hbr).at_ hx
      obtain ⟨⟨z0, z1⟩, hzk⟩ := get_of_lt (xs := zs) (k := k) (by have := hz'.out; omega)
      have hx' := Lib.hid hx
      have hzk' := Lib.hid hzk
      clear hx hzk
      repeat' (first | fail | go_values | go_skip | go_guarded | go_step | go_upon | (simp only []; go_step) | (go_ite <;> go_prune <;> (try go_simp)))
      refine (laws_toContact _ _ _).mono ?_
      rintro e w2 ⟨rfl, hb2⟩
      obtain ⟨g, eg, _, hg2, c0, c1, hf, hst⟩ := (ho.below hb2).cell hzk'.out
      simp only [Option.some.injEq, Addr.mk.injEq, and_true] at eg
      subst eg
      have hst' := (hst x y).1
      have hf0 := hf (k * 2)
      have hf1 := hf (k * 2 + 1)
      clear hst hf ho
      repeat' (first | fail | go_values | go_skip | go_guarded | go_step | go_upon | (simp only []; go_step) | (go_ite <;> go_prune <;> (try go_simp)))
      refine ⟨⟨k + 1, zs.set k (x, y), by omega, by go_num, by simpa using hz'.out, by unfold Hid; rw [take_set_snoc (by have := hz'.out; omega), ht.out, take_snoc hx'.out], hst', by repeat' (first | (with_reducible exact Below.refl _ _) | (with_reducible assumption) | (with_reducible refine Below.new ?_ _) | (with_reducible refine Below.alloc ?_ ?_ _) | (with_reducible refine Below.drew ?_) | (with_reducible refine below_drewN ?_ _) | (with_reducible refine Below.setCell ?_ ?_ _) | (refine Below.next ?_ (by with_reducible assumption)) | (refine Below.row ?_ (by with_reducible assumption) (by omega)) | (refine Below.trans ?_ (by with_reducible assumption)) | (refine Below.after ?_ ?_ (by with_reducible assumption)) | go_size), by simp only [World.size_setCell]; have := hb2.size; omega⟩, by simp [intOf]; omega⟩
    · repeat' (first | fail | go_values | go_skip | go_guarded | go_step | go_upon | (simp only []; go_step) | (go_ite <;> go_prune <;> (try go_simp)))
      all_goals go_returns
      have hkk : k = cs.length := by omega
      subst hkk
      have e : zs = cs := by have := ht.out; rw [take_all (xs := zs) (by have := hz'.out; omega), take_all (xs := cs) (by omega)] at this; exact this
      rw [e] at ho
      exact ⟨_, rfl, ho, hbr⟩
theorem laws_eqContact (x y : Int) (w : World) : Calls Try.prog 106 #[.agg #[.int .i64 x, .int .i64 y], .agg #[.int .i64 x, .int .i64 y]] w fun e w' => e = .returned (.bool true) ∧ Below w.heap.size w w' := by
  have h1 : (x != x) = false := by simp
  have h2 : (y != y) = false := by simp
  go_enter Try.func106, Try.ntmps106
  repeat' (first | fail | go_values | go_skip | go_guarded | go_step | go_upon | (simp only []; go_step) | (go_ite <;> go_prune <;> (try go_simp)))
  all_goals go_returns
  all_goals exact ⟨rfl, by repeat' (first | (with_reducible exact Below.refl _ _) | (with_reducible assumption) | (with_reducible refine Below.new ?_ _) | (with_reducible refine Below.alloc ?_ ?_ _) | (with_reducible refine Below.drew ?_) | (with_reducible refine below_drewN ?_ _) | (with_reducible refine Below.setCell ?_ ?_ _) | (refine Below.next ?_ (by with_reducible assumption)) | (refine Below.row ?_ (by with_reducible assumption) (by omega)) | (refine Below.trans ?_ (by with_reducible assumption)) | (refine Below.after ?_ ?_ (by with_reducible assumption)) | go_size)⟩
set_option maxHeartbeats 800000 in
theorem laws_eqContactS (A B : Option Addr) (c d : Nat) (cs : List (Int × Int)) (w : World) (hr : C64 w w.heap.size A cs) (hs : C64 w w.heap.size B cs) (hl : cs.length ≤ 1099511627776) :
    Calls Try.prog 54 #[.slice A cs.length c, .slice B cs.length d] w fun e w' => e = .returned (.bool true) ∧ Below w.heap.size w w' := by
  have hne : (cs.length != cs.length) = false := by simp
  have hne' : ((cs.length : Int) != (cs.length : Int)) = false := by simp
  go_enter Try.func54, Try.ntmps54
  repeat' (first | fail | go_values | go_skip | go_guarded | go_step | go_upon | (simp only []; go_step) | (go_ite <;> go_prune <;> (try go_simp)))
  go_loopw [5] (fun i wr => ∃ k : Nat, k ≤ cs.length ∧ i = .int .i64 k ∧ Below w.heap.size w wr) (fun i _ => cs.length - (intOf i).toNat)
  case atStart => exact ⟨0, Nat.zero_le _, rfl, by repeat' (first | (with_reducible exact Below.refl _ _) | (with_reducible assumption) | (with_reducible refine Below.new ?_ _) | (with_reducible refine Below.alloc ?_ ?_ _) | (with_reducible refine Below.drew ?_) | (with_reducible refine below_drewN ?_ _) | (with_reducible refine Below.setCell ?_ ?_ _) | (refine Below.next ?_ (by with_reducible assumption)) | (refine Below.row ?_ (by with_reducible assumption) (by omega)) | (refine Below.trans ?_ (by with_reducible assumption)) | (refine Below.after ?_ ?_ (by with_reducible assumption)) | go_size)⟩
  case round =>
    obtain ⟨k, hk, rfl, hbr⟩ := hrel
    by_cases hlt : k < cs.length
    · obtain ⟨⟨x, y⟩, hx⟩ := get_of_lt hlt
      obtain ⟨b, o, rfl, hb, hc0, hc1⟩ := (hr.up hbr).at_ hx
      obtain ⟨b2, o2, rfl, hb2, hd0, hd1⟩ := (hs.up hbr).at_ hx
      have p0 : (0 : Int) ≤ (k : Int) := by omega
      have p1 : (k : Int) < (cs.length : Int) := by omega
      clear hx
      repeat' (first | fail | go_values | go_skip | go_guarded | go_step | go_upon | (simp only []; go_step) | (go_ite <;> go_prune <;> (try go_simp)))
      go_region_held3 (fun w' => w'.cell? ⟨b, o + k * 2, none⟩ = some (.int .i64 x) ∧ w'.cell? ⟨b, o + k * 2 + 1, none⟩ = some (.int .i64 y) ∧ w'.cell? ⟨b2, o2 + k * 2, none⟩ = some (.int .i64 x) ∧ w'.cell? ⟨b2, o2 + k * 2 + 1, none⟩ = some (.int .i64 y)) (refine ⟨?_, ?_, ?_, ?_⟩ <;> repeat' (first | (with_reducible assumption) | ((with_reducible apply bx_new) <;> first | (simp only [World.size_alloc, World.size_setCell]; done) | rfl) | (with_reducible apply bx_alloc) | (with_reducible apply bx_other; (first | (simp only [World.size_alloc, World.size_setCell]; omega) | omega)) | (with_reducible apply bx_same) | (with_reducible apply bx_drew) | (with_reducible apply bx_drew1) | (with_reducible apply bx_keep; with_reducible assumption) | fail)) (first | (go_at_call 106; refine (laws_eqContact _ _ _).mono ?_; rintro e w1 ⟨rfl, hb1⟩))
      all_goals repeat' (first | fail | go_values | go_skip | go_guarded | go_step | go_upon | (simp only []; go_step) | (go_ite <;> go_prune <;> (try go_simp)))
      all_goals exact ⟨⟨k + 1, by omega, by go_num, by repeat' (first | (with_reducible exact Below.refl _ _) | (with_reducible assumption) | (with_reducible refine Below.new ?_ _) | (with_reducible refine Below.alloc ?_ ?_ _) | (with_reducible refine Below.drew ?_) | (with_reducible refine below_drewN ?_ _) | (with_reducible refine Below.setCell ?_ ?_ _) | (refine Below.next ?_ (by with_reducible assumption)) | (refine Below.row ?_ (by with_reducible assumption) (by omega)) | (refine Below.trans ?_ (by with_reducible assumption)) | (refine Below.after ?_ ?_ (by with_reducible assumption)) | go_size)⟩, by simp [intOf]; omega⟩
    · repeat' (first | fail | go_values | go_skip | go_guarded | go_step | go_upon | (simp only []; go_step) | (go_ite <;> go_prune <;> (try go_simp)))
      all_goals go_returns
      all_goals exact ⟨rfl, hbr⟩
/-- a slice of contacts that the call made in the blocks lo .. hi - 1 -/
def OwnCR (w : World) (lo hi : Nat) (v : Value) (cs : List (Int × Int)) : Prop := OwnC w lo v cs ∧ ∀ k, v.ownBlock = some k → k < hi
theorem OwnC.inR {w : World} {lo : Nat} {v : Value} {cs : List (Int × Int)} (h : OwnC w lo v cs) : OwnCR w lo w.heap.size v cs := ⟨h, fun k hk => (h.lt k hk).2⟩
theorem OwnCR.next {w w' : World} {lo hi : Nat} {v : Value} {cs : List (Int × Int)} (h : OwnCR w lo hi v cs) (hb : Below w.heap.size w w') : OwnCR w' lo hi v cs := ⟨h.1.below hb, h.2⟩
theorem OwnCR.rd {w : World} {lo hi n c : Nat} {A : Option Addr} {cs : List (Int × Int)} (h : OwnCR w lo hi (.slice A n c) cs) : C64 w w.heap.size A cs := h.1.reads.2
set_option maxHeartbeats 800000 in
theorem laws_markContactS (A : Option Addr) (n c lo hi : Nat) (cs : List (Int × Int)) (k : Int) (w : World) (ho : OwnCR w lo hi (.slice A n c) cs) (hl : cs.length ≤ 1048576) (hk0 : 0 ≤ k) (hk1 : k ≤ 1099511627776) :
    Calls Try.prog 55 #[.slice A n c, .int .i64 k] w fun e w' => e = .returned (.int .i64 (k + 2 * (cs.length : Int))) ∧ Within lo hi w w' := by
  obtain ⟨rfl, hr⟩ := ho.1.reads
  clear hr
  go_enter Try.func55, Try.ntmps55
  repeat' (first | fail | go_values | go_skip | go_guarded | go_step | go_upon | (simp only []; go_step) | (go_ite <;> go_prune <;> (try go_simp)))
  go_loopw [1, 5] (fun v i wr => ∃ j : Nat, ∃ zs : List (Int × Int), j ≤ cs.length ∧ i = .int .i64 j ∧ v = .int .i64 (k + 2 * (j : Int)) ∧ zs.length = cs.length ∧ OwnCR wr lo hi (.slice A cs.length c) zs ∧ Within lo hi w wr) (fun _ i _ => cs.length - (intOf i).toNat)
  case atStart => exact ⟨0, cs, Nat.zero_le _, rfl, by simp, rfl, ho, Within.refl _ _ _⟩
  case round =>
    obtain ⟨j, zs, hj, rfl, rfl, hz, hw, hW⟩ := hrel
    have hz' := Lib.hid hz
    clear hz
    by_cases hlt : j < cs.length
    · obtain ⟨⟨z0, z1⟩, hzj⟩ := get_of_lt (xs := zs) (k := j) (by have := hz'.out; omega)
      obtain ⟨g, rfl, hb, hgs, hc0, hc1, hf, hst⟩ := hw.1.cell hzj
      have hf0 := hf (j * 2)
      have hf1 := hf (j * 2 + 1)
      have hs := hst (k + 2 * (j : Int)) (k + 2 * (j : Int) + 1)
      clear hzj hst hf
      repeat' (first | fail | go_values | go_skip | go_guarded | go_step | go_upon | (simp only []; go_step) | (go_ite <;> go_prune <;> (try go_simp)))
      refine ⟨⟨j + 1, zs.set j (k + 2 * (j : Int), k + 2 * (j : Int) + 1), by omega, by go_num, by congr 1; omega, by simpa using hz'.out, ⟨hs.1, hw.2⟩, hW.trans ⟨hs.2.os, hs.2.tape, hs.2.output, hs.2.size, fun i hi' hn => hs.2.block i hi' (fun e => by
        simp only [Option.some.injEq] at e
        have h4 := hw.2 g (by simp [Value.ownBlock])
        omega)⟩⟩, by simp [intOf]; omega⟩
    · repeat' (first | fail | go_values | go_skip | go_guarded | go_step | go_upon | (simp only []; go_step) | (go_ite <;> go_prune <;> (try go_simp)))
      all_goals go_returns
      exact ⟨ret_int (by omega), hW⟩
end Go.Proofs.Ytmojjdflihakkaa
