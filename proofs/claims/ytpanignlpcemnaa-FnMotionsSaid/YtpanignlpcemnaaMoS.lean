/- Lists of motions, codes of gates: contracts. -/
import Derived.Test.YtpanignlpcemnaaCtA
namespace Go.Proofs.Ytpanignlpcemnaa
open Go.RowKit Go.ChangeShapes Go.WideShapes Go.ChangeAt
set_option linter.unusedVariables false
set_option linter.unusedSimpArgs false
structure Mo where
  x : Int
  y : Int
  p : Int
  q : Int
  s : Int
def mol (m : Mo) : List Int := [m.x, m.y, m.p, m.q, m.s]
def mom (l : List Int) : Mo := ⟨l.getD 0 0, l.getD 1 0, l.getD 2 0, l.getD 3 0, l.getD 4 0⟩
theorem mol_len (m : Mo) : (mol m).length = 5 := rfl
theorem mom_inv (l : List Int) (h : l.length = 5) : mol (mom l) = l := by
  match l, h with
  | [a, b, c, d, e], _ => rfl
/-- a slice of motions -/
def M64 (w : World) (B : Nat) (A : Option Addr) (ms : List Mo) : Prop := S64 mol w B A ms
section
variable {w w' : World} {B B' : Nat} {A : Option Addr} {ms : List Mo}
theorem M64.below (h : M64 w B A ms) (hb : Below B w w') : M64 w' B A ms := S64.below h hb
theorem M64.more (h : M64 w B A ms) (hB : B ≤ B') : M64 w B' A ms := S64.more h hB
theorem M64.up (h : M64 w w.heap.size A ms) (hb : Below w.heap.size w w') : M64 w' w'.heap.size A ms := S64.up h hb
theorem M64.nil : M64 w B A [] := S64.nil
theorem M64.at_ {i : Nat} {x y p q s : Int} (h : M64 w B A ms) (hx : ms[i]? = some ⟨x, y, p, q, s⟩) : ∃ b o, A = some ⟨b, o, none⟩ ∧ b < B ∧ w.cell? ⟨b, o + i * 5, none⟩ = some (.int .i64 x) ∧ w.cell? ⟨b, o + i * 5 + 1, none⟩ = some (.int .i64 y) ∧
    w.cell? ⟨b, o + i * 5 + 2, none⟩ = some (.int .i64 p) ∧ w.cell? ⟨b, o + i * 5 + 3, none⟩ = some (.int .i64 q) ∧ w.cell? ⟨b, o + i * 5 + 4, none⟩ = some (.int .i64 s) := by
  obtain ⟨b, o, h1, h2, h3⟩ := S64.at_ mol_len (by omega) h hx
  exact ⟨b, o, h1, h2, h3 0 x rfl, h3 1 y rfl, h3 2 p rfl, h3 3 q rfl, h3 4 s rfl⟩
/-- one motion in a block of its own -/
theorem M64.one {W : World} {b : Nat} {x y p q s : Int} (h0 : W.cell? ⟨b, 0, none⟩ = some (.int .i64 x)) (h1 : W.cell? ⟨b, 1, none⟩ = some (.int .i64 y)) (h2 : W.cell? ⟨b, 2, none⟩ = some (.int .i64 p)) (h3 : W.cell? ⟨b, 3, none⟩ = some (.int .i64 q)) (h4 : W.cell? ⟨b, 4, none⟩ = some (.int .i64 s)) :
    M64 W W.heap.size (some ⟨b, 0, none⟩) [⟨x, y, p, q, s⟩] :=
  .inr ⟨b, 0, rfl, World.block_lt_of_cell? W ⟨b, 0, none⟩ h0, fun j v hj => by
    have hl : j < 5 := by have := (List.getElem?_eq_some_iff.1 hj).1; simpa [flat, mol] using this
    have hc : j = 0 ∨ j = 1 ∨ j = 2 ∨ j = 3 ∨ j = 4 := by omega
    rcases hc with rfl | rfl | rfl | rfl | rfl <;> (simp [flat, mol] at hj; subst hj; assumption)⟩
end
def mssB (ms : List Mo) : Bool := ms.all fun m => moB m.x m.y m.p m.q m.s
theorem mssB_snoc {ms : List Mo} {k : Nat} {x y p q s : Int} (h : ms[k]? = some ⟨x, y, p, q, s⟩) : mssB (ms.take (k + 1)) = (mssB (ms.take k) && moB x y p q s) := by
  rw [take_snoc h, mssB, List.all_append]; simp [mssB]
theorem mssB_no {ms : List Mo} {k : Nat} {x y p q s : Int} (h : ms[k]? = some ⟨x, y, p, q, s⟩) (hx : moB x y p q s = false) : mssB ms = false := by
  rw [mssB, List.all_eq_false]
  exact ⟨_, List.mem_of_getElem? h, by simp [hx]⟩
theorem mssB_of {ms : List Mo} {k : Nat} {x y p q s : Int} (h : mssB ms = true) (hk : ms[k]? = some ⟨x, y, p, q, s⟩) : moB x y p q s = true :=
  List.all_eq_true.1 h _ (List.mem_of_getElem? hk)
/-- the code of motions and contacts -/
def gCode (ms : List Mo) (cs : List (Int × Int)) : Int := if mssB ms && ctsB cs then (if ms.length ≤ 6 ∧ cs.length ≤ 6 then 0 else 3) else 1
theorem impl_gateCode1 (x y p q s : Int) (w : World) : Calls Try.prog 87 #[.agg #[.int .i64 x, .int .i64 y, .int .i64 p, .int .i64 q, .int .i64 s]] w fun e w' => e = .returned (.bool (!moB x y p q s)) ∧ Below w.heap.size w w' := by
  go_enter Try.func87, Try.ntmps87
  repeat' (first | (first | (go_at_call 12; refine (impl_IsMotion _ _ _ _ _ _).mono ?_; rintro e w1 ⟨rfl, hb1⟩; have hz1 := hb1.size; obtain ⟨hc1, hf1, hl1, hm1, hn1⟩ := bcell hb1; (try simp only [World.size_alloc, World.size_setCell, World.size_drew] at hz1 hc1 hf1 hl1 hm1 hn1); (try have hs1 : w.heap.size < w1.heap.size := by omega); (try have ht1 : w.heap.size ≤ w1.heap.size := by omega); have q1 := bx_id (w := w1) (X := w.heap.size) (o := 0) (by repeat' (first | (with_reducible assumption) | ((with_reducible apply bx_new) <;> first | (simp only [World.size_alloc, World.size_setCell]; done) | rfl) | (with_reducible apply bx_alloc) | (with_reducible apply bx_other; (first | (simp only [World.size_alloc, World.size_setCell]; omega) | omega)) | (with_reducible apply bx_same) | (with_reducible apply bx_drew) | (with_reducible apply bx_drew1) | (with_reducible apply bx_keep; with_reducible assumption) | fail)); (try simp only [List.getElem_toArray, List.getElem_cons_succ, List.getElem_cons_zero] at q1); have q1 := bx_id (w := w1) (X := w.heap.size) (o := 1) (by repeat' (first | (with_reducible assumption) | ((with_reducible apply bx_new) <;> first | (simp only [World.size_alloc, World.size_setCell]; done) | rfl) | (with_reducible apply bx_alloc) | (with_reducible apply bx_other; (first | (simp only [World.size_alloc, World.size_setCell]; omega) | omega)) | (with_reducible apply bx_same) | (with_reducible apply bx_drew) | (with_reducible apply bx_drew1) | (with_reducible apply bx_keep; with_reducible assumption) | fail)); (try simp only [List.getElem_toArray, List.getElem_cons_succ, List.getElem_cons_zero] at q1); have q1 := bx_id (w := w1) (X := w.heap.size) (o := 2) (by repeat' (first | (with_reducible assumption) | ((with_reducible apply bx_new) <;> first | (simp only [World.size_alloc, World.size_setCell]; done) | rfl) | (with_reducible apply bx_alloc) | (with_reducible apply bx_other; (first | (simp only [World.size_alloc, World.size_setCell]; omega) | omega)) | (with_reducible apply bx_same) | (with_reducible apply bx_drew) | (with_reducible apply bx_drew1) | (with_reducible apply bx_keep; with_reducible assumption) | fail)); (try simp only [List.getElem_toArray, List.getElem_cons_succ, List.getElem_cons_zero] at q1); have q1 := bx_id (w := w1) (X := w.heap.size) (o := 3) (by repeat' (first | (with_reducible assumption) | ((with_reducible apply bx_new) <;> first | (simp only [World.size_alloc, World.size_setCell]; done) | rfl) | (with_reducible apply bx_alloc) | (with_reducible apply bx_other; (first | (simp only [World.size_alloc, World.size_setCell]; omega) | omega)) | (with_reducible apply bx_same) | (with_reducible apply bx_drew) | (with_reducible apply bx_drew1) | (with_reducible apply bx_keep; with_reducible assumption) | fail)); (try simp only [List.getElem_toArray, List.getElem_cons_succ, List.getElem_cons_zero] at q1); have q1 := bx_id (w := w1) (X := w.heap.size) (o := 4) (by repeat' (first | (with_reducible assumption) | ((with_reducible apply bx_new) <;> first | (simp only [World.size_alloc, World.size_setCell]; done) | rfl) | (with_reducible apply bx_alloc) | (with_reducible apply bx_other; (first | (simp only [World.size_alloc, World.size_setCell]; omega) | omega)) | (with_reducible apply bx_same) | (with_reducible apply bx_drew) | (with_reducible apply bx_drew1) | (with_reducible apply bx_keep; with_reducible assumption) | fail)); (try simp only [List.getElem_toArray, List.getElem_cons_succ, List.getElem_cons_zero] at q1); have z1 : ∀ o, w1.frozen? ⟨w.heap.size, o, none⟩ = false := (by repeat' (first | (with_reducible assumption) | (with_reducible apply bm_set) | ((with_reducible apply bm_new) <;> (simp only [World.size_alloc, World.size_setCell, World.size_drew]; done)) | (with_reducible apply bm_old; (first | omega | (simp only [World.size_alloc, World.size_setCell, World.size_drew]; omega))) | (with_reducible apply bm_drew) | (with_reducible apply bm_drew1) | (with_reducible apply bm_keep; (with_reducible assumption); (first | omega | (simp only [World.size_alloc, World.size_setCell, World.size_drew]; omega))) | fail)); clear hc1 hf1)) | go_values | go_skip | go_guarded | go_step | go_upon | (simp only []; go_step) | (go_ite <;> go_prune <;> (try go_simp)))
  all_goals go_returns
  all_goals exact ⟨ret_bool (by simp_all), by repeat' (first | (with_reducible exact Below.refl _ _) | (with_reducible assumption) | (with_reducible refine Below.new ?_ _) | (with_reducible refine Below.alloc ?_ ?_ _) | (with_reducible refine Below.drew ?_) | (with_reducible refine below_drewN ?_ _) | (with_reducible refine Below.setCell ?_ ?_ _) | (refine Below.next ?_ (by with_reducible assumption)) | (refine Below.row ?_ (by with_reducible assumption) (by omega)) | (refine Below.trans ?_ (by with_reducible assumption)) | (refine Below.after ?_ ?_ (by with_reducible assumption)) | go_size)⟩
set_option maxHeartbeats 800000 in
theorem slices_IndexMotion (A : Option Addr) (c : Nat) (ms : List Mo) (w : World) (hr : M64 w w.heap.size A ms) (hl : ms.length ≤ 1099511627776) :
    Calls Try.prog 94 #[.slice A ms.length c, .func (.func 87) #[] #[]] w fun e w' => ∃ n : Int, e = .returned (.int .i64 n) ∧ (0 ≤ n ↔ mssB ms = false) ∧ Below w.heap.size w w' := by
  go_enter Try.func94, Try.ntmps94
  repeat' (first | fail | go_values | go_skip | go_guarded | go_step | go_upon | (simp only []; go_step) | (go_ite <;> go_prune <;> (try go_simp)))
  go_loopw [8] (fun i wr => ∃ k : Nat, k ≤ ms.length ∧ i = .int .i64 k ∧ Hid (mssB (ms.take k) = true) ∧ Below w.heap.size w wr) (fun i _ => ms.length - (intOf i).toNat)
  case atStart => exact ⟨0, Nat.zero_le _, rfl, by simp [mssB, Hid], by repeat' (first | (with_reducible exact Below.refl _ _) | (with_reducible assumption) | (with_reducible refine Below.new ?_ _) | (with_reducible refine Below.alloc ?_ ?_ _) | (with_reducible refine Below.drew ?_) | (with_reducible refine below_drewN ?_ _) | (with_reducible refine Below.setCell ?_ ?_ _) | (refine Below.next ?_ (by with_reducible assumption)) | (refine Below.row ?_ (by with_reducible assumption) (by omega)) | (refine Below.trans ?_ (by with_reducible assumption)) | (refine Below.after ?_ ?_ (by with_reducible assumption)) | go_size)⟩
  case round =>
    obtain ⟨k, hk, rfl, ha, hbr⟩ := hrel
    by_cases hlt : k < ms.length
    · obtain ⟨⟨x, y, p, q, s⟩, hx⟩ := get_of_lt hlt
      obtain ⟨b, o, rfl, hb, hc0, hc1, hc2, hc3, hc4⟩ := (hr.up hbr).at_ hx
      have hx' := Lib.hid hx
      clear hx
      cases h1 : moB x y p q s
      · repeat' (first | fail | go_values | go_skip | go_guarded | go_step | go_upon | (simp only []; go_step) | (go_ite <;> go_prune <;> (try go_simp)))
        refine (impl_gateCode1 _ _ _ _ _ _).mono ?_; rintro e w1 ⟨rfl, hbw1⟩; have hzw1 := hbw1.size; (try simp only [World.size_alloc, World.size_setCell, World.size_drew] at hzw1)
        rw [h1]
        repeat' (first | fail | go_values | go_skip | go_guarded | go_step | go_upon | (simp only []; go_step) | (go_ite <;> go_prune <;> (try go_simp)))
        go_returns
        exact ⟨_, rfl, by simp [mssB_no hx'.out h1], by repeat' (first | (with_reducible exact Below.refl _ _) | (with_reducible assumption) | (with_reducible refine Below.new ?_ _) | (with_reducible refine Below.alloc ?_ ?_ _) | (with_reducible refine Below.drew ?_) | (with_reducible refine below_drewN ?_ _) | (with_reducible refine Below.setCell ?_ ?_ _) | (refine Below.next ?_ (by with_reducible assumption)) | (refine Below.row ?_ (by with_reducible assumption) (by omega)) | (refine Below.trans ?_ (by with_reducible assumption)) | (refine Below.after ?_ ?_ (by with_reducible assumption)) | go_size)⟩
      · repeat' (first | fail | go_values | go_skip | go_guarded | go_step | go_upon | (simp only []; go_step) | (go_ite <;> go_prune <;> (try go_simp)))
        refine (impl_gateCode1 _ _ _ _ _ _).mono ?_; rintro e w1 ⟨rfl, hbw1⟩; have hzw1 := hbw1.size; (try simp only [World.size_alloc, World.size_setCell, World.size_drew] at hzw1)
        rw [h1]
        repeat' (first | fail | go_values | go_skip | go_guarded | go_step | go_upon | (simp only []; go_step) | (go_ite <;> go_prune <;> (try go_simp)))
        exact ⟨⟨k + 1, by omega, by go_num, by unfold Hid; rw [mssB_snoc hx'.out, ha.out, h1]; rfl, by repeat' (first | (with_reducible exact Below.refl _ _) | (with_reducible assumption) | (with_reducible refine Below.new ?_ _) | (with_reducible refine Below.alloc ?_ ?_ _) | (with_reducible refine Below.drew ?_) | (with_reducible refine below_drewN ?_ _) | (with_reducible refine Below.setCell ?_ ?_ _) | (refine Below.next ?_ (by with_reducible assumption)) | (refine Below.row ?_ (by with_reducible assumption) (by omega)) | (refine Below.trans ?_ (by with_reducible assumption)) | (refine Below.after ?_ ?_ (by with_reducible assumption)) | go_size)⟩, by simp [intOf]; omega⟩
    · have e : mssB ms = true := by have := ha.out; rw [take_all hlt] at this; exact this
      have eH := Lib.hid e
      clear e
      repeat' (first | fail | go_values | go_skip | go_guarded | go_step | go_upon | (simp only []; go_step) | (go_ite <;> go_prune <;> (try go_simp)))
      all_goals go_returns
      exact ⟨_, rfl, by simp [eH.out], hbr⟩
theorem slices_ContainsMotion (A : Option Addr) (c : Nat) (ms : List Mo) (w : World) (hr : M64 w w.heap.size A ms) (hl : ms.length ≤ 1099511627776) :
    Calls Try.prog 86 #[.slice A ms.length c, .func (.func 87) #[] #[]] w fun e w' => e = .returned (.bool (!mssB ms)) ∧ Below w.heap.size w w' := by
  go_enter Try.func86, Try.ntmps86
  repeat' (first | fail | go_values | go_skip | go_guarded | go_step | go_upon | (simp only []; go_step) | (go_ite <;> go_prune <;> (try go_simp)))
  refine (slices_IndexMotion _ _ _ _ (hr.up (by repeat' (first | (with_reducible exact Below.refl _ _) | (with_reducible assumption) | (with_reducible refine Below.new ?_ _) | (with_reducible refine Below.alloc ?_ ?_ _) | (with_reducible refine Below.drew ?_) | (with_reducible refine below_drewN ?_ _) | (with_reducible refine Below.setCell ?_ ?_ _) | (refine Below.next ?_ (by with_reducible assumption)) | (refine Below.row ?_ (by with_reducible assumption) (by omega)) | (refine Below.trans ?_ (by with_reducible assumption)) | (refine Below.after ?_ ?_ (by with_reducible assumption)) | go_size))) hl).mono ?_; rintro e w1 ⟨n, rfl, hn, hbw1⟩; have hzw1 := hbw1.size; (try simp only [World.size_alloc, World.size_setCell, World.size_drew] at hzw1)
  have e : decide (0 ≤ n) = !mssB ms := by cases h : mssB ms <;> simp [hn, h]
  have eH := Lib.hid e
  clear e hn
  repeat' (first | fail | go_values | go_skip | go_guarded | go_step | go_upon | (simp only []; go_step) | (go_ite <;> go_prune <;> (try go_simp)))
  all_goals go_returns
  all_goals exact ⟨ret_bool (by rw [← eH.out]), by repeat' (first | (with_reducible exact Below.refl _ _) | (with_reducible assumption) | (with_reducible refine Below.new ?_ _) | (with_reducible refine Below.alloc ?_ ?_ _) | (with_reducible refine Below.drew ?_) | (with_reducible refine below_drewN ?_ _) | (with_reducible refine Below.setCell ?_ ?_ _) | (refine Below.next ?_ (by with_reducible assumption)) | (refine Below.row ?_ (by with_reducible assumption) (by omega)) | (refine Below.trans ?_ (by with_reducible assumption)) | (refine Below.after ?_ ?_ (by with_reducible assumption)) | go_size)⟩
set_option maxHeartbeats 800000 in
theorem impl_gateCode (A B : Option Addr) (c d : Nat) (ms : List Mo) (cs : List (Int × Int)) (w : World) (hr : M64 w w.heap.size A ms) (hs : C64 w w.heap.size B cs) (hl : ms.length ≤ 1099511627776) (hm : cs.length ≤ 1099511627776) :
    Calls Try.prog 58 #[.slice A ms.length c, .slice B cs.length d] w fun e w' => e = .returned (.int .i64 (gCode ms cs)) ∧ Below w.heap.size w w' := by
  have hmf : ∀ (fn : Fn) (first cap : Array Value) (w : World), (Instr.makeFunc fn first cap).run Try.prog w = .ok (.func fn first cap) w := fun _ _ _ _ => rfl
  cases h1 : mssB ms
  · have e : gCode ms cs = 1 := by simp [gCode, h1]
    rw [e]
    go_enter Try.func58, Try.ntmps58
    repeat' (first | fail | go_values | go_skip | go_guarded | go_step | go_upon | (simp only []; go_step) | (go_ite <;> go_prune <;> (try go_simp)))
    refine (slices_ContainsMotion _ _ _ _ (hr.up (by repeat' (first | (with_reducible exact Below.refl _ _) | (with_reducible assumption) | (with_reducible refine Below.new ?_ _) | (with_reducible refine Below.alloc ?_ ?_ _) | (with_reducible refine Below.drew ?_) | (with_reducible refine below_drewN ?_ _) | (with_reducible refine Below.setCell ?_ ?_ _) | (refine Below.next ?_ (by with_reducible assumption)) | (refine Below.row ?_ (by with_reducible assumption) (by omega)) | (refine Below.trans ?_ (by with_reducible assumption)) | (refine Below.after ?_ ?_ (by with_reducible assumption)) | go_size))) hl).mono ?_; rintro e w1 ⟨rfl, hbw1⟩; have hzw1 := hbw1.size; (try simp only [World.size_alloc, World.size_setCell, World.size_drew] at hzw1)
    rw [h1]
    repeat' (first | fail | go_values | go_skip | go_guarded | go_step | go_upon | (simp only []; go_step) | (go_ite <;> go_prune <;> (try go_simp)))
    all_goals go_returns
    all_goals exact ⟨rfl, by repeat' (first | (with_reducible exact Below.refl _ _) | (with_reducible assumption) | (with_reducible refine Below.new ?_ _) | (with_reducible refine Below.alloc ?_ ?_ _) | (with_reducible refine Below.drew ?_) | (with_reducible refine below_drewN ?_ _) | (with_reducible refine Below.setCell ?_ ?_ _) | (refine Below.next ?_ (by with_reducible assumption)) | (refine Below.row ?_ (by with_reducible assumption) (by omega)) | (refine Below.trans ?_ (by with_reducible assumption)) | (refine Below.after ?_ ?_ (by with_reducible assumption)) | go_size)⟩
  · cases h2 : ctsB cs
    · have e : gCode ms cs = 1 := by simp [gCode, h2]
      rw [e]
      go_enter Try.func58, Try.ntmps58
      repeat' (first | fail | go_values | go_skip | go_guarded | go_step | go_upon | (simp only []; go_step) | (go_ite <;> go_prune <;> (try go_simp)))
      refine (slices_ContainsMotion _ _ _ _ (hr.up (by repeat' (first | (with_reducible exact Below.refl _ _) | (with_reducible assumption) | (with_reducible refine Below.new ?_ _) | (with_reducible refine Below.alloc ?_ ?_ _) | (with_reducible refine Below.drew ?_) | (with_reducible refine below_drewN ?_ _) | (with_reducible refine Below.setCell ?_ ?_ _) | (refine Below.next ?_ (by with_reducible assumption)) | (refine Below.row ?_ (by with_reducible assumption) (by omega)) | (refine Below.trans ?_ (by with_reducible assumption)) | (refine Below.after ?_ ?_ (by with_reducible assumption)) | go_size))) hl).mono ?_; rintro e w1 ⟨rfl, hbw1⟩; have hzw1 := hbw1.size; (try simp only [World.size_alloc, World.size_setCell, World.size_drew] at hzw1)
      rw [h1]
      repeat' (first | fail | go_values | go_skip | go_guarded | go_step | go_upon | (simp only []; go_step) | (go_ite <;> go_prune <;> (try go_simp)))
      refine (impl_areValidContacts _ _ _ _ (hs.up (by repeat' (first | (with_reducible exact Below.refl _ _) | (with_reducible assumption) | (with_reducible refine Below.new ?_ _) | (with_reducible refine Below.alloc ?_ ?_ _) | (with_reducible refine Below.drew ?_) | (with_reducible refine below_drewN ?_ _) | (with_reducible refine Below.setCell ?_ ?_ _) | (refine Below.next ?_ (by with_reducible assumption)) | (refine Below.row ?_ (by with_reducible assumption) (by omega)) | (refine Below.trans ?_ (by with_reducible assumption)) | (refine Below.after ?_ ?_ (by with_reducible assumption)) | go_size))) hm).mono ?_; rintro e w2 ⟨rfl, hbw2⟩; have hzw2 := hbw2.size; (try simp only [World.size_alloc, World.size_setCell, World.size_drew] at hzw2)
      rw [h2]
      repeat' (first | fail | go_values | go_skip | go_guarded | go_step | go_upon | (simp only []; go_step) | (go_ite <;> go_prune <;> (try go_simp)))
      all_goals go_returns
      all_goals exact ⟨rfl, by repeat' (first | (with_reducible exact Below.refl _ _) | (with_reducible assumption) | (with_reducible refine Below.new ?_ _) | (with_reducible refine Below.alloc ?_ ?_ _) | (with_reducible refine Below.drew ?_) | (with_reducible refine below_drewN ?_ _) | (with_reducible refine Below.setCell ?_ ?_ _) | (refine Below.next ?_ (by with_reducible assumption)) | (refine Below.row ?_ (by with_reducible assumption) (by omega)) | (refine Below.trans ?_ (by with_reducible assumption)) | (refine Below.after ?_ ?_ (by with_reducible assumption)) | go_size)⟩
    · have e : gCode ms cs = if ms.length ≤ 6 ∧ cs.length ≤ 6 then 0 else 3 := by simp [gCode, h1, h2]
      rw [e]
      by_cases h3 : (6 : Int) < (ms.length : Int)
      · rw [if_neg (by omega)]
        go_enter Try.func58, Try.ntmps58
        repeat' (first | fail | go_values | go_skip | go_guarded | go_step | go_upon | (simp only []; go_step) | (go_ite <;> go_prune <;> (try go_simp)))
        refine (slices_ContainsMotion _ _ _ _ (hr.up (by repeat' (first | (with_reducible exact Below.refl _ _) | (with_reducible assumption) | (with_reducible refine Below.new ?_ _) | (with_reducible refine Below.alloc ?_ ?_ _) | (with_reducible refine Below.drew ?_) | (with_reducible refine below_drewN ?_ _) | (with_reducible refine Below.setCell ?_ ?_ _) | (refine Below.next ?_ (by with_reducible assumption)) | (refine Below.row ?_ (by with_reducible assumption) (by omega)) | (refine Below.trans ?_ (by with_reducible assumption)) | (refine Below.after ?_ ?_ (by with_reducible assumption)) | go_size))) hl).mono ?_; rintro e w1 ⟨rfl, hbw1⟩; have hzw1 := hbw1.size; (try simp only [World.size_alloc, World.size_setCell, World.size_drew] at hzw1)
        rw [h1]
        repeat' (first | fail | go_values | go_skip | go_guarded | go_step | go_upon | (simp only []; go_step) | (go_ite <;> go_prune <;> (try go_simp)))
        refine (impl_areValidContacts _ _ _ _ (hs.up (by repeat' (first | (with_reducible exact Below.refl _ _) | (with_reducible assumption) | (with_reducible refine Below.new ?_ _) | (with_reducible refine Below.alloc ?_ ?_ _) | (with_reducible refine Below.drew ?_) | (with_reducible refine below_drewN ?_ _) | (with_reducible refine Below.setCell ?_ ?_ _) | (refine Below.next ?_ (by with_reducible assumption)) | (refine Below.row ?_ (by with_reducible assumption) (by omega)) | (refine Below.trans ?_ (by with_reducible assumption)) | (refine Below.after ?_ ?_ (by with_reducible assumption)) | go_size))) hm).mono ?_; rintro e w2 ⟨rfl, hbw2⟩; have hzw2 := hbw2.size; (try simp only [World.size_alloc, World.size_setCell, World.size_drew] at hzw2)
        rw [h2]
        repeat' (first | fail | go_values | go_skip | go_guarded | go_step | go_upon | (simp only []; go_step) | (go_ite <;> go_prune <;> (try go_simp)))
        all_goals go_returns
        all_goals exact ⟨rfl, by repeat' (first | (with_reducible exact Below.refl _ _) | (with_reducible assumption) | (with_reducible refine Below.new ?_ _) | (with_reducible refine Below.alloc ?_ ?_ _) | (with_reducible refine Below.drew ?_) | (with_reducible refine below_drewN ?_ _) | (with_reducible refine Below.setCell ?_ ?_ _) | (refine Below.next ?_ (by with_reducible assumption)) | (refine Below.row ?_ (by with_reducible assumption) (by omega)) | (refine Below.trans ?_ (by with_reducible assumption)) | (refine Below.after ?_ ?_ (by with_reducible assumption)) | go_size)⟩
      · by_cases h4 : (6 : Int) < (cs.length : Int)
        · rw [if_neg (by omega)]
          go_enter Try.func58, Try.ntmps58
          repeat' (first | fail | go_values | go_skip | go_guarded | go_step | go_upon | (simp only []; go_step) | (go_ite <;> go_prune <;> (try go_simp)))
          refine (slices_ContainsMotion _ _ _ _ (hr.up (by repeat' (first | (with_reducible exact Below.refl _ _) | (with_reducible assumption) | (with_reducible refine Below.new ?_ _) | (with_reducible refine Below.alloc ?_ ?_ _) | (with_reducible refine Below.drew ?_) | (with_reducible refine below_drewN ?_ _) | (with_reducible refine Below.setCell ?_ ?_ _) | (refine Below.next ?_ (by with_reducible assumption)) | (refine Below.row ?_ (by with_reducible assumption) (by omega)) | (refine Below.trans ?_ (by with_reducible assumption)) | (refine Below.after ?_ ?_ (by with_reducible assumption)) | go_size))) hl).mono ?_; rintro e w1 ⟨rfl, hbw1⟩; have hzw1 := hbw1.size; (try simp only [World.size_alloc, World.size_setCell, World.size_drew] at hzw1)
          rw [h1]
          repeat' (first | fail | go_values | go_skip | go_guarded | go_step | go_upon | (simp only []; go_step) | (go_ite <;> go_prune <;> (try go_simp)))
          refine (impl_areValidContacts _ _ _ _ (hs.up (by repeat' (first | (with_reducible exact Below.refl _ _) | (with_reducible assumption) | (with_reducible refine Below.new ?_ _) | (with_reducible refine Below.alloc ?_ ?_ _) | (with_reducible refine Below.drew ?_) | (with_reducible refine below_drewN ?_ _) | (with_reducible refine Below.setCell ?_ ?_ _) | (refine Below.next ?_ (by with_reducible assumption)) | (refine Below.row ?_ (by with_reducible assumption) (by omega)) | (refine Below.trans ?_ (by with_reducible assumption)) | (refine Below.after ?_ ?_ (by with_reducible assumption)) | go_size))) hm).mono ?_; rintro e w2 ⟨rfl, hbw2⟩; have hzw2 := hbw2.size; (try simp only [World.size_alloc, World.size_setCell, World.size_drew] at hzw2)
          rw [h2]
          repeat' (first | fail | go_values | go_skip | go_guarded | go_step | go_upon | (simp only []; go_step) | (go_ite <;> go_prune <;> (try go_simp)))
          all_goals go_returns
          all_goals exact ⟨rfl, by repeat' (first | (with_reducible exact Below.refl _ _) | (with_reducible assumption) | (with_reducible refine Below.new ?_ _) | (with_reducible refine Below.alloc ?_ ?_ _) | (with_reducible refine Below.drew ?_) | (with_reducible refine below_drewN ?_ _) | (with_reducible refine Below.setCell ?_ ?_ _) | (refine Below.next ?_ (by with_reducible assumption)) | (refine Below.row ?_ (by with_reducible assumption) (by omega)) | (refine Below.trans ?_ (by with_reducible assumption)) | (refine Below.after ?_ ?_ (by with_reducible assumption)) | go_size)⟩
        · rw [if_pos (by omega)]
          go_enter Try.func58, Try.ntmps58
          repeat' (first | fail | go_values | go_skip | go_guarded | go_step | go_upon | (simp only []; go_step) | (go_ite <;> go_prune <;> (try go_simp)))
          refine (slices_ContainsMotion _ _ _ _ (hr.up (by repeat' (first | (with_reducible exact Below.refl _ _) | (with_reducible assumption) | (with_reducible refine Below.new ?_ _) | (with_reducible refine Below.alloc ?_ ?_ _) | (with_reducible refine Below.drew ?_) | (with_reducible refine below_drewN ?_ _) | (with_reducible refine Below.setCell ?_ ?_ _) | (refine Below.next ?_ (by with_reducible assumption)) | (refine Below.row ?_ (by with_reducible assumption) (by omega)) | (refine Below.trans ?_ (by with_reducible assumption)) | (refine Below.after ?_ ?_ (by with_reducible assumption)) | go_size))) hl).mono ?_; rintro e w1 ⟨rfl, hbw1⟩; have hzw1 := hbw1.size; (try simp only [World.size_alloc, World.size_setCell, World.size_drew] at hzw1)
          rw [h1]
          repeat' (first | fail | go_values | go_skip | go_guarded | go_step | go_upon | (simp only []; go_step) | (go_ite <;> go_prune <;> (try go_simp)))
          refine (impl_areValidContacts _ _ _ _ (hs.up (by repeat' (first | (with_reducible exact Below.refl _ _) | (with_reducible assumption) | (with_reducible refine Below.new ?_ _) | (with_reducible refine Below.alloc ?_ ?_ _) | (with_reducible refine Below.drew ?_) | (with_reducible refine below_drewN ?_ _) | (with_reducible refine Below.setCell ?_ ?_ _) | (refine Below.next ?_ (by with_reducible assumption)) | (refine Below.row ?_ (by with_reducible assumption) (by omega)) | (refine Below.trans ?_ (by with_reducible assumption)) | (refine Below.after ?_ ?_ (by with_reducible assumption)) | go_size))) hm).mono ?_; rintro e w2 ⟨rfl, hbw2⟩; have hzw2 := hbw2.size; (try simp only [World.size_alloc, World.size_setCell, World.size_drew] at hzw2)
          rw [h2]
          repeat' (first | fail | go_values | go_skip | go_guarded | go_step | go_upon | (simp only []; go_step) | (go_ite <;> go_prune <;> (try go_simp)))
          all_goals go_returns
          all_goals exact ⟨rfl, by repeat' (first | (with_reducible exact Below.refl _ _) | (with_reducible assumption) | (with_reducible refine Below.new ?_ _) | (with_reducible refine Below.alloc ?_ ?_ _) | (with_reducible refine Below.drew ?_) | (with_reducible refine below_drewN ?_ _) | (with_reducible refine Below.setCell ?_ ?_ _) | (refine Below.next ?_ (by with_reducible assumption)) | (refine Below.row ?_ (by with_reducible assumption) (by omega)) | (refine Below.trans ?_ (by with_reducible assumption)) | (refine Below.after ?_ ?_ (by with_reducible assumption)) | go_size)⟩
theorem spec_l14Code (x y p q s : Int) (B : Option Addr) (d : Nat) (cs : List (Int × Int)) (w : World) (hs : C64 w w.heap.size B cs) (hm : cs.length ≤ 1099511627776) :
    Calls Try.prog 60 #[.agg #[.int .i64 x, .int .i64 y, .int .i64 p, .int .i64 q, .int .i64 s], .slice B cs.length d] w fun e w' => e = .returned (.int .i64 (gCode [⟨x, y, p, q, s⟩] cs)) ∧ Below w.heap.size w w' := by
  cases h1 : moB x y p q s
  · have e : gCode [⟨x, y, p, q, s⟩] cs = 1 := by simp [gCode, mssB, h1]
    rw [e]
    go_enter Try.func60, Try.ntmps60
    repeat' (first | fail | go_values | go_skip | go_guarded | go_step | go_upon | (simp only []; go_step) | (go_ite <;> go_prune <;> (try go_simp)))
    refine (spec_IsMotion _ _ _ _ _ _).mono ?_; rintro e w1 ⟨rfl, hbw1⟩; have hzw1 := hbw1.size; (try simp only [World.size_alloc, World.size_setCell, World.size_drew] at hzw1)
    rw [h1]
    repeat' (first | fail | go_values | go_skip | go_guarded | go_step | go_upon | (simp only []; go_step) | (go_ite <;> go_prune <;> (try go_simp)))
    all_goals go_returns
    all_goals exact ⟨rfl, by repeat' (first | (with_reducible exact Below.refl _ _) | (with_reducible assumption) | (with_reducible refine Below.new ?_ _) | (with_reducible refine Below.alloc ?_ ?_ _) | (with_reducible refine Below.drew ?_) | (with_reducible refine below_drewN ?_ _) | (with_reducible refine Below.setCell ?_ ?_ _) | (refine Below.next ?_ (by with_reducible assumption)) | (refine Below.row ?_ (by with_reducible assumption) (by omega)) | (refine Below.trans ?_ (by with_reducible assumption)) | (refine Below.after ?_ ?_ (by with_reducible assumption)) | go_size)⟩
  · have e : gCode [⟨x, y, p, q, s⟩] cs = ctCode cs := by simp [gCode, mssB, h1, ctCode]
    rw [e]
    go_enter Try.func60, Try.ntmps60
    repeat' (first | fail | go_values | go_skip | go_guarded | go_step | go_upon | (simp only []; go_step) | (go_ite <;> go_prune <;> (try go_simp)))
    refine (spec_IsMotion _ _ _ _ _ _).mono ?_; rintro e w1 ⟨rfl, hbw1⟩; have hzw1 := hbw1.size; (try simp only [World.size_alloc, World.size_setCell, World.size_drew] at hzw1)
    rw [h1]
    repeat' (first | fail | go_values | go_skip | go_guarded | go_step | go_upon | (simp only []; go_step) | (go_ite <;> go_prune <;> (try go_simp)))
    refine (spec_l14Contacts _ _ _ _ (hs.up (by repeat' (first | (with_reducible exact Below.refl _ _) | (with_reducible assumption) | (with_reducible refine Below.new ?_ _) | (with_reducible refine Below.alloc ?_ ?_ _) | (with_reducible refine Below.drew ?_) | (with_reducible refine below_drewN ?_ _) | (with_reducible refine Below.setCell ?_ ?_ _) | (refine Below.next ?_ (by with_reducible assumption)) | (refine Below.row ?_ (by with_reducible assumption) (by omega)) | (refine Below.trans ?_ (by with_reducible assumption)) | (refine Below.after ?_ ?_ (by with_reducible assumption)) | go_size))) hm).mono ?_; rintro e w2 ⟨rfl, hbw2⟩; have hzw2 := hbw2.size; (try simp only [World.size_alloc, World.size_setCell, World.size_drew] at hzw2)
    repeat' (first | fail | go_values | go_skip | go_guarded | go_step | go_upon | (simp only []; go_step) | (go_ite <;> go_prune <;> (try go_simp)))
    all_goals go_returns
    all_goals exact ⟨rfl, by repeat' (first | (with_reducible exact Below.refl _ _) | (with_reducible assumption) | (with_reducible refine Below.new ?_ _) | (with_reducible refine Below.alloc ?_ ?_ _) | (with_reducible refine Below.drew ?_) | (with_reducible refine below_drewN ?_ _) | (with_reducible refine Below.setCell ?_ ?_ _) | (refine Below.next ?_ (by with_reducible assumption)) | (refine Below.row ?_ (by with_reducible assumption) (by omega)) | (refine Below.trans ?_ (by with_reducible assumption)) | (refine Below.after ?_ ?_ (by with_reducible assumption)) | go_size)⟩
end Go.Proofs.Ytpanignlpcemnaa
