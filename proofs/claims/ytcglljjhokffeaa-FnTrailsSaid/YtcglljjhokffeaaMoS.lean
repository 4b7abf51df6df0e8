/- Lists of motions, codes of gates: contracts. -/
import Derived.Test.YtcglljjhokffeaaCtA
namespace Go.Proofs.Ytcglljjhokffeaa
open Go.RowKit Go.ChangeShapes Go.WideShapes Go.ChangeAt
set_option linter.unusedVariables false
set_option linter.unusedSimpArgs false
structure Mo where
  x : Int
  y : Int
  p : Int
  q : Int
  s : Int
def mol (m : Mo) : List Int := [m.x, m.y, m.p, m.q, m.s]
def mom (l : List Int) : Mo := ⟨l.getD 0 0, l.getD 1 0, l.getD 2 0, l.getD 3 0, l.getD 4 0⟩
theorem mol_len (m : Mo) : (mol m).length = 5 := rfl
theorem mom_inv (l : List Int) (h : l.length = 5) : mol (mom l) = l := by
  match l, h with
  | [a, b, c, d, e], _ => rfl
/-- a slice of motions -/
def M64 (w : World) (B : Nat) (A : Option Addr) (ms : List Mo) : Prop := S64 mol w B A ms
section
variable {w w' : World} {B B' : Nat} {A : Option Addr} {ms : List Mo}
theorem M64.below (h : M64 w B A ms) (hb : Below B w w') : M64 w' B A ms := S64.below h hb
theorem M64.more (h : M64 w B A ms) (hB : B ≤ B') : M64 w B' A ms := S64.more h hB
theorem M64.up (h : M64 w w.heap.size A ms) (hb : Below w.heap.size w w') : M64 w' w'.heap.size A ms := S64.up h hb
theorem M64.nil : M64 w B A [] := S64.nil
theorem M64.at_ {i : Nat} {x y p q s : Int} (h : M64 w B A ms) (hx : ms[i]? = some ⟨x, y, p, q, s⟩) : ∃ b o, A = some ⟨b, o, none⟩ ∧ b < B ∧ w.cell? ⟨b, o + i * 5, none⟩ = some (.int .i64 x) ∧ w.cell? ⟨b, o + i * 5 + 1, none⟩ = some (.int .i64 y) ∧
    w.cell? ⟨b, o + i * 5 + 2, none⟩ = some (.int .i64 p) ∧ w.cell? ⟨b, o + i * 5 + 3, none⟩ = some (.int .i64 q) ∧ w.cell? ⟨b, o + i * 5 + 4, none⟩ = some (.int .i64 s) := by
  obtain ⟨b, o, h1, h2, h3⟩ := S64.at_ mol_len (by omega) h hx
  exact ⟨b, o, h1, h2, h3 0 x rfl, h3 1 y rfl, h3 2 p rfl, h3 3 q rfl, h3 4 s rfl⟩
/-- one motion in a block of its own -/
theorem M64.one {W : World} {b : Nat} {x y p q s : Int} (h0 : W.cell? ⟨b, 0, none⟩ = some (.int .i64 x)) (h1 : W.cell? ⟨b, 1, none⟩ = some (.int .i64 y)) (h2 : W.cell? ⟨b, 2, none⟩ = some (.int .i64 p)) (h3 : W.cell? ⟨b, 3, none⟩ = some (.int .i64 q)) (h4 : W.cell? ⟨b, 4, none⟩ = some (.int .i64 s)) :
    M64 W W.heap.size (some ⟨b, 0, none⟩) [⟨x, y, p, q, s⟩] :=
  .inr ⟨b, 0, rfl, World.block_lt_of_cell? W ⟨b, 0, none⟩ h0, fun j v hj => by
    have hl : j < 5 := by have := (List.getElem?_eq_some_iff.1 hj).1; simpa [flat, mol] using this
    have hc : j = 0 ∨ j = 1 ∨ j = 2 ∨ j = 3 ∨ j = 4 := by omega
    rcases hc with rfl | rfl | rfl | rfl | rfl <;> (simp [flat, mol] at hj; subst hj; assumption)⟩
end
def mssB (ms : List Mo) : Bool := ms.all fun m => moB m.x m.y m.p m.q m.s
theorem mssB_snoc {ms : List Mo} {k : Nat} {x y p q s : Int} (h : ms[k]? = some ⟨x, y, p, q, s⟩) : mssB (ms.take (k + 1)) = (mssB (ms.take k) && moB x y p q s) := by
  rw [take_snoc h, mssB, List.all_append]; simp [mssB]
theorem mssB_no {ms : List Mo} {k : Nat} {x y p q s : Int} (h : ms[k]? = some ⟨x, y, p, q, s⟩) (hx : moB x y p q s = false) : mssB ms = false := by
  rw [mssB, List.all_eq_false]
  exact ⟨_, List.mem_of_getElem? h, by simp [hx]⟩
theorem mssB_of {ms : List Mo} {k : Nat} {x y p q s : Int} (h : mssB ms = true) (hk : ms[k]? = some ⟨x, y, p, q, s⟩) : moB x y p q s = true :=
  List.all_eq_true.1 h _ (List.mem_of_getElem? hk)
/-- the code of motions and contacts -/
def gCode (ms : List Mo) (cs : List (Int × Int)) : Int := if mssB ms && ctsB cs then (if ms.length ≤ 6 ∧ cs.length ≤ 6 then 0 else 3) else 1
theorem spec_l14Code (x y p q s : Int) (B : Option Addr) (d : Nat) (cs : List (Int × Int)) (w : World) (hs : C64 w w.heap.size B cs) (hm : cs.length ≤ 1099511627776) :
    Calls Try.prog 95 #[.agg #[.int .i64 x, .int .i64 y, .int .i64 p, .int .i64 q, .int .i64 s], .slice B cs.length d] w fun e w' => e = .returned (.int .i64 (gCode [⟨x, y, p, q, s⟩] cs)) ∧ Below w.heap.size w w' := by
  cases h1 : moB x y p q s
  · have e : gCode [⟨x, y, p, q, s⟩] cs = 1 := by simp [gCode, mssB, h1]
    rw [e]
    go_enter Try.func95, Try.ntmps95
    repeat' (first | fail | go_values | go_skip | go_guarded | go_step | go_upon | (simp only []; go_step) | (go_ite <;> go_prune <;> (try go_simp)))
    refine (spec_IsMotion _ _ _ _ _ _).mono ?_; rintro e w1 ⟨rfl, hbw1⟩; have hzw1 := hbw1.size; (try simp only [World.size_alloc, World.size_setCell, World.size_drew] at hzw1)
    rw [h1]
    repeat' (first | fail | go_values | go_skip | go_guarded | go_step | go_upon | (simp only []; go_step) | (go_ite <;> go_prune <;> (try go_simp)))
    all_goals go_returns
    all_goals exact ⟨rfl, by exact bgr⟩
  · have e : gCode [⟨x, y, p, q, s⟩] cs = ctCode cs := by simp [gCode, mssB, h1, ctCode]
    rw [e]
    go_enter Try.func95, Try.ntmps95
    repeat' (first | fail | go_values | go_skip | go_guarded | go_step | go_upon | (simp only []; go_step) | (go_ite <;> go_prune <;> (try go_simp)))
    refine (spec_IsMotion _ _ _ _ _ _).mono ?_; rintro e w1 ⟨rfl, hbw1⟩; have hzw1 := hbw1.size; (try simp only [World.size_alloc, World.size_setCell, World.size_drew] at hzw1)
    rw [h1]
    repeat' (first | fail | go_values | go_skip | go_guarded | go_step | go_upon | (simp only []; go_step) | (go_ite <;> go_prune <;> (try go_simp)))
    refine (spec_l14Contacts _ _ _ _ (hs.up (by exact bgr)) hm).mono ?_; rintro e w2 ⟨rfl, hbw2⟩; have hzw2 := hbw2.size; (try simp only [World.size_alloc, World.size_setCell, World.size_drew] at hzw2)
    repeat' (first | fail | go_values | go_skip | go_guarded | go_step | go_upon | (simp only []; go_step) | (go_ite <;> go_prune <;> (try go_simp)))
    all_goals go_returns
    all_goals exact ⟨rfl, by exact bgr⟩
end Go.Proofs.Ytcglljjhokffeaa
