/- Trails that get a contact: contracts. -/
import Derived.Test.YthbljfanoaibkaaDoorTrCoast
import Derived.StillTailTactics
import Derived.Deep.RegionHeld3
import Derived.Deep.RegionWith
namespace Go.Proofs.YthbljfanoaibkaaDoor
open Go.RowKit
set_option linter.unusedVariables false
set_option linter.unusedSimpArgs false
def spd (v : Int) : Int := max (-1000) (min v 1000)
def fHit (a : Tr) (u v : Int) : Tr := if a.t = 2 then a else ⟨a.x + (u - a.x).tdiv 2, a.y + (v - a.y).tdiv 2, spd (a.p + (u - a.x).tdiv 4), spd (a.q + (v - a.y).tdiv 4), max (a.s.tdiv 2) 100, if 3 ≤ min (a.h + 1) 1000 then 1 else a.t, min (a.h + 1) 1000, 0⟩
theorem td_bd {a b n : Int} (hb : 0 < b) (h : -n ≤ a ∧ a ≤ n) : -n ≤ a.tdiv b ∧ a.tdiv b ≤ n := by
  rcases Int.lt_or_le a 0 with h0 | h0
  · have e : a.tdiv b = -((-a) / b) := by
      have := Int.neg_tdiv (a := -a) (b := b)
      rw [Int.neg_neg] at this
      rw [this, Int.tdiv_eq_ediv_of_nonneg (by omega)]
    rw [e]
    have h1 := (Pl.div_bd (a := -a) hb).1 (by omega)
    omega
  · rw [Int.tdiv_eq_ediv_of_nonneg h0]
    have h1 := (Pl.div_bd (a := a) hb).1 h0
    omega
theorem ret_tr {x y p q s t h m xv yv pv qv sv tv hv mv : Int} (e0 : x = xv) (e1 : y = yv) (e2 : p = pv) (e3 : q = qv) (e4 : s = sv) (e5 : t = tv) (e6 : h = hv) (e7 : m = mv) : Ending.returned (.agg #[.int .i64 x, .int .i64 y, .int .i64 p, .int .i64 q, .int .i64 s, .int .i64 t, .int .i64 h, .int .i64 m]) = Ending.returned (.agg #[.int .i64 xv, .int .i64 yv, .int .i64 pv, .int .i64 qv, .int .i64 sv, .int .i64 tv, .int .i64 hv, .int .i64 mv]) := by
  rw [e0, e1, e2, e3, e4, e5, e6, e7]
end Go.Proofs.YthbljfanoaibkaaDoor
