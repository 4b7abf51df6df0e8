/- Lists of contacts: contracts. -/
import Derived.Test.YthbljfanoaibkaaDoorSSLaw
namespace Go.Proofs.YthbljfanoaibkaaDoor
open Go.RowKit Go.ChangeShapes Go.WideShapes Go.ChangeAt
set_option linter.unusedVariables false
set_option linter.unusedSimpArgs false
def ctsB (cs : List (Int × Int)) : Bool := cs.all fun c => coB c.1 c.2
/-- the code of a list of contacts -/
def ctCode (cs : List (Int × Int)) : Int := if ctsB cs then (if cs.length ≤ 6 then 0 else 3) else 1
theorem ctsB_snoc {cs : List (Int × Int)} {k : Nat} {x y : Int} (h : cs[k]? = some (x, y)) : ctsB (cs.take (k + 1)) = (ctsB (cs.take k) && coB x y) := by
  rw [take_snoc h, ctsB, List.all_append]; simp [ctsB]
theorem ctsB_no {cs : List (Int × Int)} {k : Nat} {x y : Int} (h : cs[k]? = some (x, y)) (hx : coB x y = false) : ctsB cs = false := by
  rw [ctsB, List.all_eq_false]
  exact ⟨(x, y), List.mem_of_getElem? h, by simp [hx]⟩
theorem ctsB_of {cs : List (Int × Int)} {k : Nat} {x y : Int} (h : ctsB cs = true) (hk : cs[k]? = some (x, y)) : coB x y = true :=
  List.all_eq_true.1 h (x, y) (List.mem_of_getElem? hk)
end Go.Proofs.YthbljfanoaibkaaDoor
