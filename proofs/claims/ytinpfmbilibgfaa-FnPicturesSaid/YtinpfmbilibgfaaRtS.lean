/- The codes of several scans, by the program: contract. -/
import Derived.Test.YtinpfmbilibgfaaCcS
import Derived.Test.YtinpfmbilibgfaaTrL
import Derived.Test.YtinpfmbilibgfaaCtA
namespace Go.Proofs.Ytinpfmbilibgfaa
open Go.RowKit Go.ChangeShapes Go.WideShapes Go.ChangeAt
set_option linter.unusedVariables false
set_option linter.unusedSimpArgs false
theorem sc_1 {most : Int} {css : List Cts} (h : cssB css = false) : scCode most css = 1 := by rw [scCode, h]; rfl
theorem sc_3 {most : Int} {css : List Cts} (h : cssB css = true) (h2 : manyB css = true ∨ most < (css.length : Int)) : scCode most css = 3 := by
  rw [scCode, h, if_pos rfl, if_pos]
  rcases h2 with h2 | h2 <;> simp [h2]
theorem sc_0 {most : Int} {css : List Cts} (h : cssB css = true) (h2 : manyB css = false) (h3 : ¬ most < (css.length : Int)) : scCode most css = 0 := by
  rw [scCode, h, if_pos rfl, if_neg]
  simp [h2, h3]
end Go.Proofs.Ytinpfmbilibgfaa
