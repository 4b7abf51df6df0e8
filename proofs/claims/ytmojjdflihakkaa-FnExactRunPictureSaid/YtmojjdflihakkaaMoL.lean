/- Lists of motions in the laws: sized, copied, compared, marked. -/
import Derived.Test.YtmojjdflihakkaaMoS
import Derived.Test.YtmojjdflihakkaaTrFirst
import Derived.Test.YtmojjdflihakkaaOwnS
import Derived.Test.YtmojjdflihakkaaRegKit
namespace Go.Proofs.Ytmojjdflihakkaa
open Go.RowKit Go.ChangeShapes Go.WideShapes Go.ChangeAt
set_option linter.unusedVariables false
set_option linter.unusedSimpArgs false
theorem OwnCR.apart {w w' : World} {lo hi lo' hi' : Nat} {v : Value} {cs : List (Int × Int)} (h : OwnCR w lo hi v cs) (hw : Within lo' hi' w w') (hd : hi ≤ lo' ∨ hi' ≤ lo) : OwnCR w' lo hi v cs := by
  obtain ⟨⟨A, c, rfl, h1, h2⟩, hq⟩ := h
  refine ⟨⟨A, c, rfl, h1, ?_⟩, hq⟩
  rcases h2 with h2 | ⟨g, cap, cur, q1, q2, q3, q4⟩
  · exact .inl h2
  · have hg : g < hi := hq g (by rw [q1]; rfl)
    exact .inr ⟨g, cap, cur, q1, q2, by rw [hw.block g (Array.getElem?_eq_some_iff.1 q3).1 (by omega)]; exact q3, q4⟩
end Go.Proofs.Ytmojjdflihakkaa
