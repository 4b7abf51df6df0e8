/- Costs of contacts for motions: contracts of both GateCosts. -/
import Derived.Test.YthbljfanoaibkaaGreatDoorGcA
namespace Go.Proofs.YthbljfanoaibkaaGreatDoor
open Go.RowKit Go.ChangeShapes Go.WideShapes Go.ChangeAt
set_option linter.unusedVariables false
set_option linter.unusedSimpArgs false
theorem gCode_ok2 {ms : List Mo} {cs : List (Int × Int)} (h : gCode ms cs = 0) : mssB ms = true ∧ ctsB cs = true ∧ ms.length ≤ 6 ∧ cs.length ≤ 6 := by
  unfold gCode at h
  split at h
  · rename_i h1
    rw [Bool.and_eq_true] at h1
    split at h
    · rename_i h2; exact ⟨h1.1, h1.2, h2.1, h2.2⟩
    · omega
  · omega
theorem gcRows {ms : List Mo} {cs : List (Int × Int)} {i : Nat} {xs : List Int} (h : (gcAll ms cs)[i]? = some xs) : xs.length = cs.length := by
  rw [gcAll, List.getElem?_map, Option.map_eq_some_iff] at h
  obtain ⟨m, _, rfl⟩ := h
  exact gcRow_len
theorem fGc_len {ms : List Mo} {cs : List (Int × Int)} : (fGc ms cs).length ≤ 6 ∧ ∀ (i : Nat) (xs : List Int), (fGc ms cs)[i]? = some xs → xs.length ≤ 6 := by
  unfold fGc
  split
  · exact ⟨by simp, fun i xs h => by simp at h⟩
  · rename_i h
    obtain ⟨_, _, h1, h2⟩ := gCode_ok2 (Decidable.of_not_not h)
    exact ⟨by rw [gcAll_len]; exact h1, fun i xs h => by rw [gcRows h]; exact h2⟩
end Go.Proofs.YthbljfanoaibkaaGreatDoor
