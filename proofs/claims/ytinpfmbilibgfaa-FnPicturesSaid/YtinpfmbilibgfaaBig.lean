/- Codes that are too long for a law: contract. -/
import Derived.Test.YtinpfmbilibgfaaMKit
namespace Go.Proofs.Ytinpfmbilibgfaa
open Go.RowKit
set_option linter.unusedVariables false
set_option linter.unusedSimpArgs false
theorem laws_big (A : Option Addr) (n c : Nat) (w : World) : Calls Try.prog 4 #[.slice A n c] w fun e w' => e = .returned (.bool (decide (4096 < (n : Int)))) ∧ w = w' := by
  go_enter Try.func4, Try.ntmps4
  go_wp2
  go_ret
  exact ⟨rfl, rfl⟩
theorem OwnI.cap {w : World} {base n c : Nat} {A : Option Addr} {xs : List Int} (h : OwnI w base (.slice A n c) xs) : xs.length ≤ c := by
  obtain ⟨A', c', h1, h2, h3⟩ := h
  injection h1 with h1 hn hc
  subst h1 hn hc
  rcases h3 with ⟨e1, e2⟩ | ⟨g, cap, cur, q1, q2, q3, q4, _⟩
  · injection e1 with a b d; omega
  · injection q1 with a b d; omega
theorem OwnI.up (w0 : World) {w w' : World} {base n c : Nat} {A : Option Addr} {xs : List Int} (h : OwnI w base (.slice A n c) xs) (hb : Below w.heap.size w w') : I64 w' w'.heap.size A xs := h.reads.2.up hb
end Go.Proofs.Ytinpfmbilibgfaa
