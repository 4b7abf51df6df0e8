/- Gates that share a contact meet: plain numbers. -/
import Derived.Test.YtpanignlpcemnaaGtA
namespace Go.Proofs.Ytpanignlpcemnaa
set_option linter.unusedVariables false
theorem mmc (a b c d : Int) : a * b * (c * d) = a * c * (b * d) := by
  rw [Int.mul_assoc, Int.mul_assoc, ← Int.mul_assoc b c d, ← Int.mul_assoc c b d, Int.mul_comm b c]
theorem sq_ge {X m : Int} (hm : 0 ≤ m) (h : X * X ≤ m * m) : -m ≤ X := by
  rcases Int.lt_or_le X (-m) with hX | hX
  · have h1 : (m + 1) * (m + 1) ≤ (-X) * (-X) := Int.mul_le_mul (by omega) (by omega) (by omega) (by omega)
    rw [Int.neg_mul_neg, Int.add_mul, Int.mul_add, Int.mul_one, Int.one_mul] at h1
    omega
  · exact hX
theorem meet_of {x y s x' y' e a b : Int} (hs : 0 ≤ s) (he : 0 ≤ e) (h1 : cst x y a b ≤ s * s) (h2 : cst x' y' a b ≤ e * e) : cst x y x' y' ≤ (s + e) * (s + e) := by
  obtain ⟨u, hu⟩ : ∃ u, u = a - x := ⟨_, rfl⟩
  obtain ⟨v, hv⟩ : ∃ v, v = b - y := ⟨_, rfl⟩
  obtain ⟨u', hu'⟩ : ∃ u, u = a - x' := ⟨_, rfl⟩
  obtain ⟨v', hv'⟩ : ∃ v, v = b - y' := ⟨_, rfl⟩
  unfold cst at h1 h2 ⊢
  rw [← hu, ← hv] at h1
  rw [← hu', ← hv'] at h2
  rw [show x' - x = u - u' by omega, show y' - y = v - v' by omega]
  have sqn : ∀ z : Int, 0 ≤ z * z := fun z => by
    rcases Int.le_total 0 z with h | h
    · exact Int.mul_nonneg h h
    · exact Int.mul_nonneg_of_nonpos_of_nonpos h h
  have pp := mmc u u' u u'
  have qq := mmc v v' v v'
  have rr := mmc u v' u v'
  have tt := mmc v u' v u'
  have pq := mmc u u' v v'
  have rt := mmc u v' v u'
  have cm := Int.mul_comm v' u'
  have ss := mmc s e s e
  rw [cm] at rt
  have nn := sqn (u * v' - v * u')
  have n1 := sqn u
  have n2 := sqn v
  have n3 := sqn u'
  have n4 := sqn v'
  have n5 := sqn s
  have big : (u * u + v * v) * (u' * u' + v' * v') ≤ (s * s) * (e * e) := Int.mul_le_mul h1 h2 (by omega) n5
  have cs : (u * u' + v * v') * (u * u' + v * v') ≤ (s * e) * (s * e) := by
    simp only [Int.add_mul, Int.mul_add, Int.sub_mul, Int.mul_sub] at big nn ⊢
    rw [Int.mul_comm (v * v') (u * u')]
    rw [Int.mul_comm (v * u') (u * v')] at nn
    omega
  have hX := sq_ge (Int.mul_nonneg hs he) cs
  have ec := Int.mul_comm u' u
  have ed := Int.mul_comm v' v
  have ef := Int.mul_comm e s
  simp only [Int.add_mul, Int.mul_add, Int.sub_mul, Int.mul_sub]
  rw [ec, ed, ef]
  omega
end Go.Proofs.Ytpanignlpcemnaa
