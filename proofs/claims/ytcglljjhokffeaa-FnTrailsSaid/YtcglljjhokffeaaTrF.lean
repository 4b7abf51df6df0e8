/- HitTrail and MissTrail as functions; what the laws of trails ask of them. Printed by gen_trails.py. -/
import Derived.Test.YtcglljjhokffeaaTrHitFn
import Derived.Test.YtcglljjhokffeaaTrMissLaw
import Derived.Test.YtcglljjhokffeaaTrCoastLaw
import Derived.Test.YtcglljjhokffeaaDrU
import Derived.Laws.StructEq
namespace Go.Proofs.Ytcglljjhokffeaa
open Go.RowKit Go.ChangeShapes Go.WideShapes Go.ChangeAt
set_option linter.unusedVariables false
set_option linter.unusedSimpArgs false
def z8 : Tr := ⟨0, 0, 0, 0, 0, 0, 0, 0⟩
def fHT (T : Tr) (a b : Int) : Tr × Int := if trT T = true then (if coB a b = true then (fHit (fMoved T) a b, 0) else (z8, 1)) else (z8, 1)
def fMT (T : Tr) : Tr × Int := if trT T = true then (fCoast T, 0) else (z8, 1)
theorem fHT_ok {T V : Tr} {a b : Int} (h : fHT T a b = (V, 0)) : trT T = true ∧ coB a b = true ∧ V = fHit (fMoved T) a b := by
  unfold fHT at h
  split at h
  · rename_i h1
    split at h
    · rename_i h2
      exact ⟨h1, h2, (Prod.mk.inj h).1.symm⟩
    · exact absurd (Prod.mk.inj h).2 (by omega)
  · exact absurd (Prod.mk.inj h).2 (by omega)
theorem fMT_ok {T V : Tr} (h : fMT T = (V, 0)) : trT T = true ∧ V = fCoast T := by
  unfold fMT at h
  split at h
  · rename_i h1
    exact ⟨h1, (Prod.mk.inj h).1.symm⟩
  · exact absurd (Prod.mk.inj h).2 (by omega)
/-- a confirmed trail that gets a contact stays confirmed, or is lost where it was -/
theorem hit_stays {T V : Tr} {a b : Int} (h : fHT T a b = (V, 0)) : trT V = true ∧ (T.t ≠ 1 ∨ V.t = 1 ∨ V.t = 2 ∧ V.x = T.x ∧ V.y = T.y ∧ V.p = T.p ∧ V.q = T.q ∧ V.s = T.s) := by
  obtain ⟨h1, h2, h3⟩ := fHT_ok h
  rw [h3]
  refine ⟨hitT (movedT h1) h2, ?_⟩
  by_cases ht : T.t = 1
  · right
    obtain ⟨x, y, p, q, s, t, hh, m⟩ := T
    have ht : t = 1 := ht
    have h9 := (tr_facts (show trB x y p q s t hh m = true from h1)).2.2.2.2.2.2
    have ht2 : ¬ t = 2 := by omega
    cases hc : coB (x + p) (y + q)
    · right
      rw [moved_out ht2 hc]
      have : fHit ⟨x, y, p, q, s, 2, hh, m⟩ a b = ⟨x, y, p, q, s, 2, hh, m⟩ := by simp [fHit]
      rw [this]; exact ⟨rfl, rfl, rfl, rfl, rfl, rfl⟩
    · left
      rw [moved_on ht2 hc]
      have : (fHit ⟨x + p, y + q, p, q, min (s + 50) 10000, t, hh, m⟩ a b).t = if 3 ≤ min (hh + 1) 1000 then 1 else t := by simp only [fHit, if_neg ht2]
      rw [this]
      split
      · rfl
      · exact ht
  · exact .inl ht
/-- a lost trail stays as it is -/
theorem miss_stays {T V : Tr} (h : fMT T = (V, 0)) : trT V = true ∧ (T.t ≠ 2 ∨ V = T) := by
  obtain ⟨h1, h3⟩ := fMT_ok h
  rw [h3]
  refine ⟨coastT h1, ?_⟩
  by_cases ht : T.t = 2
  · right
    have e1 : fMoved T = T := by simp [fMoved, ht]
    rw [fCoast, e1]; simp [fMiss, ht]
  · exact .inl ht
theorem impl_HitTrailF (x y p q s t h m a b xv yv pv qv sv tv hv mv hc : Int) (w : World) (hf : fHT ⟨x, y, p, q, s, t, h, m⟩ a b = (⟨xv, yv, pv, qv, sv, tv, hv, mv⟩, hc)) :
    Calls Try.prog 19 #[.agg #[.int .i64 x, .int .i64 y, .int .i64 p, .int .i64 q, .int .i64 s, .int .i64 t, .int .i64 h, .int .i64 m], .agg #[.int .i64 a, .int .i64 b]] w fun e w' => e = .returned (.tuple #[.agg #[.int .i64 xv, .int .i64 yv, .int .i64 pv, .int .i64 qv, .int .i64 sv, .int .i64 tv, .int .i64 hv, .int .i64 mv], .int .i64 hc]) ∧ Below w.heap.size w w' := by
  have et : trT ⟨x, y, p, q, s, t, h, m⟩ = trB x y p q s t h m := rfl
  cases hb : trB x y p q s t h m
  · rw [fHT, et, hb] at hf
    simp only [Bool.false_eq_true, if_false, z8, Prod.mk.injEq, Tr.mk.injEq] at hf
    obtain ⟨⟨rfl, rfl, rfl, rfl, rfl, rfl, rfl, rfl⟩, rfl⟩ := hf
    exact impl_HitTrail_no1 x y p q s t h m a b w hb
  · cases hc : coB a b
    · rw [fHT, et, hb, hc] at hf
      simp only [Bool.false_eq_true, if_false, if_true, z8, Prod.mk.injEq, Tr.mk.injEq] at hf
      obtain ⟨⟨rfl, rfl, rfl, rfl, rfl, rfl, rfl, rfl⟩, rfl⟩ := hf
      exact impl_HitTrail_no2 x y p q s t h m a b w hb hc
    · rw [fHT, et, hb, hc] at hf
      simp only [if_true, Prod.mk.injEq] at hf
      obtain ⟨h1, rfl⟩ := hf
      exact impl_HitTrail_ok x y p q s t h m a b xv yv pv qv sv tv hv mv w hb hc h1
theorem impl_MissTrailF (x y p q s t h m xv yv pv qv sv tv hv mv hc : Int) (w : World) (hf : fMT ⟨x, y, p, q, s, t, h, m⟩ = (⟨xv, yv, pv, qv, sv, tv, hv, mv⟩, hc)) :
    Calls Try.prog 22 #[.agg #[.int .i64 x, .int .i64 y, .int .i64 p, .int .i64 q, .int .i64 s, .int .i64 t, .int .i64 h, .int .i64 m]] w fun e w' => e = .returned (.tuple #[.agg #[.int .i64 xv, .int .i64 yv, .int .i64 pv, .int .i64 qv, .int .i64 sv, .int .i64 tv, .int .i64 hv, .int .i64 mv], .int .i64 hc]) ∧ Below w.heap.size w w' := by
  have et : trT ⟨x, y, p, q, s, t, h, m⟩ = trB x y p q s t h m := rfl
  cases hb : trB x y p q s t h m
  · rw [fMT, et, hb] at hf
    simp only [Bool.false_eq_true, if_false, z8, Prod.mk.injEq, Tr.mk.injEq] at hf
    obtain ⟨⟨rfl, rfl, rfl, rfl, rfl, rfl, rfl, rfl⟩, rfl⟩ := hf
    exact impl_MissTrail_no x y p q s t h m w hb
  · rw [fMT, et, hb] at hf
    simp only [if_true, Prod.mk.injEq] at hf
    obtain ⟨h1, rfl⟩ := hf
    exact impl_MissTrail_ok x y p q s t h m xv yv pv qv sv tv hv mv w hb h1
theorem spec_HitTrailF (x y p q s t h m a b xv yv pv qv sv tv hv mv hc : Int) (w : World) (hf : fHT ⟨x, y, p, q, s, t, h, m⟩ a b = (⟨xv, yv, pv, qv, sv, tv, hv, mv⟩, hc)) :
    Calls Try.prog 20 #[.agg #[.int .i64 x, .int .i64 y, .int .i64 p, .int .i64 q, .int .i64 s, .int .i64 t, .int .i64 h, .int .i64 m], .agg #[.int .i64 a, .int .i64 b]] w fun e w' => e = .returned (.tuple #[.agg #[.int .i64 xv, .int .i64 yv, .int .i64 pv, .int .i64 qv, .int .i64 sv, .int .i64 tv, .int .i64 hv, .int .i64 mv], .int .i64 hc]) ∧ Below w.heap.size w w' := by
  have et : trT ⟨x, y, p, q, s, t, h, m⟩ = trB x y p q s t h m := rfl
  cases hb : trB x y p q s t h m
  · rw [fHT, et, hb] at hf
    simp only [Bool.false_eq_true, if_false, z8, Prod.mk.injEq, Tr.mk.injEq] at hf
    obtain ⟨⟨rfl, rfl, rfl, rfl, rfl, rfl, rfl, rfl⟩, rfl⟩ := hf
    exact spec_HitTrail_no1 x y p q s t h m a b w hb
  · cases hc : coB a b
    · rw [fHT, et, hb, hc] at hf
      simp only [Bool.false_eq_true, if_false, if_true, z8, Prod.mk.injEq, Tr.mk.injEq] at hf
      obtain ⟨⟨rfl, rfl, rfl, rfl, rfl, rfl, rfl, rfl⟩, rfl⟩ := hf
      exact spec_HitTrail_no2 x y p q s t h m a b w hb hc
    · rw [fHT, et, hb, hc] at hf
      simp only [if_true, Prod.mk.injEq] at hf
      obtain ⟨h1, rfl⟩ := hf
      exact spec_HitTrail_ok x y p q s t h m a b xv yv pv qv sv tv hv mv w hb hc h1
theorem spec_MissTrailF (x y p q s t h m xv yv pv qv sv tv hv mv hc : Int) (w : World) (hf : fMT ⟨x, y, p, q, s, t, h, m⟩ = (⟨xv, yv, pv, qv, sv, tv, hv, mv⟩, hc)) :
    Calls Try.prog 23 #[.agg #[.int .i64 x, .int .i64 y, .int .i64 p, .int .i64 q, .int .i64 s, .int .i64 t, .int .i64 h, .int .i64 m]] w fun e w' => e = .returned (.tuple #[.agg #[.int .i64 xv, .int .i64 yv, .int .i64 pv, .int .i64 qv, .int .i64 sv, .int .i64 tv, .int .i64 hv, .int .i64 mv], .int .i64 hc]) ∧ Below w.heap.size w w' := by
  have et : trT ⟨x, y, p, q, s, t, h, m⟩ = trB x y p q s t h m := rfl
  cases hb : trB x y p q s t h m
  · rw [fMT, et, hb] at hf
    simp only [Bool.false_eq_true, if_false, z8, Prod.mk.injEq, Tr.mk.injEq] at hf
    obtain ⟨⟨rfl, rfl, rfl, rfl, rfl, rfl, rfl, rfl⟩, rfl⟩ := hf
    exact spec_MissTrail_no x y p q s t h m w hb
  · rw [fMT, et, hb] at hf
    simp only [if_true, Prod.mk.injEq] at hf
    obtain ⟨h1, rfl⟩ := hf
    exact spec_MissTrail_ok x y p q s t h m xv yv pv qv sv tv hv mv w hb h1
set_option maxRecDepth 100000 in
theorem neqT (x y p q s t h m : Int) (w : World) : (binOp .neq 41 (.agg #[.int .i64 x, .int .i64 y, .int .i64 p, .int .i64 q, .int .i64 s, .int .i64 t, .int .i64 h, .int .i64 m]) (.agg #[.int .i64 x, .int .i64 y, .int .i64 p, .int .i64 q, .int .i64 s, .int .i64 t, .int .i64 h, .int .i64 m])).run Try.prog w = .ok (.bool false) w := by
  go_simp
set_option maxRecDepth 100000 in
theorem eqlM (x y p q s : Int) (w : World) : (binOp .eql 39 (.agg #[.int .i64 x, .int .i64 y, .int .i64 p, .int .i64 q, .int .i64 s]) (.agg #[.int .i64 x, .int .i64 y, .int .i64 p, .int .i64 q, .int .i64 s])).run Try.prog w = .ok (.bool true) w := by
  go_simp
end Go.Proofs.Ytcglljjhokffeaa
