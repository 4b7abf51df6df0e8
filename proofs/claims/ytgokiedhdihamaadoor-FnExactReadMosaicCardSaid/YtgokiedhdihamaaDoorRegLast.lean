/- A drawn region whose last operation waits for all others: the condition on the world is not asked behind it. No function of the program. -/
import Derived.Test.YtgokiedhdihamaaDoorRegKit
namespace Go.Proofs.YtgokiedhdihamaaDoor
open Go.RowKit
set_option linter.unusedVariables false
section
variable {P : Program} {ops : Array Oper} {Q : Exit → Act → World → Prop} {md : Region.Mode} {S : World → Prop} {L : Nat}
/-- in whatever order: S behind each operation but number L -/
def wpAnyE (P : Program) (md : Region.Mode) (ops : Array Oper) (Q : Exit → Act → World → Prop) (S : World → Prop) (L : Nat) : Nat → Array Bool → Act → World → Prop
  | 0, b, a, w => Region.ready md ops b = [] ∧ Q .normal a w
  | n + 1, b, a, w => (Region.ready md ops b = [] → Q .normal a w) ∧ ∀ i ∈ Region.ready md ops b, wpOp P ops Q i (fun a' w' => (i = L ∨ S w') ∧ wpAnyE P md ops Q S L n (b.setIfInBounds i true) a' w') a w
theorem wpAnyE_any : ∀ (n : Nat) (b : Array Bool) (a : Act) (w : World), wpAnyE P md ops Q S L n b a w → wpAny P md ops Q n b a w
  | 0, _, _, _, h => h
  | n + 1, _, _, _, h => ⟨h.1, fun i hi => wpOp_mono (fun a' w' h' => wpAnyE_any n _ a' w' h'.2) (h.2 i hi)⟩
/-- number L waits for number i -/
def waitsB (md : Region.Mode) (ops : Array Oper) (L i : Nat) : Bool := match ops[L]? with
  | some o => o.after.any fun e => Region.binds md e && e.on == i
  | none => false
theorem waitsB_spec {i : Nat} {o : Oper} (h : waitsB md ops L i = true) (ho : ops[L]? = some o) : ∃ e ∈ o.after, Region.binds md e = true ∧ e.on = i := by
  unfold waitsB at h
  rw [ho] at h
  simp only [Array.any_eq_true] at h
  obtain ⟨k, hk, h⟩ := h
  rw [Bool.and_eq_true] at h
  exact ⟨o.after[k], Array.getElem_mem hk, h.1, by simpa using h.2⟩
theorem takeE' {i : Nat} {oi : Oper} {v : Value} (hi : ops[i]? = some oi) (hsel : ∀ (j : Nat) (o : Oper) cs b, ops[j]? = some o → o.op ≠ .select cs b) (hL : waitsB md ops L i = true) (hiL : i ≠ L)
    (hQ : ∀ c a w, Q (.panic c) (a.put oi.dst v) w → Q (.panic c) a w) : ∀ (n : Nat) (b : Array Bool) (a : Act) (w : World),
      (∀ j oj, ops[j]? = some oj → j ≠ i → b.getD j true = false → (∀ e ∈ oj.after, Region.binds md e = true → e.on ≠ i) → oi.apart ops oj = true) →
      i ∈ Region.ready md ops b → YieldsIf P ops S oi v a → S w → wpAnyE P md ops Q S L n (b.setIfInBounds i true) (a.put oi.dst v) w → wpAnyE P md ops Q S L (n + 1) b a w := by
  intro n
  induction n with
  | zero =>
    intro b a w _ hr hy hS H
    refine ⟨fun h => (by rw [h] at hr; cases hr), fun j hj => ?_⟩
    rcases Decidable.em (j = i) with e | e
    · rw [e]; exact hy.wpOp hi hS ⟨.inr hS, by rw [← e]; rw [← e] at H; exact H⟩
    · have := ready_mono hj e
      rw [H.1] at this
      cases this
  | succ n ih =>
    intro b a w hfree hr hy hS H
    refine ⟨fun h => (by rw [h] at hr; cases hr), fun j hj => ?_⟩
    rcases Decidable.em (j = i) with e | e
    · subst e; exact hy.wpOp hi hS ⟨.inr hS, H⟩
    · have h1 := H.2 j (ready_mono hj e)
      obtain ⟨hjun, oj, hoj, hall⟩ := mem_ready.1 hj
      have hnot : ∀ e' ∈ oj.after, Region.binds md e' = true → e'.on ≠ i := fun e' he hb heq => by
        have h1 := hall e' he hb
        have h0 := (mem_ready.1 hr).1
        rw [heq] at h1
        rcases Nat.lt_or_ge i b.size with h' | h'
        · simp [h'] at h0 h1; rw [h0] at h1; cases h1
        · simp [Array.getElem?_eq_none h'] at h1
      have hjL : j ≠ L := fun e2 => by
        subst e2
        obtain ⟨e', h2, h3, h4⟩ := waitsB_spec hL hoj
        exact hnot e' h2 h3 h4
      have h2 := wpOp_putIf hoj (hfree j oj hoj e hjun hnot) (fun cs b => hsel i oi cs b hi) (fun cs b => hsel j oj cs b hoj) hQ hy h1
      have hfree' : ∀ k ok, ops[k]? = some ok → k ≠ i → (b.setIfInBounds j true).getD k true = false →
          (∀ e ∈ ok.after, Region.binds md e = true → e.on ≠ i) → oi.apart ops ok = true := fun k ok hk hki hun hno => by
        refine hfree k ok hk hki ?_ hno
        rcases Decidable.em (j = k) with e3 | e3
        · subst e3; exact hjun
        · rw [getD_set_ne true e3] at hun; exact hun
      refine wpOp_mono (fun a' w' h3 => ?_) h2
      have hS' : S w' := h3.2.1.resolve_left hjL
      refine ⟨.inr hS', ih (b.setIfInBounds j true) a' w' hfree' (ready_mono hr (Ne.symm e)) h3.1 hS' ?_⟩
      rw [Array.setIfInBounds_comm _ _ e]
      exact h3.2.2
theorem takeE {i d : Nat} {oi : Oper} {v : Value} {n : Nat} {b : Array Bool} {a : Act} {w : World} (hi : ops[i]? = some oi) (hd : oi.dst = some d) (hL : waitsB md ops L i = true) (hiL : i ≠ L)
    (hs : Region.noSelect ops = true) (hf : Region.free md ops b i = true) (hr : (Region.ready md ops b).contains i = true)
    (hw : Region.wanted oi (yielded ops a.tmps) = true) (hS : S w) (hy : ∀ w, S w → (execOp a.eval oi).run P w = .ok (.value v) w)
    (h : wpAnyE P md ops (NoPanic Q) S L n (b.setIfInBounds i true) (a.put (some d) v) w) : wpAnyE P md ops (NoPanic Q) S L (n + 1) b a w := by
  rw [← hd] at h
  exact takeE' hi (Region.noSelect_spec hs) hL hiL (fun _ _ _ h => h) n b a w (Region.free_spec hi hf) (by simpa using hr) (.inl ⟨hw, hy⟩) hS h
/-- number i alone is ready: it is run -/
theorem runE {i : Nat} {o : Oper} {n : Nat} {b : Array Bool} {a : Act} {w : World} (hr : Region.ready md ops b = [i]) (ho : ops[i]? = some o) (hiL : i ≠ L)
    (h : ∀ K' : Act → World → Prop, Shut (∀ a w, S w → (S w → wpAnyE P md ops Q S L n (b.setIfInBounds i true) a w) → K' a w) → if Region.wanted o (yielded ops a.tmps) = true then Oper.wp P o a w K' Q else K' (a.put o.dst undef) w) : wpAnyE P md ops Q S L (n + 1) b a w :=
  ⟨fun h0 => (by rw [h0] at hr; cases hr), by
    rw [hr]; intro j hj
    rcases List.mem_singleton.1 hj with rfl
    exact wpOp_step ho (fun K' hK => h K' (fun a w hS hW => hK a w ⟨.inr hS, hW hS⟩))⟩
structure Tag (n : Nat) : Prop where
  ok : True
/-- two are ready: either is run -/
theorem runE2 {i j : Nat} {o o2 : Oper} {n : Nat} {b : Array Bool} {a : Act} {w : World} (hr : Region.ready md ops b = [i, j]) (ho : ops[i]? = some o) (ho2 : ops[j]? = some o2) (hiL : i ≠ L) (hjL : j ≠ L)
    (h : Tag i → ∀ K' : Act → World → Prop, Shut (∀ a w, S w → (S w → wpAnyE P md ops Q S L n (b.setIfInBounds i true) a w) → K' a w) → if Region.wanted o (yielded ops a.tmps) = true then Oper.wp P o a w K' Q else K' (a.put o.dst undef) w)
    (h2 : Tag j → ∀ K' : Act → World → Prop, Shut (∀ a w, S w → (S w → wpAnyE P md ops Q S L n (b.setIfInBounds j true) a w) → K' a w) → if Region.wanted o2 (yielded ops a.tmps) = true then Oper.wp P o2 a w K' Q else K' (a.put o2.dst undef) w) : wpAnyE P md ops Q S L (n + 1) b a w :=
  ⟨fun h0 => (by rw [h0] at hr; cases hr), by
    rw [hr]; intro k hk
    rcases List.mem_cons.1 hk with e | hk
    · rw [e]
      exact wpOp_step ho (fun K' hK => h ⟨trivial⟩ K' (fun a w hS hW => hK a w ⟨.inr hS, hW hS⟩))
    · rw [List.mem_singleton.1 hk]
      exact wpOp_step ho2 (fun K' hK => h2 ⟨trivial⟩ K' (fun a w hS hW => hK a w ⟨.inr hS, hW hS⟩))⟩
/-- the last one is run -/
theorem lastE {o : Oper} {n : Nat} {b : Array Bool} {a : Act} {w : World} (hr : Region.ready md ops b = [L]) (ho : ops[L]? = some o) (hd : Region.ready md ops (b.setIfInBounds L true) = [])
    (h : ∀ K' : Act → World → Prop, Shut (∀ a w, Q .normal a w → K' a w) → if Region.wanted o (yielded ops a.tmps) = true then Oper.wp P o a w K' Q else K' (a.put o.dst undef) w) : wpAnyE P md ops Q S L (n + 1) b a w :=
  ⟨fun h0 => (by rw [h0] at hr; cases hr), by
    rw [hr]; intro j hj
    rcases List.mem_singleton.1 hj with rfl
    refine wpOp_step ho (fun K' hK => h K' (fun a w hQ => hK a w ⟨.inl rfl, ?_⟩))
    cases n with
    | zero => exact ⟨hd, hQ⟩
    | succ n => exact ⟨fun _ => hQ, by rw [hd]; simp⟩⟩
theorem beginE {id : Nat} {a : Act} {w : World} (L : Nat) (S : World → Prop) (hm : P.follows .mixedOrders = true) (hS : S w.drew)
    (h : S w.drew → wpAnyE P .any ops Q S L ops.size (Array.replicate ops.size false) a w.drew) : (Code.region id ops true).wp P Q a w :=
  wp_region_any hm (wpAnyE_any _ _ _ _ (h hS))
end
end Go.Proofs.YtgokiedhdihamaaDoor
