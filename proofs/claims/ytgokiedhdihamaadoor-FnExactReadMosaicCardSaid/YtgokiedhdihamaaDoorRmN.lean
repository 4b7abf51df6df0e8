/- The reference's numbers of a cell: contract. -/
import Derived.Test.YtgokiedhdihamaaDoorRmX
namespace Go.Proofs.YtgokiedhdihamaaDoor
open Go.RowKit Go.ChangeShapes Go.WideShapes Go.ChangeAt
set_option linter.unusedVariables false
set_option linter.unusedSimpArgs false
/-- texts that are read -/
def RX (w : World) (A : Option Addr) (ls : List (List UInt8)) : Prop := ls = [] ∨ ∃ g, A = some ⟨g, 0, none⟩ ∧ g < w.heap.size ∧ ∀ (k : Nat) (x : List UInt8), ls[k]? = some x → w.cell? ⟨g, k, none⟩ = some (tv x)
theorem RX.up {w w' : World} {A : Option Addr} {ls : List (List UInt8)} (h : RX w A ls) (hb : Below w.heap.size w w') : RX w' A ls := by
  rcases h with h | ⟨g, h1, h2, h3⟩
  · exact .inl h
  · exact .inr ⟨g, h1, Nat.lt_of_lt_of_le h2 hb.size, fun k x hx => (hb.cell (p := ⟨g, k, none⟩) h2).trans (h3 k x hx)⟩
theorem RX.at_ {w : World} {A : Option Addr} {ls : List (List UInt8)} {k : Nat} {x : List UInt8} (h : RX w A ls) (hx : ls[k]? = some x) : ∃ g, A = some ⟨g, 0, none⟩ ∧ g < w.heap.size ∧ w.cell? ⟨g, k, none⟩ = some (.string (mkT x)) := by
  rcases h with h | ⟨g, h1, h2, h3⟩
  · rw [h] at hx; simp at hx
  · exact ⟨g, h1, h2, h3 k x hx⟩
theorem OwnX.rx {w : World} {base n c : Nat} {A : Option Addr} {ls : List (List UInt8)} (h : OwnX w base (.slice A n c) ls) : RX w A ls := by
  rcases Nat.eq_zero_or_pos ls.length with h0 | h0
  · exact .inl (List.length_eq_zero_iff.1 h0)
  · obtain ⟨x, hx⟩ := get_of_lt h0
    obtain ⟨g, e, h1, h2, _⟩ := h.cell hx
    refine .inr ⟨g, e, h2, fun k y hy => ?_⟩
    obtain ⟨g', e', _, _, h3, _⟩ := h.cell hy
    rw [e] at e'
    injection e' with e'
    injection e' with e'
    subst e'
    exact h3
def nmB (ls : List (List UInt8)) : Bool := ls.all fun x => (sS x).2
def nmV (ls : List (List UInt8)) : List Int := ls.map fun x => (sS x).1
theorem nmV_take {ls : List (List UInt8)} {k : Nat} {x : List UInt8} (h : ls[k]? = some x) : nmV (ls.take (k + 1)) = nmV (ls.take k) ++ [(sS x).1] := by
  rw [List.take_add_one, h, Option.toList_some]; simp [nmV]
theorem nmB_take {ls : List (List UInt8)} {k : Nat} {x : List UInt8} (h : ls[k]? = some x) : nmB (ls.take (k + 1)) = (nmB (ls.take k) && (sS x).2) := by
  rw [List.take_add_one, h, Option.toList_some]; simp [nmB]
theorem nmB_no {ls : List (List UInt8)} {k : Nat} {x : List UInt8} (h : ls[k]? = some x) (hx : (sS x).2 = false) : nmB ls = false := by
  unfold nmB
  rw [List.all_eq_false]
  exact ⟨x, List.mem_of_getElem? h, by rw [hx]; decide⟩
set_option maxRecDepth 100000 in
set_option maxHeartbeats 3200000 in
theorem spec_l01Numbers (A : Option Addr) (c : Nat) (ls : List (List UInt8)) (w : World) (hr : RX w A ls) (hl : ls.length ≤ 1048577) (hx : ∀ x ∈ ls, x.length ≤ 1048576) :
    Calls Tryd.prog 15 #[.slice A ls.length c] w fun e w' => ∃ v, e = .returned (.tuple #[v, .bool (nmB ls)]) ∧ (nmB ls = true → OwnI w' w.heap.size v (nmV ls)) ∧ Below w.heap.size w w' := by
  have hxH := Lib.hid hx
  clear hx
  go_enter Tryd.func15, Tryd.ntmps15
  go_wp2_with fail
  go_loopw [4, 5] (fun out iv wr => ∃ i : Nat, iv = .int .i64 (i : Int) ∧ i ≤ ls.length ∧ OwnI wr w.heap.size out (nmV (ls.take i)) ∧ Below w.heap.size w wr ∧ Hid (nmB (ls.take i) = true)) (fun _ iv _ => ls.length - (intOf iv).toNat)
  case atStart => exact ⟨0, rfl, Nat.zero_le _, OwnI.lit0 (Nat.le_refl _), Below.new (Below.refl _ _) _, rfl⟩
  case round =>
    obtain ⟨i, rfl, hi, oi, hbr, hn⟩ := hrel
    have zr := hbr.size
    by_cases hlt : i < ls.length
    · have p1 : (i : Int) < (ls.length : Int) := by omega
      have p0 : (0 : Int) ≤ (i : Int) := by omega
      obtain ⟨x, hxi⟩ := get_of_lt hlt
      have hxl := hxH.out x (List.mem_of_getElem? hxi)
      obtain ⟨g, e, hg, hc⟩ := (hr.up hbr).at_ hxi
      subst e
      have hv := fun w => spec_l01Signed x w (by omega)
      have bd := sS_bd x
      have e1 := nmV_take hxi
      have e2 := nmB_take hxi
      have e3 := nmB_no hxi
      rw [hn.out, Bool.true_and] at e2
      obtain ⟨z, hz⟩ : ∃ z, z = (sS x).1 := ⟨_, rfl⟩
      obtain ⟨o, ho⟩ : ∃ o, o = (sS x).2 := ⟨_, rfl⟩
      rw [← hz, ← ho] at hv
      rw [← hz] at bd e1
      rw [← ho] at e2 e3
      have hvH := Lib.hid hv
      have hlv : (nmV (ls.take i)).length ≤ 1099511627776 := by simp [nmV]; omega
      clear hv hz ho hxi hn
      cases o
      · have e3 := e3 rfl
        have e3H := Lib.hid e3
        clear e1 e2 e3
        go_wp2_with (go_at_call 29; refine (hvH.out _).mono ?_; rintro e w1 ⟨rfl, hb1⟩)
        all_goals go_returns
        all_goals exact ⟨.slice none 0 0, by rw [e3H.out]; first | done | rfl, fun h => (by rw [e3H.out] at h; cases h), by exact bgr⟩
      · have e2H := Lib.hid e2
        clear e2 e3
        go_wp2_with (first | (go_at_call 29; refine (hvH.out _).mono ?_; rintro e w1 ⟨rfl, hb1⟩; have oi := oi.below hb1; have zw := hb1.size) | (at_builtin; refine push_int oi (by rfl) _ _ (by rfl) (by rfl) (by rfl) (by omega) (by omega) ?_; intro v6 w6 oi6 hg6 hb6))
        exact ⟨⟨i + 1, rfl, by omega, by rw [e1]; exact oi6, (hbr.trans (hb1.mono zr)).trans hb6, e2H.out⟩, by simp only [intOf]; omega⟩
    · have p1 : ¬ (i : Int) < (ls.length : Int) := by omega
      have he : i = ls.length := by omega
      subst he
      rw [List.take_length] at hn oi
      have hnH := hn
      clear hn
      go_wp2_with fail
      all_goals go_returns
      all_goals exact ⟨_, by rw [hnH.out]; first | done | rfl, fun _ => oi, hbr⟩
end Go.Proofs.YtgokiedhdihamaaDoor
