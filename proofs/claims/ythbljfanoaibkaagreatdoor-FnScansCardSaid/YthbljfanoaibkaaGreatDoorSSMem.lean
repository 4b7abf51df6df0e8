/- Slices of structs whose cells are all int64: words, opened. -/
import Derived.Test.YthbljfanoaibkaaGreatDoorIIMem
import Derived.Test.YthbljfanoaibkaaGreatDoorMKit
namespace Go.Proofs.YthbljfanoaibkaaGreatDoor
open Go.RowKit Go.ChangeShapes Go.WideShapes Go.ChangeAt
set_option linter.unusedVariables false
set_option linter.unusedSimpArgs false

/-- elements that lie one behind the other, each as its numbers -/
def flat {α : Type} (cl : α → List Int) (xs : List α) : List Int := xs.flatMap cl
section
variable {α : Type} {cl : α → List Int} {k : Nat}
theorem flat_len (hk : ∀ x, (cl x).length = k) (xs : List α) : (flat cl xs).length = xs.length * k := by
  induction xs with
  | nil => simp [flat]
  | cons x xs ih =>
    have ih' : (List.flatMap cl xs).length = xs.length * k := ih
    rw [flat, List.flatMap_cons, List.length_append, hk x, ih', List.length_cons, Nat.add_mul]; omega
theorem flat_get (hk : ∀ x, (cl x).length = k) {xs : List α} {i j : Nat} {x : α} {v : Int} (hx : xs[i]? = some x) (hv : (cl x)[j]? = some v) : (flat cl xs)[i * k + j]? = some v := by
  have hj : j < k := by have := (List.getElem?_eq_some_iff.1 hv).1; rw [hk] at this; exact this
  induction xs generalizing i with
  | nil => simp at hx
  | cons y ys ih =>
    rw [flat, List.flatMap_cons]
    cases i with
    | zero =>
      simp at hx
      subst hx
      rw [Nat.zero_mul, Nat.zero_add, List.getElem?_append_left (by rw [hk]; exact hj)]
      exact hv
    | succ i =>
      rw [List.getElem?_append_right (by rw [hk, Nat.add_mul]; omega), hk]
      have e : (i + 1) * k + j - k = i * k + j := by rw [Nat.add_mul]; omega
      rw [e]
      exact ih (by simpa using hx)
theorem flat_snoc (xs : List α) (x : α) : flat cl (xs ++ [x]) = flat cl xs ++ cl x := by simp [flat, List.flatMap_append]
theorem flat_set (hk : ∀ x, (cl x).length = k) {xs : List α} {i : Nat} {x : α} (hi : i < xs.length) : flat cl (xs.set i x) = (flat cl xs).take (i * k) ++ cl x ++ (flat cl xs).drop (i * k + k) := by
  induction xs generalizing i with
  | nil => simp at hi
  | cons y ys ih =>
    cases i with
    | zero =>
      simp only [List.set_cons_zero, flat, List.flatMap_cons, Nat.zero_mul, List.take_zero, List.nil_append, Nat.zero_add]
      rw [List.drop_append_of_le_length (by rw [hk]; exact Nat.le_refl _), List.drop_of_length_le (by rw [hk]; exact Nat.le_refl _), List.nil_append]
    | succ i =>
      have h1 := ih (i := i) (by simpa using hi)
      simp only [flat] at h1
      simp only [List.set_cons_succ, flat, List.flatMap_cons]
      rw [h1]
      have e1 : (i + 1) * k = (cl y).length + i * k := by rw [hk, Nat.add_mul]; omega
      rw [e1, List.take_length_add_append, Nat.add_assoc, List.drop_length_add_append]
      simp [List.append_assoc]
theorem flat_map_inv {mk : List Int → α} (hm : ∀ l, l.length = k → cl (mk l) = l) : ∀ (xss : List (List Int)), (∀ l ∈ xss, l.length = k) → flat cl (xss.map mk) = xss.flatten
  | [], _ => by simp [flat]
  | l :: ls, h => by
    have ih := flat_map_inv hm ls (fun l' h' => h l' (by simp [h']))
    simp only [flat] at ih
    rw [flat, List.map_cons, List.flatMap_cons, ih, hm l (h l (by simp)), List.flatten_cons]
end

/-- a slice of structs: its elements' numbers lie one behind the other -/
def S64 {α : Type} (cl : α → List Int) (w : World) (B : Nat) (A : Option Addr) (xs : List α) : Prop := I64 w B A (flat cl xs)
section
variable {α : Type} {cl : α → List Int} {k : Nat} {w w' : World} {B B' : Nat} {A : Option Addr} {xs : List α}
theorem S64.below (h : S64 cl w B A xs) (hb : Below B w w') : S64 cl w' B A xs := I64.below h hb
theorem S64.more (h : S64 cl w B A xs) (hB : B ≤ B') : S64 cl w B' A xs := I64.more h hB
theorem S64.up (h : S64 cl w w.heap.size A xs) (hb : Below w.heap.size w w') : S64 cl w' w'.heap.size A xs := I64.up h hb
theorem S64.nil : S64 cl w B A [] := I64.nil
theorem S64.at_ (hk : ∀ x, (cl x).length = k) (hk0 : 0 < k) {i : Nat} {x : α} (h : S64 cl w B A xs) (hx : xs[i]? = some x) :
    ∃ b o, A = some ⟨b, o, none⟩ ∧ b < B ∧ ∀ (j : Nat) (v : Int), (cl x)[j]? = some v → w.cell? ⟨b, o + (i * k + j), none⟩ = some (.int .i64 v) := by
  have hlt : 0 < (cl x).length := by rw [hk]; exact hk0
  have hf := flat_get hk hx (List.getElem?_eq_getElem hlt)
  rcases h with h | ⟨b, o, h1, h2, h3⟩
  · rw [List.map_eq_nil_iff] at h
    rw [h] at hf; simp at hf
  · refine ⟨b, o, h1, h2, fun j v hv => h3 _ _ ?_⟩
    rw [List.getElem?_map, flat_get hk hx hv]; rfl
end
section
variable {H : Type} {enc : TypeId × Value → H} {P : Program} {w : World} {sp : Nat → Bool}
theorem flat_ints {n : Nat} : ∀ {cs : List Value}, cs.length = n → (∀ i, i < n → ∃ a, cs[i]? = some (.int .i64 a)) → ∃ l : List Int, l.length = n ∧ cs = l.map (Value.int .i64) := fun {cs} hl h => by
  obtain ⟨l, h1, h2⟩ := list_choose (Q := fun i a => cs[i]? = some (.int .i64 a)) n h
  refine ⟨l, h1, List.ext_getElem? fun i => ?_⟩
  rcases Nat.lt_or_ge i n with hi | hi
  · have := h2 i _ (List.getElem?_eq_getElem (by omega))
    rw [this, List.getElem?_map, List.getElem?_eq_getElem (by omega)]; rfl
  · rw [List.getElem?_eq_none (by omega), List.getElem?_eq_none (by simp; omega)]
theorem open_cell_flat {t e : TypeId} {cs : List Value} {fuel k : Nat} {x : DataW H × List MemPlace} (ht : P.underlying t = some (.slice e)) (hF : FlatI enc P w 0 sp true e k) (hc : P.cellsOf e = k) (hk : 0 < k)
    (h : DataW.trod enc P w 0 sp true fuel t cs = some x) :
    ∃ A c, ∃ xss : List (List Int), cs = [.slice A xss.length c] ∧ (∀ l ∈ xss, l.length = k) ∧ I64 w w.heap.size A xss.flatten ∧ xss.length ≤ maxLen := by
  rcases DataW.trod_slice ht h with ⟨h0, _⟩ | ⟨a, len, cap, elems, rest, n, _, rfl, _, _, hl, hm, hlen, hel, _, _⟩
  · exact ⟨none, 0, [], h0, by simp, .inl rfl, by simp⟩
  · have each : ∀ i, i < len → ∃ xs : List Int, xs.length = k ∧ ∀ (j : Nat) (v : Int), xs[j]? = some v → w.cell? (a.add (i * k + j)) = some (.int .i64 v) := fun i hi => by
      have h1 := hel i hi
      rw [hc, List.getElem?_eq_getElem (by omega), Option.bind_eq_some_iff] at h1
      obtain ⟨cs', hcs, hy⟩ := h1
      obtain ⟨q1, q2⟩ := hF _ _ _ hy
      obtain ⟨l, l1, rfl⟩ := flat_ints q1 q2
      obtain ⟨_, _, hat⟩ := World.cells?_some hcs
      refine ⟨l, l1, fun j v hv => ?_⟩
      have hj : j < k := by have := (List.getElem?_eq_some_iff.1 hv).1; omega
      have := hat j hj
      rw [Go.Deep.add_add, List.getElem?_map, hv] at this
      exact this
    obtain ⟨xss, hx1, hx2⟩ := list_choose len each
    have hlens : ∀ l ∈ xss, l.length = k := fun l hl => by
      obtain ⟨i, hi⟩ := List.getElem?_of_mem hl
      exact (hx2 i l hi).1
    refine ⟨some a, cap, xss, by rw [hx1], hlens, ?_, by omega⟩
    rcases Nat.eq_zero_or_pos len with h0 | h0
    · left
      rw [List.eq_nil_of_length_eq_zero (by omega : xss.length = 0)]; rfl
    · right
      obtain ⟨xs0, hx0⟩ : ∃ y, xss[0]? = some y := ⟨_, List.getElem?_eq_getElem (by omega)⟩
      obtain ⟨e0, e1⟩ := hx2 0 xs0 hx0
      have h1 := e1 0 _ (List.getElem?_eq_getElem (by omega))
      have hs : a.spot = none := by
        unfold World.cell? Addr.add at h1
        simp at h1
        split at h1
        · split at h1
          · cases h1
          · rename_i hq; simpa using hq
        · cases h1
      refine ⟨a.block, a.off, by cases a; simp_all, ?_, fun m v hv => ?_⟩
      · have := World.block_lt_of_cell? w _ h1
        rw [add_get _ hs] at this
        exact this
      · have hmk : (flat (fun l : List Int => l) xss).length = xss.length * k ∨ True := .inr trivial
        rw [List.getElem?_map, Option.map_eq_some_iff] at hv
        obtain ⟨u, hu, rfl⟩ := hv
        have hlt : m < xss.length * k := by
          have h2 := (List.getElem?_eq_some_iff.1 hu).1
          have h3 : xss.flatten.length = xss.length * k := by
            have : ∀ l : List (List Int), (∀ x ∈ l, x.length = k) → l.flatten.length = l.length * k := fun l => by
              induction l with
              | nil => simp
              | cons y ys ih => intro h; rw [List.flatten_cons, List.length_append, h y (by simp), ih (fun x hx => h x (by simp [hx])), List.length_cons, Nat.add_mul]; omega
            exact this xss hlens
          omega
        have hi : m / k < xss.length := Nat.div_lt_of_lt_mul (by rw [Nat.mul_comm]; exact hlt)
        obtain ⟨l, hl⟩ : ∃ y, xss[m / k]? = some y := ⟨_, List.getElem?_eq_getElem hi⟩
        obtain ⟨l1, l2⟩ := hx2 _ l hl
        have hj : m % k < l.length := by rw [l1]; exact Nat.mod_lt _ hk
        have h5 := l2 (m % k) _ (List.getElem?_eq_getElem hj)
        have hdm : m / k * k + m % k = m := by rw [Nat.mul_comm]; exact Nat.div_add_mod m k
        rw [hdm, add_get _ hs] at h5
        rw [h5]
        have h6 : xss.flatten[m / k * k + m % k]? = some l[m % k] := by
          have : ∀ (ys : List (List Int)) (i : Nat), (∀ x ∈ ys, x.length = k) → ys[i]? = some l → ys.flatten[i * k + m % k]? = some l[m % k] := fun ys => by
            induction ys with
            | nil => intro i _ h; simp at h
            | cons y ys ih =>
              intro i hy h
              rw [List.flatten_cons]
              cases i with
              | zero =>
                simp at h
                subst h
                rw [Nat.zero_mul, Nat.zero_add, List.getElem?_append_left hj]; exact List.getElem?_eq_getElem hj
              | succ i =>
                have hyk := hy y (by simp)
                rw [List.getElem?_append_right (by rw [hyk, Nat.add_mul]; omega), hyk, show (i + 1) * k + m % k - k = i * k + m % k by rw [Nat.add_mul]; omega]
                exact ih i (fun x hx => hy x (by simp [hx])) (by simpa using h)
          exact this xss _ hlens hl
        rw [hdm] at h6
        rw [h6] at hu
        injection hu with hu
        rw [hu]
theorem open_cell_S64 {α : Type} {cl : α → List Int} {mk : List Int → α} {t e : TypeId} {cs : List Value} {fuel k : Nat} {x : DataW H × List MemPlace} (hmk : ∀ l, l.length = k → cl (mk l) = l) (ht : P.underlying t = some (.slice e)) (hF : FlatI enc P w 0 sp true e k) (hc : P.cellsOf e = k) (hk : 0 < k)
    (h : DataW.trod enc P w 0 sp true fuel t cs = some x) :
    ∃ A c, ∃ xs : List α, cs = [.slice A xs.length c] ∧ S64 cl w w.heap.size A xs ∧ xs.length ≤ maxLen := by
  obtain ⟨A, c, xss, h1, h2, h3, h4⟩ := open_cell_flat ht hF hc hk h
  exact ⟨A, c, xss.map mk, by simpa using h1, by rw [S64, flat_map_inv hmk _ h2]; exact h3, by simpa using h4⟩
theorem open_S64 {α : Type} {cl : α → List Int} {mk : List Int → α} {t e : TypeId} {v : Value} {d : DataW H} {p : List MemPlace} {k : Nat} (hmk : ∀ l, l.length = k → cl (mk l) = l) (ht : P.underlying t = some (.slice e)) (hF : FlatI enc P w 0 sp true e k) (hc : P.cellsOf e = k) (hk : 0 < k)
    {base : Nat} {r : Reach} (hv : Value.okWide P w r base t v) (h : DataW.Trod enc P w 0 sp true t v d p) :
    ∃ A c, ∃ xs : List α, v = .slice A xs.length c ∧ S64 cl w w.heap.size A xs ∧ xs.length ≤ maxLen := by
  obtain ⟨a, len, cap, rfl⟩ := okWide_slice ht hv
  obtain ⟨fuel, hq⟩ := h
  obtain ⟨A, c, xs, h1, h2, h3⟩ := open_cell_S64 hmk ht hF hc hk hq
  simp [Value.cells] at h1
  obtain ⟨rfl, rfl, rfl⟩ := h1
  exact ⟨_, _, xs, rfl, h2, h3⟩
end
end Go.Proofs.YthbljfanoaibkaaGreatDoor
