/- Slices of structs of int64 that the call itself made: words, stores, append. -/
import Derived.Test.YthbljfanoaibkaaGreatDoorSSMem
import Derived.Test.YthbljfanoaibkaaGreatDoorMKit
namespace Go.Proofs.YthbljfanoaibkaaGreatDoor
open Go.RowKit Go.ChangeShapes Go.WideShapes Go.ChangeAt
set_option linter.unusedVariables false
set_option linter.unusedSimpArgs false
/-- the value v is a slice of structs that the call made in the blocks lo .. hi - 1; it reads as xs -/
def OwnS {α : Type} (cl : α → List Int) (T : TypeId) (k : Nat) (w : World) (lo hi : Nat) (v : Value) (xs : List α) : Prop :=
  (∃ A c, v = .slice A xs.length c ∧ w.ownsRow lo T k (.slice A xs.length c) xs.length ((flat cl xs).map (Value.int .i64))) ∧ ∀ q, v.ownBlock = some q → q < hi
/-- numbers written from an index on -/
def setRun (l : List Int) (o : Nat) : List Int → List Int
  | [] => l
  | v :: vs => setRun (l.set o v) (o + 1) vs
/-- the same in memory -/
def memRun (w : World) (g o : Nat) : List Int → World
  | [] => w
  | v :: vs => memRun (w.setCell ⟨g, o, none⟩ (.int .i64 v)) g (o + 1) vs
theorem setRun_len {vs : List Int} : ∀ {l : List Int} {o : Nat}, (setRun l o vs).length = l.length := by
  induction vs with
  | nil => intro l o; rfl
  | cons v vs ih => intro l o; rw [setRun, ih, List.length_set]
theorem setRun_get {vs : List Int} : ∀ {l : List Int} {o j : Nat}, o + vs.length ≤ l.length → (setRun l o vs)[j]? = if j < o then l[j]? else if j < o + vs.length then vs[j - o]? else l[j]? := by
  induction vs with
  | nil =>
    intro l o j h
    rw [setRun]
    by_cases h1 : j < o
    · rw [if_pos h1]
    · rw [if_neg h1, if_neg (by simp; omega)]
  | cons v vs ih =>
    intro l o j h
    simp only [List.length_cons] at h ⊢
    rw [setRun, ih (by rw [List.length_set]; omega), List.getElem?_set]
    rcases Nat.lt_trichotomy j o with h1 | h1 | h1
    · rw [if_pos (by omega), if_neg (by omega), if_pos h1]
    · subst h1
      rw [if_pos (by omega), if_pos rfl, if_pos (by omega), if_neg (by omega), if_pos (by omega), Nat.sub_self]; rfl
    · rw [if_neg (by omega), if_neg (show ¬ j < o by omega)]
      by_cases h2 : j < o + 1 + vs.length
      · rw [if_pos h2, if_pos (by omega), show j - o = (j - (o + 1)) + 1 by omega]; rfl
      · rw [if_neg h2, if_neg (by omega), if_neg (by omega)]
section
variable {α : Type} {cl : α → List Int} {T : TypeId} {k : Nat} {w w' : World} {lo lo' hi hi' : Nat} {v : Value} {xs : List α} {A : Option Addr} {n c : Nat}
theorem flat_setRun (hk : ∀ x, (cl x).length = k) {i : Nat} {x : α} (hi : i < xs.length) : setRun (flat cl xs) (i * k) (cl x) = flat cl (xs.set i x) := by
  rw [flat_set hk hi]
  have hl : (flat cl xs).length = xs.length * k := flat_len hk xs
  have hle : i * k + k ≤ xs.length * k := by rw [← Nat.succ_mul]; exact Nat.mul_le_mul_right k hi
  refine List.ext_getElem? fun j => ?_
  rw [setRun_get (by rw [hk, hl]; exact hle), hk, List.append_assoc]
  have ht : ((flat cl xs).take (i * k)).length = i * k := by rw [List.length_take, hl]; omega
  by_cases h1 : j < i * k
  · rw [if_pos h1, List.getElem?_append_left (by omega), List.getElem?_take_of_lt h1]
  · rw [if_neg h1, List.getElem?_append_right (by omega), ht]
    by_cases h2 : j < i * k + k
    · rw [if_pos h2, List.getElem?_append_left (by rw [hk]; omega)]
    · rw [if_neg h2, List.getElem?_append_right (by rw [hk]; omega), hk, List.getElem?_drop]
      congr 1; omega
theorem OwnS.nil (w : World) (lo hi : Nat) : OwnS cl T k w lo hi (.slice none 0 0) [] := ⟨⟨none, 0, rfl, World.ownsRow_nil _ _ _ _⟩, fun q h => by simp [Value.ownBlock] at h⟩
theorem OwnS.lit0 {W : World} (h : lo ≤ W.heap.size) : OwnS cl T k (W.alloc (.cells #[] T)) lo (W.heap.size + 1) (.slice (some ⟨W.heap.size, 0, none⟩) 0 0) [] :=
  ⟨⟨_, 0, rfl, World.ownsRow_lit W #[] 0 h (by simp) (by simp)⟩, fun q h => by simp [Value.ownBlock] at h; omega⟩
theorem OwnS.reads (h : OwnS cl T k w lo hi (.slice A n c) xs) : n = xs.length ∧ S64 cl w w.heap.size A xs := by
  obtain ⟨⟨A', c', he, ho⟩, _⟩ := h
  injection he with h1 h2 h3
  subst h1 h2 h3
  exact ⟨rfl, Rd.of_own ho⟩
theorem OwnS.rd (h : OwnS cl T k w lo hi (.slice A n c) xs) : S64 cl w w.heap.size A xs := h.reads.2
theorem OwnS.form (h : OwnS cl T k w lo hi v xs) : ∃ A c, v = .slice A xs.length c := by
  obtain ⟨⟨A, c, rfl, _⟩, _⟩ := h
  exact ⟨A, c, rfl⟩
theorem OwnS.lt (h : OwnS cl T k w lo hi v xs) : ∀ q, v.ownBlock = some q → lo ≤ q ∧ q < w.heap.size := by
  obtain ⟨⟨A', c', rfl, ho⟩, _⟩ := h
  exact ho.lt
theorem OwnS.kept (h : OwnS cl T k w lo hi v xs) {row : Option Nat} (hg : w.grownBy w' row) (hne : v.ownBlock = none ∨ v.ownBlock ≠ row) : OwnS cl T k w' lo hi v xs := by
  obtain ⟨⟨A', c', rfl, ho⟩, hq⟩ := h
  exact ⟨⟨A', c', rfl, ho.kept hg hne⟩, hq⟩
theorem OwnS.next (h : OwnS cl T k w lo hi v xs) (hb : Below w.heap.size w w') : OwnS cl T k w' lo hi v xs := h.kept (grownBy_of_below hb none) (by cases v.ownBlock <;> simp)
theorem OwnS.mono (h : OwnS cl T k w lo hi v xs) (hb : lo' ≤ lo) (hc : hi ≤ hi') : OwnS cl T k w lo' hi' v xs := by
  obtain ⟨⟨A', c', rfl, ho⟩, hq⟩ := h
  exact ⟨⟨A', c', rfl, Joins.ownsRow_le ho hb⟩, fun q h => Nat.lt_of_lt_of_le (hq q h) hc⟩
theorem OwnS.top (h : OwnS cl T k w lo hi v xs) : OwnS cl T k w lo w.heap.size v xs := ⟨h.1, fun q hq => (h.lt q hq).2⟩
theorem OwnS.apart (h : OwnS cl T k w lo hi v xs) (hw : Within lo' hi' w w') (hd : hi ≤ lo' ∨ hi' ≤ lo) : OwnS cl T k w' lo hi v xs := by
  obtain ⟨⟨A, c, rfl, h1, h2⟩, hq⟩ := h
  refine ⟨⟨A, c, rfl, h1, ?_⟩, hq⟩
  rcases h2 with h2 | ⟨g, cap, cur, q1, q2, q3, q4⟩
  · exact .inl h2
  · have hg : g < hi := hq g (by rw [q1]; rfl)
    exact .inr ⟨g, cap, cur, q1, q2, by rw [hw.block g (Array.getElem?_eq_some_iff.1 q3).1 (by omega)]; exact q3, q4⟩
theorem run_owns {g cap : Nat} {vs : List Int} : ∀ {w : World} {l : List Int} {o : Nat}, w.ownsRow lo T k (.slice (some ⟨g, 0, none⟩) n cap) n (l.map (Value.int .i64)) → (memRun w g o vs).ownsRow lo T k (.slice (some ⟨g, 0, none⟩) n cap) n ((setRun l o vs).map (Value.int .i64)) ∧ w.grownBy (memRun w g o vs) (some g) := by
  induction vs with
  | nil => intro w l o h; exact ⟨h, World.grownBy.refl _ _⟩
  | cons v vs ih =>
    intro w l o h
    have hs := h.stored o (.int .i64 v)
    rw [← List.map_set] at hs
    have h2 := ih (o := o + 1) hs.1
    exact ⟨h2.1, grownBy_trans hs.2 h2.2⟩
/-- an element of a row of the call's own: its cells, and how to store another into it -/
theorem OwnS.cell (hk : ∀ x, (cl x).length = k) (hk0 : 0 < k) {i : Nat} {x : α} (h : OwnS cl T k w lo hi (.slice A n c) xs) (hx : xs[i]? = some x) : ∃ g, A = some ⟨g, 0, none⟩ ∧ lo ≤ g ∧ g < hi ∧ g < w.heap.size ∧ (∀ (j : Nat) (v : Int), (cl x)[j]? = some v → w.cell? ⟨g, i * k + j, none⟩ = some (.int .i64 v)) ∧ (∀ o, w.frozen? ⟨g, o, none⟩ = false) ∧
    ∀ y : α, OwnS cl T k (memRun w g (i * k) (cl y)) lo hi (.slice (some ⟨g, 0, none⟩) n c) (xs.set i y) ∧ w.grownBy (memRun w g (i * k) (cl y)) (some g) := by
  obtain ⟨⟨A', c', he, ho⟩, hq⟩ := h
  injection he with h1 h2 h3
  subst h1 h2 h3
  have hi' : i < xs.length := (List.getElem?_eq_some_iff.1 hx).1
  obtain ⟨g, cap, hv, hb, hlt⟩ := ho.form (by omega)
  injection hv with h1 h2 h3
  subst h1 h3
  refine ⟨g, rfl, hb, hq g (by simp [Value.ownBlock]), hlt, fun j v hv => ?_, fun o => ho.frozenAt o, fun y => ?_⟩
  · have hj : j < k := by have := (List.getElem?_eq_some_iff.1 hv).1; rw [hk] at this; exact this
    have hle : i * k + k ≤ xs.length * k := by rw [← Nat.succ_mul]; exact Nat.mul_le_mul_right k hi'
    rw [ho.cellAt (i * k + j) (by omega), List.getElem?_map, flat_get hk hx hv]; rfl
  · have hs := run_owns (vs := cl y) (o := i * k) ho
    rw [flat_setRun hk hi'] at hs
    exact ⟨⟨⟨some ⟨g, 0, none⟩, c, by simp, by simpa using hs.1⟩, hq⟩, hs.2⟩
theorem below_of_grownS (h : w.grownBy w' v.ownBlock) (ho : OwnS cl T k w lo hi v xs) (hb : lo ≤ w.heap.size) : Below lo w w' :=
  ⟨h.os, h.tape, h.output, h.size, fun q hq => h.block q (by omega) (fun e => by have := ho.lt q e.symm; omega)⟩
end
/-- 'append(out, y)', y a struct in a block of its own -/
theorem push_S {α : Type} {cl : α → List Int} {ty T : TypeId} {k bytes : Nat} {z : Value} {ops : Array Oper} {rest : List Oper} {o : Oper} {a : Act} {Q : Exit → Act → World → Prop} {W : World} {y : α} {xs : List α} {v : Value} {lo hi t : Nat} (hk : ∀ x, (cl x).length = k) (hk0 : 0 < k)
    (hu : Tryz.prog.underlying ty = some (.slice T)) (hinfo : (Tryz.prog.info? T).map (fun i => (i.zero, i.size, i.bytes)) = some (some z, k, bytes)) (hzk : z.cells.size = k) (hbytes : bytes ≤ 1024) (hown : OwnS cl T k W lo hi v xs) (hcells : ∀ (j : Nat) (u : Int), (cl y)[j]? = some u → W.cell? ⟨t, j, none⟩ = some (.int .i64 u)) (hgd : o.guard = none) (s x : Operand)
    (ho : o.op = .call { callee := .builtin .append, args := #[s, x], argTypes := #[ty, ty] }) (hs : a.eval s = v) (hx : a.eval x = .slice (some ⟨t, 0, none⟩) 1 1) (hbase : lo ≤ W.heap.size) (hb : xs.length ≤ 1048576)
    (h : ∀ v' w', OwnS cl T k w' lo w'.heap.size v' (xs ++ [y]) → W.grownBy w' v.ownBlock → Below lo W w' → wpList Tryz.prog ops Q rest (a.put o.dst v') w') : wpList Tryz.prog ops Q (o :: rest) a W := by
  obtain ⟨i0, hi, hz0, hz1, hz2⟩ := info_parts hinfo
  have hown' := hown
  obtain ⟨⟨A, c, hv, hr⟩, hq⟩ := hown
  subst hv
  refine wpList_append_lies _ hgd s x ty ho lo T i0 _ k bytes hu hi hz0 hz1 hz2 hzk hk0 _ xs.length ((flat cl xs).map (Value.int .i64)) hs hr ⟨t, 0, none⟩ 1 1 ((cl y).map (Value.int .i64)) hx (by simp [hk]) (fun j u hu => ?_) (fun u hu => ?_) (by omega) (by simp only [maxLen]; omega) ?_ hbase _ rfl ?_
  · rw [List.getElem?_map, Option.map_eq_some_iff] at hu
    obtain ⟨u', hu', rfl⟩ := hu
    rw [add_get _ rfl]
    simpa using hcells j u' hu'
  · rw [List.mem_map] at hu
    obtain ⟨u', _, rfl⟩ := hu
    rfl
  · have := Nat.mul_le_mul (show xs.length + 1 ≤ 1048577 by omega) hbytes
    omega
  · intro g cap w1 h1 h2 h3 h4
    rw [← List.map_append, ← flat_snoc] at h1
    exact h _ _ ⟨⟨some ⟨g, 0, none⟩, cap, by simp, by simpa using h1⟩, fun q hq => (h1.lt q hq).2⟩ h2 (below_of_grownS h2 hown' hbase)
/-- the same at a step of a region that draws its order -/
theorem step_S {α : Type} {cl : α → List Int} {ty T : TypeId} {k bytes : Nat} {z : Value} {ops : Array Oper} {o : Oper} {a : Act} {K : Act → World → Prop} {Q : Exit → Act → World → Prop} {E : Prop} {W : World} {y : α} {xs : List α} {v : Value} {lo hi t : Nat} (hk : ∀ x, (cl x).length = k) (hk0 : 0 < k)
    (hu : Tryz.prog.underlying ty = some (.slice T)) (hinfo : (Tryz.prog.info? T).map (fun i => (i.zero, i.size, i.bytes)) = some (some z, k, bytes)) (hzk : z.cells.size = k) (hbytes : bytes ≤ 1024) (hown : OwnS cl T k W lo hi v xs) (hcells : ∀ (j : Nat) (u : Int), (cl y)[j]? = some u → W.cell? ⟨t, j, none⟩ = some (.int .i64 u)) (hgd : o.guard = none) (s x : Operand)
    (ho : o.op = .call { callee := .builtin .append, args := #[s, x], argTypes := #[ty, ty] }) (hs : a.eval s = v) (hx : a.eval x = .slice (some ⟨t, 0, none⟩) 1 1) (hbase : lo ≤ W.heap.size) (hb : xs.length ≤ 1048576)
    (h : ∀ v' w', OwnS cl T k w' lo w'.heap.size v' (xs ++ [y]) → W.grownBy w' v.ownBlock → Below lo W w' → K (a.put o.dst v') w') : if Region.wanted o (yielded ops a.tmps) = true then Oper.wp Tryz.prog o a W K Q else E := by
  obtain ⟨i0, hi, hz0, hz1, hz2⟩ := info_parts hinfo
  have hown' := hown
  obtain ⟨⟨A, c, hv, hr⟩, hq⟩ := hown
  subst hv
  refine step_append_lies _ hgd s x ty ho lo T i0 _ k bytes hu hi hz0 hz1 hz2 hzk hk0 _ xs.length ((flat cl xs).map (Value.int .i64)) hs hr ⟨t, 0, none⟩ 1 1 ((cl y).map (Value.int .i64)) hx (by simp [hk]) (fun j u hu => ?_) (fun u hu => ?_) (by omega) (by simp only [maxLen]; omega) ?_ hbase _ rfl ?_
  · rw [List.getElem?_map, Option.map_eq_some_iff] at hu
    obtain ⟨u', hu', rfl⟩ := hu
    rw [add_get _ rfl]
    simpa using hcells j u' hu'
  · rw [List.mem_map] at hu
    obtain ⟨u', _, rfl⟩ := hu
    rfl
  · have := Nat.mul_le_mul (show xs.length + 1 ≤ 1048577 by omega) hbytes
    omega
  · intro g cap w1 h1 h2 h3 h4
    rw [← List.map_append, ← flat_snoc] at h1
    exact h _ _ ⟨⟨some ⟨g, 0, none⟩, cap, by simp, by simpa using h1⟩, fun q hq => (h1.lt q hq).2⟩ h2 (below_of_grownS h2 hown' hbase)
/-- cells that 'make' lays, all 0 -/
theorem made_flat {α : Type} {cl : α → List Int} {k : Nat} {z : Value} {x0 : α} (hk : ∀ x, (cl x).length = k) (hk0 : 0 < k) (h0 : ∀ a ∈ cl x0, a = 0) (hz : z.cells.size = k) (hzc : ∀ j, j < k → z.cells[j]! = .int .i64 0) (n : Nat) :
    (madeCells z.cells (n * k)).toList = (flat cl (List.replicate n x0)).map (Value.int .i64) := by
  have e : flat cl (List.replicate n x0) = List.replicate (n * k) 0 := by
    refine List.eq_replicate_iff.2 ⟨by rw [flat_len hk, List.length_replicate], fun b hb => ?_⟩
    rw [flat, List.mem_flatMap] at hb
    obtain ⟨x, hx, hb⟩ := hb
    rw [(List.mem_replicate.1 hx).2] at hb
    exact h0 b hb
  rw [e, List.map_replicate]
  refine List.ext_getElem? fun i => ?_
  rcases Nat.lt_or_ge i (n * k) with hi | hi
  · have := hzc (i % z.cells.size) (by rw [hz]; exact Nat.mod_lt _ hk0)
    simp [madeCells, List.getElem?_replicate, hi, this]
  · simp [madeCells, List.getElem?_replicate, hi]
end Go.Proofs.YthbljfanoaibkaaGreatDoor
