/- Reading a mosaic's text: plain laws: both readers accept a text just when it is the text of a valid mosaic. No function of the program. -/
import Derived.Test.YtgokiedhdihamaaDoorRmA
namespace Go.Proofs.YtgokiedhdihamaaDoor
open Go.RowKit Go.ChangeShapes Go.WideShapes Go.ChangeAt
set_option linter.unusedVariables false
set_option linter.unusedSimpArgs false
/-- the program's reader of a cell -/
def cI (s : List UInt8) : Option (Int × Int) :=
  if s = [45] then some (-1, 0) else
  match nI (Lib.cut s [58]).1, nI (Lib.cut s [58]).2.1 with
  | some v, some g => if inB v 0 1000 && inB g 1 9 then some (v, g) else none
  | _, _ => none
/-- the reference's -/
def cS (s : List UInt8) : Option (Int × Int) :=
  if s = [45] then some (-1, 0) else
  match spl 58 s with
  | [a, b] => if (sS a).2 && (sS b).2 then some ((sS a).1, (sS b).1) else none
  | _ => none
def valB (v g : Int) : Prop := (v = -1 ∧ g = 0) ∨ ((0 ≤ v ∧ v ≤ 1000) ∧ 1 ≤ g ∧ g ≤ 9)
theorem nI_nil : nI [] = none := by simp [nI, Lib.parseIntB]
theorem cI_some {s : List UInt8} {v g : Int} (h : cI s = some (v, g)) : s = ctx v g ∧ valB v g := by
  unfold cI at h
  split at h
  · rename_i e
    simp only [Option.some.injEq, Prod.mk.injEq] at h
    obtain ⟨rfl, rfl⟩ := h
    exact ⟨by rw [e, ctx, if_pos rfl], .inl ⟨rfl, rfl⟩⟩
  · split at h
    · rename_i v' g' h1 h2
      split at h
      · rename_i hb
        simp only [Option.some.injEq, Prod.mk.injEq] at h
        obtain ⟨rfl, rfl⟩ := h
        simp only [Bool.and_eq_true] at hb
        have b1 := of_inB hb.1
        have b2 := of_inB hb.2
        refine ⟨?_, .inr ⟨b1, b2⟩⟩
        by_cases hc : (58 : UInt8) ∈ s
        · obtain ⟨a, r, rfl, ha⟩ := mem_split hc
          rw [cut_hit ha] at h1 h2
          have e1 := nI_some h1
          have e2 := nI_some h2
          simp only at e1 e2
          rw [ctx, if_neg (by omega), ← e1, ← e2]; simp
        · rw [cut_miss hc] at h2
          simp only [nI_nil] at h2
          cases h2
      · cases h
    · cases h
theorem dec_clean {u : Nat} {c : UInt8} (h : dgB c = false) : c ∉ Lib.decDigits u := fun hm => by
  have := List.all_eq_true.1 (dec_dg u) c hm
  rw [h] at this
  cases this
theorem ctx_form {v g : Int} (h : (0 ≤ v ∧ v ≤ 1000) ∧ 1 ≤ g ∧ g ≤ 9) : ∃ u k : Nat, v = (u : Int) ∧ g = (k : Int) ∧ u ≤ 1000 ∧ k ≤ 9 ∧ ctx v g = Lib.decDigits u ++ 58 :: Lib.decDigits k := by
  obtain ⟨u, rfl⟩ : ∃ u : Nat, v = (u : Int) := ⟨v.toNat, by omega⟩
  obtain ⟨k, rfl⟩ : ∃ k : Nat, g = (k : Int) := ⟨g.toNat, by omega⟩
  refine ⟨u, k, rfl, rfl, by omega, by omega, ?_⟩
  rw [ctx, if_neg (by omega), Lib.itoa_nonneg, Lib.itoa_nonneg]; simp
theorem c_ctx {v g : Int} (h : valB v g) : cI (ctx v g) = some (v, g) ∧ cS (ctx v g) = some (v, g) := by
  rcases h with ⟨rfl, rfl⟩ | h
  · have e : ctx (-1) 0 = [45] := by rw [ctx, if_pos rfl]
    rw [e]
    exact ⟨by unfold cI; rw [if_pos rfl], by unfold cS; rw [if_pos rfl]⟩
  · obtain ⟨u, k, rfl, rfl, hu, hk, e⟩ := ctx_form h
    rw [e]
    have hne : Lib.decDigits u ++ 58 :: Lib.decDigits k ≠ [45] := fun e2 => by
      have hh := congrArg List.length e2
      have h1 := List.length_pos_iff.2 (dec_ne u)
      simp at hh; omega
    have hc : (58 : UInt8) ∉ Lib.decDigits u := dec_clean (by decide)
    have hd : (58 : UInt8) ∉ Lib.decDigits k := dec_clean (by decide)
    have n1 := nI_dec (u := u) (by omega)
    have n2 := nI_dec (u := k) (by omega)
    have s1 := sS_dec (u := u) (by omega)
    have s2 := sS_dec (u := k) (by omega)
    rw [Lib.itoa_nonneg] at n1 n2 s1 s2
    constructor
    · unfold cI
      rw [if_neg hne, cut_hit hc]
      simp only [n1, n2]
      rw [if_pos (by rw [inB_t (by omega), inB_t (by omega)]; rfl)]
    · unfold cS
      have e3 : spl 58 (Lib.decDigits u ++ 58 :: Lib.decDigits k) = [Lib.decDigits u, Lib.decDigits k] := by
        rw [spl, sp_at _ _ hc, sp_clean _ _ hd]; simp
      rw [if_neg hne, e3]
      simp only [s1, s2]
      rfl
theorem ctx_clean {v g : Int} (h : valB v g) : (44 : UInt8) ∉ ctx v g ∧ (47 : UInt8) ∉ ctx v g := by
  rcases h with ⟨rfl, rfl⟩ | h
  · have e : ctx (-1) 0 = [45] := by rw [ctx, if_pos rfl]
    rw [e]; decide
  · obtain ⟨u, k, rfl, rfl, hu, hk, e⟩ := ctx_form h
    rw [e]
    have a1 := dec_clean (u := u) (c := 44) (by decide)
    have a2 := dec_clean (u := u) (c := 47) (by decide)
    have a3 := dec_clean (u := k) (c := 44) (by decide)
    have a4 := dec_clean (u := k) (c := 47) (by decide)
    simp only [List.mem_append, List.mem_cons, not_or]
    exact ⟨⟨a1, by decide, a3⟩, a2, by decide, a4⟩
theorem mem_join {c d : UInt8} : ∀ {parts : List (List UInt8)}, c ∈ Lib.join parts [d] → c = d ∨ ∃ p ∈ parts, c ∈ p
  | [], h => by rw [Lib.join_nil] at h; simp at h
  | [x], h => by rw [Lib.join_one] at h; exact .inr ⟨x, by simp, h⟩
  | x :: y :: r, h => by
    rw [join_two] at h
    simp only [List.mem_append, List.mem_singleton] at h
    rcases h with h | h | h
    · exact .inr ⟨x, by simp, h⟩
    · exact .inl h
    · rcases mem_join h with h | ⟨p, hp, h⟩
      · exact .inl h
      · exact .inr ⟨p, List.mem_cons_of_mem _ hp, h⟩
/-! the whole text -/
def celO (s : List UInt8) : List (List UInt8) := (spl 47 s).flatMap (spl 44)
def rdX (f : List UInt8 → Option (Int × Int)) (cells : List (List UInt8)) : List Int := cells.map fun c => ((f c).getD (0, 0)).1
def rdY (f : List UInt8 → Option (Int × Int)) (cells : List (List UInt8)) : List Int := cells.map fun c => ((f c).getD (0, 0)).2
def okC (f : List UInt8 → Option (Int × Int)) (cells : List (List UInt8)) : Bool := cells.all fun c => (f c).isSome
def wid (s : List UInt8) : Nat := (spl 44 ((spl 47 s).getD 0 [])).length
def hig (s : List UInt8) : Nat := (spl 47 s).length
def okW (s : List UInt8) : Bool := (spl 47 s).all fun r => decide ((spl 44 r).length = wid s)
def okI (s : List UInt8) : Bool := okW s && (okC cI (celO s) && mosB (wid s) (hig s) (rdX cI (celO s)) (rdY cI (celO s)))
def okS (s : List UInt8) : Bool := okC cS (celO s) && decide (mtT (wid s) (hig s) (rdX cS (celO s)) (rdY cS (celO s)) = s)
theorem flat_at {p : Nat} : ∀ {rows : List (List UInt8)}, (∀ r ∈ rows, (spl 44 r).length = p) → (rows.flatMap (spl 44)).length = rows.length * p ∧ ∀ (y x : Nat) (r : List UInt8), rows[y]? = some r → x < p → (rows.flatMap (spl 44))[y * p + x]? = (spl 44 r)[x]?
  | [], _ => by simp
  | a :: rows, h => by
    have ha := h a (by simp)
    obtain ⟨ih1, ih2⟩ := flat_at (p := p) (rows := rows) (fun r hr => h r (List.mem_cons_of_mem _ hr))
    refine ⟨by rw [List.flatMap_cons, List.length_append, ih1, ha, List.length_cons, Nat.succ_mul, Nat.add_comm], fun y x r hy hx => ?_⟩
    rw [List.flatMap_cons]
    cases y with
    | zero =>
      simp only [List.getElem?_cons_zero, Option.some.injEq] at hy
      subst hy
      rw [Nat.zero_mul, Nat.zero_add, List.getElem?_append_left (by omega)]
    | succ y =>
      simp only [List.getElem?_cons_succ] at hy
      rw [List.getElem?_append_right (by rw [ha, Nat.succ_mul]; omega), ha, ← ih2 y x r hy hx]
      congr 1
      rw [Nat.succ_mul]; omega
theorem text_of {s : List UInt8} {xs ys : List Int} {p : Nat} (hw : ∀ r ∈ spl 47 s, (spl 44 r).length = p) (hp : 1 ≤ p) (hc : ∀ (i : Nat) (c : List UInt8), (celO s)[i]? = some c → c = cxt xs ys i) : sxk p xs ys (p * hig s) = s := by
  have hf := flat_at hw
  have hrow : ∀ (y : Nat) (r : List UInt8), (spl 47 s)[y]? = some r → rowT p xs ys y = r := fun y r hy => by
    have e : rowc p xs ys y p = spl 44 r := by
      apply List.ext_getElem?
      intro x
      by_cases hx : x < p
      · obtain ⟨c, hcx⟩ := get_of_lt (xs := spl 44 r) (k := x) (by rw [hw r (List.mem_of_getElem? hy)]; exact hx)
        have h1 := hf.2 y x r hy hx
        rw [hcx] at h1
        have h2 := hc _ _ h1
        rw [hcx, rowc, List.getElem?_map, List.getElem?_range hx]
        simp [h2]
      · rw [List.getElem?_eq_none (by rw [rowc_len]; omega), List.getElem?_eq_none (by rw [hw r (List.mem_of_getElem? hy)]; omega)]
    rw [rowT, e, join_spl]
  have e : rowsk p xs ys (hig s) = spl 47 s := by
    apply List.ext_getElem?
    intro y
    by_cases hy : y < hig s
    · obtain ⟨r, hr⟩ := get_of_lt (xs := spl 47 s) (k := y) hy
      rw [hr, rowsk, List.getElem?_map, List.getElem?_range hy]
      simp [hrow y r hr]
    · rw [List.getElem?_eq_none (by rw [rowsk_len]; omega), List.getElem?_eq_none (by unfold hig at hy; omega)]
  rw [Nat.mul_comm, sxk_rows hp, e, join_spl]
theorem rd_at {f : List UInt8 → Option (Int × Int)} {cells : List (List UInt8)} {i : Nat} {c : List UInt8} (h : cells[i]? = some c) : (rdX f cells).getD i 0 = ((f c).getD (0, 0)).1 ∧ (rdY f cells).getD i 0 = ((f c).getD (0, 0)).2 := by
  constructor <;> simp [rdX, rdY, List.getD, h]
theorem rd_same {cells : List (List UInt8)} (h : ∀ c ∈ cells, cI c = cS c) : rdX cI cells = rdX cS cells ∧ rdY cI cells = rdY cS cells ∧ okC cI cells = okC cS cells := by
  refine ⟨List.map_congr_left fun c hc => by rw [h c hc], List.map_congr_left fun c hc => by rw [h c hc], ?_⟩
  unfold okC
  rw [Bool.eq_iff_iff, List.all_eq_true, List.all_eq_true]
  exact ⟨fun a c hc => by rw [← h c hc]; exact a c hc, fun a c hc => by rw [h c hc]; exact a c hc⟩
/-- the program accepts: so does the reference -/
theorem okI_imp {s : List UInt8} (h : okI s = true) : (∀ c ∈ celO s, cI c = cS c) ∧ okS s = true := by
  simp only [okI, Bool.and_eq_true] at h
  obtain ⟨hw, hc, hm⟩ := h
  have hsame : ∀ c ∈ celO s, cI c = cS c := fun c hcm => by
    obtain ⟨⟨v, g⟩, hv⟩ := Option.isSome_iff_exists.1 (List.all_eq_true.1 hc c hcm)
    obtain ⟨e, hval⟩ := cI_some hv
    rw [e, (c_ctx hval).1, (c_ctx hval).2]
  refine ⟨hsame, ?_⟩
  obtain ⟨e1, e2, e3⟩ := rd_same hsame
  have hw2 : ∀ r ∈ spl 47 s, (spl 44 r).length = wid s := fun r hr => of_decide_eq_true (List.all_eq_true.1 hw r hr)
  have hp := (mos_facts hm).1
  have ht : sxk (wid s) (rdX cI (celO s)) (rdY cI (celO s)) (wid s * hig s) = s := text_of hw2 (by omega) fun i c hi => by
    obtain ⟨⟨v, g⟩, hv⟩ := Option.isSome_iff_exists.1 (List.all_eq_true.1 hc c (List.mem_of_getElem? hi))
    obtain ⟨a, b⟩ := rd_at (f := cI) hi
    rw [hv] at a b
    rw [cxt, a, b]
    exact (cI_some hv).1
  unfold okS
  rw [← e1, ← e2, ← e3, hc, Bool.true_and]
  apply decide_eq_true
  unfold mtT
  rw [hm, if_pos rfl]
  exact ht
/-- the reference accepts: so does the program -/
theorem okS_imp {s : List UInt8} (h : okS s = true) : (∀ c ∈ celO s, cI c = cS c) ∧ okI s = true := by
  simp only [okS, Bool.and_eq_true] at h
  obtain ⟨hc, ht⟩ := h
  have ht := of_decide_eq_true ht
  obtain ⟨xs, hxs⟩ : ∃ z, z = rdX cS (celO s) := ⟨_, rfl⟩
  obtain ⟨ys, hys⟩ : ∃ z, z = rdY cS (celO s) := ⟨_, rfl⟩
  rw [← hxs, ← hys] at ht
  have hm : mosB (wid s) (hig s) xs ys = true := by
    cases hm : mosB (wid s) (hig s) xs ys
    · exfalso
      unfold mtT at ht
      rw [hm] at ht
      simp at ht
      subst ht
      have : okC cS (celO []) = false := by decide
      rw [this] at hc
      cases hc
    · rfl
  obtain ⟨hp, hq, hn, hyl, _, _, _⟩ := mos_facts hm
  have hP : 1 ≤ wid s := by omega
  have hNN : xs.length = wid s * hig s := by
    have : ((xs.length : Nat) : Int) = ((wid s * hig s : Nat) : Int) := by rw [hn, Int.natCast_mul]
    omega
  have hval : ∀ i, i < xs.length → valB (xs.getD i 0) (ys.getD i 0) := fun i hi => by
    obtain ⟨x, hx⟩ := get_of_lt hi
    obtain ⟨y, hy⟩ := get_of_lt (xs := ys) (k := i) (by omega)
    rw [mget_of hx, mget_of hy]
    exact mos_cell hm hx hy
  have hts : Lib.join (rowsk (wid s) xs ys (hig s)) [47] = s := by
    rw [← sxk_rows hP, Nat.mul_comm]
    unfold mtT at ht
    rw [hm, if_pos rfl] at ht
    exact ht
  have hlt : ∀ y x, y < hig s → x < wid s → y * wid s + x < xs.length := fun y x hy hx => by
    rw [hNN, Nat.mul_comm (wid s)]
    calc _ < y * wid s + wid s := by omega
      _ = (y + 1) * wid s := by rw [Nat.succ_mul]
      _ ≤ _ := Nat.mul_le_mul_right _ hy
  have hcell : ∀ y c, y < hig s → c ∈ rowc (wid s) xs ys y (wid s) → ∃ v g, valB v g ∧ c = ctx v g := fun y c hy hcm => by
    simp only [rowc, List.mem_map, List.mem_range] at hcm
    obtain ⟨x, hx, rfl⟩ := hcm
    exact ⟨_, _, hval _ (hlt y x hy hx), rfl⟩
  have hrow : ∀ y, y < hig s → spl 44 (rowT (wid s) xs ys y) = rowc (wid s) xs ys y (wid s) := fun y hy => by
    refine spl_join _ (fun e => ?_) (fun c hcm => ?_)
    · have := congrArg List.length e
      rw [rowc_len] at this
      simp at this; omega
    · obtain ⟨v, g, hv, rfl⟩ := hcell y c hy hcm
      exact (ctx_clean hv).1
  have hrows : spl 47 s = rowsk (wid s) xs ys (hig s) := by
    have := spl_join (c := 47) (rowsk (wid s) xs ys (hig s)) (fun e => by
      have := congrArg List.length e
      rw [rowsk_len] at this
      simp at this; omega) (fun r hr hbad => by
      simp only [rowsk, List.mem_map, List.mem_range] at hr
      obtain ⟨y, hy, rfl⟩ := hr
      rcases mem_join hbad with e | ⟨c, hcm, hbad⟩
      · exact absurd e (by decide)
      · obtain ⟨v, g, hv, rfl⟩ := hcell y c hy hcm
        exact (ctx_clean hv).2 hbad)
    rw [hts] at this
    exact this
  have hmemc : ∀ c ∈ celO s, ∃ v g, valB v g ∧ c = ctx v g := fun c hcm => by
    rw [celO, hrows] at hcm
    simp only [List.mem_flatMap, rowsk, List.mem_map, List.mem_range] at hcm
    obtain ⟨r, ⟨y, hy, rfl⟩, hcm⟩ := hcm
    rw [hrow y hy] at hcm
    exact hcell y c hy hcm
  have hsame : ∀ c ∈ celO s, cI c = cS c := fun c hcm => by
    obtain ⟨v, g, hv, rfl⟩ := hmemc c hcm
    rw [(c_ctx hv).1, (c_ctx hv).2]
  refine ⟨hsame, ?_⟩
  obtain ⟨e1, e2, e3⟩ := rd_same hsame
  unfold okI
  rw [e1, e2, e3, hc, ← hxs, ← hys, hm]
  have : okW s = true := by
    unfold okW
    rw [List.all_eq_true]
    intro r hr
    rw [hrows] at hr
    simp only [rowsk, List.mem_map, List.mem_range] at hr
    obtain ⟨y, hy, rfl⟩ := hr
    rw [hrow y hy, rowc_len]
    simp
  rw [this]; rfl
/-- both readers accept the same texts, with the same cells -/
theorem ok_same (s : List UInt8) : okI s = okS s := by
  cases h : okI s
  · cases h2 : okS s
    · rfl
    · rw [(okS_imp h2).2] at h; cases h
  · exact ((okI_imp h).2).symm
theorem ok_cells {s : List UInt8} (h : okI s = true) : rdX cI (celO s) = rdX cS (celO s) ∧ rdY cI (celO s) = rdY cS (celO s) := by
  obtain ⟨a, b, _⟩ := rd_same (okI_imp h).1
  exact ⟨a, b⟩
end Go.Proofs.YtgokiedhdihamaaDoor
