/- Slices of slices of contacts: words, opened, sized, copied, compared, marked. -/
import Derived.Test.YtmojjdflihakkaaSSLaw
import Derived.Test.YtmojjdflihakkaaIITo
namespace Go.Proofs.Ytmojjdflihakkaa
open Go.RowKit Go.ChangeShapes Go.WideShapes Go.ChangeAt
set_option linter.unusedVariables false
set_option linter.unusedSimpArgs false
abbrev Cts := List (Int × Int)
/-- a slice of slices of contacts -/
def CC64 (w : World) (B : Nat) (A : Option Addr) (css : List Cts) : Prop :=
  css = [] ∨ ∃ b o, A = some ⟨b, o, none⟩ ∧ b < B ∧ ∀ (i : Nat) (cs : Cts), css[i]? = some cs → ∃ A' c', w.cell? ⟨b, o + i, none⟩ = some (.slice A' cs.length c') ∧ C64 w B A' cs
section
variable {w w' : World} {B B' : Nat} {A : Option Addr} {css : List Cts}
theorem CC64.below (h : CC64 w B A css) (hb : Below B w w') : CC64 w' B A css := by
  rcases h with h | ⟨b, o, h1, h2, h3⟩
  · exact .inl h
  · refine .inr ⟨b, o, h1, h2, fun i cs hx => ?_⟩
    obtain ⟨A', c', h4, h5⟩ := h3 i cs hx
    exact ⟨A', c', (hb.cell (p := ⟨b, o + i, none⟩) h2).trans h4, h5.below hb⟩
theorem CC64.more (h : CC64 w B A css) (hB : B ≤ B') : CC64 w B' A css := by
  rcases h with h | ⟨b, o, h1, h2, h3⟩
  · exact .inl h
  · refine .inr ⟨b, o, h1, by omega, fun i cs hx => ?_⟩
    obtain ⟨A', c', h4, h5⟩ := h3 i cs hx
    exact ⟨A', c', h4, h5.more hB⟩
theorem CC64.up (h : CC64 w w.heap.size A css) (hb : Below w.heap.size w w') : CC64 w' w'.heap.size A css := (h.below hb).more hb.size
theorem CC64.at_ {i : Nat} {cs : Cts} (h : CC64 w B A css) (hx : css[i]? = some cs) : ∃ b o A' c', A = some ⟨b, o, none⟩ ∧ b < B ∧ w.cell? ⟨b, o + i, none⟩ = some (.slice A' cs.length c') ∧ C64 w B A' cs := by
  rcases h with h | ⟨b, o, h1, h2, h3⟩
  · rw [h] at hx; simp at hx
  · obtain ⟨A', c', h4, h5⟩ := h3 i cs hx
    exact ⟨b, o, A', c', h1, h2, h4, h5⟩
end
section
variable {H : Type} {enc : TypeId × Value → H} {P : Program} {w : World} {sp : Nat → Bool}
theorem open_cell_CC64 {t e f : TypeId} {cs : List Value} {fuel : Nat} {x : DataW H × List MemPlace} (ht : P.underlying t = some (.slice e)) (he : P.underlying e = some (.slice f)) (hF : FlatI enc P w 0 sp true f 2) (hc : P.cellsOf e = 1) (hd : P.cellsOf f = 2)
    (h : DataW.trod enc P w 0 sp true fuel t cs = some x) :
    ∃ A c, ∃ css : List Cts, cs = [.slice A css.length c] ∧ CC64 w w.heap.size A css ∧ css.length ≤ maxLen ∧ ∀ (i : Nat) (cs : Cts), css[i]? = some cs → cs.length ≤ maxLen := by
  rcases DataW.trod_slice ht h with ⟨h0, _⟩ | ⟨a, len, cap, elems, rest, n, _, rfl, _, _, hl, hm, hlen, hel, _, _⟩
  · exact ⟨none, 0, [], h0, .inl rfl, by simp, fun i xs h => by simp at h⟩
  · have each : ∀ i, i < len → ∃ xs : Cts, (∃ A' c', w.cell? (a.add i) = some (.slice A' xs.length c') ∧ C64 w w.heap.size A' xs) ∧ xs.length ≤ maxLen := fun i hi => by
      have h1 := hel i hi
      rw [hc, Nat.mul_one, List.getElem?_eq_getElem (by omega), Option.bind_eq_some_iff] at h1
      obtain ⟨cs', hcs, hy⟩ := h1
      obtain ⟨A', c', xs, rfl, h2, h3⟩ := open_cell_S64 (mk := ctm) ctm_inv he hF hd (by omega) hy
      exact ⟨xs, ⟨A', c', cell_of_cells?_one hcs, h2⟩, h3⟩
    obtain ⟨xss, hx1, hx2⟩ := list_choose len each
    refine ⟨some a, cap, xss, by rw [hx1], ?_, by omega, fun i xs h => (hx2 i xs h).2⟩
    rcases Nat.eq_zero_or_pos len with h0 | h0
    · left; exact List.eq_nil_of_length_eq_zero (by omega)
    · right
      obtain ⟨xs0, hx0⟩ : ∃ y, xss[0]? = some y := ⟨_, List.getElem?_eq_getElem (by omega)⟩
      obtain ⟨⟨A', c', h1, _⟩, _⟩ := hx2 0 xs0 hx0
      have hs : a.spot = none := by
        unfold World.cell? Addr.add at h1
        simp at h1
        split at h1
        · split at h1
          · cases h1
          · rename_i hq; simpa using hq
        · cases h1
      refine ⟨a.block, a.off, by cases a; simp_all, ?_, fun i xs h => ?_⟩
      · have := World.block_lt_of_cell? w _ h1
        rw [add_get _ hs] at this
        exact this
      · obtain ⟨⟨A2, c2, h2, h3⟩, _⟩ := hx2 i xs h
        rw [add_get _ hs] at h2
        exact ⟨A2, c2, h2, h3⟩
theorem open_CC64 {t e f : TypeId} {v : Value} {d : DataW H} {p : List MemPlace} (ht : P.underlying t = some (.slice e)) (he : P.underlying e = some (.slice f)) (hF : FlatI enc P w 0 sp true f 2) (hc : P.cellsOf e = 1) (hd : P.cellsOf f = 2)
    {base : Nat} {r : Reach} (hv : Value.okWide P w r base t v) (h : DataW.Trod enc P w 0 sp true t v d p) :
    ∃ A c, ∃ css : List Cts, v = .slice A css.length c ∧ CC64 w w.heap.size A css ∧ css.length ≤ maxLen ∧ ∀ (i : Nat) (cs : Cts), css[i]? = some cs → cs.length ≤ maxLen := by
  obtain ⟨a, len, cap, rfl⟩ := okWide_slice ht hv
  obtain ⟨fuel, hq⟩ := h
  obtain ⟨A, c, xss, h1, h2, h3, h4⟩ := open_cell_CC64 ht he hF hc hd hq
  simp [Value.cells] at h1
  obtain ⟨rfl, rfl, rfl⟩ := h1
  exact ⟨_, _, xss, rfl, h2, h3, h4⟩
end
/-- the rows' lengths, as rows of numbers -/
def lz (css : List Cts) : List (List Int) := css.map fun cs => cs.map Prod.fst
theorem lz_len {css : List Cts} : (lz css).length = css.length := by simp [lz]
theorem lz_get {css : List Cts} {i : Nat} {cs : Cts} (h : css[i]? = some cs) : (lz css)[i]? = some (cs.map Prod.fst) := by simp [lz, h]
theorem lz_facts {left : Int} {css : List Cts} (h0 : 0 ≤ left) (h : ¬ fszz left (lz css) < 0) : (css.length : Int) ≤ left ∧ ∀ (i : Nat) (cs : Cts), css[i]? = some cs → (cs.length : Int) ≤ left := by
  have h1 := fszz_facts h0 h
  rw [lz_len] at h1
  exact ⟨h1.1, fun i cs hc => by have := h1.2 i _ (lz_get hc); simpa using this⟩
theorem laws_szContactSS (A : Option Addr) (c : Nat) (css : List Cts) (left : Int) (w : World) (hr : CC64 w w.heap.size A css) (h0 : 0 ≤ left) (h1 : left ≤ 1048576) (hn : css.length ≤ maxLen) (hm : ∀ (i : Nat) (cs : Cts), css[i]? = some cs → cs.length ≤ maxLen) :
    Calls Try.prog 13 #[.slice A css.length c, .int .i64 left] w fun e w' => e = .returned (.int .i64 (fszz left (lz css))) ∧ w = w' := by
  have hn' := hn
  unfold maxLen at hn'
  by_cases hneg : left - css.length < 0
  · have e : fszz left (lz css) = -1 := by
      have : fszk left (lz css) 0 = -1 := by simp [fszk, fsz, lz_len, hneg]
      have := fszk_neg this (lz css).length
      rw [Nat.zero_add] at this
      exact this
    rw [e]
    go_enter Try.func13, Try.ntmps13
    go_wp2
    go_ret
    exact ⟨rfl, rfl⟩
  · have e0 : fszk left (lz css) 0 = left - css.length := by simp [fszk, fsz, lz_len, hneg]
    go_enter Try.func13, Try.ntmps13
    go_wp2
    go_loop [1, 5] (fun l i => ∃ k : Nat, k ≤ css.length ∧ i = .int .i64 k ∧ l = .int .i64 (fszk left (lz css) k) ∧ 0 ≤ fszk left (lz css) k) (fun _ i => css.length - (intOf i).toNat)
    case atStart => exact ⟨0, Nat.zero_le _, rfl, by rw [e0], by rw [e0]; omega⟩
    case round =>
      obtain ⟨k, hk, rfl, rfl, hge⟩ := hrel
      by_cases hlt : k < css.length
      · obtain ⟨cs, hx⟩ := get_of_lt hlt
        obtain ⟨b, o, A', c', rfl, hb, hc, hi⟩ := hr.at_ hx
        have hml := hm k cs hx
        have hs := fszk_succ (left := left) (lz_get hx)
        rw [List.length_map] at hs
        have hle := fszk_le (xss := lz css) h0 (k := k)
        have hge2 := fszk_ge (left := left) (xss := lz css) (k := k + 1)
        have hx' := Lib.hid hx
        have hs' := Lib.hid hs
        clear hx hs
        by_cases hneg2 : fsz (fszk left (lz css) k) cs.length < 0
        · have e : fszz left (lz css) = -1 := by
            have : fszk left (lz css) (k + 1) = -1 := by rw [hs'.out] at hge2 ⊢; omega
            have := fszk_neg this (css.length - (k + 1))
            rw [show k + 1 + (css.length - (k + 1)) = (lz css).length by rw [lz_len]; omega] at this
            exact this
          go_wp2_with (go_at_call 50; refine (laws_szContactS _ _ _ _ _ (by omega) (by omega) hml).mono ?_; rintro e w' ⟨rfl, rfl⟩)
          go_ret
          exact ⟨ret_int e.symm, rfl⟩
        · go_wp2_with (go_at_call 50; refine (laws_szContactS _ _ _ _ _ (by omega) (by omega) hml).mono ?_; rintro e w' ⟨rfl, rfl⟩)
          go_round
          case rel => exact ⟨k + 1, by omega, by go_num, by rw [hs'.out], by rw [hs'.out]; omega⟩
          case measure => simp [intOf]; omega
      · have e := Lib.hid (show fszz left (lz css) = fszk left (lz css) k by rw [fszz, lz_len, show k = css.length by omega])
        go_wp2
        go_ret
        exact ⟨ret_int (by rw [e.out]), rfl⟩
theorem contacts_info : (Try.prog.info? 75).map (fun i => (i.zero, i.size, i.bytes)) = some (some (.slice none 0 0), 1, 24) := by kernel_rfl
theorem OwnC.off {w : World} {base : Nat} {v : Value} {cs : Cts} (h : OwnC w base v cs) {X o : Nat} (hX : X < base) (u : Value) : OwnC (w.setCell ⟨X, o, none⟩ u) base v cs :=
  h.kept (row := some X) ⟨rfl, rfl, rfl, by simp [World.setCell], fun i hi hne => Below.heap_setCell w ⟨X, o, none⟩ u i (fun e => hne (by rw [e]))⟩
    (by cases hv : v.ownBlock with
        | none => simp
        | some k => have := h.lt k hv; right; simp; omega)
/-- a slice of slices of contacts that the call made in the blocks lo .. hi - 1, its rows apart -/
def OwnCC (w : World) (lo hi : Nat) (v : Value) (css : List Cts) : Prop :=
  ∃ (g : Nat) (zs : List Value), v = .slice (some ⟨g, 0, none⟩) css.length css.length ∧ lo ≤ g ∧ g < hi ∧ g < w.heap.size ∧ zs.length = css.length ∧ (∀ (j : Nat) (z : Value), zs[j]? = some z → w.cell? ⟨g, j, none⟩ = some z) ∧
    (∀ (j : Nat) (z : Value) (cs : Cts), zs[j]? = some z → css[j]? = some cs → OwnC w (g + 1) z cs ∧ ∀ k, z.ownBlock = some k → k < hi) ∧
    (∀ (i j : Nat) (zi zj : Value), i < j → zs[i]? = some zi → zs[j]? = some zj → zi.ownBlock ≠ zj.ownBlock)
section
variable {w w' : World} {lo hi : Nat} {v : Value} {A : Option Addr} {n c : Nat} {css : List Cts}
theorem OwnCC.next (h : OwnCC w lo hi v css) (hb : Below w.heap.size w w') : OwnCC w' lo hi v css := by
  obtain ⟨g, zs, h1, h2, h3, h4, h5, h6, h7, h8⟩ := h
  exact ⟨g, zs, h1, h2, h3, Nat.lt_of_lt_of_le h4 hb.size, h5, fun j z hz => (hb.cell (p := ⟨g, j, none⟩) h4).trans (h6 j z hz), fun j z xs hz hx => ⟨(h7 j z xs hz hx).1.below hb, (h7 j z xs hz hx).2⟩, h8⟩
theorem OwnCC.rd (h : OwnCC w lo hi (.slice A n c) css) : CC64 w w.heap.size A css := by
  obtain ⟨g, zs, h1, h2, h3, h4, h5, h6, h7, h8⟩ := h
  injection h1 with h1 _ _
  subst h1
  refine .inr ⟨g, 0, rfl, h4, fun i xs hx => ?_⟩
  obtain ⟨z, hz⟩ := get_of_lt (xs := zs) (k := i) (by have := lt_of_get hx; omega)
  have ho := (h7 i z xs hz hx).1
  obtain ⟨A', c', rfl, _⟩ := id ho
  exact ⟨A', c', by rw [Nat.zero_add]; exact h6 i _ hz, ho.reads.2⟩
end
theorem laws_toContactSSR (A : Option Addr) (c : Nat) (css : List Cts) (w : World) (hr : CC64 w w.heap.size A css) (hl : css.length ≤ 1048576) (hm : ∀ (i : Nat) (cs : Cts), css[i]? = some cs → cs.length ≤ 1048576) :
    Calls Try.prog 16 #[.slice A css.length c] w fun e w' => ∃ g, e = .returned (.slice (some ⟨g, 0, none⟩) css.length css.length) ∧ OwnCC w' w.heap.size w'.heap.size (.slice (some ⟨g, 0, none⟩) css.length css.length) css ∧ Below w.heap.size w w' := by
  obtain ⟨i0, hi, hz0, hz1, hz2⟩ := info_parts contacts_info
  have hr0 := hr
  go_enter Try.func16, Try.ntmps16
  go_wp2_with (at_make; refine wpList_make_full _ rfl _ _ 34 rfl w.heap.size 75 i0 _ 1 Try.underlying34 hi hz0 hz1 .i64 .i64 _ _ css.length rfl rfl rfl rfl (by rw [hz2]; omega) (by simp only [maxLen]; omega) (Nat.le_refl _) ?_; intro w1 hown hg)
  have hb1 : Below w.heap.size w w1 := ⟨hg.os, hg.tape, hg.output, hg.size, fun k hk => hg.block k hk (by simp)⟩
  clear hg hr
  have hlt1 : w.heap.size < w1.heap.size := hown.lt w.heap.size rfl |>.2
  go_loopw [4] (fun i wr => ∃ k : Nat, ∃ zs : List Value, k ≤ css.length ∧ i = .int .i64 k ∧ zs.length = css.length ∧ Hid (∀ (j : Nat) (cs : Cts), j < k → css[j]? = some cs → ∃ v', zs[j]? = some v' ∧ OwnC wr (w.heap.size + 1) v' cs) ∧ Hid (∀ (i j : Nat) (zi zj : Value), i < j → j < k → zs[i]? = some zi → zs[j]? = some zj → zi.ownBlock ≠ zj.ownBlock) ∧ wr.ownsRow w.heap.size 75 1 (.slice (some ⟨w.heap.size, 0, none⟩) css.length css.length) css.length zs ∧ Below w.heap.size w wr ∧ w.heap.size < wr.heap.size) (fun i _ => css.length - (intOf i).toNat)
  case atStart => exact ⟨0, List.replicate css.length (.slice none 0 0), Nat.zero_le _, rfl, by simp, fun j xs hj => absurd hj (by omega), fun i j zi zj _ hj => absurd hj (by omega), by have h := hown; simp only [show (Value.slice none 0 0).cells = #[Value.slice none 0 0] from rfl, Nat.mul_one, toList_madeCells_one] at h; simpa using h, hb1, hlt1⟩
  case round =>
    obtain ⟨k, zs, hk, rfl, hz, ht, hdi, ho, hbr, hsz⟩ := hrel
    have hz' := Lib.hid hz
    clear hz hb1 hown
    by_cases hlt : k < css.length
    · obtain ⟨cs, hx⟩ := get_of_lt hlt
      obtain ⟨b, o, A', c', rfl, hb, hc, hi2⟩ := (hr0.below hbr).at_ hx
      have hml := hm k cs hx
      have hx' := Lib.hid hx
      clear hx
      obtain ⟨z, hzk⟩ := get_of_lt (xs := zs) (k := k) (by have := hz'.out; omega)
      have hzk' := Lib.hid hzk
      have htH := Lib.hid ht.out
      have hdH := Lib.hid hdi.out
      clear hzk ht hdi
      repeat' (first | fail | go_values | go_skip | go_guarded | go_step | go_upon | (simp only []; go_step) | (go_ite <;> go_prune <;> (try go_simp)))
      refine (laws_toContactS A' c' cs wr (hi2.more (by omega)) hml).mono ?_
      rintro e w2 ⟨g, rfl, ho2, hb2⟩
      have ho3 := ho.kept (grownBy_of_below hb2 none) (by cases (Value.slice (some ⟨w.heap.size, 0, none⟩) css.length css.length).ownBlock <;> simp)
      have hcell : w2.cell? ⟨w.heap.size, k, none⟩ = some z := by rw [ho3.cellAt k (by omega), hzk'.out]
      have hfr := ho3.frozenAt k
      have hst := (ho3.stored k (.slice (some ⟨g, 0, none⟩) cs.length cs.length)).1
      have hsz2 := hb2.size
      have hnew : wr.heap.size ≤ g := (ho2.lt g rfl).1
      have hown2 : OwnC w2 (w.heap.size + 1) (.slice (some ⟨g, 0, none⟩) cs.length cs.length) cs := OwnC.mono ho2 (by omega)
      clear ho ho3
      repeat' (first | fail | go_values | go_skip | go_guarded | go_step | go_upon | (simp only []; go_step) | (go_ite <;> go_prune <;> (try go_simp)))
      refine ⟨⟨k + 1, zs.set k (.slice (some ⟨g, 0, none⟩) cs.length cs.length), by omega, by go_num, by simpa using hz'.out, fun j ys hj hy => ?_, fun i j zi zj hij hj hzi hzj => ?_, hst, by repeat' (first | (with_reducible exact Below.refl _ _) | (with_reducible assumption) | (with_reducible refine Below.new ?_ _) | (with_reducible refine Below.alloc ?_ ?_ _) | (with_reducible refine Below.drew ?_) | (with_reducible refine below_drewN ?_ _) | (with_reducible refine Below.setCell ?_ ?_ _) | (refine Below.next ?_ (by with_reducible assumption)) | (refine Below.row ?_ (by with_reducible assumption) (by omega)) | (refine Below.trans ?_ (by with_reducible assumption)) | (refine Below.after ?_ ?_ (by with_reducible assumption)) | go_size), by simp only [World.size_setCell]; omega⟩, by simp [intOf]; omega⟩
      · rcases Nat.lt_or_ge j k with h | h
        · obtain ⟨v', h1, h2⟩ := htH.out j ys h hy
          exact ⟨v', by rw [List.getElem?_set_ne (by omega)]; exact h1, (h2.below hb2).off (by omega) _⟩
        · obtain rfl : j = k := by omega
          have e : ys = cs := (Option.some.inj (hx'.out.symm.trans hy)).symm
          subst e
          exact ⟨_, List.getElem?_set_self (by have := hz'.out; omega), hown2.off (by omega) _⟩
      · rw [List.getElem?_set_ne (by omega)] at hzi
        rcases Nat.lt_or_ge j k with h | h
        · rw [List.getElem?_set_ne (by omega)] at hzj
          exact hdH.out i j zi zj hij h hzi hzj
        · obtain rfl : j = k := by omega
          rw [List.getElem?_set_self (by have := hz'.out; omega)] at hzj
          injection hzj with hzj
          subst hzj
          obtain ⟨ys, hy⟩ := get_of_lt (xs := css) (k := i) (by omega)
          obtain ⟨v', h1, h2⟩ := htH.out i ys (by omega) hy
          have e : v' = zi := by rw [h1] at hzi; injection hzi
          subst e
          intro hq
          have := (h2.lt g hq).2
          omega
    · repeat' (first | fail | go_values | go_skip | go_guarded | go_step | go_upon | (simp only []; go_step) | (go_ite <;> go_prune <;> (try go_simp)))
      all_goals go_returns
      have hkk : k = css.length := by omega
      subst hkk
      refine ⟨_, rfl, ⟨w.heap.size, zs, rfl, Nat.le_refl _, hsz, hsz, hz'.out, fun j z hj => ?_, fun j z xs hj hx => ?_, fun i j zi zj hij hi hj => ?_⟩, hbr⟩
      · rw [ho.cellAt j (by have := lt_of_get hj; have := hz'.out; omega)]; exact hj
      · obtain ⟨v', h1, h2⟩ := ht.out j xs (lt_of_get hx) hx
        have e : v' = z := by rw [h1] at hj; injection hj
        subst e
        exact ⟨h2, fun q hq => (h2.lt q hq).2⟩
      · exact hdi.out i j zi zj hij (by have := lt_of_get hj; have := hz'.out; omega) hi hj
theorem laws_eqContactSS (A B : Option Addr) (c d : Nat) (css : List Cts) (w : World) (hr : CC64 w w.heap.size A css) (hs : CC64 w w.heap.size B css) (hl : css.length ≤ 1099511627776) (hm : ∀ (i : Nat) (cs : Cts), css[i]? = some cs → cs.length ≤ 1099511627776) :
    Calls Try.prog 19 #[.slice A css.length c, .slice B css.length d] w fun e w' => e = .returned (.bool true) ∧ Below w.heap.size w w' := by
  go_enter Try.func19, Try.ntmps19
  repeat' (first | fail | go_values | go_skip | go_guarded | go_step | go_upon | (simp only []; go_step) | (go_ite <;> go_prune <;> (try go_simp)))
  go_loopw [5] (fun i wr => ∃ k : Nat, k ≤ css.length ∧ i = .int .i64 k ∧ Below w.heap.size w wr) (fun i _ => css.length - (intOf i).toNat)
  case atStart => exact ⟨0, Nat.zero_le _, rfl, by repeat' (first | (with_reducible exact Below.refl _ _) | (with_reducible assumption) | (with_reducible refine Below.new ?_ _) | (with_reducible refine Below.alloc ?_ ?_ _) | (with_reducible refine Below.drew ?_) | (with_reducible refine below_drewN ?_ _) | (with_reducible refine Below.setCell ?_ ?_ _) | (refine Below.next ?_ (by with_reducible assumption)) | (refine Below.row ?_ (by with_reducible assumption) (by omega)) | (refine Below.trans ?_ (by with_reducible assumption)) | (refine Below.after ?_ ?_ (by with_reducible assumption)) | go_size)⟩
  case round =>
    obtain ⟨k, hk, rfl, hbr⟩ := hrel
    by_cases hlt : k < css.length
    · obtain ⟨cs, hx⟩ := get_of_lt hlt
      obtain ⟨b, o, A', c', rfl, hb, hc, hi⟩ := (hr.up hbr).at_ hx
      obtain ⟨b2, o2, B', d', rfl, hb2, hc2, hi2⟩ := (hs.up hbr).at_ hx
      have hml := hm k cs hx
      have p0 : (0 : Int) ≤ (k : Int) := by omega
      have p1 : (k : Int) < (css.length : Int) := by omega
      clear hx
      repeat' (first | fail | go_values | go_skip | go_guarded | go_step | go_upon | (simp only []; go_step) | (go_ite <;> go_prune <;> (try go_simp)))
      go_region_held3 (fun w' => w'.cell? ⟨b, o + k, none⟩ = some (.slice A' cs.length c') ∧ w'.cell? ⟨b2, o2 + k, none⟩ = some (.slice B' cs.length d')) (refine ⟨?_, ?_⟩ <;> repeat' (first | (with_reducible assumption) | ((with_reducible apply bx_new) <;> first | (simp only [World.size_alloc, World.size_setCell]; done) | rfl) | (with_reducible apply bx_alloc) | (with_reducible apply bx_other; (first | (simp only [World.size_alloc, World.size_setCell]; omega) | omega)) | (with_reducible apply bx_same) | (with_reducible apply bx_drew) | (with_reducible apply bx_drew1) | (with_reducible apply bx_keep; with_reducible assumption) | fail)) (first | (go_at_call 54; refine (laws_eqContactS _ _ _ _ _ _ (hi.up (by repeat' (first | (with_reducible exact Below.refl _ _) | (with_reducible assumption) | (with_reducible refine Below.new ?_ _) | (with_reducible refine Below.alloc ?_ ?_ _) | (with_reducible refine Below.drew ?_) | (with_reducible refine below_drewN ?_ _) | (with_reducible refine Below.setCell ?_ ?_ _) | (refine Below.next ?_ (by with_reducible assumption)) | (refine Below.row ?_ (by with_reducible assumption) (by omega)) | (refine Below.trans ?_ (by with_reducible assumption)) | (refine Below.after ?_ ?_ (by with_reducible assumption)) | go_size))) (hi2.up (by repeat' (first | (with_reducible exact Below.refl _ _) | (with_reducible assumption) | (with_reducible refine Below.new ?_ _) | (with_reducible refine Below.alloc ?_ ?_ _) | (with_reducible refine Below.drew ?_) | (with_reducible refine below_drewN ?_ _) | (with_reducible refine Below.setCell ?_ ?_ _) | (refine Below.next ?_ (by with_reducible assumption)) | (refine Below.row ?_ (by with_reducible assumption) (by omega)) | (refine Below.trans ?_ (by with_reducible assumption)) | (refine Below.after ?_ ?_ (by with_reducible assumption)) | go_size))) (by omega)).mono ?_; rintro e w1 ⟨rfl, hb1⟩))
      all_goals repeat' (first | fail | go_values | go_skip | go_guarded | go_step | go_upon | (simp only []; go_step) | (go_ite <;> go_prune <;> (try go_simp)))
      all_goals exact ⟨⟨k + 1, by omega, by go_num, by repeat' (first | (with_reducible exact Below.refl _ _) | (with_reducible assumption) | (with_reducible refine Below.new ?_ _) | (with_reducible refine Below.alloc ?_ ?_ _) | (with_reducible refine Below.drew ?_) | (with_reducible refine below_drewN ?_ _) | (with_reducible refine Below.setCell ?_ ?_ _) | (refine Below.next ?_ (by with_reducible assumption)) | (refine Below.row ?_ (by with_reducible assumption) (by omega)) | (refine Below.trans ?_ (by with_reducible assumption)) | (refine Below.after ?_ ?_ (by with_reducible assumption)) | go_size)⟩, by simp [intOf]; omega⟩
    · repeat' (first | fail | go_values | go_skip | go_guarded | go_step | go_upon | (simp only []; go_step) | (go_ite <;> go_prune <;> (try go_simp)))
      all_goals go_returns
      all_goals exact ⟨rfl, by repeat' (first | (with_reducible exact Below.refl _ _) | (with_reducible assumption) | (with_reducible refine Below.new ?_ _) | (with_reducible refine Below.alloc ?_ ?_ _) | (with_reducible refine Below.drew ?_) | (with_reducible refine below_drewN ?_ _) | (with_reducible refine Below.setCell ?_ ?_ _) | (refine Below.next ?_ (by with_reducible assumption)) | (refine Below.row ?_ (by with_reducible assumption) (by omega)) | (refine Below.trans ?_ (by with_reducible assumption)) | (refine Below.after ?_ ?_ (by with_reducible assumption)) | go_size)⟩
set_option maxHeartbeats 800000 in
theorem laws_markContactSQ (A : Option Addr) (n c lo : Nat) (cs : Cts) (k : Int) (w : World) (ho : OwnC w lo (.slice A n c) cs) (hl : cs.length ≤ 1048576) (hk0 : 0 ≤ k) (hk1 : k ≤ 1099511627776) :
    Calls Try.prog 55 #[.slice A n c, .int .i64 k] w fun e w' => e = .returned (.int .i64 (k + 2 * (cs.length : Int))) ∧ w.grownBy w' (Value.slice A n c).ownBlock := by
  obtain ⟨rfl, hr⟩ := ho.reads
  clear hr
  go_enter Try.func55, Try.ntmps55
  repeat' (first | fail | go_values | go_skip | go_guarded | go_step | go_upon | (simp only []; go_step) | (go_ite <;> go_prune <;> (try go_simp)))
  go_loopw [1, 5] (fun v i wr => ∃ j : Nat, ∃ zs : Cts, j ≤ cs.length ∧ i = .int .i64 j ∧ v = .int .i64 (k + 2 * (j : Int)) ∧ zs.length = cs.length ∧ OwnC wr lo (.slice A cs.length c) zs ∧ w.grownBy wr (Value.slice A cs.length c).ownBlock) (fun _ i _ => cs.length - (intOf i).toNat)
  case atStart => exact ⟨0, cs, Nat.zero_le _, rfl, by simp, rfl, ho, World.grownBy.refl _ _⟩
  case round =>
    obtain ⟨j, zs, hj, rfl, rfl, hz, hw, hW⟩ := hrel
    have hz' := Lib.hid hz
    clear hz
    by_cases hlt : j < cs.length
    · obtain ⟨⟨z0, z1⟩, hzj⟩ := get_of_lt (xs := zs) (k := j) (by have := hz'.out; omega)
      obtain ⟨g, rfl, hb, hgs, hc0, hc1, hf, hst⟩ := hw.cell hzj
      have hf0 := hf (j * 2)
      have hf1 := hf (j * 2 + 1)
      have hs := hst (k + 2 * (j : Int)) (k + 2 * (j : Int) + 1)
      clear hzj hst hf
      repeat' (first | fail | go_values | go_skip | go_guarded | go_step | go_upon | (simp only []; go_step) | (go_ite <;> go_prune <;> (try go_simp)))
      refine ⟨⟨j + 1, zs.set j (k + 2 * (j : Int), k + 2 * (j : Int) + 1), by omega, by go_num, by congr 1; omega, by simpa using hz'.out, hs.1, grownBy_trans hW hs.2⟩, by simp [intOf]; omega⟩
    · repeat' (first | fail | go_values | go_skip | go_guarded | go_step | go_upon | (simp only []; go_step) | (go_ite <;> go_prune <;> (try go_simp)))
      all_goals go_returns
      exact ⟨ret_int (by omega), hW⟩
/-- how many contacts the first k rows hold -/
def sumC (css : List Cts) : Nat → Nat
  | 0 => 0
  | k + 1 => sumC css k + (css.getD k []).length
set_option maxHeartbeats 800000 in
theorem laws_markContactSS (A : Option Addr) (n c lo hi : Nat) (css : List Cts) (k : Int) (w : World) (ho : OwnCC w lo hi (.slice A n c) css) (hl : css.length ≤ 1048576) (hS : ∀ j, j ≤ css.length → sumC css j ≤ 1048576) (hm : ∀ (i : Nat) (cs : Cts), css[i]? = some cs → cs.length ≤ 1048576) (hk0 : 0 ≤ k) (hk1 : k ≤ 1048576) :
    Calls Try.prog 60 #[.slice A n c, .int .i64 k] w fun e w' => ∃ j : Int, e = .returned (.int .i64 j) ∧ 0 ≤ j ∧ j ≤ 4194304 ∧ Within lo hi w w' := by
  obtain ⟨g, zs, h1, h2, h3, h4, h5, h6, h7, h8⟩ := ho
  injection h1 with h1 hn1 hc1
  subst h1 hn1 hc1
  have h7H := Lib.hid h7
  have h8H := Lib.hid h8
  have h6H := Lib.hid h6
  have h5H := Lib.hid h5
  have hSH := Lib.hid hS
  have hmH := Lib.hid hm
  clear h7 h8 h6 h5 hS hm
  go_enter Try.func60, Try.ntmps60
  go_wp2
  go_loopw [1, 5] (fun kv iv wr => ∃ i : Nat, i ≤ css.length ∧ iv = .int .i64 i ∧ kv = .int .i64 (k + 2 * (sumC css i : Int)) ∧ Hid (∀ (j : Nat) (z : Value) (cs : Cts), i ≤ j → zs[j]? = some z → css[j]? = some cs → OwnC wr (g + 1) z cs) ∧ Hid (∀ (j : Nat) (z : Value), zs[j]? = some z → wr.cell? ⟨g, j, none⟩ = some z) ∧ Within lo hi w wr) (fun _ iv _ => css.length - (intOf iv).toNat)
  case atStart => exact ⟨0, Nat.zero_le _, rfl, by simp [sumC], fun j z xs _ hz hx => (h7H.out j z xs hz hx).1, h6H.out, Within.refl _ _ _⟩
  case round =>
    obtain ⟨i, hi2, rfl, rfl, ha, hcl, hW⟩ := hrel
    by_cases hlt : i < css.length
    · obtain ⟨cs, hx⟩ := get_of_lt hlt
      obtain ⟨z, hz⟩ := get_of_lt (xs := zs) (k := i) (by have := h5H.out; omega)
      have hoi := ha.out i z cs (Nat.le_refl _) hz hx
      have hzb := (h7H.out i z cs hz hx).2
      obtain ⟨A', c', rfl, _⟩ := id hoi
      have hc0 := hcl.out i _ hz
      have hsi := hSH.out i (by omega)
      have hsi2 := hSH.out (i + 1) (by omega)
      have hml := hmH.out i cs hx
      have hsu : Hid (sumC css (i + 1) = sumC css i + cs.length) := by unfold Hid; rw [sumC]; simp [List.getD, hx]
      have hszr := hW.size
      have q0 : (0 : Int) ≤ k + 2 * (sumC css i : Int) := by omega
      have hoR : OwnCR wr (g + 1) hi (.slice A' cs.length c') cs := ⟨hoi, hzb⟩
      have hxH := Lib.hid hx
      have hzH := Lib.hid hz
      clear hx hz
      repeat' (first | fail | go_values | go_skip | go_guarded | go_step | go_upon | (simp only []; go_step) | (go_ite <;> go_prune <;> (try go_simp)))
      refine (laws_markContactSQ _ _ _ (g + 1) cs _ wr hoi (by omega) q0 (by omega)).mono ?_
      rintro e w2 ⟨rfl, hg⟩
      have hsz2 := hg.size
      have hob : ∀ q, (Value.slice A' cs.length c').ownBlock = some q → g + 1 ≤ q ∧ q < hi := fun q hq => ⟨(hoi.lt q hq).1, hzb q hq⟩
      repeat' (first | fail | go_values | go_skip | go_guarded | go_step | go_upon | (simp only []; go_step) | (go_ite <;> go_prune <;> (try go_simp)))
      refine ⟨⟨i + 1, by omega, by go_num, by rw [hsu.out]; simp; omega, fun j z2 ys hj hz2 hy => ?_, fun j z2 hz2 => ?_, hW.trans ⟨hg.os, hg.tape, hg.output, hg.size, fun q hq hne => hg.block q hq (fun e => ?_)⟩⟩, by simp [intOf]; omega⟩
      · exact (ha.out j z2 ys (by omega) hz2 hy).kept hg (.inr (h8H.out i j _ z2 (by omega) hzH.out hz2).symm)
      · exact (World.cell?_of_block (a := ⟨g, j, none⟩) (hg.block g (by omega) (fun e => by have := (hob g e.symm).1; omega))).trans (hcl.out j z2 hz2)
      · have := hob q e.symm
        omega
    · have e : i = css.length := by omega
      subst e
      have hsi := hSH.out css.length (Nat.le_refl _)
      repeat' (first | fail | go_values | go_skip | go_guarded | go_step | go_upon | (simp only []; go_step) | (go_ite <;> go_prune <;> (try go_simp)))
      all_goals go_returns
      all_goals exact ⟨_, rfl, by omega, by omega, hW⟩
end Go.Proofs.Ytmojjdflihakkaa
