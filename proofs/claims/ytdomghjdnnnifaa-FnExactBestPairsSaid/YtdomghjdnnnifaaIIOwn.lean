/- Slices of slices that the call itself made: copied, marked. -/
import Derived.Test.YtdomghjdnnnifaaIITo
namespace Go.Proofs.Ytdomghjdnnnifaa
open Go.RowKit Go.ChangeShapes Go.WideShapes Go.ChangeAt
set_option linter.unusedVariables false
set_option linter.unusedSimpArgs false
/-- a slice of slices of int64 that the call made in the blocks lo .. hi - 1, its rows apart -/
def OwnII (w : World) (lo hi : Nat) (v : Value) (xss : List (List Int)) : Prop :=
  ∃ (g : Nat) (zs : List Value), v = .slice (some ⟨g, 0, none⟩) xss.length xss.length ∧ lo ≤ g ∧ g < hi ∧ g < w.heap.size ∧ zs.length = xss.length ∧ (∀ (j : Nat) (z : Value), zs[j]? = some z → w.cell? ⟨g, j, none⟩ = some z) ∧
    (∀ (j : Nat) (z : Value) (xs : List Int), zs[j]? = some z → xss[j]? = some xs → OwnI w (g + 1) z xs ∧ ∀ k, z.ownBlock = some k → k < hi) ∧
    (∀ (i j : Nat) (zi zj : Value), i < j → zs[i]? = some zi → zs[j]? = some zj → zi.ownBlock ≠ zj.ownBlock)
section
variable {w w' : World} {lo hi : Nat} {v : Value} {A : Option Addr} {n c : Nat} {xss : List (List Int)}
theorem OwnII.next (h : OwnII w lo hi v xss) (hb : Below w.heap.size w w') : OwnII w' lo hi v xss := by
  obtain ⟨g, zs, h1, h2, h3, h4, h5, h6, h7, h8⟩ := h
  exact ⟨g, zs, h1, h2, h3, Nat.lt_of_lt_of_le h4 hb.size, h5, fun j z hz => (hb.cell (p := ⟨g, j, none⟩) h4).trans (h6 j z hz), fun j z xs hz hx => ⟨(h7 j z xs hz hx).1.below hb, (h7 j z xs hz hx).2⟩, h8⟩
theorem OwnII.rd (h : OwnII w lo hi (.slice A n c) xss) : II64 w w.heap.size A xss := by
  obtain ⟨g, zs, h1, h2, h3, h4, h5, h6, h7, h8⟩ := h
  injection h1 with h1 _ _
  subst h1
  refine .inr ⟨g, 0, rfl, h4, fun i xs hx => ?_⟩
  obtain ⟨z, hz⟩ := get_of_lt (xs := zs) (k := i) (by have := lt_of_get hx; omega)
  have ho := (h7 i z xs hz hx).1
  obtain ⟨A', c', rfl⟩ := (OwnI.inR ho).form
  exact ⟨A', c', by rw [Nat.zero_add]; exact h6 i _ hz, ho.reads.2⟩
end
/-- how many numbers the first k rows hold -/
def sumL (xss : List (List Int)) : Nat → Nat
  | 0 => 0
  | k + 1 => sumL xss k + (xss.getD k []).length
theorem sumL_of {left : Int} {xss : List (List Int)} : ∀ k, k ≤ xss.length → (∀ j, j ≤ k → ¬ fszk left xss j < 0) → fszk left xss k = left - xss.length - sumL xss k
  | 0, _, h => by
    have h0 := h 0 (Nat.le_refl _)
    simp only [fszk, List.take_zero, List.foldl_nil] at h0 ⊢
    have := (fsz_n h0).2
    simp only [sumL]; omega
  | k + 1, hk, h => by
    have ih := sumL_of (left := left) (xss := xss) k (by omega) (fun j hj => h j (by omega))
    obtain ⟨xs, hx⟩ := get_of_lt (xs := xss) (k := k) (by omega)
    have h1 := h (k + 1) (Nat.le_refl _)
    rw [fszk_succ hx] at h1 ⊢
    have h2 := (fsz_n h1).2
    have e : xss.getD k [] = xs := by simp [List.getD, hx]
    rw [h2, ih, sumL, e]; omega
theorem sumL_le {left : Int} {xss : List (List Int)} (h : ¬ fszz left xss < 0) {k : Nat} (hk : k ≤ xss.length) : (sumL xss k : Int) ≤ left := by
  have hh : ∀ j, j ≤ xss.length → ¬ fszk left xss j < 0 := fun j hj hn => by
    have e : fszk left xss j = -1 := by have := fszk_ge (left := left) (xss := xss) (k := j); omega
    have := fszk_neg e (xss.length - j)
    rw [show j + (xss.length - j) = xss.length by omega] at this
    unfold fszz at h
    omega
  have h1 := sumL_of (left := left) (xss := xss) k hk (fun j hj => hh j (by omega))
  have h2 := hh k hk
  omega
theorem laws_toInt64SSR (A : Option Addr) (c : Nat) (xss : List (List Int)) (w : World) (hr : II64 w w.heap.size A xss) (hl : xss.length ≤ 1048576) (hm : ∀ (i : Nat) (xs : List Int), xss[i]? = some xs → xs.length ≤ 1048576) :
    Calls Try.prog 17 #[.slice A xss.length c] w fun e w' => ∃ g, e = .returned (.slice (some ⟨g, 0, none⟩) xss.length xss.length) ∧ OwnII w' w.heap.size w'.heap.size (.slice (some ⟨g, 0, none⟩) xss.length xss.length) xss ∧ Below w.heap.size w w' := by
  obtain ⟨i0, hi, hz0, hz1, hz2⟩ := info_parts ints_info
  have hr0 := hr
  go_enter Try.func17, Try.ntmps17
  go_wp2_with (at_make; refine wpList_make_full _ rfl _ _ 22 rfl w.heap.size 27 i0 _ 1 Try.underlying22 hi hz0 hz1 .i64 .i64 _ _ xss.length rfl rfl rfl rfl (by rw [hz2]; omega) (by simp only [maxLen]; omega) (Nat.le_refl _) ?_; intro w1 hown hg)
  have hb1 : Below w.heap.size w w1 := ⟨hg.os, hg.tape, hg.output, hg.size, fun k hk => hg.block k hk (by simp)⟩
  clear hg hr
  have hlt1 : w.heap.size < w1.heap.size := hown.lt w.heap.size rfl |>.2
  go_loopw [4] (fun i wr => ∃ k : Nat, ∃ zs : List Value, k ≤ xss.length ∧ i = .int .i64 k ∧ zs.length = xss.length ∧ Hid (∀ (j : Nat) (xs : List Int), j < k → xss[j]? = some xs → ∃ v', zs[j]? = some v' ∧ OwnI wr (w.heap.size + 1) v' xs) ∧ Hid (∀ (i j : Nat) (zi zj : Value), i < j → j < k → zs[i]? = some zi → zs[j]? = some zj → zi.ownBlock ≠ zj.ownBlock) ∧ wr.ownsRow w.heap.size 27 1 (.slice (some ⟨w.heap.size, 0, none⟩) xss.length xss.length) xss.length zs ∧ Below w.heap.size w wr ∧ w.heap.size < wr.heap.size) (fun i _ => xss.length - (intOf i).toNat)
  case atStart => exact ⟨0, List.replicate xss.length (.slice none 0 0), Nat.zero_le _, rfl, by simp, fun j xs hj => absurd hj (by omega), fun i j zi zj _ hj => absurd hj (by omega), by have h := hown; simp only [show (Value.slice none 0 0).cells = #[Value.slice none 0 0] from rfl, Nat.mul_one, toList_madeCells_one] at h; simpa using h, hb1, hlt1⟩
  case round =>
    obtain ⟨k, zs, hk, rfl, hz, ht, hdi, ho, hbr, hsz⟩ := hrel
    have hz' := Lib.hid hz
    clear hz hb1 hown
    by_cases hlt : k < xss.length
    · obtain ⟨xs, hx⟩ := get_of_lt hlt
      obtain ⟨b, o, A', c', rfl, hb, hc, hi2⟩ := (hr0.below hbr).at_ hx
      have hml := hm k xs hx
      have hx' := Lib.hid hx
      clear hx
      obtain ⟨z, hzk⟩ := get_of_lt (xs := zs) (k := k) (by have := hz'.out; omega)
      have hzk' := Lib.hid hzk
      have htH := Lib.hid ht.out
      have hdH := Lib.hid hdi.out
      clear hzk ht hdi
      repeat' (first | fail | go_values | go_skip | go_guarded | go_step | go_upon | (simp only []; go_step) | (go_ite <;> go_prune <;> (try go_simp)))
      refine (laws_toInt64S A' c' xs wr (hi2.more (by omega)) hml).mono ?_
      rintro e w2 ⟨g, rfl, ho2, hb2⟩
      have ho3 := ho.kept (grownBy_of_below hb2 none) (by cases (Value.slice (some ⟨w.heap.size, 0, none⟩) xss.length xss.length).ownBlock <;> simp)
      have hcell : w2.cell? ⟨w.heap.size, k, none⟩ = some z := by rw [ho3.cellAt k (by omega), hzk'.out]
      have hfr := ho3.frozenAt k
      have hst := (ho3.stored k (.slice (some ⟨g, 0, none⟩) xs.length xs.length)).1
      have hsz2 := hb2.size
      have hnew : wr.heap.size ≤ g := (OwnI.lt (xs := xs) ⟨_, _, rfl, ho2⟩ g rfl).1
      have hown2 : OwnI w2 (w.heap.size + 1) (.slice (some ⟨g, 0, none⟩) xs.length xs.length) xs := OwnI.mono ⟨_, _, rfl, ho2⟩ (by omega)
      clear ho ho3
      repeat' (first | fail | go_values | go_skip | go_guarded | go_step | go_upon | (simp only []; go_step) | (go_ite <;> go_prune <;> (try go_simp)))
      refine ⟨⟨k + 1, zs.set k (.slice (some ⟨g, 0, none⟩) xs.length xs.length), by omega, by go_num, by simpa using hz'.out, fun j ys hj hy => ?_, fun i j zi zj hij hj hzi hzj => ?_, hst, by repeat' (first | (with_reducible exact Below.refl _ _) | (with_reducible assumption) | (with_reducible refine Below.new ?_ _) | (with_reducible refine Below.alloc ?_ ?_ _) | (with_reducible refine Below.drew ?_) | (with_reducible refine below_drewN ?_ _) | (with_reducible refine Below.setCell ?_ ?_ _) | (refine Below.next ?_ (by with_reducible assumption)) | (refine Below.row ?_ (by with_reducible assumption) (by omega)) | (refine Below.trans ?_ (by with_reducible assumption)) | (refine Below.after ?_ ?_ (by with_reducible assumption)) | go_size), by simp only [World.size_setCell]; omega⟩, by simp [intOf]; omega⟩
      · rcases Nat.lt_or_ge j k with h | h
        · obtain ⟨v', h1, h2⟩ := htH.out j ys h hy
          exact ⟨v', by rw [List.getElem?_set_ne (by omega)]; exact h1, (h2.below hb2).off (by omega) _⟩
        · obtain rfl : j = k := by omega
          have e : ys = xs := by have := hx'.out; rw [this] at hy; injection hy with hy; exact hy.symm
          subst e
          exact ⟨_, List.getElem?_set_self (by have := hz'.out; omega), hown2.off (by omega) _⟩
      · rw [List.getElem?_set_ne (by omega)] at hzi
        rcases Nat.lt_or_ge j k with h | h
        · rw [List.getElem?_set_ne (by omega)] at hzj
          exact hdH.out i j zi zj hij h hzi hzj
        · obtain rfl : j = k := by omega
          rw [List.getElem?_set_self (by have := hz'.out; omega)] at hzj
          injection hzj with hzj
          subst hzj
          obtain ⟨ys, hy⟩ := get_of_lt (xs := xss) (k := i) (by omega)
          obtain ⟨v', h1, h2⟩ := htH.out i ys (by omega) hy
          have e : v' = zi := by rw [h1] at hzi; injection hzi
          subst e
          intro hq
          have := (h2.lt g hq).2
          omega
    · repeat' (first | fail | go_values | go_skip | go_guarded | go_step | go_upon | (simp only []; go_step) | (go_ite <;> go_prune <;> (try go_simp)))
      all_goals go_returns
      have hkk : k = xss.length := by omega
      subst hkk
      refine ⟨_, rfl, ⟨w.heap.size, zs, rfl, Nat.le_refl _, hsz, hsz, hz'.out, fun j z hj => ?_, fun j z xs hj hx => ?_, fun i j zi zj hij hi hj => ?_⟩, hbr⟩
      · rw [ho.cellAt j (by have := lt_of_get hj; have := hz'.out; omega)]; exact hj
      · obtain ⟨v', h1, h2⟩ := ht.out j xs (lt_of_get hx) hx
        have e : v' = z := by rw [h1] at hj; injection hj
        subst e
        exact ⟨h2, fun q hq => (h2.lt q hq).2⟩
      · exact hdi.out i j zi zj hij (by have := lt_of_get hj; have := hz'.out; omega) hi hj
set_option maxHeartbeats 800000 in
theorem laws_markInt64SS (A : Option Addr) (n c lo hi : Nat) (xss : List (List Int)) (k : Int) (w : World) (ho : OwnII w lo hi (.slice A n c) xss) (hl : xss.length ≤ 1048576) (hS : ∀ j, j ≤ xss.length → sumL xss j ≤ 1048576) (hm : ∀ (i : Nat) (xs : List Int), xss[i]? = some xs → xs.length ≤ 1048576) (hk0 : 0 ≤ k) (hk1 : k ≤ 1048576) :
    Calls Try.prog 35 #[.slice A n c, .int .i64 k] w fun e w' => ∃ j : Int, e = .returned (.int .i64 j) ∧ 0 ≤ j ∧ j ≤ 2097152 ∧ Within lo hi w w' := by
  obtain ⟨g, zs, h1, h2, h3, h4, h5, h6, h7, h8⟩ := ho
  injection h1 with h1 hn1 hc1
  subst h1 hn1 hc1
  have h7H := Lib.hid h7
  have h8H := Lib.hid h8
  have h6H := Lib.hid h6
  have h5H := Lib.hid h5
  have hSH := Lib.hid hS
  have hmH := Lib.hid hm
  clear h7 h8 h6 h5 hS hm
  go_enter Try.func35, Try.ntmps35
  go_wp2
  go_loopw [1, 5] (fun kv iv wr => ∃ i : Nat, i ≤ xss.length ∧ iv = .int .i64 i ∧ kv = .int .i64 (k + (sumL xss i : Int)) ∧ Hid (∀ (j : Nat) (z : Value) (xs : List Int), i ≤ j → zs[j]? = some z → xss[j]? = some xs → OwnI wr (g + 1) z xs) ∧ Hid (∀ (j : Nat) (z : Value), zs[j]? = some z → wr.cell? ⟨g, j, none⟩ = some z) ∧ Within lo hi w wr) (fun _ iv _ => xss.length - (intOf iv).toNat)
  case atStart => exact ⟨0, Nat.zero_le _, rfl, by simp [sumL], fun j z xs _ hz hx => (h7H.out j z xs hz hx).1, h6H.out, Within.refl _ _ _⟩
  case round =>
    obtain ⟨i, hi2, rfl, rfl, ha, hcl, hW⟩ := hrel
    by_cases hlt : i < xss.length
    · obtain ⟨xs, hx⟩ := get_of_lt hlt
      obtain ⟨z, hz⟩ := get_of_lt (xs := zs) (k := i) (by have := h5H.out; omega)
      have hoi := ha.out i z xs (Nat.le_refl _) hz hx
      have hzb := (h7H.out i z xs hz hx).2
      obtain ⟨A', c', rfl⟩ := (OwnI.inR hoi).form
      have hc0 := hcl.out i _ hz
      have hsi := hSH.out i (by omega)
      have hsi2 := hSH.out (i + 1) (by omega)
      have hml := hmH.out i xs hx
      have hsu : Hid (sumL xss (i + 1) = sumL xss i + xs.length) := by unfold Hid; rw [sumL]; simp [List.getD, hx]
      have hszr := hW.size
      have q0 : (0 : Int) ≤ k + (sumL xss i : Int) := by omega
      have hxH := Lib.hid hx
      have hzH := Lib.hid hz
      clear hx hz
      repeat' (first | fail | go_values | go_skip | go_guarded | go_step | go_upon | (simp only []; go_step) | (go_ite <;> go_prune <;> (try go_simp)))
      refine (laws_markInt64S _ _ _ (g + 1) xs _ wr hoi (by omega) q0 (by omega)).mono ?_
      rintro e w2 ⟨rfl, ho2, hg⟩
      have hsz2 := hg.size
      have hob : ∀ q, (Value.slice A' xs.length c').ownBlock = some q → g + 1 ≤ q ∧ q < hi := fun q hq => ⟨(hoi.lt q hq).1, hzb q hq⟩
      repeat' (first | fail | go_values | go_skip | go_guarded | go_step | go_upon | (simp only []; go_step) | (go_ite <;> go_prune <;> (try go_simp)))
      refine ⟨⟨i + 1, by omega, by go_num, by rw [hsu.out]; simp; omega, fun j z2 ys hj hz2 hy => ?_, fun j z2 hz2 => ?_, hW.trans ⟨hg.os, hg.tape, hg.output, hg.size, fun q hq hne => hg.block q hq (fun e => ?_)⟩⟩, by simp [intOf]; omega⟩
      · exact (ha.out j z2 ys (by omega) hz2 hy).kept hg (.inr (h8H.out i j _ z2 (by omega) hzH.out hz2).symm)
      · exact (World.cell?_of_block (a := ⟨g, j, none⟩) (hg.block g (by omega) (fun e => by have := (hob g e.symm).1; omega))).trans (hcl.out j z2 hz2)
      · have := hob q e.symm
        omega
    · have e : i = xss.length := by omega
      subst e
      have hsi := hSH.out xss.length (Nat.le_refl _)
      repeat' (first | fail | go_values | go_skip | go_guarded | go_step | go_upon | (simp only []; go_step) | (go_ite <;> go_prune <;> (try go_simp)))
      all_goals go_returns
      all_goals exact ⟨_, rfl, by omega, by omega, hW⟩
end Go.Proofs.Ytdomghjdnnnifaa
