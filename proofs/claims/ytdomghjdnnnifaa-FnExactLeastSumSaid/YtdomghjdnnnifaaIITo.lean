/- Slices of slices of numbers: copied and compared. -/
import Derived.Test.YtdomghjdnnnifaaIIMem
import Derived.Test.YtdomghjdnnnifaaLawKit
import Derived.Deep.RegionHeld3
namespace Go.Proofs.Ytdomghjdnnnifaa
open Go.RowKit Go.ChangeShapes Go.WideShapes Go.ChangeAt
set_option linter.unusedVariables false
set_option linter.unusedSimpArgs false
theorem ints_info : (Try.prog.info? 27).map (fun i => (i.zero, i.size, i.bytes)) = some (some (.slice none 0 0), 1, 24) := by kernel_rfl
theorem laws_toInt64SS (A : Option Addr) (c : Nat) (xss : List (List Int)) (w : World) (hr : II64 w w.heap.size A xss) (hl : xss.length ≤ 1048576) (hm : ∀ (i : Nat) (xs : List Int), xss[i]? = some xs → xs.length ≤ 1048576) :
    Calls Try.prog 17 #[.slice A xss.length c] w fun e w' => ∃ g, e = .returned (.slice (some ⟨g, 0, none⟩) xss.length xss.length) ∧ II64 w' w'.heap.size (some ⟨g, 0, none⟩) xss ∧ Below w.heap.size w w' := by
  obtain ⟨i0, hi, hz0, hz1, hz2⟩ := info_parts ints_info
  have hr0 := hr
  go_enter Try.func17, Try.ntmps17
  go_wp2_with (at_make; refine wpList_make_full _ rfl _ _ 22 rfl w.heap.size 27 i0 _ 1 Try.underlying22 hi hz0 hz1 .i64 .i64 _ _ xss.length rfl rfl rfl rfl (by rw [hz2]; omega) (by simp only [maxLen]; omega) (Nat.le_refl _) ?_; intro w1 hown hg)
  have hb1 : Below w.heap.size w w1 := ⟨hg.os, hg.tape, hg.output, hg.size, fun k hk => hg.block k hk (by simp)⟩
  clear hg hr
  have hlt1 : w.heap.size < w1.heap.size := hown.lt w.heap.size rfl |>.2
  go_loopw [4] (fun i wr => ∃ k : Nat, ∃ zs : List Value, k ≤ xss.length ∧ i = .int .i64 k ∧ zs.length = xss.length ∧ Hid (∀ (j : Nat) (xs : List Int), j < k → xss[j]? = some xs → ∃ v', zs[j]? = some v' ∧ OwnI wr (w.heap.size + 1) v' xs) ∧ wr.ownsRow w.heap.size 27 1 (.slice (some ⟨w.heap.size, 0, none⟩) xss.length xss.length) xss.length zs ∧ Below w.heap.size w wr ∧ w.heap.size < wr.heap.size) (fun i _ => xss.length - (intOf i).toNat)
  case atStart => exact ⟨0, List.replicate xss.length (.slice none 0 0), Nat.zero_le _, rfl, by simp, fun j xs hj => absurd hj (by omega), by have h := hown; simp only [show (Value.slice none 0 0).cells = #[Value.slice none 0 0] from rfl, Nat.mul_one, toList_madeCells_one] at h; simpa using h, hb1, hlt1⟩
  case round =>
    obtain ⟨k, zs, hk, rfl, hz, ht, ho, hbr, hsz⟩ := hrel
    have hz' := Lib.hid hz
    clear hz hb1 hown
    by_cases hlt : k < xss.length
    · obtain ⟨xs, hx⟩ := get_of_lt hlt
      obtain ⟨b, o, A', c', rfl, hb, hc, hi2⟩ := (hr0.below hbr).at_ hx
      have hml := hm k xs hx
      have hx' := Lib.hid hx
      clear hx
      obtain ⟨z, hzk⟩ := get_of_lt (xs := zs) (k := k) (by have := hz'.out; omega)
      have hzk' := Lib.hid hzk
      have htH := Lib.hid ht.out
      clear hzk ht
      repeat' (first | fail | go_values | go_skip | go_guarded | go_step | go_upon | (simp only []; go_step) | (go_ite <;> go_prune <;> (try go_simp)))
      refine (laws_toInt64S A' c' xs wr (hi2.more (by omega)) hml).mono ?_
      rintro e w2 ⟨g, rfl, ho2, hb2⟩
      have ho3 := ho.kept (grownBy_of_below hb2 none) (by cases (Value.slice (some ⟨w.heap.size, 0, none⟩) xss.length xss.length).ownBlock <;> simp)
      have hcell : w2.cell? ⟨w.heap.size, k, none⟩ = some z := by rw [ho3.cellAt k (by omega), hzk'.out]
      have hfr := ho3.frozenAt k
      have hst := (ho3.stored k (.slice (some ⟨g, 0, none⟩) xs.length xs.length)).1
      have hsz2 := hb2.size
      have hown2 : OwnI w2 (w.heap.size + 1) (.slice (some ⟨g, 0, none⟩) xs.length xs.length) xs := OwnI.mono ⟨_, _, rfl, ho2⟩ (by omega)
      clear ho ho3
      repeat' (first | fail | go_values | go_skip | go_guarded | go_step | go_upon | (simp only []; go_step) | (go_ite <;> go_prune <;> (try go_simp)))
      refine ⟨⟨k + 1, zs.set k (.slice (some ⟨g, 0, none⟩) xs.length xs.length), by omega, by go_num, by simpa using hz'.out, fun j ys hj hy => ?_, hst, by repeat' (first | (with_reducible exact Below.refl _ _) | (with_reducible assumption) | (with_reducible refine Below.new ?_ _) | (with_reducible refine Below.alloc ?_ ?_ _) | (with_reducible refine Below.drew ?_) | (with_reducible refine below_drewN ?_ _) | (with_reducible refine Below.setCell ?_ ?_ _) | (refine Below.next ?_ (by with_reducible assumption)) | (refine Below.row ?_ (by with_reducible assumption) (by omega)) | (refine Below.trans ?_ (by with_reducible assumption)) | (refine Below.after ?_ ?_ (by with_reducible assumption)) | go_size), by simp only [World.size_setCell]; omega⟩, by simp [intOf]; omega⟩
      rcases Nat.lt_or_ge j k with h | h
      · obtain ⟨v', h1, h2⟩ := htH.out j ys h hy
        exact ⟨v', by rw [List.getElem?_set_ne (by omega)]; exact h1, (h2.below hb2).off (by omega) _⟩
      · obtain rfl : j = k := by omega
        have e : ys = xs := by have := hx'.out; rw [this] at hy; injection hy with hy; exact hy.symm
        subst e
        exact ⟨_, List.getElem?_set_self (by have := hz'.out; omega), hown2.off (by omega) _⟩
    · repeat' (first | fail | go_values | go_skip | go_guarded | go_step | go_upon | (simp only []; go_step) | (go_ite <;> go_prune <;> (try go_simp)))
      all_goals go_returns
      refine ⟨_, rfl, ?_, hbr⟩
      rcases Nat.eq_zero_or_pos xss.length with h0 | h0
      · exact .inl (List.eq_nil_of_length_eq_zero h0)
      · refine .inr ⟨w.heap.size, 0, rfl, hsz, fun i xs hx => ?_⟩
        obtain ⟨v', h1, h2⟩ := ht.out i xs (by have := lt_of_get hx; omega) hx
        obtain ⟨A', c', rfl⟩ := ((OwnI.inR h2).form)
        exact ⟨A', c', by rw [Nat.zero_add, ho.cellAt i (by have := lt_of_get hx; omega), h1], h2.reads.2⟩
theorem laws_eqInt64SS (A B : Option Addr) (c d : Nat) (xss : List (List Int)) (w : World) (hr : II64 w w.heap.size A xss) (hs : II64 w w.heap.size B xss) (hl : xss.length ≤ 1099511627776) (hm : ∀ (i : Nat) (xs : List Int), xss[i]? = some xs → xs.length ≤ 1099511627776) :
    Calls Try.prog 19 #[.slice A xss.length c, .slice B xss.length d] w fun e w' => e = .returned (.bool true) ∧ Below w.heap.size w w' := by
  go_enter Try.func19, Try.ntmps19
  repeat' (first | fail | go_values | go_skip | go_guarded | go_step | go_upon | (simp only []; go_step) | (go_ite <;> go_prune <;> (try go_simp)))
  go_loopw [5] (fun i wr => ∃ k : Nat, k ≤ xss.length ∧ i = .int .i64 k ∧ Below w.heap.size w wr) (fun i _ => xss.length - (intOf i).toNat)
  case atStart => exact ⟨0, Nat.zero_le _, rfl, by repeat' (first | (with_reducible exact Below.refl _ _) | (with_reducible assumption) | (with_reducible refine Below.new ?_ _) | (with_reducible refine Below.alloc ?_ ?_ _) | (with_reducible refine Below.drew ?_) | (with_reducible refine below_drewN ?_ _) | (with_reducible refine Below.setCell ?_ ?_ _) | (refine Below.next ?_ (by with_reducible assumption)) | (refine Below.row ?_ (by with_reducible assumption) (by omega)) | (refine Below.trans ?_ (by with_reducible assumption)) | (refine Below.after ?_ ?_ (by with_reducible assumption)) | go_size)⟩
  case round =>
    obtain ⟨k, hk, rfl, hbr⟩ := hrel
    by_cases hlt : k < xss.length
    · obtain ⟨xs, hx⟩ := get_of_lt hlt
      obtain ⟨b, o, A', c', rfl, hb, hc, hi⟩ := (hr.up hbr).at_ hx
      obtain ⟨b2, o2, B', d', rfl, hb2, hc2, hi2⟩ := (hs.up hbr).at_ hx
      have hml := hm k xs hx
      have p0 : (0 : Int) ≤ (k : Int) := by omega
      have p1 : (k : Int) < (xss.length : Int) := by omega
      clear hx
      repeat' (first | fail | go_values | go_skip | go_guarded | go_step | go_upon | (simp only []; go_step) | (go_ite <;> go_prune <;> (try go_simp)))
      go_region_held3 (fun w' => w'.cell? ⟨b, o + k, none⟩ = some (.slice A' xs.length c') ∧ w'.cell? ⟨b2, o2 + k, none⟩ = some (.slice B' xs.length d')) (refine ⟨?_, ?_⟩ <;> repeat' (first | (with_reducible assumption) | ((with_reducible apply bx_new) <;> first | (simp only [World.size_alloc, World.size_setCell]; done) | rfl) | (with_reducible apply bx_alloc) | (with_reducible apply bx_other; (first | (simp only [World.size_alloc, World.size_setCell]; omega) | omega)) | (with_reducible apply bx_same) | (with_reducible apply bx_drew) | (with_reducible apply bx_drew1) | (with_reducible apply bx_keep; with_reducible assumption) | fail)) (first | (go_at_call 23; refine (laws_eqInt64S _ _ _ _ _ _ _ (hi.up (by repeat' (first | (with_reducible exact Below.refl _ _) | (with_reducible assumption) | (with_reducible refine Below.new ?_ _) | (with_reducible refine Below.alloc ?_ ?_ _) | (with_reducible refine Below.drew ?_) | (with_reducible refine below_drewN ?_ _) | (with_reducible refine Below.setCell ?_ ?_ _) | (refine Below.next ?_ (by with_reducible assumption)) | (refine Below.row ?_ (by with_reducible assumption) (by omega)) | (refine Below.trans ?_ (by with_reducible assumption)) | (refine Below.after ?_ ?_ (by with_reducible assumption)) | go_size))) (hi2.up (by repeat' (first | (with_reducible exact Below.refl _ _) | (with_reducible assumption) | (with_reducible refine Below.new ?_ _) | (with_reducible refine Below.alloc ?_ ?_ _) | (with_reducible refine Below.drew ?_) | (with_reducible refine below_drewN ?_ _) | (with_reducible refine Below.setCell ?_ ?_ _) | (refine Below.next ?_ (by with_reducible assumption)) | (refine Below.row ?_ (by with_reducible assumption) (by omega)) | (refine Below.trans ?_ (by with_reducible assumption)) | (refine Below.after ?_ ?_ (by with_reducible assumption)) | go_size))) (by omega) (by omega)).mono ?_; rintro e w1 ⟨rfl, hb1⟩))
      have hdt : decide (xs = xs) = true := by simp
      all_goals repeat' (first | fail | go_values | go_skip | go_guarded | go_step | go_upon | (simp only []; go_step) | (go_ite <;> go_prune <;> (try go_simp)))
      all_goals exact ⟨⟨k + 1, by omega, by go_num, by repeat' (first | (with_reducible exact Below.refl _ _) | (with_reducible assumption) | (with_reducible refine Below.new ?_ _) | (with_reducible refine Below.alloc ?_ ?_ _) | (with_reducible refine Below.drew ?_) | (with_reducible refine below_drewN ?_ _) | (with_reducible refine Below.setCell ?_ ?_ _) | (refine Below.next ?_ (by with_reducible assumption)) | (refine Below.row ?_ (by with_reducible assumption) (by omega)) | (refine Below.trans ?_ (by with_reducible assumption)) | (refine Below.after ?_ ?_ (by with_reducible assumption)) | go_size)⟩, by simp [intOf]; omega⟩
    · repeat' (first | fail | go_values | go_skip | go_guarded | go_step | go_upon | (simp only []; go_step) | (go_ite <;> go_prune <;> (try go_simp)))
      all_goals go_returns
      all_goals exact ⟨rfl, by repeat' (first | (with_reducible exact Below.refl _ _) | (with_reducible assumption) | (with_reducible refine Below.new ?_ _) | (with_reducible refine Below.alloc ?_ ?_ _) | (with_reducible refine Below.drew ?_) | (with_reducible refine below_drewN ?_ _) | (with_reducible refine Below.setCell ?_ ?_ _) | (refine Below.next ?_ (by with_reducible assumption)) | (refine Below.row ?_ (by with_reducible assumption) (by omega)) | (refine Below.trans ?_ (by with_reducible assumption)) | (refine Below.after ?_ ?_ (by with_reducible assumption)) | go_size)⟩
end Go.Proofs.Ytdomghjdnnnifaa
