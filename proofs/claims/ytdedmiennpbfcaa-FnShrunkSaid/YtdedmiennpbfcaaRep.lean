/- slices.Repeat of one number: contract. -/
import Derived.Test.YtdedmiennpbfcaaTwo
import Derived.Laws.CopyOwn
import Derived.Deep.RegionLaw
import Derived.Deep.RegionHeld3
import Derived.Shelf.Bits.Mul64
namespace Go.Proofs.Ytdedmiennpbfcaa
open Go.RowKit Go.ChangeShapes Go.WideShapes Go.ChangeAt
set_option linter.unusedVariables false
set_option linter.unusedSimpArgs false
theorem rep_cells {w : World} {base g n : Nat} {ty : TypeId} {xs : List Value} (h : w.ownsRow base ty 1 (.slice (some ⟨g, 0, none⟩) n n) n xs) : w.heap[g]? = some (.cells xs.toArray ty (0, 0)) := by
  obtain ⟨h1, h2 | ⟨g', cap, cur, hv, hb, hg, hnc, hcm, hsz, htk⟩⟩ := h
  · cases h2.1
  · injection hv with e1 e2 e3
    injection e1 with e1
    injection e1 with e1
    subst e1 e3
    rw [hg]
    have : cur.toList = xs := by rw [← htk]; exact (List.take_of_length_le (by simp [hsz])).symm
    rw [← this]
theorem rep_src {w : World} {b o : Nat} {u : Value} (h : w.cell? ⟨b, o, none⟩ = some u) : ∀ (j : Nat) (v : Value), [u][j]? = some v → w.cell? ((⟨b, o, none⟩ : Addr).add j) = some v := fun j v hj => by
  have h0 : j = 0 := by have := (List.getElem?_eq_some_iff.1 hj).1; simp at this; omega
  subst h0
  simp at hj
  subst hj
  rw [add_get _ rfl]
  exact h
theorem bits_Mul64_1 (n : Nat) (w : World) (hn : n ≤ 100000) : Calls Try.prog 38 #[.int .u64 1, .int .u64 n] w fun e w' => e = .returned (.tuple #[.int .u64 0, .int .u64 n]) ∧ w = w' := by
  have m1 : bits .and .u64 (n : Int) 4294967295 = (n : Int) := by rw [Mul64.maskN n (by omega), Nat.mod_eq_of_lt (by omega)]
  have m2 : bits .and .u64 (1 : Int) 4294967295 = (1 : Int) := by decide +kernel
  have m4 : bits .and .u64 (0 : Int) 4294967295 = (0 : Int) := by decide +kernel
  have m3 : (n : Int) / 4294967296 = 0 := by omega
  go_enter Try.func38, Try.ntmps38
  go_wp2
  go_ret2
  exact ⟨by simp, rfl⟩
theorem bits_Mul_1 (n : Nat) (w : World) (hn : n ≤ 100000) : Calls Try.prog 36 #[.int .u64 1, .int .u64 n] w fun e w' => e = .returned (.tuple #[.int .u64 0, .int .u64 n]) ∧ w = w' := by
  go_enter Try.func36, Try.ntmps36
  go_wp2_with (go_at_call 38; refine (bits_Mul64_1 n _ hn).mono ?_; rintro e w' ⟨rfl, rfl⟩)
  go_ret2
  exact ⟨rfl, rfl⟩
set_option maxHeartbeats 400000 in
set_option maxRecDepth 100000 in
theorem slices_Repeat1 (A : Option Addr) (c n : Nat) (x : Int) (w : World) (hr : I64 w w.heap.size A [x]) (hn : n ≤ 100000) (hn1 : 1 ≤ n) :
    Calls Try.prog 31 #[.slice A 1 c, .int .i64 n] w fun e w' => ∃ v, e = .returned v ∧ OwnI w' w.heap.size v (List.replicate n x) ∧ Below w.heap.size w w' := by
  obtain ⟨i0, hi, hz0, hz1, hz2⟩ := info_parts int_info
  obtain ⟨b, o, rfl, hb, hc⟩ := hr.at_ (k := 0) (x := x) rfl
  have hc' : w.cell? ⟨b, o, none⟩ = some (.int .i64 x) := by simpa using hc
  have hsz1 : (Try.prog.info? 2).map (·.size) = some 1 := by kernel_rfl
  go_enter Try.func31, Try.ntmps31
  go_wp2_with (first | (go_at_call 36; refine (bits_Mul_1 n _ hn).mono ?_; rintro e w' ⟨rfl, rfl⟩) | (at_make; refine wpList_make_full _ rfl _ _ 24 rfl w.heap.size 2 i0 _ 1 Try.underlying24 hi hz0 hz1 .i64 .i64 _ _ n rfl rfl rfl rfl (by rw [hz2]; omega) (by simp only [maxLen]; omega) (Nat.le_refl _) ?_; intro w1 hown hg; have hcur := rep_cells hown; have hlen := hown.1; have hb1 : Below w.heap.size w w1 := ⟨hg.os, hg.tape, hg.output, hg.size, fun k hk => hg.block k hk (by simp)⟩) | (refine wpList_copy_splice rfl _ _ _ _ rfl 2 Try.underlying24 hsz1 _ _ _ _ _ _ rfl rfl w.heap.size 0 _ 2 hcur [.int .i64 x] (by show 1 = Nat.min 1 n; exact (Nat.min_eq_left hn1).symm) (fun _ => ⟨rfl, _, rfl, rep_src ((hb1.cell (p := ⟨b, o, none⟩) hb).trans hc')⟩) (by simp only [List.length_cons, List.length_nil]; omega) (by intro v hv; simp at hv; subst hv; rfl) w.heap.size w hb1 (Nat.le_refl _) ?_; intro w2 hg2 hb2))
  all_goals repeat' (first | fail | go_values | go_skip | go_guarded | go_step | go_upon | (simp only []; go_step) | (go_ite <;> go_prune <;> (try go_simp)))
  have hz0 : ∃ zs : List Int, zs.length = n ∧ Hid (w2.heap[w.heap.size]? = some (.cells (zs.map (Value.int .i64)).toArray 2 (0, 0))) ∧ zs.take 1 = [x] := by
    have e : (madeCells (Value.int .i64 0).cells (n * 1)).toList = (List.replicate n (0 : Int)).map (Value.int .i64) := by
      simp only [show (Value.int .i64 0).cells = #[Value.int .i64 0] from rfl, Nat.mul_one, toList_madeCells_one, List.map_replicate]
    refine ⟨x :: List.replicate (n - 1) 0, by simp; omega, ?_, by simp⟩
    have h := hg2.out
    rw [e] at h
    unfold Hid
    rw [h]
    obtain ⟨m, rfl⟩ : ∃ m, n = m + 1 := ⟨n - 1, by omega⟩
    simp [splice, List.replicate_succ]
  obtain ⟨zs0, hzl, hzc, hzt⟩ := hz0
  clear hcur hown hg hb1 hg2 hlen
  go_loopw [8] (fun nv wr => ∃ (k : Nat) (zs : List Int), 1 ≤ k ∧ k ≤ n ∧ nv = .int .i64 k ∧ zs.length = n ∧ Hid (wr.heap[w.heap.size]? = some (.cells (zs.map (Value.int .i64)).toArray 2 (0, 0))) ∧ Hid (zs.take k = List.replicate k x) ∧ Below w.heap.size w wr) (fun nv _ => n - (intOf nv).toNat)
  case atStart => exact ⟨1, zs0, Nat.le_refl _, hn1, rfl, hzl, hzc, by simpa [Hid] using hzt, hb2⟩
  case round =>
    clear hzl hzc hzt hb2
    obtain ⟨k, zs, hk1, hkn, rfl, hzl, hzc, hzt, hbr⟩ := hrel
    have hzlH := Lib.hid hzl
    clear hzl
    by_cases hlt : k < n
    · have k0 : (0 : Int) ≤ (k : Int) := by omega
      have k1 : (k : Int) ≤ (n : Int) := by omega
      have k2 : ¬ n = k := by omega
      repeat' (first | fail | go_values | go_skip | go_guarded | go_step | go_upon | (simp only []; go_step) | (go_ite <;> go_prune <;> (try go_simp)))
      obtain ⟨m, hm⟩ : ∃ m, m = Nat.min k (n - k) := ⟨_, rfl⟩
      have hmk : m ≤ k := by rw [hm]; exact Nat.min_le_left _ _
      have hmn : m ≤ n - k := by rw [hm]; exact Nat.min_le_right _ _
      have hm1 : 1 ≤ m := by rw [hm]; exact Nat.le_min.2 ⟨hk1, by omega⟩
      obtain ⟨cs, hcs⟩ : ∃ cs, cs = (zs.take m).map (Value.int .i64) := ⟨_, rfl⟩
      have hcl : cs.length = m := by rw [hcs]; simp; have := hzlH.out; omega
      have hone : ∀ v ∈ cs, v.oneCell' = true := fun v hv => by
        rw [hcs, List.mem_map] at hv
        obtain ⟨y, _, rfl⟩ := hv
        rfl
      have hsrc : ∀ (j : Nat) (v : Value), cs[j]? = some v → wr.cell? ((⟨w.heap.size, 0, none⟩ : Addr).add j) = some v := fun j v hj => by
        rw [add_get _ rfl, Nat.zero_add, cell_of_row wr w.heap.size j _ _ (0, 0) hzc.out]
        rw [hcs, List.map_take, List.getElem?_take] at hj
        split at hj
        · simpa using hj
        · cases hj
      have hfit : k + cs.length ≤ (zs.map (Value.int .i64)).length := by rw [hcl, List.length_map]; have := hzlH.out; omega
      have hoH := Lib.hid hone
      have hsH := Lib.hid hsrc
      have hfH := Lib.hid hfit
      clear hone hsrc hfit
      have hcH := Lib.hid hcs
      have hclH := Lib.hid hcl
      have hmH := Lib.hid hm
      clear hcs hcl hm
      go_region_held3 (fun w' => w'.cell? ⟨b, o, none⟩ = some (.int .i64 x)) (first | exact (hb4.cell (p := ⟨b, o, none⟩) hb).trans hc' | exact (hbr.cell (p := ⟨b, o, none⟩) hb).trans hc') (first | (refine step_copy_splice rfl _ _ _ _ rfl 2 Try.underlying24 hsz1 _ _ _ _ _ _ rfl rfl w.heap.size k (zs.map (Value.int .i64)) 2 (by exact hzc.out) cs (by exact hclH.out.trans hmH.out) (by exact fun _ => ⟨rfl, _, rfl, hsH.out⟩) hfH.out hoH.out w.heap.size w (by exact Below.drew hbr) (Nat.le_refl _) ?_; intro w4 hg4 hb4; rw [hclH.out]))
      all_goals repeat' (first | fail | go_values | go_skip | go_guarded | go_step | go_upon | (simp only []; go_step) | (go_ite <;> go_prune <;> (try go_simp)))
      have hwr : IntKind.i64.wrap ((k : Int) + (m : Int)) = ((k + m : Nat) : Int) := by rw [IntWalk.i64_in _ (by omega)]; omega
      rw [hwr]
      refine ⟨⟨k + m, splice zs k (zs.take m), by omega, by omega, rfl, ?_, ?_, ?_, hb4⟩, by simp only [intOf, Int.toNat_natCast]; omega⟩
      · rw [length_splice]
        · exact hzlH.out
        · simp; have := hzlH.out; omega
      · have h := hg4.out
        rw [hcH.out] at h
        unfold Hid
        rw [h]
        simp [splice, List.map_append, List.map_take, List.map_drop]
      · unfold Hid
        have h1 := hzt.out
        have h2 : zs.take m = List.replicate m x := by
          have : zs.take m = (zs.take k).take m := by rw [List.take_take, Nat.min_eq_left hmk]
          rw [this, h1, List.take_replicate, Nat.min_eq_left hmk]
        have h3 : (zs.take k).length = k := by simp; have := hzlH.out; omega
        rw [splice, h2, h1]
        rw [← List.append_assoc, List.replicate_append_replicate, List.take_left' (by simp)]
    · have e : k = n := by omega
      subst e
      repeat' (first | fail | go_values | go_skip | go_guarded | go_step | go_upon | (simp only []; go_step) | (go_ite <;> go_prune <;> (try go_simp)))
      all_goals go_returns
      have ez : zs = List.replicate k x := by have := hzt.out; rw [List.take_of_length_le (by have := hzlH.out; omega)] at this; exact this
      refine ⟨_, rfl, ⟨some ⟨w.heap.size, 0, none⟩, k, by simp, ?_, ?_⟩, by exact bgr⟩
      · simp
      · right
        refine ⟨w.heap.size, k, (zs.map (Value.int .i64)).toArray, by simp, Nat.le_refl _, hzc.out, by simp, by unfold maxLen; omega, by simp [hzlH.out], ?_⟩
        rw [ez]; simp
end Go.Proofs.Ytdedmiennpbfcaa
