/- All pairings by the reference: contract of l15All. -/
import Derived.Test.YtdomghjdnnnifaaAllA
import Derived.Test.YtdomghjdnnnifaaCoF
import Derived.Test.YtdomghjdnnnifaaLLOwn
import Derived.Test.YtdomghjdnnnifaaRegKit
import Derived.Laws.AppendOwnNone
namespace Go.Proofs.Ytdomghjdnnnifaa
open Go.RowKit Go.ChangeShapes Go.WideShapes Go.ChangeAt
set_option linter.unusedVariables false
set_option linter.unusedSimpArgs false
/-- 'append(out, list...)' onto a slice of numbers of the call's own -/
theorem push_ints {ops : Array Oper} {rest : List Oper} {o : Oper} {a : Act} {Q : Exit → Act → World → Prop} {W : World} {xs ys : List Int} {v u : Value} {base base2 : Nat} (hown : OwnI W base v xs) (hu : OwnI W base2 u ys) (hgd : o.guard = none) (s x : Operand)
    (ho : o.op = .call { callee := .builtin .append, args := #[s, x], argTypes := #[27, 27] }) (hs : a.eval s = v) (hx : a.eval x = u) (hbase : base ≤ W.heap.size) (hb : xs.length ≤ 1048576) (hb2 : ys.length ≤ 1048576)
    (h : ∀ v' w', OwnI w' base v' (xs ++ ys) → W.grownBy w' v.ownBlock → Below base W w' → wpList Try.prog ops Q rest (a.put o.dst v') w') : wpList Try.prog ops Q (o :: rest) a W := by
  obtain ⟨i0, hi, hz0, hz1, hz2⟩ := info_parts int_info
  have hown' := hown
  obtain ⟨A, c, hv, hr2⟩ := hown
  obtain ⟨B, d, hu1, hu2⟩ := hu
  subst hv hu1
  rcases Joins.ownsRow_forms hu2 with ⟨e1, e2⟩ | ⟨g, cap, e1⟩
  · have e3 : ys = [] := List.eq_nil_of_length_eq_zero e2
    subst e3
    refine wpList_append_own_none hgd s x 27 ho base 2 i0 1 Try.underlying27 hi _ xs.length (xs.map (Value.int .i64)) hs hr2 (by rw [hx]; exact e1) (h _ _ (by rw [List.append_nil]; exact hown') (World.grownBy.refl _ _) (Below.refl _ _))
  · have hc := hu2.cells (g := g) (by rw [e1]; rfl)
    refine wpList_append_own W hgd s x 27 ho base 2 i0 _ 1 8 Try.underlying27 hi hz0 hz1 hz2 rfl (by omega) _ xs.length (xs.map (Value.int .i64)) hs hr2 ⟨g, 0, none⟩ ys.length cap (ys.map (Value.int .i64)) (by rw [hx]; exact e1) (by simp) hc (fun u hu => ?_) (by simp only [maxLen]; omega) (by omega) hbase ?_
    · rw [List.mem_map] at hu
      obtain ⟨u', _, rfl⟩ := hu
      rfl
    · intro v' w1 h1 h2 h3
      rw [← List.map_append] at h1
      rcases Joins.ownsRow_forms h1 with ⟨e4, e5⟩ | ⟨g', cap', e4⟩
      · subst e4
        refine h _ _ ⟨none, 0, by rw [List.length_append, e5], ?_⟩ h2 (below_of_grownBy h2 hown' hbase)
        rw [List.length_append]; rw [e5] at h1 ⊢; exact h1
      · subst e4
        refine h _ _ ⟨some ⟨g', 0, none⟩, cap', by rw [List.length_append], ?_⟩ h2 (below_of_grownBy h2 hown' hbase)
        rw [List.length_append]; exact h1
/-- 'append(out, rows...)' -/
theorem push_rows {ops : Array Oper} {rest : List Oper} {o : Oper} {a : Act} {Q : Exit → Act → World → Prop} {W : World} {xss yss : List (List Int)} {v u : Value} {lo mid hi : Nat} (hown : OwnLL W lo mid v xss) (hu : OwnLL W mid hi u yss) (hgd : o.guard = none) (s x : Operand)
    (ho : o.op = .call { callee := .builtin .append, args := #[s, x], argTypes := #[22, 22] }) (hs : a.eval s = v) (hx : a.eval x = u) (hlm : lo ≤ mid) (hbase : mid ≤ W.heap.size) (hb : xss.length ≤ 1048576) (hb2 : yss.length ≤ 1048576)
    (h : ∀ v' w', OwnLL w' lo w'.heap.size v' (xss ++ yss) → W.grownBy w' v.ownBlock → Below lo W w' → wpList Try.prog ops Q rest (a.put o.dst v') w') : wpList Try.prog ops Q (o :: rest) a W := by
  obtain ⟨i0, hinf, hz0, hz1, hz2⟩ := info_parts ints_info'
  have hown' := hown
  obtain ⟨A, c, zs, hv, hz, hr, hk, h4, h5⟩ := hown
  obtain ⟨B, d, zs2, hu1, hz2', hr2, hk2, h42, h52⟩ := hu
  subst hv hu1
  rcases Joins.ownsRow_forms hr2 with ⟨e1, e2⟩ | ⟨g, cap, e1⟩
  · have e3 : yss = [] := List.eq_nil_of_length_eq_zero e2
    subst e3
    refine wpList_append_own_none hgd s x 22 ho lo 27 i0 1 Try.underlying22 hinf _ xss.length zs hs hr (by rw [hx]; exact e1) (h _ _ (by rw [List.append_nil]; exact hown'.mono (Nat.le_refl _) hbase) (World.grownBy.refl _ _) (Below.refl _ _))
  · have hc := hr2.cells (g := g) (by rw [e1]; rfl)
    have hone : ∀ z ∈ zs2, z.oneCell' = true := fun z hzm => by
      obtain ⟨j, hj⟩ := List.getElem?_of_mem hzm
      obtain ⟨ys, hy⟩ := get_of_lt (xs := yss) (k := j) (by have := lt_of_get hj; omega)
      obtain ⟨Az, cz, rfl, _⟩ := (h42 j z ys hj hy).1
      rfl
    refine wpList_append_own W hgd s x 22 ho lo 27 i0 _ 1 24 Try.underlying22 hinf hz0 hz1 hz2 rfl (by omega) _ xss.length zs hs hr ⟨g, 0, none⟩ yss.length cap zs2 (by rw [hx]; exact e1) (by rw [hz2']; omega) hc hone (by simp only [maxLen]; omega) (by omega) (by omega) ?_
    intro v' w1 h1 h2 h3
    have hB : Below lo W w1 := ⟨h2.os, h2.tape, h2.output, h2.size, fun k hk => h2.block k (by omega) (fun e => by have := (hr.lt k e.symm).1; omega)⟩
    have hform : ∃ A' c', v' = .slice A' (xss.length + yss.length) c' := by
      rcases Joins.ownsRow_forms h1 with ⟨e4, e5⟩ | ⟨g', cap', e4⟩
      · exact ⟨none, 0, by rw [e4, e5]⟩
      · exact ⟨_, _, e4⟩
    obtain ⟨A', c', rfl⟩ := hform
    refine h _ _ ⟨A', c', zs ++ zs2, by rw [List.length_append], by rw [List.length_append, List.length_append, hz, hz2'], by rw [List.length_append]; exact h1, fun k hk => (h1.lt k hk).2, fun j z xs hj hxj => ?_, fun i j zi zj hij hi hj => ?_⟩ h2 hB
    · rcases Nat.lt_or_ge j xss.length with h | h
      · rw [List.getElem?_append_left (by omega)] at hj
        rw [List.getElem?_append_left h] at hxj
        have q := (h4 j z xs hj hxj).1.kept h2 (own_kinds (h4 j z xs hj hxj).1 hr)
        exact ⟨q, fun k hk => (q.lt k hk).2⟩
      · rw [List.getElem?_append_right (by omega), hz] at hj
        rw [List.getElem?_append_right h] at hxj
        have q0 := (h42 _ z xs hj hxj).1.mono hlm
        have q := q0.kept h2 (own_kinds q0 hr)
        exact ⟨q, fun k hk => (q.lt k hk).2⟩
    · rcases Nat.lt_or_ge j zs.length with h | h
      · rw [List.getElem?_append_left (by omega)] at hi
        rw [List.getElem?_append_left h] at hj
        exact h5 i j zi zj hij hi hj
      · rw [List.getElem?_append_right h] at hj
        rcases Nat.lt_or_ge i zs.length with h' | h'
        · rw [List.getElem?_append_left h'] at hi
          obtain ⟨xs, hxi⟩ := get_of_lt (xs := xss) (k := i) (by omega)
          obtain ⟨ys, hyj⟩ := get_of_lt (xs := yss) (k := j - zs.length) (by have := lt_of_get hj; omega)
          cases hzi : zi.ownBlock with
          | none => exact .inl rfl
          | some q =>
            refine .inr fun e => ?_
            have := (h4 i zi xs hi hxi).2 q hzi
            have := ((h42 _ zj ys hj hyj).1.lt q e.symm).1
            omega
        · rw [List.getElem?_append_right h'] at hi
          exact h52 _ _ zi zj (by omega) hi hj
set_option maxHeartbeats 400000 in
theorem spec_l01Own (v : Value) (base : Nat) (ys : List Int) (w : World) (ho : OwnI w base v ys) (hl : ys.length ≤ 1048576) :
    Calls Try.prog 78 #[v] w fun e w' => ∃ v', e = .returned v' ∧ OwnI w' w.heap.size v' ys ∧ Below w.heap.size w w' := by
  obtain ⟨B, d, rfl, _⟩ := id ho
  go_enter Try.func78, Try.ntmps78
  go_wp2_with (at_builtin; refine push_ints (W := w.alloc (.cells #[] 2)) (xs := []) (base := w.heap.size) (by exact OwnI.lit0 (Nat.le_refl _)) (by exact ho.alloc _) rfl _ _ rfl rfl rfl (by simp) (by simp) hl ?_; intro v' w4 ho4 hg4 hb4)
  all_goals go_returns
  rw [List.nil_append] at ho4
  exact ⟨_, rfl, ho4, (show Below w.heap.size w (w.alloc (.cells #[] 2)) from by repeat' (first | (with_reducible exact Below.refl _ _) | (with_reducible assumption) | (with_reducible refine Below.new ?_ _) | (with_reducible refine Below.alloc ?_ ?_ _) | (with_reducible refine Below.drew ?_) | (with_reducible refine below_drewN ?_ _) | (with_reducible refine Below.setCell ?_ ?_ _) | (refine Below.next ?_ (by with_reducible assumption)) | (refine Below.row ?_ (by with_reducible assumption) (by omega)) | (refine Below.trans ?_ (by with_reducible assumption)) | (refine Below.after ?_ ?_ (by with_reducible assumption)) | go_size)).trans hb4⟩
theorem OwnLL.lit1 {W : World} {lo : Nat} {y : Value} {ys : List Int} (hy : OwnI W lo y ys) (h : lo ≤ W.heap.size) : OwnLL (W.alloc (.cells #[y] 27)) lo (W.heap.size + 1) (.slice (some ⟨W.heap.size, 0, none⟩) 1 1) [ys] := by
  refine ⟨some ⟨W.heap.size, 0, none⟩, 1, [y], rfl, rfl, World.ownsRow_lit W #[y] 1 h (by simp [maxLen]) rfl, fun k hk => by simp [Value.ownBlock] at hk; omega, fun j z xs hz hx => ?_, fun i j zi zj hij hi hj => ?_⟩
  · have : j = 0 := by have := lt_of_get hz; simp at this; omega
    subst this
    simp at hz hx
    subst hz hx
    exact ⟨hy.alloc _, fun k hk => by have := (hy.lt k hk).2; omega⟩
  · have := lt_of_get hj
    simp at this; omega
set_option maxRecDepth 100000 in
set_option maxHeartbeats 1600000 in
theorem spec_l15All : ∀ (rest pre : List (List Int)) (A : Option Addr) (c base : Nat) (v : Value) (ps : List Int) (w : World) (hr : II64 w w.heap.size A (pre ++ rest)) (hA : areB (pre ++ rest) = true) (ho : OwnI w base v ps) (hlen : ps.length = pre.length) ,
    Calls Try.prog 56 #[.slice A (pre ++ rest).length c, v] w fun e w' => ∃ v', e = .returned v' ∧ OwnLL w' w.heap.size w'.heap.size v' (allR rest ps) ∧ Below w.heap.size w w'
  | [], pre, A, c, base, v, ps, w, hr, hA, ho, hlen => by
    obtain ⟨B, d, rfl, _⟩ := id ho
    have e0 : (pre ++ ([] : List (List Int))).length = ps.length := by simp [hlen]
    have h6 := (are_facts hA).1
    rw [e0] at h6 ⊢
    have hone : Hid (allR [] ps = [ps]) := rfl
    have hlH := Lib.hid hlen
    clear hlen e0
    go_enter Try.func56, Try.ntmps56
    go_wp2_with (go_at_call 78; refine (spec_l01Own _ _ _ _ (ho.below (by repeat' (first | (with_reducible exact Below.refl _ _) | (with_reducible assumption) | (with_reducible refine Below.new ?_ _) | (with_reducible refine Below.alloc ?_ ?_ _) | (with_reducible refine Below.drew ?_) | (with_reducible refine below_drewN ?_ _) | (with_reducible refine Below.setCell ?_ ?_ _) | (refine Below.next ?_ (by with_reducible assumption)) | (refine Below.row ?_ (by with_reducible assumption) (by omega)) | (refine Below.trans ?_ (by with_reducible assumption)) | (refine Below.after ?_ ?_ (by with_reducible assumption)) | go_size))) (by omega)).mono ?_; rintro e w1 ⟨v1, rfl, o1, hbw1⟩; have hzw1 := hbw1.size; (try simp only [World.size_alloc, World.size_setCell, World.size_drew] at hzw1); obtain ⟨A1, c1, rfl, _⟩ := id o1)
    all_goals go_returns
    rw [hone.out]
    have o1' : OwnI w1 w.heap.size (.slice A1 ps.length c1) ps := OwnI.mono o1 (by simp)
    exact ⟨_, rfl, (OwnLL.lit1 o1' (by omega)).mono (Nat.le_refl _) (by simp), by repeat' (first | (with_reducible exact Below.refl _ _) | (with_reducible assumption) | (with_reducible refine Below.new ?_ _) | (with_reducible refine Below.alloc ?_ ?_ _) | (with_reducible refine Below.drew ?_) | (with_reducible refine below_drewN ?_ _) | (with_reducible refine Below.setCell ?_ ?_ _) | (refine Below.next ?_ (by with_reducible assumption)) | (refine Below.row ?_ (by with_reducible assumption) (by omega)) | (refine Below.trans ?_ (by with_reducible assumption)) | (refine Below.after ?_ ?_ (by with_reducible assumption)) | go_size)⟩
  | row :: rest, pre, A, c, base, v, ps, w, hr, hA, ho, hlen => by
    obtain ⟨B, d, rfl, _⟩ := id ho
    obtain ⟨css, hcss⟩ : ∃ css, css = pre ++ row :: rest := ⟨_, rfl⟩
    have e1 : (pre ++ [row]) ++ rest = css := by rw [hcss]; simp
    rw [← hcss] at hr hA ⊢
    have h6 := (are_facts hA).1
    have hrow : css[ps.length]? = some row := by rw [hcss, hlen, List.getElem?_append_right (Nat.le_refl _), Nat.sub_self]; rfl
    have hrl := ((are_facts hA).2 _ row hrow).1
    have hne : ((ps.length : Int) == (css.length : Int)) = false := by have := lt_of_get hrow; simp; omega
    have hps6 : ps.length < css.length := lt_of_get hrow
    have hrest : ∀ r ∈ rest, r.length ≤ 6 := fun r hr => by
      obtain ⟨j, hj⟩ := List.getElem?_of_mem (show r ∈ css by rw [hcss]; simp [hr])
      exact ((are_facts hA).2 j r hj).1
    have hrest6 : rest.length + 1 ≤ 6 := by have := congrArg List.length hcss; simp at this; omega
    have IH := Lib.hid (fun (base' : Nat) (v' : Value) (qs : List Int) (w' : World) (hr' : II64 w' w'.heap.size A css) (ho' : OwnI w' base' v' qs) (hl' : qs.length = ps.length + 1) => by
      have h := spec_l15All rest (pre ++ [row]) A c base' v' qs w' (by rw [e1]; exact hr') (by rw [e1]; exact hA) ho' (by rw [hl', hlen]; simp)
      rw [e1] at h; exact h)
    have hrowH := Lib.hid hrow
    have hrestH := Lib.hid hrest
    have hacc := Lib.hid (allR_cons (row := row) (rest := rest) (ps := ps))
    clear hcss e1 hlen hrow hrest hA
    obtain ⟨b, o, A', c', rfl, hb, hc, hi⟩ := hr.at_ hrowH.out
    have p0 : (0 : Int) ≤ (ps.length : Int) := by omega
    have p1 : (ps.length : Int) < (css.length : Int) := by omega
    go_enter Try.func56, Try.ntmps56
    repeat' (first | fail | go_values | go_skip | go_guarded | go_step | go_upon | (simp only []; go_step) | (go_ite <;> go_prune <;> (try go_simp)))
    go_loopw [6, 7] (fun vv kv wr => ∃ m : Nat, m ≤ row.length + 1 ∧ kv = .int .i64 ((m : Int) - 1) ∧ OwnLL wr w.heap.size wr.heap.size vv (accU row rest ps m) ∧ Below w.heap.size w wr) (fun _ kv _ => row.length + 1 - (intOf kv + 1).toNat)
    case atStart => exact ⟨0, Nat.zero_le _, by simp, by simpa [accU_zero] using OwnLL.lit0 (lo := w.heap.size) (W := w) (Nat.le_refl _), by repeat' (first | (with_reducible exact Below.refl _ _) | (with_reducible assumption) | (with_reducible refine Below.new ?_ _) | (with_reducible refine Below.alloc ?_ ?_ _) | (with_reducible refine Below.drew ?_) | (with_reducible refine below_drewN ?_ _) | (with_reducible refine Below.setCell ?_ ?_ _) | (refine Below.next ?_ (by with_reducible assumption)) | (refine Below.row ?_ (by with_reducible assumption) (by omega)) | (refine Below.trans ?_ (by with_reducible assumption)) | (refine Below.after ?_ ?_ (by with_reducible assumption)) | go_size)⟩
    case round =>
      rename World => W0
      obtain ⟨m, hm, rfl, hv, hbr⟩ := hrel
      have hsz := hbr.size
      have hrW := hr.up hbr
      have hlm := accU_len (row := row) (ps := ps) hrestH.out (m := m) (by omega)
      have hp7 := pow7 hrest6
      have hbig : (accU row rest ps m).length ≤ 1048576 := by omega
      clear hlm hp7
      obtain ⟨Av, cv, rfl⟩ := hv.form
      rcases m with _ | j
      · rw [show ((0 : Nat) : Int) - 1 = -1 by rfl]
        have hsu := Lib.hid (accU_one (row := row) (rest := rest) (ps := ps))
        repeat' (first | fail | go_values | go_skip | go_guarded | go_step | go_upon | (simp only []; go_step) | (go_ite <;> go_prune <;> (try go_simp)))
        refine (spec_l01Own _ _ _ _ (ho.below (show Below w.heap.size w W0 from hbr)) (by omega)).mono ?_; rintro e w1 ⟨v1, rfl, o1, hbw1⟩; have hzw1 := hbw1.size; (try simp only [World.size_alloc, World.size_setCell, World.size_drew] at hzw1)
        go_wp2_with (at_builtin; refine push_int (base := W0.heap.size) (by exact o1) rfl _ _ rfl rfl rfl (by omega) (by omega) ?_; intro v2 w2 o2 hg2 hb2)
        have B2 : Below W0.heap.size W0 w2 := hbw1.trans hb2
        have hsz2 := B2.size
        refine (IH.out _ _ _ _ (hrW.up B2) o2 (by simp)).mono ?_; rintro e w3 ⟨v3, rfl, o3, hbw3⟩; have hzw3 := hbw3.size; (try simp only [World.size_alloc, World.size_setCell, World.size_drew] at hzw3)
        have B3 : Below W0.heap.size W0 w3 := B2.trans (hbw3.mono hsz2)
        have hv3 := hv.next B3
        have o3' : OwnLL w3 W0.heap.size w3.heap.size v3 (allR rest (ps ++ [-1])) := o3.mono hsz2 (Nat.le_refl _)
        have hl3 := allR_len (ps := ps ++ [-1]) hrestH.out
        have hp3 := pow7 (show rest.length ≤ 6 by omega)
        have hl3' : (allR rest (ps ++ [-1])).length ≤ 1048576 := by omega
        have hsz3 := B3.size
        clear hl3 hp3
        go_wp2_with (at_builtin; refine push_rows (lo := w.heap.size) (mid := W0.heap.size) (by exact hv3) (by exact o3') rfl _ _ rfl rfl rfl hsz hsz3 hbig hl3' ?_; intro v4 w4 o4 hg4 hb4)
        exact ⟨⟨1, by omega, by rfl, by rw [hsu.out, ← List.nil_append (allR rest (ps ++ [-1]))]; exact o4, (hbr.trans (B3.mono hsz)).trans hb4⟩, by simp [intOf] <;> omega⟩
      · rw [show ((j + 1 : Nat) : Int) - 1 = (j : Int) by omega]
        have q0 : ¬ (j : Int) < 0 := by omega
        by_cases hj : j < row.length
        · obtain ⟨y, hy⟩ := get_of_lt hj
          obtain ⟨b3, o3, rfl, hb3, hc3⟩ := (hi.up hbr).at_ hy
          have q1 : (0 : Int) ≤ (j : Int) := by omega
          have q2 : (j : Int) < (row.length : Int) := by omega
          have q3 : (-1 : Int) < (row.length : Int) := by omega
          have hyes := Lib.hid (accU_yes (row := row) (rest := rest) (ps := ps) hy)
          have hno := Lib.hid (accU_no (row := row) (rest := rest) (ps := ps) hy)
          clear hy
          by_cases y0 : 0 ≤ y
          · cases y2 : decide ((j : Int) ∈ ps)
            · have hsu := Lib.hid (hyes.out y0 (by simpa using y2))
              clear hyes hno
              repeat' (first | fail | go_values | go_skip | go_guarded | go_step | go_upon | (simp only []; go_step) | (go_ite <;> go_prune <;> (try go_simp)))
              refine (spec_l01HasB _ _ _ _ _ _ (ho.reads.2.up hbr) (by omega) y2).mono ?_
              rintro e w' ⟨rfl, rfl⟩
              repeat' (first | fail | go_values | go_skip | go_guarded | go_step | go_upon | (simp only []; go_step) | (go_ite <;> go_prune <;> (try go_simp)))
              refine (spec_l01Own _ _ _ _ (ho.below (show Below w.heap.size w W0 from hbr)) (by omega)).mono ?_; rintro e w1 ⟨v1, rfl, o1, hbw1⟩; have hzw1 := hbw1.size; (try simp only [World.size_alloc, World.size_setCell, World.size_drew] at hzw1)
              go_wp2_with (at_builtin; refine push_int (base := W0.heap.size) (by exact o1) rfl _ _ rfl rfl rfl (by omega) (by omega) ?_; intro v2 w2 o2 hg2 hb2)
              have B2 : Below W0.heap.size W0 w2 := hbw1.trans hb2
              have hsz2 := B2.size
              refine (IH.out _ _ _ _ (hrW.up B2) o2 (by simp)).mono ?_; rintro e w3 ⟨v3, rfl, o3, hbw3⟩; have hzw3 := hbw3.size; (try simp only [World.size_alloc, World.size_setCell, World.size_drew] at hzw3)
              have B3 : Below W0.heap.size W0 w3 := B2.trans (hbw3.mono hsz2)
              have hv3 := hv.next B3
              have o3' : OwnLL w3 W0.heap.size w3.heap.size v3 (allR rest (ps ++ [(j : Int)])) := o3.mono hsz2 (Nat.le_refl _)
              have hl3 := allR_len (ps := ps ++ [(j : Int)]) hrestH.out
              have hp3 := pow7 (show rest.length ≤ 6 by omega)
              have hl3' : (allR rest (ps ++ [(j : Int)])).length ≤ 1048576 := by omega
              have hsz3 := B3.size
              clear hl3 hp3
              go_wp2_with (at_builtin; refine push_rows (lo := w.heap.size) (mid := W0.heap.size) (by exact hv3) (by exact o3') rfl _ _ rfl rfl rfl hsz hsz3 hbig hl3' ?_; intro v4 w4 o4 hg4 hb4)
              exact ⟨⟨j + 1 + 1, by omega, by congr 1; omega, by rw [hsu.out]; exact o4, (hbr.trans (B3.mono hsz)).trans hb4⟩, by simp [intOf]; omega⟩
            · have hsu := Lib.hid (hno.out (.inr (by simpa using y2)))
              clear hyes hno
              repeat' (first | fail | go_values | go_skip | go_guarded | go_step | go_upon | (simp only []; go_step) | (go_ite <;> go_prune <;> (try go_simp)))
              refine (spec_l01HasB _ _ _ _ _ _ (ho.reads.2.up hbr) (by omega) y2).mono ?_
              rintro e w' ⟨rfl, rfl⟩
              repeat' (first | fail | go_values | go_skip | go_guarded | go_step | go_upon | (simp only []; go_step) | (go_ite <;> go_prune <;> (try go_simp)))
              all_goals exact ⟨⟨j + 1 + 1, by omega, by congr 1; omega, by rw [hsu.out]; exact hv, by repeat' (first | (with_reducible exact Below.refl _ _) | (with_reducible assumption) | (with_reducible refine Below.new ?_ _) | (with_reducible refine Below.alloc ?_ ?_ _) | (with_reducible refine Below.drew ?_) | (with_reducible refine below_drewN ?_ _) | (with_reducible refine Below.setCell ?_ ?_ _) | (refine Below.next ?_ (by with_reducible assumption)) | (refine Below.row ?_ (by with_reducible assumption) (by omega)) | (refine Below.trans ?_ (by with_reducible assumption)) | (refine Below.after ?_ ?_ (by with_reducible assumption)) | go_size)⟩, by simp [intOf]; omega⟩
          · have hsu := Lib.hid (hno.out (.inl y0))
            clear hyes hno
            repeat' (first | fail | go_values | go_skip | go_guarded | go_step | go_upon | (simp only []; go_step) | (go_ite <;> go_prune <;> (try go_simp)))
            all_goals exact ⟨⟨j + 1 + 1, by omega, by congr 1; omega, by rw [hsu.out]; exact hv, by repeat' (first | (with_reducible exact Below.refl _ _) | (with_reducible assumption) | (with_reducible refine Below.new ?_ _) | (with_reducible refine Below.alloc ?_ ?_ _) | (with_reducible refine Below.drew ?_) | (with_reducible refine below_drewN ?_ _) | (with_reducible refine Below.setCell ?_ ?_ _) | (refine Below.next ?_ (by with_reducible assumption)) | (refine Below.row ?_ (by with_reducible assumption) (by omega)) | (refine Below.trans ?_ (by with_reducible assumption)) | (refine Below.after ?_ ?_ (by with_reducible assumption)) | go_size)⟩, by simp [intOf]; omega⟩
        · have e : j = row.length := by omega
          subst e
          repeat' (first | fail | go_values | go_skip | go_guarded | go_step | go_upon | (simp only []; go_step) | (go_ite <;> go_prune <;> (try go_simp)))
          all_goals go_returns
          all_goals exact ⟨_, rfl, by rw [hacc.out]; exact hv, hbr⟩
end Go.Proofs.Ytdomghjdnnnifaa
