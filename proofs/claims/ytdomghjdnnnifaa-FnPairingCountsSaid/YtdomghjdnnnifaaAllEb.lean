/- All pairings by the program: the closure of eachPairing for the best one. -/
import Derived.Test.YtdomghjdnnnifaaAllE
namespace Go.Proofs.Ytdomghjdnnnifaa
open Go.RowKit Go.ChangeShapes Go.WideShapes Go.ChangeAt
set_option linter.unusedVariables false
set_option linter.unusedSimpArgs false
set_option maxRecDepth 100000 in
set_option maxHeartbeats 3200000 in
theorem each_walk_best (I : List (List Int) → World → Prop) (S : Nat → Prop) (B C D Pp Wk g n cp c Co Mi Le Be : Nat) (A : Option Addr) (css : List (List Int)) (hA : areB css = true) (hn : n = css.length) (hcp : n ≤ cp) (hSB : ∀ k, S k → B ≤ k) (hgB : B ≤ g) (hgS : ¬ S g) (hC : ¬ S C ∧ C ≠ g) (hD : ¬ S D ∧ D ≠ g) (hP : ¬ S Pp ∧ Pp ≠ g) (hW : ¬ S Wk ∧ Wk ≠ g)
    (hIst : ∀ vis w w', I vis w → Off (fun k => k = g) w w' → I vis w')
    (hdo : ∀ vis w qs, I vis w → B ≤ w.heap.size → II64 w B A css → w.cell? ⟨C, 0, none⟩ = some (.slice A css.length c) → OwnI w B (.slice (some ⟨g, 0, none⟩) n cp) qs → pairB css qs = true →
      Calls Try.prog 83 #[.slice (some ⟨g, 0, none⟩) n cp, .pointer (some ⟨Co, 0, none⟩), .pointer (some ⟨Mi, 0, none⟩), .pointer (some ⟨Le, 0, none⟩), .pointer (some ⟨Be, 0, none⟩)] w fun e w' => e = .returned (.tuple #[]) ∧ I (vis ++ [qs]) w' ∧ Off S w w') :
    ∀ (rest pre : List (List Int)) (ps : List Int) (vis : List (List Int)) (qs : List Int) (w : World), css = pre ++ rest → ps.length = pre.length → prk css ps ps.length = true →
      Fr B C D Pp Wk g n cp A c css (.func (.func 83) #[] #[.pointer (some ⟨Co, 0, none⟩), .pointer (some ⟨Mi, 0, none⟩), .pointer (some ⟨Le, 0, none⟩), .pointer (some ⟨Be, 0, none⟩)]) (.func (.func 79) #[] #[.pointer (some ⟨C, 0, none⟩), .pointer (some ⟨D, 0, none⟩), .pointer (some ⟨Pp, 0, none⟩), .pointer (some ⟨Wk, 0, none⟩)]) w → I vis w → OwnI w B (.slice (some ⟨g, 0, none⟩) n cp) qs → qs.take ps.length = ps →
      Calls Try.prog 79 #[.int .i64 ps.length, .pointer (some ⟨C, 0, none⟩), .pointer (some ⟨D, 0, none⟩), .pointer (some ⟨Pp, 0, none⟩), .pointer (some ⟨Wk, 0, none⟩)] w fun e w' =>
        e = .returned (.tuple #[]) ∧ I (vis ++ allR rest ps) w' ∧ Off (fun k => S k ∨ k = g) w w' ∧ ∃ qs', OwnI w' B (.slice (some ⟨g, 0, none⟩) n cp) qs' ∧ qs'.take ps.length = ps
  | [], pre, ps, vis, qs, w, hcs, hl, hp, hF, hI, ho, ht => by
    have hqn := ho.reads.1
    have hpn : ps.length = css.length := by rw [hcs, hl]; simp
    have hq : qs = ps := by rw [← ht, List.take_of_length_le (by omega)]
    subst hq
    have hpair : pairB css qs = true := by rw [pairB, decide_eq_true hpn, hp]; rfl
    obtain ⟨f1, f2, f3, f4, f5, f6⟩ := hF
    have hpnH := Lib.hid hpn
    have heq : ((qs.length : Int) == (css.length : Int)) = true := by simp [hpn]
    have hcall := hdo vis w qs hI f6 f5 f1 ho hpair
    have hallH : Hid (allR [] qs = [qs]) := rfl
    have hoH := Lib.hid ho
    have htH := Lib.hid ht
    clear hpn ht ho hl hqn hn hcs
    go_enter Try.func79, Try.ntmps79
    repeat' (first | fail | go_values | go_skip | go_guarded | go_step | go_upon | (simp only []; go_step) | (go_ite <;> go_prune <;> (try go_simp)))
    refine hcall.mono ?_
    rintro e w1 ⟨rfl, hI1, hO1⟩
    repeat' (first | fail | go_values | go_skip | go_guarded | go_step | go_upon | (simp only []; go_step) | (go_ite <;> go_prune <;> (try go_simp)))
    all_goals go_returns
    all_goals exact ⟨rfl, by rw [hallH.out]; exact hI1, hO1.mono (fun k h => .inl h), qs, hoH.out.offS hO1 (fun k hk => by simp only [Value.ownBlock, Option.some.injEq] at hk; exact hk ▸ hgS), htH.out⟩
  | row :: rest, pre, ps, vis, qs, w, hcs, hl, hp, hF, hI, ho, ht => by
    have hqn := ho.reads.1
    have hrow : css[ps.length]? = some row := by rw [hcs, hl, List.getElem?_append_right (Nat.le_refl _), Nat.sub_self]; rfl
    have hrl := ((are_facts hA).2 _ row hrow).1
    have h6 := (are_facts hA).1
    have hpl : ps.length < css.length := lt_of_get hrow
    have heq : ((ps.length : Int) == (css.length : Int)) = false := by simp; omega
    have e1 : css = (pre ++ [row]) ++ rest := by rw [hcs]; simp
    have hS2 : ∀ k, (S k ∨ k = g) → B ≤ k := fun k h => h.elim (hSB k) (fun h => h ▸ hgB)
    have IH := Lib.hid (fun (k : Int) (vis' : List (List Int)) (qs' : List Int) (w' : World) (hk : k = -1 ∨ ∃ (j : Nat) (y : Int), k = j ∧ row[j]? = some y ∧ 0 ≤ y ∧ ¬ (j : Int) ∈ ps) (hF' : Fr B C D Pp Wk g n cp A c css (.func (.func 83) #[] #[.pointer (some ⟨Co, 0, none⟩), .pointer (some ⟨Mi, 0, none⟩), .pointer (some ⟨Le, 0, none⟩), .pointer (some ⟨Be, 0, none⟩)]) (.func (.func 79) #[] #[.pointer (some ⟨C, 0, none⟩), .pointer (some ⟨D, 0, none⟩), .pointer (some ⟨Pp, 0, none⟩), .pointer (some ⟨Wk, 0, none⟩)]) w') (hI' : I vis' w') (ho' : OwnI w' B (.slice (some ⟨g, 0, none⟩) n cp) qs') (ht' : qs'.take ps.length = ps) (hlt' : ps.length < qs'.length) (hk' : qs'[ps.length]? = some k) => by
      have h := each_walk_best I S B C D Pp Wk g n cp c Co Mi Le Be A css hA hn hcp hSB hgB hgS hC hD hP hW hIst hdo rest (pre ++ [row]) (ps ++ [k]) vis' qs' w' e1 (by simp [hl]) (prk_app hcs hl hp hk) hF' hI' ho' (by rw [List.length_append, show [k].length = 1 from rfl, take_snoc hk', ht'])
      rw [show ((ps ++ [k]).length : Int) = (ps.length : Int) + 1 by simp] at h
      exact h)
    have hacc := Lib.hid (allR_cons (row := row) (rest := rest) (ps := ps))
    have hrowH := Lib.hid hrow
    have hFH := Lib.hid hF
    have hnH := Lib.hid hn
    obtain ⟨f1, f2, f3, f4, f5, f6⟩ := hF
    obtain ⟨b, o, A', c', rfl, hb, hc, hi⟩ := f5.at_ hrowH.out
    have p0 : (0 : Int) ≤ (ps.length : Int) := by omega
    have p1 : (ps.length : Int) < (css.length : Int) := by omega
    have hoH := Lib.hid ho
    have htH := Lib.hid ht
    have hIH := Lib.hid hI
    have hqnH := Lib.hid hqn
    clear hcs hl hp hrow e1 hdo hn ho ht hI hqn
    go_enter Try.func79, Try.ntmps79
    repeat' (first | fail | go_values | go_skip | go_guarded | go_step | go_upon | (simp only []; go_step) | (go_ite <;> go_prune <;> (try go_simp)))
    go_loopw [6] (fun kv wr => ∃ (m : Nat) (qs' : List Int), m ≤ row.length + 1 ∧ kv = .int .i64 ((m : Int) - 1) ∧ I (vis ++ accU row rest ps m) wr ∧ Off (fun k => S k ∨ k = g) w wr ∧ OwnI wr B (.slice (some ⟨g, 0, none⟩) n cp) qs' ∧ Hid (qs'.take ps.length = ps)) (fun kv _ => row.length + 1 - (intOf kv + 1).toNat)
    case atStart => exact ⟨0, qs, Nat.zero_le _, by simp, by rw [accU_zero, List.append_nil]; exact hIH.out, Off.refl _ _, hoH.out, htH.out⟩
    case round =>
      clear f1 f2 f3 f4 f5 
      obtain ⟨m, qs', hm, rfl, hI', hO, ho', ht'⟩ := hrel
      have hF' := hFH.out.off hO hS2 (fun h => h.elim hC.1 hC.2) (fun h => h.elim hD.1 hD.2) (fun h => h.elim hP.1 hP.2) (fun h => h.elim hW.1 hW.2)
      have hFW := Lib.hid hF'
      obtain ⟨f1, f2, f3, f4, f5, f6'⟩ := hF'
      have hbel := hO.below hS2 f6
      have hiW := hi.below hbel
      have hcW := (hbel.cell (p := ⟨b, o + ps.length, none⟩) hb).trans hc
      have hqn' := ho'.reads.1
      obtain ⟨z, hz⟩ := get_of_lt (xs := qs') (k := ps.length) (by have := hnH.out; omega)
      obtain ⟨g', eg, hgb', hcz, hfz, hst⟩ := ho'.cell hz
      simp only [Option.some.injEq, Addr.mk.injEq, and_true] at eg
      subst eg
      have hlt' : ps.length < qs'.length := lt_of_get hz
      have hnn : (ps.length : Int) < (n : Int) := by have := hnH.out; omega
      have hnc : (ps.length : Int) ≤ (cp : Int) := by omega
      have hstH := Lib.hid hst
      have hqnH' := Lib.hid hqn'
      have hI'H := Lib.hid hI'
      have hgw : g < wr.heap.size := World.block_lt_of_cell? wr ⟨g, ps.length, none⟩ hcz
      clear hst hz hqn' hI'
      rcases m with _ | j
      · rw [show ((0 : Nat) : Int) - 1 = -1 by rfl]
        have q3 : (-1 : Int) < (row.length : Int) := by omega
        have hsu := Lib.hid (accU_one (row := row) (rest := rest) (ps := ps))
        repeat' (first | (first | (go_at_call 65; refine (impl_length64 _ _ _ _).mono ?_; rintro e w' ⟨rfl, rfl⟩)) | go_values | go_skip | go_guarded | go_step | go_upon | (simp only []; go_step) | (go_ite <;> go_prune <;> (try go_simp)))
        have hs := hstH.out (-1)
        have hOg : Off (fun k => k = g) wr _ := Off.of_grown hs.2 rfl
        have hF2 := hFW.out.off hOg (fun k h => h ▸ hgB) hC.2 hD.2 hP.2 hW.2
        have hI2 := hIst _ _ _ hI'H.out hOg
        have ht2 : (qs'.set ps.length (-1)).take ps.length = ps := by rw [List.take_set_of_le (Nat.le_refl _)]; exact ht'.out
        have hk2 : (qs'.set ps.length (-1))[ps.length]? = some (-1) := List.getElem?_set_self hlt'
        refine (IH.out (-1) (vis ++ accU row rest ps 0) (qs'.set ps.length (-1)) _ (.inl rfl) hF2 hI2 hs.1 ht2 (by rw [List.length_set]; exact hlt') hk2).mono ?_
        rintro e w3 ⟨rfl, hI3, hO3, qs3, ho3, ht3⟩
        have ht3' : qs3.take ps.length = ps := by
          have h := congrArg (List.take ps.length) ht3
          rw [List.take_take, List.length_append, Nat.min_eq_left (by omega), List.take_append_of_le_length (Nat.le_refl _), List.take_length] at h; exact h
        repeat' (first | fail | go_values | go_skip | go_guarded | go_step | go_upon | (simp only []; go_step) | (go_ite <;> go_prune <;> (try go_simp)))
        all_goals exact ⟨⟨0 + 1, qs3, by omega, by rfl, by rw [hsu.out]; simpa [accU_zero] using hI3, (hO.trans (hOg.mono (fun k h => .inr h))).trans hO3, ho3, ht3'⟩, by simp [intOf] <;> omega⟩
      · rw [show ((j + 1 : Nat) : Int) - 1 = (j : Int) by omega]
        have q0 : ¬ (j : Int) < 0 := by omega
        have q1 : (0 : Int) ≤ (j : Int) := by omega
        by_cases hj : j < row.length
        · obtain ⟨y, hy⟩ := get_of_lt hj
          obtain ⟨b3, o3, rfl, hb3, hc3⟩ := hiW.at_ hy
          have q2 : (j : Int) < (row.length : Int) := by omega
          have hyes := Lib.hid (accU_yes (row := row) (rest := rest) (ps := ps) hy)
          have hno := Lib.hid (accU_no (row := row) (rest := rest) (ps := ps) hy)
          have hyH := Lib.hid hy
          have hcon : I64 wr wr.heap.size (some ⟨g, 0, none⟩) ps := by have h := ho'.reads.2.take ps.length; rw [ht'.out] at h; exact h
          clear hy
          by_cases y0 : y < 0
          · have hsu := Lib.hid (hno.out (.inl (by omega)))
            clear hyes hno
            repeat' (first | (first | (go_at_call 65; refine (impl_length64 _ _ _ _).mono ?_; rintro e w' ⟨rfl, rfl⟩)) | go_values | go_skip | go_guarded | go_step | go_upon | (simp only []; go_step) | (go_ite <;> go_prune <;> (try go_simp)))
            all_goals exact ⟨⟨j + 1 + 1, qs', by omega, by congr 1; omega, by rw [hsu.out]; exact hI'H.out, hO, ho', ht'⟩, by simp [intOf]; omega⟩
          · cases y2 : decide ((j : Int) ∈ ps)
            · have hsu := Lib.hid (hyes.out (by omega) (by simpa using y2))
              clear hno hyes
              repeat' (first | (first | (go_at_call 65; refine (impl_length64 _ _ _ _).mono ?_; rintro e w' ⟨rfl, rfl⟩)) | go_values | go_skip | go_guarded | go_step | go_upon | (simp only []; go_step) | (go_ite <;> go_prune <;> (try go_simp)))
              refine (slices_Contains' _ _ _ ps _ _ wr rfl (by omega) hcon y2).mono ?_
              rintro e w' ⟨rfl, rfl⟩
              repeat' (first | fail | go_values | go_skip | go_guarded | go_step | go_upon | (simp only []; go_step) | (go_ite <;> go_prune <;> (try go_simp)))
              have hs := hstH.out (j : Int)
              have hOg : Off (fun k => k = g) wr _ := Off.of_grown hs.2 rfl
              have hF2 := hFW.out.off hOg (fun k h => h ▸ hgB) hC.2 hD.2 hP.2 hW.2
              have hI2 := hIst _ _ _ hI'H.out hOg
              have ht2 : (qs'.set ps.length (j : Int)).take ps.length = ps := by rw [List.take_set_of_le (Nat.le_refl _)]; exact ht'.out
              have hk2 : (qs'.set ps.length (j : Int))[ps.length]? = some (j : Int) := List.getElem?_set_self hlt'
              refine (IH.out (j : Int) (vis ++ accU row rest ps (j + 1)) (qs'.set ps.length (j : Int)) _ (.inr ⟨j, y, rfl, hyH.out, by omega, by simpa using y2⟩) hF2 hI2 hs.1 ht2 (by rw [List.length_set]; exact hlt') hk2).mono ?_
              rintro e w3 ⟨rfl, hI3, hO3, qs3, ho3, ht3⟩
              have ht3' : qs3.take ps.length = ps := by
                have h := congrArg (List.take ps.length) ht3
                rw [List.take_take, List.length_append, Nat.min_eq_left (by omega), List.take_append_of_le_length (Nat.le_refl _), List.take_length] at h; exact h
              repeat' (first | fail | go_values | go_skip | go_guarded | go_step | go_upon | (simp only []; go_step) | (go_ite <;> go_prune <;> (try go_simp)))
              all_goals exact ⟨⟨j + 1 + 1, qs3, by omega, by congr 1; omega, by rw [hsu.out]; simpa using hI3, (hO.trans (hOg.mono (fun k h => .inr h))).trans hO3, ho3, ht3'⟩, by simp [intOf]; omega⟩
            · have hsu := Lib.hid (hno.out (.inr (by simpa using y2)))
              clear hno hyes
              repeat' (first | (first | (go_at_call 65; refine (impl_length64 _ _ _ _).mono ?_; rintro e w' ⟨rfl, rfl⟩)) | go_values | go_skip | go_guarded | go_step | go_upon | (simp only []; go_step) | (go_ite <;> go_prune <;> (try go_simp)))
              refine (slices_Contains' _ _ _ ps _ _ wr rfl (by omega) hcon y2).mono ?_
              rintro e w' ⟨rfl, rfl⟩
              repeat' (first | fail | go_values | go_skip | go_guarded | go_step | go_upon | (simp only []; go_step) | (go_ite <;> go_prune <;> (try go_simp)))
              all_goals exact ⟨⟨j + 1 + 1, qs', by omega, by congr 1; omega, by rw [hsu.out]; exact hI'H.out, hO, ho', ht'⟩, by simp [intOf]; omega⟩
        · have e : j = row.length := by omega
          subst e
          repeat' (first | (first | (go_at_call 65; refine (impl_length64 _ _ _ _).mono ?_; rintro e w' ⟨rfl, rfl⟩)) | go_values | go_skip | go_guarded | go_step | go_upon | (simp only []; go_step) | (go_ite <;> go_prune <;> (try go_simp)))
          all_goals go_returns
          all_goals exact ⟨rfl, by rw [hacc.out]; exact hI'H.out, hO, qs', ho', ht'.out⟩
end Go.Proofs.Ytdomghjdnnnifaa
