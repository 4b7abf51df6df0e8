/- Costs are told exactly for contacts in the gate, and gates that share a contact meet: the law's walk. Printed by gen_gtlaw.py. -/
import Derived.Test.YtpanignlpcemnaaGtB
import Derived.Test.YtpanignlpcemnaaDrW
import Derived.Test.YtpanignlpcemnaaLike
import Derived.Test.YtpanignlpcemnaaBig
import Derived.Test.YtpanignlpcemnaaCoA
import Derived.Deep.RegionHeld3
namespace Go.Proofs.Ytpanignlpcemnaa
open Go.RowKit Go.ChangeShapes Go.WideShapes Go.ChangeAt
set_option linter.unusedVariables false
set_option linter.unusedSimpArgs false
set_option maxHeartbeats 1600000 in
theorem laws_likeLists5 (A B : Option Addr) (c d : Nat) (xss : List (List Int)) (w : World) (hr : II64 w w.heap.size A xss) (hs : II64 w w.heap.size B xss) (hl : xss.length ≤ 1099511627776) (hm : ∀ (i : Nat) (xs : List Int), xss[i]? = some xs → xs.length ≤ 1099511627776) :
    Calls Try.prog 36 #[.slice A xss.length c, .slice B xss.length d] w fun e w' => e = .returned (.bool true) ∧ Below w.heap.size w w' := by
  go_enter Try.func36, Try.ntmps36
  repeat' (first | fail | go_values | go_skip | go_guarded | go_step | go_upon | (simp only []; go_step) | (go_ite <;> go_prune <;> (try go_simp)))
  go_loopw [5] (fun i wr => ∃ k : Nat, k ≤ xss.length ∧ i = .int .i64 k ∧ Below w.heap.size w wr) (fun i _ => xss.length - (intOf i).toNat)
  case atStart => exact ⟨0, Nat.zero_le _, rfl, by repeat' (first | (with_reducible exact Below.refl _ _) | (with_reducible assumption) | (with_reducible refine Below.new ?_ _) | (with_reducible refine Below.alloc ?_ ?_ _) | (with_reducible refine Below.drew ?_) | (with_reducible refine below_drewN ?_ _) | (with_reducible refine Below.setCell ?_ ?_ _) | (refine Below.next ?_ (by with_reducible assumption)) | (refine Below.row ?_ (by with_reducible assumption) (by omega)) | (refine Below.trans ?_ (by with_reducible assumption)) | (refine Below.after ?_ ?_ (by with_reducible assumption)) | go_size)⟩
  case round =>
    obtain ⟨k, hk, rfl, hbr⟩ := hrel
    by_cases hlt : k < xss.length
    · obtain ⟨xs, hx⟩ := get_of_lt hlt
      obtain ⟨b, o, A', c', rfl, hb, hc, hi⟩ := (hr.up hbr).at_ hx
      obtain ⟨b2, o2, B', d', rfl, hb2, hc2, hi2⟩ := (hs.up hbr).at_ hx
      have hml := hm k xs hx
      have p0 : (0 : Int) ≤ (k : Int) := by omega
      have p1 : (k : Int) < (xss.length : Int) := by omega
      clear hx
      repeat' (first | fail | go_values | go_skip | go_guarded | go_step | go_upon | (simp only []; go_step) | (go_ite <;> go_prune <;> (try go_simp)))
      go_region_held3 (fun w' => w'.cell? ⟨b, o + k, none⟩ = some (.slice A' xs.length c') ∧ w'.cell? ⟨b2, o2 + k, none⟩ = some (.slice B' xs.length d')) (refine ⟨?_, ?_⟩ <;> repeat' (first | (with_reducible assumption) | ((with_reducible apply bx_new) <;> first | (simp only [World.size_alloc, World.size_setCell]; done) | rfl) | (with_reducible apply bx_alloc) | (with_reducible apply bx_other; (first | (simp only [World.size_alloc, World.size_setCell]; omega) | omega)) | (with_reducible apply bx_same) | (with_reducible apply bx_drew) | (with_reducible apply bx_drew1) | (with_reducible apply bx_keep; with_reducible assumption) | fail)) (first | (go_at_call 28; refine (laws_likeInts _ _ _ _ _ _ _ (hi.up (by repeat' (first | (with_reducible exact Below.refl _ _) | (with_reducible assumption) | (with_reducible refine Below.new ?_ _) | (with_reducible refine Below.alloc ?_ ?_ _) | (with_reducible refine Below.drew ?_) | (with_reducible refine below_drewN ?_ _) | (with_reducible refine Below.setCell ?_ ?_ _) | (refine Below.next ?_ (by with_reducible assumption)) | (refine Below.row ?_ (by with_reducible assumption) (by omega)) | (refine Below.trans ?_ (by with_reducible assumption)) | (refine Below.after ?_ ?_ (by with_reducible assumption)) | go_size))) (hi2.up (by repeat' (first | (with_reducible exact Below.refl _ _) | (with_reducible assumption) | (with_reducible refine Below.new ?_ _) | (with_reducible refine Below.alloc ?_ ?_ _) | (with_reducible refine Below.drew ?_) | (with_reducible refine below_drewN ?_ _) | (with_reducible refine Below.setCell ?_ ?_ _) | (refine Below.next ?_ (by with_reducible assumption)) | (refine Below.row ?_ (by with_reducible assumption) (by omega)) | (refine Below.trans ?_ (by with_reducible assumption)) | (refine Below.after ?_ ?_ (by with_reducible assumption)) | go_size))) (by omega) (by omega)).mono ?_; rintro e w1 ⟨rfl, hb1⟩))
      have hdt : decide (xs = xs) = true := by simp
      all_goals repeat' (first | fail | go_values | go_skip | go_guarded | go_step | go_upon | (simp only []; go_step) | (go_ite <;> go_prune <;> (try go_simp)))
      all_goals exact ⟨⟨k + 1, by omega, by go_num, by repeat' (first | (with_reducible exact Below.refl _ _) | (with_reducible assumption) | (with_reducible refine Below.new ?_ _) | (with_reducible refine Below.alloc ?_ ?_ _) | (with_reducible refine Below.drew ?_) | (with_reducible refine below_drewN ?_ _) | (with_reducible refine Below.setCell ?_ ?_ _) | (refine Below.next ?_ (by with_reducible assumption)) | (refine Below.row ?_ (by with_reducible assumption) (by omega)) | (refine Below.trans ?_ (by with_reducible assumption)) | (refine Below.after ?_ ?_ (by with_reducible assumption)) | go_size)⟩, by simp [intOf]; omega⟩
    · repeat' (first | fail | go_values | go_skip | go_guarded | go_step | go_upon | (simp only []; go_step) | (go_ite <;> go_prune <;> (try go_simp)))
      all_goals go_returns
      all_goals exact ⟨rfl, by repeat' (first | (with_reducible exact Below.refl _ _) | (with_reducible assumption) | (with_reducible refine Below.new ?_ _) | (with_reducible refine Below.alloc ?_ ?_ _) | (with_reducible refine Below.drew ?_) | (with_reducible refine below_drewN ?_ _) | (with_reducible refine Below.setCell ?_ ?_ _) | (refine Below.next ?_ (by with_reducible assumption)) | (refine Below.row ?_ (by with_reducible assumption) (by omega)) | (refine Below.trans ?_ (by with_reducible assumption)) | (refine Below.after ?_ ?_ (by with_reducible assumption)) | go_size)⟩
theorem fGM_symm {x y p q s a b c d e : Int} : fGM x y p q s a b c d e = fGM a b c d e x y p q s := by
  unfold fGM
  cases moB x y p q s <;> cases moB a b c d e <;> simp
  rw [cst_swap, Int.add_comm s e]
theorem mss_of {ms : List Mo} {i : Nat} {x y p q s : Int} (h : mssB ms = true) (hx : ms[i]? = some ⟨x, y, p, q, s⟩) : moB x y p q s = true := List.all_eq_true.1 h _ (List.mem_of_getElem? hx)
theorem gCode_one {ms : List Mo} {cs : List (Int × Int)} {i : Nat} {x y p q s : Int} (h : gCode ms cs = 0) (hx : ms[i]? = some ⟨x, y, p, q, s⟩) : gCode [⟨x, y, p, q, s⟩] cs = 0 := by
  obtain ⟨h1, h2, h3, h4⟩ := gCode_ok2 h
  have h5 : mssB [⟨x, y, p, q, s⟩] = true := by rw [mssB, List.all_cons, mss_of h1 hx]; rfl
  rw [gCode, h5, h2]
  simp; omega
theorem gc_get {ms : List Mo} {cs : List (Int × Int)} {i k : Nat} {x y p q s a b : Int} (hx : ms[i]? = some ⟨x, y, p, q, s⟩) (hc : cs[k]? = some (a, b)) : (gcAll ms cs)[i]? = some (gcRow x y s cs) ∧ (gcRow x y s cs)[k]? = some (gcv x y s a b) := by
  constructor
  · rw [gcAll, List.getElem?_map, hx]; rfl
  · rw [gcRow, List.getElem?_map, hc]; rfl
theorem gcv_ge {x y s a b : Int} (hx : -100000 ≤ x ∧ x ≤ 100000) (hy : -100000 ≤ y ∧ y ≤ 100000) (ha : -100000 ≤ a ∧ a ≤ 100000) (hb : -100000 ≤ b ∧ b ≤ 100000) : (gin x y s a b = true → 0 ≤ gcv x y s a b) ∧ (gin x y s a b = false → ¬ 0 ≤ gcv x y s a b) ∧ -1 ≤ gcv x y s a b ∧ gcv x y s a b ≤ 1000000000000 := by
  have := cst_bd hx hy ha hb
  unfold gcv
  cases gin x y s a b <;> simp <;> omega
theorem are_gc {ms : List Mo} {cs : List (Int × Int)} (h : gCode ms cs = 0) : areB (gcAll ms cs) = true := by
  obtain ⟨h1, h2, h3, h4⟩ := gCode_ok2 h
  have hrow : ∀ k, k < ms.length → ∃ x y s, (gcAll ms cs).getD k [] = gcRow x y s cs ∧ ((-100000 ≤ x ∧ x ≤ 100000) ∧ (-100000 ≤ y ∧ y ≤ 100000)) := fun k hk => by
    obtain ⟨⟨x, y, p, q, s⟩, hx⟩ := get_of_lt (xs := ms) (k := k) hk
    have hb := mo_bds (mss_of h1 hx)
    refine ⟨x, y, s, ?_, hb.1, hb.2.1⟩
    rw [gcAll, List.getD_eq_getElem?_getD, List.getElem?_map, hx]; rfl
  unfold areB
  rw [Bool.and_eq_true]
  refine ⟨decide_eq_true (by rw [gcAll_len]; exact h3), ?_⟩
  rw [arek, List.all_eq_true]
  intro k hk
  have hk : k < ms.length := by simpa [gcAll_len] using hk
  obtain ⟨x, y, s, e1, b1, b2⟩ := hrow k hk
  obtain ⟨x0, y0, s0, e0, _⟩ := hrow 0 (by omega)
  rw [e1, e0, rowB, gcRow_len, gcRow_len]
  simp only [Bool.and_eq_true, decide_eq_true_eq]
  refine ⟨h4, trivial, ?_⟩
  rw [allB, List.all_eq_true]
  intro z hz
  rw [gcRow, List.mem_map] at hz
  obtain ⟨⟨a, b⟩, hm, rfl⟩ := hz
  have hc := co_bds (List.all_eq_true.1 h2 _ hm)
  have hv := gcv_ge (s := s) b1 b2 hc.1 hc.2
  exact inB_t ⟨hv.2.2.1, hv.2.2.2⟩
theorem in_gate {x y p q s : Int} {cs : List (Int × Int)} {k : Nat} {a b : Int} (h : gCode [⟨x, y, p, q, s⟩] cs = 0) (hc : cs[k]? = some (a, b)) : decide ((k : Int) ∈ fCts x y p q s cs) = gin x y s a b := by
  have e1 : fCts x y p q s cs = cik x y s cs cs.length := by simp [fCts, h]
  rw [e1, ← giB_of hc]
  cases hg : giB x y s cs k
  · refine decide_eq_false fun hm => ?_
    obtain ⟨j, _, h2, h3⟩ := cik_mem.1 hm
    have : k = j := by omega
    subst this
    rw [hg] at h2; cases h2
  · exact decide_eq_true (cik_mem.2 ⟨k, lt_of_get hc, hg, rfl⟩)
theorem meet_gc {ms : List Mo} {cs : List (Int × Int)} {x y p q s x0 y0 p0 q0 s0 a b : Int} (m1 : moB x y p q s = true) (m0 : moB x0 y0 p0 q0 s0 = true) (h1 : gin x y s a b = true) (h0 : gin x0 y0 s0 a b = true) : fGM x0 y0 p0 q0 s0 x y p q s = (true, 0) := by
  have b1 := (mo_bds m1).2.2.2.2
  have b0 := (mo_bds m0).2.2.2.2
  rw [fGM, if_pos m0, if_pos m1]
  have := meet_of b0.1 b1.1 (of_decide_eq_true h0) (of_decide_eq_true h1)
  rw [decide_eq_true this]
set_option maxHeartbeats 9600000 in
set_option maxRecDepth 100000 in
theorem walk_GateTables (A : Option Addr) (c : Nat) (code : List Int) (w : World) (hr : U8 w w.heap.size A code) (hb : ∀ x ∈ code, 0 ≤ x ∧ x ≤ 255) :
    Calls Try.prog 5 #[.slice A code.length c] w fun e w' => e = .returned (.bool true) ∧ Below w.heap.size w w' := by
  by_cases hl : ¬ code.length ≤ 4096
  · have hl2 : (4096 : Int) < (code.length : Int) := by omega
    go_enter Try.func5, Try.ntmps5
    go_wp2_with (first | (go_at_call 7; refine (laws_big _ _ _ _).mono ?_; rintro e w' ⟨rfl, rfl⟩) | fail)
    all_goals go_returns
    all_goals exact ⟨rfl, Below.refl _ _⟩
  have hl : code.length ≤ 4096 := by omega
  have hl2 : ¬ (4096 : Int) < (code.length : Int) := by omega
  have B : Below w.heap.size w w := Below.refl _ _
  have hrH := Lib.hid hr
  have hbH := Lib.hid hb
  clear hr hb
  go_enter Try.func5, Try.ntmps5
  go_wp2_with (first | (go_at_call 7; refine (laws_big _ _ _ _).mono ?_; rintro e w' ⟨rfl, rfl⟩) | fail)
  refine (spec_DrawGateCosts _ _ _ _ hrH.out hbH.out hl).mono ?_
  rintro e w1 ⟨A1, k1, A2, k2, ms, cs, rfl, rm, rc, hm7, hc7, hb1⟩
  have B : Below w.heap.size w w1 := B.trans hb1
  clear hb1
  obtain ⟨css, hcss⟩ : ∃ css, css = fGc ms cs := ⟨_, rfl⟩
  obtain ⟨g, hg⟩ : ∃ g, g = gCode ms cs := ⟨_, rfl⟩
  have hGI := fun w' h1 h2 => impl_GateCosts A1 A2 k1 k2 ms cs w' h1 h2 (by omega) (by omega)
  have hGS := fun w' h1 h2 => spec_GateCosts A1 A2 k1 k2 ms cs w' h1 h2 (by omega) (by omega)
  have hgl := fGc_len (ms := ms) (cs := cs)
  rw [← hcss] at hgl
  rw [← hcss, ← hg] at hGI hGS
  have hGIH := Lib.hid hGI
  have hGSH := Lib.hid hGS
  have hglH := Lib.hid hgl.2
  have hgl6 := hgl.1
  have hcssH := Lib.hid hcss
  have hgH := Lib.hid hg
  have hrows : Hid (∀ (i : Nat) (xs : List Int), css[i]? = some xs → xs.length ≤ 1099511627776) := fun i xs h => by have := hgl.2 i xs h; omega
  clear hGI hGS hgl hcss hg
  go_wp2_with fail
  refine (hGIH.out _ rm rc).mono ?_
  rintro e w2 ⟨v2, rfl, ol, hb2⟩
  obtain ⟨Al, cl, rfl⟩ := OwnLL.form ol
  have rl := (OwnLL.rd ol).2
  have rm := M64.up rm hb2
  have rc := C64.up rc hb2
  have B : Below w.heap.size w w2 := B.trans (hb2.mono B.size)
  clear hb2 ol
  go_wp2_with fail
  refine (hGSH.out _ rm rc).mono ?_
  rintro e w3 ⟨v3, rfl, os, hb3⟩
  obtain ⟨As, cs1, rfl⟩ := OwnLL.form os
  have rs := (OwnLL.rd os).2
  have rl := II64.up rl hb3
  have rm := M64.up rm hb3
  have rc := C64.up rc hb3
  have B : Below w.heap.size w w3 := B.trans (hb3.mono B.size)
  clear hb3 os
  go_wp2_with fail
  refine (spec_DrawGatesMeet _ _ _ _ (Rd.up hrH.out B) hbH.out hl).mono ?_
  rintro e w4 ⟨xa, ya, pa, qa, sa, xb, yb, pb, qb, sb, rfl, hb4⟩
  have rs := II64.up rs hb4
  have rl := II64.up rl hb4
  have rm := M64.up rm hb4
  have rc := C64.up rc hb4
  have B : Below w.heap.size w w4 := B.trans (hb4.mono B.size)
  clear hb4
  go_wp2_with fail
  refine calls_gen (fun W4 hW4 => ?_)
  have ba : IBox W4 25 w4.heap.size [xa, ya, pa, qa, sa] := by rw [hW4]; exact (IBox.new (w := w4) (T := 25) (l := [xa, ya, pa, qa, sa]) rfl).alloc _
  have bb : IBox W4 25 (w4.heap.size + 1) [xb, yb, pb, qb, sb] := by rw [hW4]; exact IBox.new (w := w4.alloc _) (T := 25) (l := [xb, yb, pb, qb, sb]) (by rw [World.size_alloc])
  have hb4 : Below w4.heap.size w4 W4 := by rw [hW4]; exact Below.new (Below.new (Below.refl _ _) _) _
  have rs := II64.up rs hb4
  have rl := II64.up rl hb4
  have rm := M64.up rm hb4
  have rc := C64.up rc hb4
  have B : Below w.heap.size w W4 := B.trans (hb4.mono B.size)
  clear hW4 hb4
  rcases hgm : fGM xa ya pa qa sa xb yb pb qb sb with ⟨mt, one⟩
  have hMI := fun w => impl_GatesMeet xa ya pa qa sa xb yb pb qb sb w
  have hMS := fun w => spec_GatesMeet xa ya pa qa sa xb yb pb qb sb w
  have hMB := fun w => impl_GatesMeet xb yb pb qb sb xa ya pa qa sa w
  rw [fGM_symm, hgm] at hMB
  rw [hgm] at hMI hMS
  have hMIH := Lib.hid hMI
  have hMSH := Lib.hid hMS
  have hMBH := Lib.hid hMB
  clear hMI hMS hMB hgm
  refine (hMIH.out _).mono ?_
  rintro e w5 ⟨rfl, hb5⟩
  have rs := II64.up rs hb5
  have rl := II64.up rl hb5
  have rm := M64.up rm hb5
  have rc := C64.up rc hb5
  have ba := ba.next hb5
  have bb := bb.next hb5
  have B : Below w.heap.size w w5 := B.trans (hb5.mono B.size)
  clear hb5
  have a0 := ba.cell (j := 0) rfl
  have a1 := ba.cell (j := 1) rfl
  have a2 := ba.cell (j := 2) rfl
  have a3 := ba.cell (j := 3) rfl
  have a4 := ba.cell (j := 4) rfl
  have af := ba.fz
  have b0 := bb.cell (j := 0) rfl
  have b1 := bb.cell (j := 1) rfl
  have b2 := bb.cell (j := 2) rfl
  have b3 := bb.cell (j := 3) rfl
  have b4 := bb.cell (j := 4) rfl
  have bf := bb.fz
  go_wp2_with fail
  clear a0 a1 a2 a3 a4 af b0 b1 b2 b3 b4 bf
  refine (hMSH.out _).mono ?_
  rintro e w6 ⟨rfl, hb6⟩
  have rs := II64.up rs hb6
  have rl := II64.up rl hb6
  have rm := M64.up rm hb6
  have rc := C64.up rc hb6
  have ba := ba.next hb6
  have bb := bb.next hb6
  have B : Below w.heap.size w w6 := B.trans (hb6.mono B.size)
  clear hb6
  have n1 : (g != g) = false := by simp
  have n2 : (one != one) = false := by simp
  have n3 : (mt != mt) = false := by simp
  go_wp2_with fail
  refine (laws_likeLists5 Al As cl cs1 css _ rl rs (by omega) hrows.out).mono ?_
  rintro e w7 ⟨rfl, hb7⟩
  have rs := II64.up rs hb7
  have rl := II64.up rl hb7
  have rm := M64.up rm hb7
  have rc := C64.up rc hb7
  have ba := ba.next hb7
  have bb := bb.next hb7
  have B : Below w.heap.size w w7 := B.trans (hb7.mono B.size)
  clear hb7
  by_cases h1 : one = 0
  · subst h1
    have a0 := ba.cell (j := 0) rfl
    have a1 := ba.cell (j := 1) rfl
    have a2 := ba.cell (j := 2) rfl
    have a3 := ba.cell (j := 3) rfl
    have a4 := ba.cell (j := 4) rfl
    have af := ba.fz
    have b0 := bb.cell (j := 0) rfl
    have b1 := bb.cell (j := 1) rfl
    have b2 := bb.cell (j := 2) rfl
    have b3 := bb.cell (j := 3) rfl
    have b4 := bb.cell (j := 4) rfl
    have bf := bb.fz
    go_wp2_with fail
    clear a0 a1 a2 a3 a4 af b0 b1 b2 b3 b4 bf
    refine (hMBH.out _).mono ?_
    rintro e w8 ⟨rfl, hb8⟩
    have rs := II64.up rs hb8
    have rl := II64.up rl hb8
    have rm := M64.up rm hb8
    have rc := C64.up rc hb8
    have ba := ba.next hb8
    have bb := bb.next hb8
    have B : Below w.heap.size w w8 := B.trans (hb8.mono B.size)
    clear hb8
    by_cases hg0 : g = 0
    · subst hg0
      have hgz := hgH.out.symm
      obtain ⟨hms, hcs, hm6, hc6⟩ := gCode_ok2 hgz
      have ecss : css = gcAll ms cs := by rw [hcssH.out]; simp [fGc, hgz]
      have hAre : areB css = true := by rw [ecss]; exact are_gc hgz
      subst ecss
      have hgzH := Lib.hid hgz
      have hmsH := Lib.hid hms
      have hcsH := Lib.hid hcs
      have hAreH := Lib.hid hAre
      have hcl : (gcAll ms cs).length = ms.length := gcAll_len
      have hclH := Lib.hid hcl
      obtain ⟨ck, hck⟩ : ∃ ck, ck = gcAll ms cs := ⟨_, rfl⟩
      rw [← hck] at rl rs hAreH hclH hrows hglH
      rw [← hck]
      have hckH := Lib.hid hck
      clear hgz hms hcs hAre hcl hck hgl6 rs ba bb
      obtain ⟨w9, hw9⟩ : ∃ w9, w9 = w8 := ⟨_, rfl⟩
      rw [← hw9] at rl rm rc B ⊢
      clear hw9
      go_wp2_with fail
      go_loopw [17] (fun iv wr => ∃ i : Nat, i ≤ ms.length ∧ iv = .int .i64 i ∧ Below w9.heap.size w9 wr) (fun iv _ => ms.length - (intOf iv).toNat)
      case atStart => exact ⟨0, Nat.zero_le _, rfl, Below.refl _ _⟩
      case round =>
        obtain ⟨i, hi, rfl, hbr⟩ := hrel
        by_cases hlt : i < ms.length
        · obtain ⟨⟨x, y, p, q, s⟩, hx⟩ := get_of_lt hlt
          obtain ⟨bm, om, eM, hbm, d0, d1, d2, d3, d4⟩ := M64.at_ (M64.up rm hbr) hx
          subst eM
          have hg1 := gCode_one hgzH.out hx
          have hmo := mss_of hmsH.out hx
          have hxH := Lib.hid hx
          have p0 : (0 : Int) ≤ (i : Int) := by omega
          have p1 : (i : Int) < (ms.length : Int) := by omega
          have hCI := fun w' h => impl_ContactsIn x y p q s A2 k2 cs w' h (by omega)
          obtain ⟨zs, hzs⟩ : ∃ zs, zs = fCts x y p q s cs := ⟨_, rfl⟩
          have hzl : zs.length ≤ 7 := by rw [hzs]; exact Nat.le_trans fCts_len hc7
          rw [hg1, ← hzs] at hCI
          have hCIH := Lib.hid hCI
          have hzsH := Lib.hid hzs
          have hg1H := Lib.hid hg1
          have hmoH := Lib.hid hmo
          clear hx hg1 hmo hCI hzs
          go_wp2_with fail
          refine (hCIH.out _ (C64.up rc hbr)).mono ?_
          rintro e w10 ⟨vi, rfl, oi, hb10⟩
          obtain ⟨Ai, ci, rfl, _⟩ := id oi
          have ri := (OwnI.reads oi).2
          have B10 : Below w9.heap.size w9 w10 := hbr.trans (hb10.mono hbr.size)
          clear hbr hb10 oi d0 d1 d2 d3 d4
          go_wp2_with fail
          go_loopw [20] (fun kv wr => ∃ k : Nat, k ≤ cs.length ∧ kv = .int .i64 k ∧ Below w10.heap.size w10 wr) (fun kv _ => cs.length - (intOf kv).toNat)
          case atStart => exact ⟨0, Nat.zero_le _, rfl, Below.refl _ _⟩
          case round =>
            obtain ⟨k, hk, rfl, hbk⟩ := hrel
            have B9 : Below w9.heap.size w9 wr := B10.trans (hbk.mono B10.size)
            by_cases hlk : k < cs.length
            · obtain ⟨⟨a, b⟩, hab⟩ := get_of_lt hlk
              obtain ⟨r1, r2⟩ := gc_get hxH.out hab
              rw [← hckH.out] at r1
              obtain ⟨bq, oq, A', c', eR, hbq, q0, hi'⟩ := (II64.up rl B9).at_ r1
              subst eR
              obtain ⟨b2, o2, eS, hb2, q1⟩ := hi'.at_ r2
              subst eS
              have hco := co_bds (ctsB_of hcsH.out hab)
              obtain ⟨f1, f2, f3, f4, f5⟩ := mo_bds hmoH.out
              obtain ⟨v1, v2, v3, v4⟩ := gcv_ge (s := s) f1 f2 hco.1 hco.2
              have hin := in_gate hg1H.out hab
              rw [← hzsH.out] at hin
              obtain ⟨⟨x0, y0, p0', q0', s0⟩, hx0⟩ := get_of_lt (xs := ms) (k := 0) (by omega)
              obtain ⟨r01, r02⟩ := gc_get hx0 hab
              rw [← hckH.out] at r01
              obtain ⟨bq0, oq0, A0', c0', eR0, hbq0, q00, hi0'⟩ := (II64.up rl B9).at_ r01
              injection eR0 with eR0
              injection eR0 with eR1 eR2
              subst eR1 eR2
              obtain ⟨b20, o20, eS0, hb20, q01⟩ := hi0'.at_ r02
              subst eS0
              have m0 := mss_of hmsH.out hx0
              obtain ⟨g1, g2, g3, g4, g5⟩ := mo_bds m0
              obtain ⟨u1, u2, u3, u4⟩ := gcv_ge (s := s0) g1 g2 hco.1 hco.2
              obtain ⟨bm0, om0, eM0, hbm0, e0, e1, e2, e3, e4⟩ := M64.at_ (M64.up rm B9) hx0
              obtain ⟨bm1, om1, eM1, hbm1, d0, d1, d2, d3, d4⟩ := M64.at_ (M64.up rm B9) hxH.out
              injection eM0 with eM0
              injection eM0 with eM2 eM3
              subst eM2 eM3
              injection eM1 with eM1
              injection eM1 with eM4 eM5
              subst eM4 eM5
              have hmeet : Hid (gin x y s a b = true → gin x0 y0 s0 a b = true → fGM x0 y0 p0' q0' s0 x y p q s = (true, 0)) := fun h1 h2 => meet_gc (ms := ms) (cs := cs) hmoH.out m0 h1 h2
              obtain ⟨vv, hvv⟩ : ∃ v, v = gcv x y s a b := ⟨_, rfl⟩
              obtain ⟨v0, hv0⟩ : ∃ v, v = gcv x0 y0 s0 a b := ⟨_, rfl⟩
              rw [← hvv] at q1 v1 v2 v3 v4
              rw [← hv0] at q01 u1 u2 u3 u4
              simp only [Nat.zero_mul, Nat.add_zero] at e0 e1 e2 e3 e4 q00
              have hz0 : (0 : Int) < (ms.length : Int) := by omega
              have hz0N : 0 < ms.length := by omega
              have hz0C : 0 < ck.length := by have := hclH.out; omega
              have rl0 : (gcRow x0 y0 s0 cs).length = cs.length := gcRow_len
              have rl1 : (gcRow x y s cs).length = cs.length := gcRow_len
              obtain ⟨row, hrow⟩ : ∃ r, r = gcRow x y s cs := ⟨_, rfl⟩
              obtain ⟨row0, hrow0⟩ : ∃ r, r = gcRow x0 y0 s0 cs := ⟨_, rfl⟩
              rw [← hrow] at q0 rl1
              rw [← hrow0] at q00 rl0
              have k0 : (0 : Int) ≤ (k : Int) := by omega
              have k1' : (k : Int) < (cs.length : Int) := by omega
              have k3 : (k : Int) < (row.length : Int) := by omega
              have k4 : (k : Int) < (row0.length : Int) := by omega
              have kc : (i : Int) < (ck.length : Int) := by have := hclH.out; omega
              have kc0 : (0 : Int) < (ck.length : Int) := by have := hclH.out; omega
              clear hab hx0 r1 r2 r01 r02 hi' hi0' hvv hv0 hrow hrow0 m0 hco f1 f2 f3 f4 f5 g1 g2 g3 g4 g5
              have hhas := fun w h1 => laws_hasInt Ai ci zs (k : Int) w h1 (by omega)
              rw [hin] at hhas
              clear hin
              cases hr1 : gin x y s a b
              · rw [hr1] at hhas
                have hhasH := Lib.hid hhas
                have hv := v2 hr1
                clear hhas v1 v2 u1 u2 hr1
                by_cases hi0 : (0 : Int) < (i : Int)
                · go_wp2_with fail
                  (refine wp_region_noPanic ?_; refine wp_region_held_drew (S := (fun w' => w'.cell? ⟨bq, oq + i, none⟩ = some (.slice (some ⟨b2, o2, none⟩) row.length c') ∧ w'.cell? ⟨b2, o2 + k, none⟩ = some (.int .i64 vv))) (by kernel_rfl) ?_ (fun hHeld => ?_); (focus ((try dsimp only); (refine ⟨?_, ?_⟩ <;> repeat' (first | (with_reducible assumption) | ((with_reducible apply bx_new) <;> first | (simp only [World.size_alloc, World.size_setCell]; done) | rfl) | (with_reducible apply bx_alloc) | (with_reducible apply bx_other; (first | (simp only [World.size_alloc, World.size_setCell]; omega) | omega)) | (with_reducible apply bx_same) | (with_reducible apply bx_drew) | (with_reducible apply bx_drew1) | (with_reducible apply bx_keep; with_reducible assumption) | fail)))); (refine takeT (i := 0) (d := 118) rfl rfl (by kernel_rfl) (by kernel_rfl) (by kernel_rfl) (by rfl) (by assumption) (v := ?_) ?_ ?_; rotate_left; (focus (intro wq hSw; (try dsimp only at hSw); go_simp; (try (with_reducible rfl)); done)); (try simp only [Act.put, List.setIfInBounds_toArray, List.set_cons_zero, List.set_cons_succ])); (refine takeT (i := 1) (d := 119) rfl rfl (by kernel_rfl) (by kernel_rfl) (by kernel_rfl) (by rfl) (by assumption) (v := ?_) ?_ ?_; rotate_left; (focus (intro wq hSw; (try dsimp only at hSw); go_simp; (try (with_reducible rfl)); done)); (try simp only [Act.put, List.setIfInBounds_toArray, List.set_cons_zero, List.set_cons_succ])); (refine takeT (i := 2) (d := 120) rfl rfl (by kernel_rfl) (by kernel_rfl) (by kernel_rfl) (by rfl) (by assumption) (v := ?_) ?_ ?_; rotate_left; (focus (intro wq hSw; (try dsimp only at hSw); go_simp; (try (with_reducible rfl)); done)); (try simp only [Act.put, List.setIfInBounds_toArray, List.set_cons_zero, List.set_cons_succ])); (refine takeT (i := 3) (d := 121) rfl rfl (by kernel_rfl) (by kernel_rfl) (by kernel_rfl) (by rfl) (by assumption) (v := ?_) ?_ ?_; rotate_left; (focus (intro wq hSw; (try dsimp only at hSw); go_simp; (try (with_reducible rfl)); done)); (try simp only [Act.put, List.setIfInBounds_toArray, List.set_cons_zero, List.set_cons_succ])); (refine takeT (i := 4) (d := 122) rfl rfl (by kernel_rfl) (by kernel_rfl) (by kernel_rfl) (by rfl) (by assumption) (v := ?_) ?_ ?_; rotate_left; (focus (intro wq hSw; (try dsimp only at hSw); go_simp; (try (with_reducible rfl)); done)); (try simp only [Act.put, List.setIfInBounds_toArray, List.set_cons_zero, List.set_cons_succ])); (refine takeT (i := 5) (d := 123) rfl rfl (by kernel_rfl) (by kernel_rfl) (by kernel_rfl) (by rfl) (by assumption) (v := ?_) ?_ ?_; rotate_left; (focus (intro wq hSw; (try dsimp only at hSw); go_simp; (try (with_reducible rfl)); done)); (try simp only [Act.put, List.setIfInBounds_toArray, List.set_cons_zero, List.set_cons_succ])); (refine takeT (i := 6) (d := 124) rfl rfl (by kernel_rfl) (by kernel_rfl) (by kernel_rfl) (by rfl) (by assumption) (v := ?_) ?_ ?_; rotate_left; (focus (intro wq hSw; (try dsimp only at hSw); go_simp; (try (with_reducible rfl)); done)); (try simp only [Act.put, List.setIfInBounds_toArray, List.set_cons_zero, List.set_cons_succ])); (refine takeT (i := 7) (d := 125) rfl rfl (by kernel_rfl) (by kernel_rfl) (by kernel_rfl) (by rfl) (by assumption) (v := ?_) ?_ ?_; rotate_left; (focus (intro wq hSw; (try dsimp only at hSw); go_simp; (try (with_reducible rfl)); done)); (try simp only [Act.put, List.setIfInBounds_toArray, List.set_cons_zero, List.set_cons_succ])); (refine takeT (i := 8) (d := 126) rfl rfl (by kernel_rfl) (by kernel_rfl) (by kernel_rfl) (by rfl) (by assumption) (v := ?_) ?_ ?_; rotate_left; (focus (intro wq hSw; (try dsimp only at hSw); go_simp; (try (with_reducible rfl)); done)); (try simp only [Act.put, List.setIfInBounds_toArray, List.set_cons_zero, List.set_cons_succ])); (refine takeT (i := 9) (d := 127) rfl rfl (by kernel_rfl) (by kernel_rfl) (by kernel_rfl) (by rfl) (by assumption) (v := ?_) ?_ ?_; rotate_left; (focus (intro wq hSw; (try dsimp only at hSw); go_simp; (try (with_reducible rfl)); done)); (try simp only [Act.put, List.setIfInBounds_toArray, List.set_cons_zero, List.set_cons_succ])); (refine wpAnyH_ready (rs := [10]) (by kernel_rfl) (by simp) ?_; refine AllReadyH.cons rfl (fun K hK => ?_) AllReadyH.nil; go_simp; (first | (go_at_call 29; refine (hhasH.out _ (I64.up ri (by repeat' (first | (with_reducible exact Below.refl _ _) | (with_reducible assumption) | (with_reducible refine Below.new ?_ _) | (with_reducible refine Below.alloc ?_ ?_ _) | (with_reducible refine Below.drew ?_) | (with_reducible refine below_drewN ?_ _) | (with_reducible refine Below.setCell ?_ ?_ _) | (refine Below.next ?_ (by with_reducible assumption)) | (refine Below.row ?_ (by with_reducible assumption) (by omega)) | (refine Below.trans ?_ (by with_reducible assumption)) | (refine Below.after ?_ ?_ (by with_reducible assumption)) | go_size)))).mono ?_; rintro e w' ⟨rfl, rfl⟩) | skip); (try go_wp2_with fail); refine hK.out _ _ ?_ (fun hHeld => ?_); (focus ((try dsimp only); (refine ⟨?_, ?_⟩ <;> repeat' (first | (with_reducible assumption) | ((with_reducible apply bx_new) <;> first | (simp only [World.size_alloc, World.size_setCell]; done) | rfl) | (with_reducible apply bx_alloc) | (with_reducible apply bx_other; (first | (simp only [World.size_alloc, World.size_setCell]; omega) | omega)) | (with_reducible apply bx_same) | (with_reducible apply bx_drew) | (with_reducible apply bx_drew1) | (with_reducible apply bx_keep; with_reducible assumption) | fail)))); clear hK K; (try simp only [Act.put, List.setIfInBounds_toArray, List.set_cons_zero, List.set_cons_succ])); (refine takeT (i := 11) (d := 129) rfl rfl (by kernel_rfl) (by kernel_rfl) (by kernel_rfl) (by rfl) (by assumption) (v := ?_) ?_ ?_; rotate_left; (focus (intro wq hSw; (try dsimp only at hSw); go_simp; (try (with_reducible rfl)); done)); (try simp only [Act.put, List.setIfInBounds_toArray, List.set_cons_zero, List.set_cons_succ])); refine wpAnyH_done (by kernel_rfl) ?_ _; refine NoPanic.normal ?_)
                  go_wp2_with fail
                  go_roundw
                  case rel => exact ⟨k + 1, by omega, by go_num, below_drew hbk⟩
                  case measure => simp [intOf]; omega
                · go_wp2_with fail
                  (refine wp_region_noPanic ?_; refine wp_region_held_drew (S := (fun w' => w'.cell? ⟨bq, oq + i, none⟩ = some (.slice (some ⟨b2, o2, none⟩) row.length c') ∧ w'.cell? ⟨b2, o2 + k, none⟩ = some (.int .i64 vv))) (by kernel_rfl) ?_ (fun hHeld => ?_); (focus ((try dsimp only); (refine ⟨?_, ?_⟩ <;> repeat' (first | (with_reducible assumption) | ((with_reducible apply bx_new) <;> first | (simp only [World.size_alloc, World.size_setCell]; done) | rfl) | (with_reducible apply bx_alloc) | (with_reducible apply bx_other; (first | (simp only [World.size_alloc, World.size_setCell]; omega) | omega)) | (with_reducible apply bx_same) | (with_reducible apply bx_drew) | (with_reducible apply bx_drew1) | (with_reducible apply bx_keep; with_reducible assumption) | fail)))); (refine takeT (i := 0) (d := 118) rfl rfl (by kernel_rfl) (by kernel_rfl) (by kernel_rfl) (by rfl) (by assumption) (v := ?_) ?_ ?_; rotate_left; (focus (intro wq hSw; (try dsimp only at hSw); go_simp; (try (with_reducible rfl)); done)); (try simp only [Act.put, List.setIfInBounds_toArray, List.set_cons_zero, List.set_cons_succ])); (refine takeT (i := 1) (d := 119) rfl rfl (by kernel_rfl) (by kernel_rfl) (by kernel_rfl) (by rfl) (by assumption) (v := ?_) ?_ ?_; rotate_left; (focus (intro wq hSw; (try dsimp only at hSw); go_simp; (try (with_reducible rfl)); done)); (try simp only [Act.put, List.setIfInBounds_toArray, List.set_cons_zero, List.set_cons_succ])); (refine takeT (i := 2) (d := 120) rfl rfl (by kernel_rfl) (by kernel_rfl) (by kernel_rfl) (by rfl) (by assumption) (v := ?_) ?_ ?_; rotate_left; (focus (intro wq hSw; (try dsimp only at hSw); go_simp; (try (with_reducible rfl)); done)); (try simp only [Act.put, List.setIfInBounds_toArray, List.set_cons_zero, List.set_cons_succ])); (refine takeT (i := 3) (d := 121) rfl rfl (by kernel_rfl) (by kernel_rfl) (by kernel_rfl) (by rfl) (by assumption) (v := ?_) ?_ ?_; rotate_left; (focus (intro wq hSw; (try dsimp only at hSw); go_simp; (try (with_reducible rfl)); done)); (try simp only [Act.put, List.setIfInBounds_toArray, List.set_cons_zero, List.set_cons_succ])); (refine takeT (i := 4) (d := 122) rfl rfl (by kernel_rfl) (by kernel_rfl) (by kernel_rfl) (by rfl) (by assumption) (v := ?_) ?_ ?_; rotate_left; (focus (intro wq hSw; (try dsimp only at hSw); go_simp; (try (with_reducible rfl)); done)); (try simp only [Act.put, List.setIfInBounds_toArray, List.set_cons_zero, List.set_cons_succ])); (refine takeT (i := 5) (d := 123) rfl rfl (by kernel_rfl) (by kernel_rfl) (by kernel_rfl) (by rfl) (by assumption) (v := ?_) ?_ ?_; rotate_left; (focus (intro wq hSw; (try dsimp only at hSw); go_simp; (try (with_reducible rfl)); done)); (try simp only [Act.put, List.setIfInBounds_toArray, List.set_cons_zero, List.set_cons_succ])); (refine takeT (i := 6) (d := 124) rfl rfl (by kernel_rfl) (by kernel_rfl) (by kernel_rfl) (by rfl) (by assumption) (v := ?_) ?_ ?_; rotate_left; (focus (intro wq hSw; (try dsimp only at hSw); go_simp; (try (with_reducible rfl)); done)); (try simp only [Act.put, List.setIfInBounds_toArray, List.set_cons_zero, List.set_cons_succ])); (refine takeT (i := 7) (d := 125) rfl rfl (by kernel_rfl) (by kernel_rfl) (by kernel_rfl) (by rfl) (by assumption) (v := ?_) ?_ ?_; rotate_left; (focus (intro wq hSw; (try dsimp only at hSw); go_simp; (try (with_reducible rfl)); done)); (try simp only [Act.put, List.setIfInBounds_toArray, List.set_cons_zero, List.set_cons_succ])); (refine takeT (i := 8) (d := 126) rfl rfl (by kernel_rfl) (by kernel_rfl) (by kernel_rfl) (by rfl) (by assumption) (v := ?_) ?_ ?_; rotate_left; (focus (intro wq hSw; (try dsimp only at hSw); go_simp; (try (with_reducible rfl)); done)); (try simp only [Act.put, List.setIfInBounds_toArray, List.set_cons_zero, List.set_cons_succ])); (refine takeT (i := 9) (d := 127) rfl rfl (by kernel_rfl) (by kernel_rfl) (by kernel_rfl) (by rfl) (by assumption) (v := ?_) ?_ ?_; rotate_left; (focus (intro wq hSw; (try dsimp only at hSw); go_simp; (try (with_reducible rfl)); done)); (try simp only [Act.put, List.setIfInBounds_toArray, List.set_cons_zero, List.set_cons_succ])); (refine wpAnyH_ready (rs := [10]) (by kernel_rfl) (by simp) ?_; refine AllReadyH.cons rfl (fun K hK => ?_) AllReadyH.nil; go_simp; (first | (go_at_call 29; refine (hhasH.out _ (I64.up ri (by repeat' (first | (with_reducible exact Below.refl _ _) | (with_reducible assumption) | (with_reducible refine Below.new ?_ _) | (with_reducible refine Below.alloc ?_ ?_ _) | (with_reducible refine Below.drew ?_) | (with_reducible refine below_drewN ?_ _) | (with_reducible refine Below.setCell ?_ ?_ _) | (refine Below.next ?_ (by with_reducible assumption)) | (refine Below.row ?_ (by with_reducible assumption) (by omega)) | (refine Below.trans ?_ (by with_reducible assumption)) | (refine Below.after ?_ ?_ (by with_reducible assumption)) | go_size)))).mono ?_; rintro e w' ⟨rfl, rfl⟩) | skip); (try go_wp2_with fail); refine hK.out _ _ ?_ (fun hHeld => ?_); (focus ((try dsimp only); (refine ⟨?_, ?_⟩ <;> repeat' (first | (with_reducible assumption) | ((with_reducible apply bx_new) <;> first | (simp only [World.size_alloc, World.size_setCell]; done) | rfl) | (with_reducible apply bx_alloc) | (with_reducible apply bx_other; (first | (simp only [World.size_alloc, World.size_setCell]; omega) | omega)) | (with_reducible apply bx_same) | (with_reducible apply bx_drew) | (with_reducible apply bx_drew1) | (with_reducible apply bx_keep; with_reducible assumption) | fail)))); clear hK K; (try simp only [Act.put, List.setIfInBounds_toArray, List.set_cons_zero, List.set_cons_succ])); (refine takeT (i := 11) (d := 129) rfl rfl (by kernel_rfl) (by kernel_rfl) (by kernel_rfl) (by rfl) (by assumption) (v := ?_) ?_ ?_; rotate_left; (focus (intro wq hSw; (try dsimp only at hSw); go_simp; (try (with_reducible rfl)); done)); (try simp only [Act.put, List.setIfInBounds_toArray, List.set_cons_zero, List.set_cons_succ])); refine wpAnyH_done (by kernel_rfl) ?_ _; refine NoPanic.normal ?_)
                  go_wp2_with fail
                  go_roundw
                  case rel => exact ⟨k + 1, by omega, by go_num, below_drew hbk⟩
                  case measure => simp [intOf]; omega
              · rw [hr1] at hhas
                have hhasH := Lib.hid hhas
                have hv := v1 hr1
                clear hhas v1 v2
                by_cases hi0 : (0 : Int) < (i : Int)
                · cases hr0 : gin x0 y0 s0 a b
                  · have hv0 := u2 hr0
                    clear u1 u2 hr0 hr1
                    go_wp2_with fail
                    (refine wp_region_noPanic ?_; refine wp_region_held_drew (S := (fun w' => w'.cell? ⟨bq, oq + i, none⟩ = some (.slice (some ⟨b2, o2, none⟩) row.length c') ∧ w'.cell? ⟨b2, o2 + k, none⟩ = some (.int .i64 vv))) (by kernel_rfl) ?_ (fun hHeld => ?_); (focus ((try dsimp only); (refine ⟨?_, ?_⟩ <;> repeat' (first | (with_reducible assumption) | ((with_reducible apply bx_new) <;> first | (simp only [World.size_alloc, World.size_setCell]; done) | rfl) | (with_reducible apply bx_alloc) | (with_reducible apply bx_other; (first | (simp only [World.size_alloc, World.size_setCell]; omega) | omega)) | (with_reducible apply bx_same) | (with_reducible apply bx_drew) | (with_reducible apply bx_drew1) | (with_reducible apply bx_keep; with_reducible assumption) | fail)))); (refine takeT (i := 0) (d := 118) rfl rfl (by kernel_rfl) (by kernel_rfl) (by kernel_rfl) (by rfl) (by assumption) (v := ?_) ?_ ?_; rotate_left; (focus (intro wq hSw; (try dsimp only at hSw); go_simp; (try (with_reducible rfl)); done)); (try simp only [Act.put, List.setIfInBounds_toArray, List.set_cons_zero, List.set_cons_succ])); (refine takeT (i := 1) (d := 119) rfl rfl (by kernel_rfl) (by kernel_rfl) (by kernel_rfl) (by rfl) (by assumption) (v := ?_) ?_ ?_; rotate_left; (focus (intro wq hSw; (try dsimp only at hSw); go_simp; (try (with_reducible rfl)); done)); (try simp only [Act.put, List.setIfInBounds_toArray, List.set_cons_zero, List.set_cons_succ])); (refine takeT (i := 2) (d := 120) rfl rfl (by kernel_rfl) (by kernel_rfl) (by kernel_rfl) (by rfl) (by assumption) (v := ?_) ?_ ?_; rotate_left; (focus (intro wq hSw; (try dsimp only at hSw); go_simp; (try (with_reducible rfl)); done)); (try simp only [Act.put, List.setIfInBounds_toArray, List.set_cons_zero, List.set_cons_succ])); (refine takeT (i := 3) (d := 121) rfl rfl (by kernel_rfl) (by kernel_rfl) (by kernel_rfl) (by rfl) (by assumption) (v := ?_) ?_ ?_; rotate_left; (focus (intro wq hSw; (try dsimp only at hSw); go_simp; (try (with_reducible rfl)); done)); (try simp only [Act.put, List.setIfInBounds_toArray, List.set_cons_zero, List.set_cons_succ])); (refine takeT (i := 4) (d := 122) rfl rfl (by kernel_rfl) (by kernel_rfl) (by kernel_rfl) (by rfl) (by assumption) (v := ?_) ?_ ?_; rotate_left; (focus (intro wq hSw; (try dsimp only at hSw); go_simp; (try (with_reducible rfl)); done)); (try simp only [Act.put, List.setIfInBounds_toArray, List.set_cons_zero, List.set_cons_succ])); (refine takeT (i := 5) (d := 123) rfl rfl (by kernel_rfl) (by kernel_rfl) (by kernel_rfl) (by rfl) (by assumption) (v := ?_) ?_ ?_; rotate_left; (focus (intro wq hSw; (try dsimp only at hSw); go_simp; (try (with_reducible rfl)); done)); (try simp only [Act.put, List.setIfInBounds_toArray, List.set_cons_zero, List.set_cons_succ])); (refine takeT (i := 6) (d := 124) rfl rfl (by kernel_rfl) (by kernel_rfl) (by kernel_rfl) (by rfl) (by assumption) (v := ?_) ?_ ?_; rotate_left; (focus (intro wq hSw; (try dsimp only at hSw); go_simp; (try (with_reducible rfl)); done)); (try simp only [Act.put, List.setIfInBounds_toArray, List.set_cons_zero, List.set_cons_succ])); (refine takeT (i := 7) (d := 125) rfl rfl (by kernel_rfl) (by kernel_rfl) (by kernel_rfl) (by rfl) (by assumption) (v := ?_) ?_ ?_; rotate_left; (focus (intro wq hSw; (try dsimp only at hSw); go_simp; (try (with_reducible rfl)); done)); (try simp only [Act.put, List.setIfInBounds_toArray, List.set_cons_zero, List.set_cons_succ])); (refine takeT (i := 8) (d := 126) rfl rfl (by kernel_rfl) (by kernel_rfl) (by kernel_rfl) (by rfl) (by assumption) (v := ?_) ?_ ?_; rotate_left; (focus (intro wq hSw; (try dsimp only at hSw); go_simp; (try (with_reducible rfl)); done)); (try simp only [Act.put, List.setIfInBounds_toArray, List.set_cons_zero, List.set_cons_succ])); (refine takeT (i := 9) (d := 127) rfl rfl (by kernel_rfl) (by kernel_rfl) (by kernel_rfl) (by rfl) (by assumption) (v := ?_) ?_ ?_; rotate_left; (focus (intro wq hSw; (try dsimp only at hSw); go_simp; (try (with_reducible rfl)); done)); (try simp only [Act.put, List.setIfInBounds_toArray, List.set_cons_zero, List.set_cons_succ])); (refine wpAnyH_ready (rs := [10]) (by kernel_rfl) (by simp) ?_; refine AllReadyH.cons rfl (fun K hK => ?_) AllReadyH.nil; go_simp; (first | (go_at_call 29; refine (hhasH.out _ (I64.up ri (by repeat' (first | (with_reducible exact Below.refl _ _) | (with_reducible assumption) | (with_reducible refine Below.new ?_ _) | (with_reducible refine Below.alloc ?_ ?_ _) | (with_reducible refine Below.drew ?_) | (with_reducible refine below_drewN ?_ _) | (with_reducible refine Below.setCell ?_ ?_ _) | (refine Below.next ?_ (by with_reducible assumption)) | (refine Below.row ?_ (by with_reducible assumption) (by omega)) | (refine Below.trans ?_ (by with_reducible assumption)) | (refine Below.after ?_ ?_ (by with_reducible assumption)) | go_size)))).mono ?_; rintro e w' ⟨rfl, rfl⟩) | skip); (try go_wp2_with fail); refine hK.out _ _ ?_ (fun hHeld => ?_); (focus ((try dsimp only); (refine ⟨?_, ?_⟩ <;> repeat' (first | (with_reducible assumption) | ((with_reducible apply bx_new) <;> first | (simp only [World.size_alloc, World.size_setCell]; done) | rfl) | (with_reducible apply bx_alloc) | (with_reducible apply bx_other; (first | (simp only [World.size_alloc, World.size_setCell]; omega) | omega)) | (with_reducible apply bx_same) | (with_reducible apply bx_drew) | (with_reducible apply bx_drew1) | (with_reducible apply bx_keep; with_reducible assumption) | fail)))); clear hK K; (try simp only [Act.put, List.setIfInBounds_toArray, List.set_cons_zero, List.set_cons_succ])); (refine takeT (i := 11) (d := 129) rfl rfl (by kernel_rfl) (by kernel_rfl) (by kernel_rfl) (by rfl) (by assumption) (v := ?_) ?_ ?_; rotate_left; (focus (intro wq hSw; (try dsimp only at hSw); go_simp; (try (with_reducible rfl)); done)); (try simp only [Act.put, List.setIfInBounds_toArray, List.set_cons_zero, List.set_cons_succ])); refine wpAnyH_done (by kernel_rfl) ?_ _; refine NoPanic.normal ?_)
                    go_wp2_with fail
                    go_roundw
                    case rel => exact ⟨k + 1, by omega, by go_num, below_drew hbk⟩
                    case measure => simp [intOf]; omega
                  · have hv0 := u1 hr0
                    have hGMc : Hid (∀ w, Calls Try.prog 34 #[.agg #[.int .i64 x0, .int .i64 y0, .int .i64 p0', .int .i64 q0', .int .i64 s0], .agg #[.int .i64 x, .int .i64 y, .int .i64 p, .int .i64 q, .int .i64 s]] w fun e w' => e = .returned (.tuple #[.bool true, .int .i64 0]) ∧ Below w.heap.size w w') := fun w => by
                      have := impl_GatesMeet x0 y0 p0' q0' s0 x y p q s w
                      rw [hmeet.out hr1 hr0] at this
                      exact this
                    clear u1 u2 hr0 hr1
                    go_wp2_with fail
                    (refine wp_region_noPanic ?_; refine wp_region_held_drew (S := (fun w' => w'.cell? ⟨bq, oq + i, none⟩ = some (.slice (some ⟨b2, o2, none⟩) row.length c') ∧ w'.cell? ⟨b2, o2 + k, none⟩ = some (.int .i64 vv))) (by kernel_rfl) ?_ (fun hHeld => ?_); (focus ((try dsimp only); (refine ⟨?_, ?_⟩ <;> repeat' (first | (with_reducible assumption) | ((with_reducible apply bx_new) <;> first | (simp only [World.size_alloc, World.size_setCell]; done) | rfl) | (with_reducible apply bx_alloc) | (with_reducible apply bx_other; (first | (simp only [World.size_alloc, World.size_setCell]; omega) | omega)) | (with_reducible apply bx_same) | (with_reducible apply bx_drew) | (with_reducible apply bx_drew1) | (with_reducible apply bx_keep; with_reducible assumption) | fail)))); (refine takeT (i := 0) (d := 118) rfl rfl (by kernel_rfl) (by kernel_rfl) (by kernel_rfl) (by rfl) (by assumption) (v := ?_) ?_ ?_; rotate_left; (focus (intro wq hSw; (try dsimp only at hSw); go_simp; (try (with_reducible rfl)); done)); (try simp only [Act.put, List.setIfInBounds_toArray, List.set_cons_zero, List.set_cons_succ])); (refine takeT (i := 1) (d := 119) rfl rfl (by kernel_rfl) (by kernel_rfl) (by kernel_rfl) (by rfl) (by assumption) (v := ?_) ?_ ?_; rotate_left; (focus (intro wq hSw; (try dsimp only at hSw); go_simp; (try (with_reducible rfl)); done)); (try simp only [Act.put, List.setIfInBounds_toArray, List.set_cons_zero, List.set_cons_succ])); (refine takeT (i := 2) (d := 120) rfl rfl (by kernel_rfl) (by kernel_rfl) (by kernel_rfl) (by rfl) (by assumption) (v := ?_) ?_ ?_; rotate_left; (focus (intro wq hSw; (try dsimp only at hSw); go_simp; (try (with_reducible rfl)); done)); (try simp only [Act.put, List.setIfInBounds_toArray, List.set_cons_zero, List.set_cons_succ])); (refine takeT (i := 3) (d := 121) rfl rfl (by kernel_rfl) (by kernel_rfl) (by kernel_rfl) (by rfl) (by assumption) (v := ?_) ?_ ?_; rotate_left; (focus (intro wq hSw; (try dsimp only at hSw); go_simp; (try (with_reducible rfl)); done)); (try simp only [Act.put, List.setIfInBounds_toArray, List.set_cons_zero, List.set_cons_succ])); (refine takeT (i := 4) (d := 122) rfl rfl (by kernel_rfl) (by kernel_rfl) (by kernel_rfl) (by rfl) (by assumption) (v := ?_) ?_ ?_; rotate_left; (focus (intro wq hSw; (try dsimp only at hSw); go_simp; (try (with_reducible rfl)); done)); (try simp only [Act.put, List.setIfInBounds_toArray, List.set_cons_zero, List.set_cons_succ])); (refine takeT (i := 5) (d := 123) rfl rfl (by kernel_rfl) (by kernel_rfl) (by kernel_rfl) (by rfl) (by assumption) (v := ?_) ?_ ?_; rotate_left; (focus (intro wq hSw; (try dsimp only at hSw); go_simp; (try (with_reducible rfl)); done)); (try simp only [Act.put, List.setIfInBounds_toArray, List.set_cons_zero, List.set_cons_succ])); (refine takeT (i := 6) (d := 124) rfl rfl (by kernel_rfl) (by kernel_rfl) (by kernel_rfl) (by rfl) (by assumption) (v := ?_) ?_ ?_; rotate_left; (focus (intro wq hSw; (try dsimp only at hSw); go_simp; (try (with_reducible rfl)); done)); (try simp only [Act.put, List.setIfInBounds_toArray, List.set_cons_zero, List.set_cons_succ])); (refine takeT (i := 7) (d := 125) rfl rfl (by kernel_rfl) (by kernel_rfl) (by kernel_rfl) (by rfl) (by assumption) (v := ?_) ?_ ?_; rotate_left; (focus (intro wq hSw; (try dsimp only at hSw); go_simp; (try (with_reducible rfl)); done)); (try simp only [Act.put, List.setIfInBounds_toArray, List.set_cons_zero, List.set_cons_succ])); (refine takeT (i := 8) (d := 126) rfl rfl (by kernel_rfl) (by kernel_rfl) (by kernel_rfl) (by rfl) (by assumption) (v := ?_) ?_ ?_; rotate_left; (focus (intro wq hSw; (try dsimp only at hSw); go_simp; (try (with_reducible rfl)); done)); (try simp only [Act.put, List.setIfInBounds_toArray, List.set_cons_zero, List.set_cons_succ])); (refine takeT (i := 9) (d := 127) rfl rfl (by kernel_rfl) (by kernel_rfl) (by kernel_rfl) (by rfl) (by assumption) (v := ?_) ?_ ?_; rotate_left; (focus (intro wq hSw; (try dsimp only at hSw); go_simp; (try (with_reducible rfl)); done)); (try simp only [Act.put, List.setIfInBounds_toArray, List.set_cons_zero, List.set_cons_succ])); (refine wpAnyH_ready (rs := [10]) (by kernel_rfl) (by simp) ?_; refine AllReadyH.cons rfl (fun K hK => ?_) AllReadyH.nil; go_simp; (first | (go_at_call 29; refine (hhasH.out _ (I64.up ri (by repeat' (first | (with_reducible exact Below.refl _ _) | (with_reducible assumption) | (with_reducible refine Below.new ?_ _) | (with_reducible refine Below.alloc ?_ ?_ _) | (with_reducible refine Below.drew ?_) | (with_reducible refine below_drewN ?_ _) | (with_reducible refine Below.setCell ?_ ?_ _) | (refine Below.next ?_ (by with_reducible assumption)) | (refine Below.row ?_ (by with_reducible assumption) (by omega)) | (refine Below.trans ?_ (by with_reducible assumption)) | (refine Below.after ?_ ?_ (by with_reducible assumption)) | go_size)))).mono ?_; rintro e w' ⟨rfl, rfl⟩) | skip); (try go_wp2_with fail); refine hK.out _ _ ?_ (fun hHeld => ?_); (focus ((try dsimp only); (refine ⟨?_, ?_⟩ <;> repeat' (first | (with_reducible assumption) | ((with_reducible apply bx_new) <;> first | (simp only [World.size_alloc, World.size_setCell]; done) | rfl) | (with_reducible apply bx_alloc) | (with_reducible apply bx_other; (first | (simp only [World.size_alloc, World.size_setCell]; omega) | omega)) | (with_reducible apply bx_same) | (with_reducible apply bx_drew) | (with_reducible apply bx_drew1) | (with_reducible apply bx_keep; with_reducible assumption) | fail)))); clear hK K; (try simp only [Act.put, List.setIfInBounds_toArray, List.set_cons_zero, List.set_cons_succ])); (refine takeT (i := 11) (d := 129) rfl rfl (by kernel_rfl) (by kernel_rfl) (by kernel_rfl) (by rfl) (by assumption) (v := ?_) ?_ ?_; rotate_left; (focus (intro wq hSw; (try dsimp only at hSw); go_simp; (try (with_reducible rfl)); done)); (try simp only [Act.put, List.setIfInBounds_toArray, List.set_cons_zero, List.set_cons_succ])); refine wpAnyH_done (by kernel_rfl) ?_ _; refine NoPanic.normal ?_)
                    go_wp2_with fail
                    (refine wp_region_noPanic ?_; refine wp_region_held_drew (S := (fun w' => w'.cell? ⟨bm, om, none⟩ = some (.int .i64 x0) ∧ w'.cell? ⟨bm, om + 1, none⟩ = some (.int .i64 y0) ∧ w'.cell? ⟨bm, om + 2, none⟩ = some (.int .i64 p0') ∧ w'.cell? ⟨bm, om + 3, none⟩ = some (.int .i64 q0') ∧ w'.cell? ⟨bm, om + 4, none⟩ = some (.int .i64 s0) ∧ w'.cell? ⟨bm, om + i * 5, none⟩ = some (.int .i64 x) ∧ w'.cell? ⟨bm, om + i * 5 + 1, none⟩ = some (.int .i64 y) ∧ w'.cell? ⟨bm, om + i * 5 + 2, none⟩ = some (.int .i64 p) ∧ w'.cell? ⟨bm, om + i * 5 + 3, none⟩ = some (.int .i64 q) ∧ w'.cell? ⟨bm, om + i * 5 + 4, none⟩ = some (.int .i64 s))) (by kernel_rfl) ?_ (fun hHeld => ?_); (focus ((try dsimp only); (refine ⟨?_, ?_, ?_, ?_, ?_, ?_, ?_, ?_, ?_, ?_⟩ <;> repeat' (first | (with_reducible assumption) | ((with_reducible apply bx_new) <;> first | (simp only [World.size_alloc, World.size_setCell]; done) | rfl) | (with_reducible apply bx_alloc) | (with_reducible apply bx_other; (first | (simp only [World.size_alloc, World.size_setCell]; omega) | omega)) | (with_reducible apply bx_same) | (with_reducible apply bx_drew) | (with_reducible apply bx_drew1) | (with_reducible apply bx_keep; with_reducible assumption) | fail)))); (refine takeT (i := 0) (d := 152) rfl rfl (by kernel_rfl) (by kernel_rfl) (by kernel_rfl) (by rfl) (by assumption) (v := ?_) ?_ ?_; rotate_left; (focus (intro wq hSw; (try dsimp only at hSw); go_simp; (try (with_reducible rfl)); done)); (try simp only [Act.put, List.setIfInBounds_toArray, List.set_cons_zero, List.set_cons_succ])); (refine takeT (i := 1) (d := 153) rfl rfl (by kernel_rfl) (by kernel_rfl) (by kernel_rfl) (by rfl) (by assumption) (v := ?_) ?_ ?_; rotate_left; (focus (intro wq hSw; (try dsimp only at hSw); go_simp; (try (with_reducible rfl)); done)); (try simp only [Act.put, List.setIfInBounds_toArray, List.set_cons_zero, List.set_cons_succ])); (refine takeT (i := 2) (d := 154) rfl rfl (by kernel_rfl) (by kernel_rfl) (by kernel_rfl) (by rfl) (by assumption) (v := ?_) ?_ ?_; rotate_left; (focus (intro wq hSw; (try dsimp only at hSw); go_simp; (try (with_reducible rfl)); done)); (try simp only [Act.put, List.setIfInBounds_toArray, List.set_cons_zero, List.set_cons_succ])); (refine takeT (i := 3) (d := 155) rfl rfl (by kernel_rfl) (by kernel_rfl) (by kernel_rfl) (by rfl) (by assumption) (v := ?_) ?_ ?_; rotate_left; (focus (intro wq hSw; (try dsimp only at hSw); go_simp; (try (with_reducible rfl)); done)); (try simp only [Act.put, List.setIfInBounds_toArray, List.set_cons_zero, List.set_cons_succ])); (refine takeT (i := 4) (d := 156) rfl rfl (by kernel_rfl) (by kernel_rfl) (by kernel_rfl) (by rfl) (by assumption) (v := ?_) ?_ ?_; rotate_left; (focus (intro wq hSw; (try dsimp only at hSw); go_simp; (try (with_reducible rfl)); done)); (try simp only [Act.put, List.setIfInBounds_toArray, List.set_cons_zero, List.set_cons_succ])); (refine takeT (i := 5) (d := 157) rfl rfl (by kernel_rfl) (by kernel_rfl) (by kernel_rfl) (by rfl) (by assumption) (v := ?_) ?_ ?_; rotate_left; (focus (intro wq hSw; (try dsimp only at hSw); go_simp; (try (with_reducible rfl)); done)); (try simp only [Act.put, List.setIfInBounds_toArray, List.set_cons_zero, List.set_cons_succ])); (refine takeT (i := 6) (d := 158) rfl rfl (by kernel_rfl) (by kernel_rfl) (by kernel_rfl) (by rfl) (by assumption) (v := ?_) ?_ ?_; rotate_left; (focus (intro wq hSw; (try dsimp only at hSw); go_simp; (try (with_reducible rfl)); done)); (try simp only [Act.put, List.setIfInBounds_toArray, List.set_cons_zero, List.set_cons_succ])); (refine wpAnyH_ready (rs := [7]) (by kernel_rfl) (by simp) ?_; refine AllReadyH.cons rfl (fun K hK => ?_) AllReadyH.nil; go_simp; (first | (go_at_call 34; refine (hGMc.out _).mono ?_; rintro e w12 ⟨rfl, hb12⟩; have BK : Below w10.heap.size w10 w12 := Below.trans (below_drew (below_drew hbk)) (hb12.mono (by have := hbk.size; exact this)); have e0 := bx_keep (W := wr.drew.drew) hb12 e0; have e1 := bx_keep (W := wr.drew.drew) hb12 e1; have e2 := bx_keep (W := wr.drew.drew) hb12 e2; have e3 := bx_keep (W := wr.drew.drew) hb12 e3; have e4 := bx_keep (W := wr.drew.drew) hb12 e4; have d0 := bx_keep (W := wr.drew.drew) hb12 d0; have d1 := bx_keep (W := wr.drew.drew) hb12 d1; have d2 := bx_keep (W := wr.drew.drew) hb12 d2; have d3 := bx_keep (W := wr.drew.drew) hb12 d3; have d4 := bx_keep (W := wr.drew.drew) hb12 d4) | skip); (try go_wp2_with fail); refine hK.out _ _ ?_ (fun hHeld => ?_); (focus ((try dsimp only); (refine ⟨?_, ?_, ?_, ?_, ?_, ?_, ?_, ?_, ?_, ?_⟩ <;> repeat' (first | (with_reducible assumption) | ((with_reducible apply bx_new) <;> first | (simp only [World.size_alloc, World.size_setCell]; done) | rfl) | (with_reducible apply bx_alloc) | (with_reducible apply bx_other; (first | (simp only [World.size_alloc, World.size_setCell]; omega) | omega)) | (with_reducible apply bx_same) | (with_reducible apply bx_drew) | (with_reducible apply bx_drew1) | (with_reducible apply bx_keep; with_reducible assumption) | fail)))); clear hK K; (try simp only [Act.put, List.setIfInBounds_toArray, List.set_cons_zero, List.set_cons_succ])); (refine takeT (i := 8) (d := 151) rfl rfl (by kernel_rfl) (by kernel_rfl) (by kernel_rfl) (by rfl) (by assumption) (v := ?_) ?_ ?_; rotate_left; (focus (intro wq hSw; (try dsimp only at hSw); go_simp; (try (with_reducible rfl)); done)); (try simp only [Act.put, List.setIfInBounds_toArray, List.set_cons_zero, List.set_cons_succ])); (refine takeT (i := 9) (d := 160) rfl rfl (by kernel_rfl) (by kernel_rfl) (by kernel_rfl) (by rfl) (by assumption) (v := ?_) ?_ ?_; rotate_left; (focus (intro wq hSw; (try dsimp only at hSw); go_simp; (try (with_reducible rfl)); done)); (try simp only [Act.put, List.setIfInBounds_toArray, List.set_cons_zero, List.set_cons_succ])); (refine takeT (i := 10) (d := 161) rfl rfl (by kernel_rfl) (by kernel_rfl) (by kernel_rfl) (by rfl) (by assumption) (v := ?_) ?_ ?_; rotate_left; (focus (intro wq hSw; (try dsimp only at hSw); go_simp; (try (with_reducible rfl)); done)); (try simp only [Act.put, List.setIfInBounds_toArray, List.set_cons_zero, List.set_cons_succ])); (refine takeT (i := 11) (d := 21) rfl rfl (by kernel_rfl) (by kernel_rfl) (by kernel_rfl) (by rfl) (by assumption) (v := ?_) ?_ ?_; rotate_left; (focus (intro wq hSw; (try dsimp only at hSw); go_simp; (try (with_reducible rfl)); done)); (try simp only [Act.put, List.setIfInBounds_toArray, List.set_cons_zero, List.set_cons_succ])); (refine takeT (i := 12) (d := 22) rfl rfl (by kernel_rfl) (by kernel_rfl) (by kernel_rfl) (by rfl) (by assumption) (v := ?_) ?_ ?_; rotate_left; (focus (intro wq hSw; (try dsimp only at hSw); go_simp; (try (with_reducible rfl)); done)); (try simp only [Act.put, List.setIfInBounds_toArray, List.set_cons_zero, List.set_cons_succ])); refine wpAnyH_done (by kernel_rfl) ?_ _; refine NoPanic.normal ?_)
                    go_wp2_with fail
                    go_roundw
                    case rel => exact ⟨k + 1, by omega, by go_num, BK⟩
                    case measure => simp [intOf]; omega
                · clear u1 u2 hr1
                  go_wp2_with fail
                  (refine wp_region_noPanic ?_; refine wp_region_held_drew (S := (fun w' => w'.cell? ⟨bq, oq + i, none⟩ = some (.slice (some ⟨b2, o2, none⟩) row.length c') ∧ w'.cell? ⟨b2, o2 + k, none⟩ = some (.int .i64 vv))) (by kernel_rfl) ?_ (fun hHeld => ?_); (focus ((try dsimp only); (refine ⟨?_, ?_⟩ <;> repeat' (first | (with_reducible assumption) | ((with_reducible apply bx_new) <;> first | (simp only [World.size_alloc, World.size_setCell]; done) | rfl) | (with_reducible apply bx_alloc) | (with_reducible apply bx_other; (first | (simp only [World.size_alloc, World.size_setCell]; omega) | omega)) | (with_reducible apply bx_same) | (with_reducible apply bx_drew) | (with_reducible apply bx_drew1) | (with_reducible apply bx_keep; with_reducible assumption) | fail)))); (refine takeT (i := 0) (d := 118) rfl rfl (by kernel_rfl) (by kernel_rfl) (by kernel_rfl) (by rfl) (by assumption) (v := ?_) ?_ ?_; rotate_left; (focus (intro wq hSw; (try dsimp only at hSw); go_simp; (try (with_reducible rfl)); done)); (try simp only [Act.put, List.setIfInBounds_toArray, List.set_cons_zero, List.set_cons_succ])); (refine takeT (i := 1) (d := 119) rfl rfl (by kernel_rfl) (by kernel_rfl) (by kernel_rfl) (by rfl) (by assumption) (v := ?_) ?_ ?_; rotate_left; (focus (intro wq hSw; (try dsimp only at hSw); go_simp; (try (with_reducible rfl)); done)); (try simp only [Act.put, List.setIfInBounds_toArray, List.set_cons_zero, List.set_cons_succ])); (refine takeT (i := 2) (d := 120) rfl rfl (by kernel_rfl) (by kernel_rfl) (by kernel_rfl) (by rfl) (by assumption) (v := ?_) ?_ ?_; rotate_left; (focus (intro wq hSw; (try dsimp only at hSw); go_simp; (try (with_reducible rfl)); done)); (try simp only [Act.put, List.setIfInBounds_toArray, List.set_cons_zero, List.set_cons_succ])); (refine takeT (i := 3) (d := 121) rfl rfl (by kernel_rfl) (by kernel_rfl) (by kernel_rfl) (by rfl) (by assumption) (v := ?_) ?_ ?_; rotate_left; (focus (intro wq hSw; (try dsimp only at hSw); go_simp; (try (with_reducible rfl)); done)); (try simp only [Act.put, List.setIfInBounds_toArray, List.set_cons_zero, List.set_cons_succ])); (refine takeT (i := 4) (d := 122) rfl rfl (by kernel_rfl) (by kernel_rfl) (by kernel_rfl) (by rfl) (by assumption) (v := ?_) ?_ ?_; rotate_left; (focus (intro wq hSw; (try dsimp only at hSw); go_simp; (try (with_reducible rfl)); done)); (try simp only [Act.put, List.setIfInBounds_toArray, List.set_cons_zero, List.set_cons_succ])); (refine takeT (i := 5) (d := 123) rfl rfl (by kernel_rfl) (by kernel_rfl) (by kernel_rfl) (by rfl) (by assumption) (v := ?_) ?_ ?_; rotate_left; (focus (intro wq hSw; (try dsimp only at hSw); go_simp; (try (with_reducible rfl)); done)); (try simp only [Act.put, List.setIfInBounds_toArray, List.set_cons_zero, List.set_cons_succ])); (refine takeT (i := 6) (d := 124) rfl rfl (by kernel_rfl) (by kernel_rfl) (by kernel_rfl) (by rfl) (by assumption) (v := ?_) ?_ ?_; rotate_left; (focus (intro wq hSw; (try dsimp only at hSw); go_simp; (try (with_reducible rfl)); done)); (try simp only [Act.put, List.setIfInBounds_toArray, List.set_cons_zero, List.set_cons_succ])); (refine takeT (i := 7) (d := 125) rfl rfl (by kernel_rfl) (by kernel_rfl) (by kernel_rfl) (by rfl) (by assumption) (v := ?_) ?_ ?_; rotate_left; (focus (intro wq hSw; (try dsimp only at hSw); go_simp; (try (with_reducible rfl)); done)); (try simp only [Act.put, List.setIfInBounds_toArray, List.set_cons_zero, List.set_cons_succ])); (refine takeT (i := 8) (d := 126) rfl rfl (by kernel_rfl) (by kernel_rfl) (by kernel_rfl) (by rfl) (by assumption) (v := ?_) ?_ ?_; rotate_left; (focus (intro wq hSw; (try dsimp only at hSw); go_simp; (try (with_reducible rfl)); done)); (try simp only [Act.put, List.setIfInBounds_toArray, List.set_cons_zero, List.set_cons_succ])); (refine takeT (i := 9) (d := 127) rfl rfl (by kernel_rfl) (by kernel_rfl) (by kernel_rfl) (by rfl) (by assumption) (v := ?_) ?_ ?_; rotate_left; (focus (intro wq hSw; (try dsimp only at hSw); go_simp; (try (with_reducible rfl)); done)); (try simp only [Act.put, List.setIfInBounds_toArray, List.set_cons_zero, List.set_cons_succ])); (refine wpAnyH_ready (rs := [10]) (by kernel_rfl) (by simp) ?_; refine AllReadyH.cons rfl (fun K hK => ?_) AllReadyH.nil; go_simp; (first | (go_at_call 29; refine (hhasH.out _ (I64.up ri (by repeat' (first | (with_reducible exact Below.refl _ _) | (with_reducible assumption) | (with_reducible refine Below.new ?_ _) | (with_reducible refine Below.alloc ?_ ?_ _) | (with_reducible refine Below.drew ?_) | (with_reducible refine below_drewN ?_ _) | (with_reducible refine Below.setCell ?_ ?_ _) | (refine Below.next ?_ (by with_reducible assumption)) | (refine Below.row ?_ (by with_reducible assumption) (by omega)) | (refine Below.trans ?_ (by with_reducible assumption)) | (refine Below.after ?_ ?_ (by with_reducible assumption)) | go_size)))).mono ?_; rintro e w' ⟨rfl, rfl⟩) | skip); (try go_wp2_with fail); refine hK.out _ _ ?_ (fun hHeld => ?_); (focus ((try dsimp only); (refine ⟨?_, ?_⟩ <;> repeat' (first | (with_reducible assumption) | ((with_reducible apply bx_new) <;> first | (simp only [World.size_alloc, World.size_setCell]; done) | rfl) | (with_reducible apply bx_alloc) | (with_reducible apply bx_other; (first | (simp only [World.size_alloc, World.size_setCell]; omega) | omega)) | (with_reducible apply bx_same) | (with_reducible apply bx_drew) | (with_reducible apply bx_drew1) | (with_reducible apply bx_keep; with_reducible assumption) | fail)))); clear hK K; (try simp only [Act.put, List.setIfInBounds_toArray, List.set_cons_zero, List.set_cons_succ])); (refine takeT (i := 11) (d := 129) rfl rfl (by kernel_rfl) (by kernel_rfl) (by kernel_rfl) (by rfl) (by assumption) (v := ?_) ?_ ?_; rotate_left; (focus (intro wq hSw; (try dsimp only at hSw); go_simp; (try (with_reducible rfl)); done)); (try simp only [Act.put, List.setIfInBounds_toArray, List.set_cons_zero, List.set_cons_succ])); refine wpAnyH_done (by kernel_rfl) ?_ _; refine NoPanic.normal ?_)
                  go_wp2_with fail
                  go_roundw
                  case rel => exact ⟨k + 1, by omega, by go_num, below_drew hbk⟩
                  case measure => simp [intOf]; omega
            · go_wp2_with fail
              go_roundw
              case rel => exact ⟨i + 1, by omega, by go_num, B10.trans (hbk.mono B10.size)⟩
              case measure => simp [intOf]; omega
        · go_wp2_with fail
          refine (impl_AreCosts _ _ ck _ (II64.up rl hbr) (by have := hclH.out; omega) hrows.out).mono ?_
          rintro e w11 ⟨rfl, hb11⟩
          rw [hAreH.out]
          go_wp2_with fail
          all_goals go_returns
          all_goals exact ⟨rfl, B.trans ((hbr.trans (hb11.mono hbr.size)).mono B.size)⟩
    · go_wp2_with fail
      all_goals go_returns
      all_goals exact ⟨rfl, B⟩
  · have h1' : (one == 0) = false := by simpa using h1
    by_cases hg0 : g = 0
    · subst hg0
      have hgz := hgH.out.symm
      obtain ⟨hms, hcs, hm6, hc6⟩ := gCode_ok2 hgz
      have ecss : css = gcAll ms cs := by rw [hcssH.out]; simp [fGc, hgz]
      have hAre : areB css = true := by rw [ecss]; exact are_gc hgz
      subst ecss
      have hgzH := Lib.hid hgz
      have hmsH := Lib.hid hms
      have hcsH := Lib.hid hcs
      have hAreH := Lib.hid hAre
      have hcl : (gcAll ms cs).length = ms.length := gcAll_len
      have hclH := Lib.hid hcl
      obtain ⟨ck, hck⟩ : ∃ ck, ck = gcAll ms cs := ⟨_, rfl⟩
      rw [← hck] at rl rs hAreH hclH hrows hglH
      rw [← hck]
      have hckH := Lib.hid hck
      clear hgz hms hcs hAre hcl hck hgl6 rs ba bb
      obtain ⟨w9, hw9⟩ : ∃ w9, w9 = w7 := ⟨_, rfl⟩
      rw [← hw9] at rl rm rc B ⊢
      clear hw9
      go_wp2_with fail
      go_loopw [17] (fun iv wr => ∃ i : Nat, i ≤ ms.length ∧ iv = .int .i64 i ∧ Below w9.heap.size w9 wr) (fun iv _ => ms.length - (intOf iv).toNat)
      case atStart => exact ⟨0, Nat.zero_le _, rfl, Below.refl _ _⟩
      case round =>
        obtain ⟨i, hi, rfl, hbr⟩ := hrel
        by_cases hlt : i < ms.length
        · obtain ⟨⟨x, y, p, q, s⟩, hx⟩ := get_of_lt hlt
          obtain ⟨bm, om, eM, hbm, d0, d1, d2, d3, d4⟩ := M64.at_ (M64.up rm hbr) hx
          subst eM
          have hg1 := gCode_one hgzH.out hx
          have hmo := mss_of hmsH.out hx
          have hxH := Lib.hid hx
          have p0 : (0 : Int) ≤ (i : Int) := by omega
          have p1 : (i : Int) < (ms.length : Int) := by omega
          have hCI := fun w' h => impl_ContactsIn x y p q s A2 k2 cs w' h (by omega)
          obtain ⟨zs, hzs⟩ : ∃ zs, zs = fCts x y p q s cs := ⟨_, rfl⟩
          have hzl : zs.length ≤ 7 := by rw [hzs]; exact Nat.le_trans fCts_len hc7
          rw [hg1, ← hzs] at hCI
          have hCIH := Lib.hid hCI
          have hzsH := Lib.hid hzs
          have hg1H := Lib.hid hg1
          have hmoH := Lib.hid hmo
          clear hx hg1 hmo hCI hzs
          go_wp2_with fail
          refine (hCIH.out _ (C64.up rc hbr)).mono ?_
          rintro e w10 ⟨vi, rfl, oi, hb10⟩
          obtain ⟨Ai, ci, rfl, _⟩ := id oi
          have ri := (OwnI.reads oi).2
          have B10 : Below w9.heap.size w9 w10 := hbr.trans (hb10.mono hbr.size)
          clear hbr hb10 oi d0 d1 d2 d3 d4
          go_wp2_with fail
          go_loopw [20] (fun kv wr => ∃ k : Nat, k ≤ cs.length ∧ kv = .int .i64 k ∧ Below w10.heap.size w10 wr) (fun kv _ => cs.length - (intOf kv).toNat)
          case atStart => exact ⟨0, Nat.zero_le _, rfl, Below.refl _ _⟩
          case round =>
            obtain ⟨k, hk, rfl, hbk⟩ := hrel
            have B9 : Below w9.heap.size w9 wr := B10.trans (hbk.mono B10.size)
            by_cases hlk : k < cs.length
            · obtain ⟨⟨a, b⟩, hab⟩ := get_of_lt hlk
              obtain ⟨r1, r2⟩ := gc_get hxH.out hab
              rw [← hckH.out] at r1
              obtain ⟨bq, oq, A', c', eR, hbq, q0, hi'⟩ := (II64.up rl B9).at_ r1
              subst eR
              obtain ⟨b2, o2, eS, hb2, q1⟩ := hi'.at_ r2
              subst eS
              have hco := co_bds (ctsB_of hcsH.out hab)
              obtain ⟨f1, f2, f3, f4, f5⟩ := mo_bds hmoH.out
              obtain ⟨v1, v2, v3, v4⟩ := gcv_ge (s := s) f1 f2 hco.1 hco.2
              have hin := in_gate hg1H.out hab
              rw [← hzsH.out] at hin
              obtain ⟨⟨x0, y0, p0', q0', s0⟩, hx0⟩ := get_of_lt (xs := ms) (k := 0) (by omega)
              obtain ⟨r01, r02⟩ := gc_get hx0 hab
              rw [← hckH.out] at r01
              obtain ⟨bq0, oq0, A0', c0', eR0, hbq0, q00, hi0'⟩ := (II64.up rl B9).at_ r01
              injection eR0 with eR0
              injection eR0 with eR1 eR2
              subst eR1 eR2
              obtain ⟨b20, o20, eS0, hb20, q01⟩ := hi0'.at_ r02
              subst eS0
              have m0 := mss_of hmsH.out hx0
              obtain ⟨g1, g2, g3, g4, g5⟩ := mo_bds m0
              obtain ⟨u1, u2, u3, u4⟩ := gcv_ge (s := s0) g1 g2 hco.1 hco.2
              obtain ⟨bm0, om0, eM0, hbm0, e0, e1, e2, e3, e4⟩ := M64.at_ (M64.up rm B9) hx0
              obtain ⟨bm1, om1, eM1, hbm1, d0, d1, d2, d3, d4⟩ := M64.at_ (M64.up rm B9) hxH.out
              injection eM0 with eM0
              injection eM0 with eM2 eM3
              subst eM2 eM3
              injection eM1 with eM1
              injection eM1 with eM4 eM5
              subst eM4 eM5
              have hmeet : Hid (gin x y s a b = true → gin x0 y0 s0 a b = true → fGM x0 y0 p0' q0' s0 x y p q s = (true, 0)) := fun h1 h2 => meet_gc (ms := ms) (cs := cs) hmoH.out m0 h1 h2
              obtain ⟨vv, hvv⟩ : ∃ v, v = gcv x y s a b := ⟨_, rfl⟩
              obtain ⟨v0, hv0⟩ : ∃ v, v = gcv x0 y0 s0 a b := ⟨_, rfl⟩
              rw [← hvv] at q1 v1 v2 v3 v4
              rw [← hv0] at q01 u1 u2 u3 u4
              simp only [Nat.zero_mul, Nat.add_zero] at e0 e1 e2 e3 e4 q00
              have hz0 : (0 : Int) < (ms.length : Int) := by omega
              have hz0N : 0 < ms.length := by omega
              have hz0C : 0 < ck.length := by have := hclH.out; omega
              have rl0 : (gcRow x0 y0 s0 cs).length = cs.length := gcRow_len
              have rl1 : (gcRow x y s cs).length = cs.length := gcRow_len
              obtain ⟨row, hrow⟩ : ∃ r, r = gcRow x y s cs := ⟨_, rfl⟩
              obtain ⟨row0, hrow0⟩ : ∃ r, r = gcRow x0 y0 s0 cs := ⟨_, rfl⟩
              rw [← hrow] at q0 rl1
              rw [← hrow0] at q00 rl0
              have k0 : (0 : Int) ≤ (k : Int) := by omega
              have k1' : (k : Int) < (cs.length : Int) := by omega
              have k3 : (k : Int) < (row.length : Int) := by omega
              have k4 : (k : Int) < (row0.length : Int) := by omega
              have kc : (i : Int) < (ck.length : Int) := by have := hclH.out; omega
              have kc0 : (0 : Int) < (ck.length : Int) := by have := hclH.out; omega
              clear hab hx0 r1 r2 r01 r02 hi' hi0' hvv hv0 hrow hrow0 m0 hco f1 f2 f3 f4 f5 g1 g2 g3 g4 g5
              have hhas := fun w h1 => laws_hasInt Ai ci zs (k : Int) w h1 (by omega)
              rw [hin] at hhas
              clear hin
              cases hr1 : gin x y s a b
              · rw [hr1] at hhas
                have hhasH := Lib.hid hhas
                have hv := v2 hr1
                clear hhas v1 v2 u1 u2 hr1
                by_cases hi0 : (0 : Int) < (i : Int)
                · go_wp2_with fail
                  (refine wp_region_noPanic ?_; refine wp_region_held_drew (S := (fun w' => w'.cell? ⟨bq, oq + i, none⟩ = some (.slice (some ⟨b2, o2, none⟩) row.length c') ∧ w'.cell? ⟨b2, o2 + k, none⟩ = some (.int .i64 vv))) (by kernel_rfl) ?_ (fun hHeld => ?_); (focus ((try dsimp only); (refine ⟨?_, ?_⟩ <;> repeat' (first | (with_reducible assumption) | ((with_reducible apply bx_new) <;> first | (simp only [World.size_alloc, World.size_setCell]; done) | rfl) | (with_reducible apply bx_alloc) | (with_reducible apply bx_other; (first | (simp only [World.size_alloc, World.size_setCell]; omega) | omega)) | (with_reducible apply bx_same) | (with_reducible apply bx_drew) | (with_reducible apply bx_drew1) | (with_reducible apply bx_keep; with_reducible assumption) | fail)))); (refine takeT (i := 0) (d := 118) rfl rfl (by kernel_rfl) (by kernel_rfl) (by kernel_rfl) (by rfl) (by assumption) (v := ?_) ?_ ?_; rotate_left; (focus (intro wq hSw; (try dsimp only at hSw); go_simp; (try (with_reducible rfl)); done)); (try simp only [Act.put, List.setIfInBounds_toArray, List.set_cons_zero, List.set_cons_succ])); (refine takeT (i := 1) (d := 119) rfl rfl (by kernel_rfl) (by kernel_rfl) (by kernel_rfl) (by rfl) (by assumption) (v := ?_) ?_ ?_; rotate_left; (focus (intro wq hSw; (try dsimp only at hSw); go_simp; (try (with_reducible rfl)); done)); (try simp only [Act.put, List.setIfInBounds_toArray, List.set_cons_zero, List.set_cons_succ])); (refine takeT (i := 2) (d := 120) rfl rfl (by kernel_rfl) (by kernel_rfl) (by kernel_rfl) (by rfl) (by assumption) (v := ?_) ?_ ?_; rotate_left; (focus (intro wq hSw; (try dsimp only at hSw); go_simp; (try (with_reducible rfl)); done)); (try simp only [Act.put, List.setIfInBounds_toArray, List.set_cons_zero, List.set_cons_succ])); (refine takeT (i := 3) (d := 121) rfl rfl (by kernel_rfl) (by kernel_rfl) (by kernel_rfl) (by rfl) (by assumption) (v := ?_) ?_ ?_; rotate_left; (focus (intro wq hSw; (try dsimp only at hSw); go_simp; (try (with_reducible rfl)); done)); (try simp only [Act.put, List.setIfInBounds_toArray, List.set_cons_zero, List.set_cons_succ])); (refine takeT (i := 4) (d := 122) rfl rfl (by kernel_rfl) (by kernel_rfl) (by kernel_rfl) (by rfl) (by assumption) (v := ?_) ?_ ?_; rotate_left; (focus (intro wq hSw; (try dsimp only at hSw); go_simp; (try (with_reducible rfl)); done)); (try simp only [Act.put, List.setIfInBounds_toArray, List.set_cons_zero, List.set_cons_succ])); (refine takeT (i := 5) (d := 123) rfl rfl (by kernel_rfl) (by kernel_rfl) (by kernel_rfl) (by rfl) (by assumption) (v := ?_) ?_ ?_; rotate_left; (focus (intro wq hSw; (try dsimp only at hSw); go_simp; (try (with_reducible rfl)); done)); (try simp only [Act.put, List.setIfInBounds_toArray, List.set_cons_zero, List.set_cons_succ])); (refine takeT (i := 6) (d := 124) rfl rfl (by kernel_rfl) (by kernel_rfl) (by kernel_rfl) (by rfl) (by assumption) (v := ?_) ?_ ?_; rotate_left; (focus (intro wq hSw; (try dsimp only at hSw); go_simp; (try (with_reducible rfl)); done)); (try simp only [Act.put, List.setIfInBounds_toArray, List.set_cons_zero, List.set_cons_succ])); (refine takeT (i := 7) (d := 125) rfl rfl (by kernel_rfl) (by kernel_rfl) (by kernel_rfl) (by rfl) (by assumption) (v := ?_) ?_ ?_; rotate_left; (focus (intro wq hSw; (try dsimp only at hSw); go_simp; (try (with_reducible rfl)); done)); (try simp only [Act.put, List.setIfInBounds_toArray, List.set_cons_zero, List.set_cons_succ])); (refine takeT (i := 8) (d := 126) rfl rfl (by kernel_rfl) (by kernel_rfl) (by kernel_rfl) (by rfl) (by assumption) (v := ?_) ?_ ?_; rotate_left; (focus (intro wq hSw; (try dsimp only at hSw); go_simp; (try (with_reducible rfl)); done)); (try simp only [Act.put, List.setIfInBounds_toArray, List.set_cons_zero, List.set_cons_succ])); (refine takeT (i := 9) (d := 127) rfl rfl (by kernel_rfl) (by kernel_rfl) (by kernel_rfl) (by rfl) (by assumption) (v := ?_) ?_ ?_; rotate_left; (focus (intro wq hSw; (try dsimp only at hSw); go_simp; (try (with_reducible rfl)); done)); (try simp only [Act.put, List.setIfInBounds_toArray, List.set_cons_zero, List.set_cons_succ])); (refine wpAnyH_ready (rs := [10]) (by kernel_rfl) (by simp) ?_; refine AllReadyH.cons rfl (fun K hK => ?_) AllReadyH.nil; go_simp; (first | (go_at_call 29; refine (hhasH.out _ (I64.up ri (by repeat' (first | (with_reducible exact Below.refl _ _) | (with_reducible assumption) | (with_reducible refine Below.new ?_ _) | (with_reducible refine Below.alloc ?_ ?_ _) | (with_reducible refine Below.drew ?_) | (with_reducible refine below_drewN ?_ _) | (with_reducible refine Below.setCell ?_ ?_ _) | (refine Below.next ?_ (by with_reducible assumption)) | (refine Below.row ?_ (by with_reducible assumption) (by omega)) | (refine Below.trans ?_ (by with_reducible assumption)) | (refine Below.after ?_ ?_ (by with_reducible assumption)) | go_size)))).mono ?_; rintro e w' ⟨rfl, rfl⟩) | skip); (try go_wp2_with fail); refine hK.out _ _ ?_ (fun hHeld => ?_); (focus ((try dsimp only); (refine ⟨?_, ?_⟩ <;> repeat' (first | (with_reducible assumption) | ((with_reducible apply bx_new) <;> first | (simp only [World.size_alloc, World.size_setCell]; done) | rfl) | (with_reducible apply bx_alloc) | (with_reducible apply bx_other; (first | (simp only [World.size_alloc, World.size_setCell]; omega) | omega)) | (with_reducible apply bx_same) | (with_reducible apply bx_drew) | (with_reducible apply bx_drew1) | (with_reducible apply bx_keep; with_reducible assumption) | fail)))); clear hK K; (try simp only [Act.put, List.setIfInBounds_toArray, List.set_cons_zero, List.set_cons_succ])); (refine takeT (i := 11) (d := 129) rfl rfl (by kernel_rfl) (by kernel_rfl) (by kernel_rfl) (by rfl) (by assumption) (v := ?_) ?_ ?_; rotate_left; (focus (intro wq hSw; (try dsimp only at hSw); go_simp; (try (with_reducible rfl)); done)); (try simp only [Act.put, List.setIfInBounds_toArray, List.set_cons_zero, List.set_cons_succ])); refine wpAnyH_done (by kernel_rfl) ?_ _; refine NoPanic.normal ?_)
                  go_wp2_with fail
                  go_roundw
                  case rel => exact ⟨k + 1, by omega, by go_num, below_drew hbk⟩
                  case measure => simp [intOf]; omega
                · go_wp2_with fail
                  (refine wp_region_noPanic ?_; refine wp_region_held_drew (S := (fun w' => w'.cell? ⟨bq, oq + i, none⟩ = some (.slice (some ⟨b2, o2, none⟩) row.length c') ∧ w'.cell? ⟨b2, o2 + k, none⟩ = some (.int .i64 vv))) (by kernel_rfl) ?_ (fun hHeld => ?_); (focus ((try dsimp only); (refine ⟨?_, ?_⟩ <;> repeat' (first | (with_reducible assumption) | ((with_reducible apply bx_new) <;> first | (simp only [World.size_alloc, World.size_setCell]; done) | rfl) | (with_reducible apply bx_alloc) | (with_reducible apply bx_other; (first | (simp only [World.size_alloc, World.size_setCell]; omega) | omega)) | (with_reducible apply bx_same) | (with_reducible apply bx_drew) | (with_reducible apply bx_drew1) | (with_reducible apply bx_keep; with_reducible assumption) | fail)))); (refine takeT (i := 0) (d := 118) rfl rfl (by kernel_rfl) (by kernel_rfl) (by kernel_rfl) (by rfl) (by assumption) (v := ?_) ?_ ?_; rotate_left; (focus (intro wq hSw; (try dsimp only at hSw); go_simp; (try (with_reducible rfl)); done)); (try simp only [Act.put, List.setIfInBounds_toArray, List.set_cons_zero, List.set_cons_succ])); (refine takeT (i := 1) (d := 119) rfl rfl (by kernel_rfl) (by kernel_rfl) (by kernel_rfl) (by rfl) (by assumption) (v := ?_) ?_ ?_; rotate_left; (focus (intro wq hSw; (try dsimp only at hSw); go_simp; (try (with_reducible rfl)); done)); (try simp only [Act.put, List.setIfInBounds_toArray, List.set_cons_zero, List.set_cons_succ])); (refine takeT (i := 2) (d := 120) rfl rfl (by kernel_rfl) (by kernel_rfl) (by kernel_rfl) (by rfl) (by assumption) (v := ?_) ?_ ?_; rotate_left; (focus (intro wq hSw; (try dsimp only at hSw); go_simp; (try (with_reducible rfl)); done)); (try simp only [Act.put, List.setIfInBounds_toArray, List.set_cons_zero, List.set_cons_succ])); (refine takeT (i := 3) (d := 121) rfl rfl (by kernel_rfl) (by kernel_rfl) (by kernel_rfl) (by rfl) (by assumption) (v := ?_) ?_ ?_; rotate_left; (focus (intro wq hSw; (try dsimp only at hSw); go_simp; (try (with_reducible rfl)); done)); (try simp only [Act.put, List.setIfInBounds_toArray, List.set_cons_zero, List.set_cons_succ])); (refine takeT (i := 4) (d := 122) rfl rfl (by kernel_rfl) (by kernel_rfl) (by kernel_rfl) (by rfl) (by assumption) (v := ?_) ?_ ?_; rotate_left; (focus (intro wq hSw; (try dsimp only at hSw); go_simp; (try (with_reducible rfl)); done)); (try simp only [Act.put, List.setIfInBounds_toArray, List.set_cons_zero, List.set_cons_succ])); (refine takeT (i := 5) (d := 123) rfl rfl (by kernel_rfl) (by kernel_rfl) (by kernel_rfl) (by rfl) (by assumption) (v := ?_) ?_ ?_; rotate_left; (focus (intro wq hSw; (try dsimp only at hSw); go_simp; (try (with_reducible rfl)); done)); (try simp only [Act.put, List.setIfInBounds_toArray, List.set_cons_zero, List.set_cons_succ])); (refine takeT (i := 6) (d := 124) rfl rfl (by kernel_rfl) (by kernel_rfl) (by kernel_rfl) (by rfl) (by assumption) (v := ?_) ?_ ?_; rotate_left; (focus (intro wq hSw; (try dsimp only at hSw); go_simp; (try (with_reducible rfl)); done)); (try simp only [Act.put, List.setIfInBounds_toArray, List.set_cons_zero, List.set_cons_succ])); (refine takeT (i := 7) (d := 125) rfl rfl (by kernel_rfl) (by kernel_rfl) (by kernel_rfl) (by rfl) (by assumption) (v := ?_) ?_ ?_; rotate_left; (focus (intro wq hSw; (try dsimp only at hSw); go_simp; (try (with_reducible rfl)); done)); (try simp only [Act.put, List.setIfInBounds_toArray, List.set_cons_zero, List.set_cons_succ])); (refine takeT (i := 8) (d := 126) rfl rfl (by kernel_rfl) (by kernel_rfl) (by kernel_rfl) (by rfl) (by assumption) (v := ?_) ?_ ?_; rotate_left; (focus (intro wq hSw; (try dsimp only at hSw); go_simp; (try (with_reducible rfl)); done)); (try simp only [Act.put, List.setIfInBounds_toArray, List.set_cons_zero, List.set_cons_succ])); (refine takeT (i := 9) (d := 127) rfl rfl (by kernel_rfl) (by kernel_rfl) (by kernel_rfl) (by rfl) (by assumption) (v := ?_) ?_ ?_; rotate_left; (focus (intro wq hSw; (try dsimp only at hSw); go_simp; (try (with_reducible rfl)); done)); (try simp only [Act.put, List.setIfInBounds_toArray, List.set_cons_zero, List.set_cons_succ])); (refine wpAnyH_ready (rs := [10]) (by kernel_rfl) (by simp) ?_; refine AllReadyH.cons rfl (fun K hK => ?_) AllReadyH.nil; go_simp; (first | (go_at_call 29; refine (hhasH.out _ (I64.up ri (by repeat' (first | (with_reducible exact Below.refl _ _) | (with_reducible assumption) | (with_reducible refine Below.new ?_ _) | (with_reducible refine Below.alloc ?_ ?_ _) | (with_reducible refine Below.drew ?_) | (with_reducible refine below_drewN ?_ _) | (with_reducible refine Below.setCell ?_ ?_ _) | (refine Below.next ?_ (by with_reducible assumption)) | (refine Below.row ?_ (by with_reducible assumption) (by omega)) | (refine Below.trans ?_ (by with_reducible assumption)) | (refine Below.after ?_ ?_ (by with_reducible assumption)) | go_size)))).mono ?_; rintro e w' ⟨rfl, rfl⟩) | skip); (try go_wp2_with fail); refine hK.out _ _ ?_ (fun hHeld => ?_); (focus ((try dsimp only); (refine ⟨?_, ?_⟩ <;> repeat' (first | (with_reducible assumption) | ((with_reducible apply bx_new) <;> first | (simp only [World.size_alloc, World.size_setCell]; done) | rfl) | (with_reducible apply bx_alloc) | (with_reducible apply bx_other; (first | (simp only [World.size_alloc, World.size_setCell]; omega) | omega)) | (with_reducible apply bx_same) | (with_reducible apply bx_drew) | (with_reducible apply bx_drew1) | (with_reducible apply bx_keep; with_reducible assumption) | fail)))); clear hK K; (try simp only [Act.put, List.setIfInBounds_toArray, List.set_cons_zero, List.set_cons_succ])); (refine takeT (i := 11) (d := 129) rfl rfl (by kernel_rfl) (by kernel_rfl) (by kernel_rfl) (by rfl) (by assumption) (v := ?_) ?_ ?_; rotate_left; (focus (intro wq hSw; (try dsimp only at hSw); go_simp; (try (with_reducible rfl)); done)); (try simp only [Act.put, List.setIfInBounds_toArray, List.set_cons_zero, List.set_cons_succ])); refine wpAnyH_done (by kernel_rfl) ?_ _; refine NoPanic.normal ?_)
                  go_wp2_with fail
                  go_roundw
                  case rel => exact ⟨k + 1, by omega, by go_num, below_drew hbk⟩
                  case measure => simp [intOf]; omega
              · rw [hr1] at hhas
                have hhasH := Lib.hid hhas
                have hv := v1 hr1
                clear hhas v1 v2
                by_cases hi0 : (0 : Int) < (i : Int)
                · cases hr0 : gin x0 y0 s0 a b
                  · have hv0 := u2 hr0
                    clear u1 u2 hr0 hr1
                    go_wp2_with fail
                    (refine wp_region_noPanic ?_; refine wp_region_held_drew (S := (fun w' => w'.cell? ⟨bq, oq + i, none⟩ = some (.slice (some ⟨b2, o2, none⟩) row.length c') ∧ w'.cell? ⟨b2, o2 + k, none⟩ = some (.int .i64 vv))) (by kernel_rfl) ?_ (fun hHeld => ?_); (focus ((try dsimp only); (refine ⟨?_, ?_⟩ <;> repeat' (first | (with_reducible assumption) | ((with_reducible apply bx_new) <;> first | (simp only [World.size_alloc, World.size_setCell]; done) | rfl) | (with_reducible apply bx_alloc) | (with_reducible apply bx_other; (first | (simp only [World.size_alloc, World.size_setCell]; omega) | omega)) | (with_reducible apply bx_same) | (with_reducible apply bx_drew) | (with_reducible apply bx_drew1) | (with_reducible apply bx_keep; with_reducible assumption) | fail)))); (refine takeT (i := 0) (d := 118) rfl rfl (by kernel_rfl) (by kernel_rfl) (by kernel_rfl) (by rfl) (by assumption) (v := ?_) ?_ ?_; rotate_left; (focus (intro wq hSw; (try dsimp only at hSw); go_simp; (try (with_reducible rfl)); done)); (try simp only [Act.put, List.setIfInBounds_toArray, List.set_cons_zero, List.set_cons_succ])); (refine takeT (i := 1) (d := 119) rfl rfl (by kernel_rfl) (by kernel_rfl) (by kernel_rfl) (by rfl) (by assumption) (v := ?_) ?_ ?_; rotate_left; (focus (intro wq hSw; (try dsimp only at hSw); go_simp; (try (with_reducible rfl)); done)); (try simp only [Act.put, List.setIfInBounds_toArray, List.set_cons_zero, List.set_cons_succ])); (refine takeT (i := 2) (d := 120) rfl rfl (by kernel_rfl) (by kernel_rfl) (by kernel_rfl) (by rfl) (by assumption) (v := ?_) ?_ ?_; rotate_left; (focus (intro wq hSw; (try dsimp only at hSw); go_simp; (try (with_reducible rfl)); done)); (try simp only [Act.put, List.setIfInBounds_toArray, List.set_cons_zero, List.set_cons_succ])); (refine takeT (i := 3) (d := 121) rfl rfl (by kernel_rfl) (by kernel_rfl) (by kernel_rfl) (by rfl) (by assumption) (v := ?_) ?_ ?_; rotate_left; (focus (intro wq hSw; (try dsimp only at hSw); go_simp; (try (with_reducible rfl)); done)); (try simp only [Act.put, List.setIfInBounds_toArray, List.set_cons_zero, List.set_cons_succ])); (refine takeT (i := 4) (d := 122) rfl rfl (by kernel_rfl) (by kernel_rfl) (by kernel_rfl) (by rfl) (by assumption) (v := ?_) ?_ ?_; rotate_left; (focus (intro wq hSw; (try dsimp only at hSw); go_simp; (try (with_reducible rfl)); done)); (try simp only [Act.put, List.setIfInBounds_toArray, List.set_cons_zero, List.set_cons_succ])); (refine takeT (i := 5) (d := 123) rfl rfl (by kernel_rfl) (by kernel_rfl) (by kernel_rfl) (by rfl) (by assumption) (v := ?_) ?_ ?_; rotate_left; (focus (intro wq hSw; (try dsimp only at hSw); go_simp; (try (with_reducible rfl)); done)); (try simp only [Act.put, List.setIfInBounds_toArray, List.set_cons_zero, List.set_cons_succ])); (refine takeT (i := 6) (d := 124) rfl rfl (by kernel_rfl) (by kernel_rfl) (by kernel_rfl) (by rfl) (by assumption) (v := ?_) ?_ ?_; rotate_left; (focus (intro wq hSw; (try dsimp only at hSw); go_simp; (try (with_reducible rfl)); done)); (try simp only [Act.put, List.setIfInBounds_toArray, List.set_cons_zero, List.set_cons_succ])); (refine takeT (i := 7) (d := 125) rfl rfl (by kernel_rfl) (by kernel_rfl) (by kernel_rfl) (by rfl) (by assumption) (v := ?_) ?_ ?_; rotate_left; (focus (intro wq hSw; (try dsimp only at hSw); go_simp; (try (with_reducible rfl)); done)); (try simp only [Act.put, List.setIfInBounds_toArray, List.set_cons_zero, List.set_cons_succ])); (refine takeT (i := 8) (d := 126) rfl rfl (by kernel_rfl) (by kernel_rfl) (by kernel_rfl) (by rfl) (by assumption) (v := ?_) ?_ ?_; rotate_left; (focus (intro wq hSw; (try dsimp only at hSw); go_simp; (try (with_reducible rfl)); done)); (try simp only [Act.put, List.setIfInBounds_toArray, List.set_cons_zero, List.set_cons_succ])); (refine takeT (i := 9) (d := 127) rfl rfl (by kernel_rfl) (by kernel_rfl) (by kernel_rfl) (by rfl) (by assumption) (v := ?_) ?_ ?_; rotate_left; (focus (intro wq hSw; (try dsimp only at hSw); go_simp; (try (with_reducible rfl)); done)); (try simp only [Act.put, List.setIfInBounds_toArray, List.set_cons_zero, List.set_cons_succ])); (refine wpAnyH_ready (rs := [10]) (by kernel_rfl) (by simp) ?_; refine AllReadyH.cons rfl (fun K hK => ?_) AllReadyH.nil; go_simp; (first | (go_at_call 29; refine (hhasH.out _ (I64.up ri (by repeat' (first | (with_reducible exact Below.refl _ _) | (with_reducible assumption) | (with_reducible refine Below.new ?_ _) | (with_reducible refine Below.alloc ?_ ?_ _) | (with_reducible refine Below.drew ?_) | (with_reducible refine below_drewN ?_ _) | (with_reducible refine Below.setCell ?_ ?_ _) | (refine Below.next ?_ (by with_reducible assumption)) | (refine Below.row ?_ (by with_reducible assumption) (by omega)) | (refine Below.trans ?_ (by with_reducible assumption)) | (refine Below.after ?_ ?_ (by with_reducible assumption)) | go_size)))).mono ?_; rintro e w' ⟨rfl, rfl⟩) | skip); (try go_wp2_with fail); refine hK.out _ _ ?_ (fun hHeld => ?_); (focus ((try dsimp only); (refine ⟨?_, ?_⟩ <;> repeat' (first | (with_reducible assumption) | ((with_reducible apply bx_new) <;> first | (simp only [World.size_alloc, World.size_setCell]; done) | rfl) | (with_reducible apply bx_alloc) | (with_reducible apply bx_other; (first | (simp only [World.size_alloc, World.size_setCell]; omega) | omega)) | (with_reducible apply bx_same) | (with_reducible apply bx_drew) | (with_reducible apply bx_drew1) | (with_reducible apply bx_keep; with_reducible assumption) | fail)))); clear hK K; (try simp only [Act.put, List.setIfInBounds_toArray, List.set_cons_zero, List.set_cons_succ])); (refine takeT (i := 11) (d := 129) rfl rfl (by kernel_rfl) (by kernel_rfl) (by kernel_rfl) (by rfl) (by assumption) (v := ?_) ?_ ?_; rotate_left; (focus (intro wq hSw; (try dsimp only at hSw); go_simp; (try (with_reducible rfl)); done)); (try simp only [Act.put, List.setIfInBounds_toArray, List.set_cons_zero, List.set_cons_succ])); refine wpAnyH_done (by kernel_rfl) ?_ _; refine NoPanic.normal ?_)
                    go_wp2_with fail
                    go_roundw
                    case rel => exact ⟨k + 1, by omega, by go_num, below_drew hbk⟩
                    case measure => simp [intOf]; omega
                  · have hv0 := u1 hr0
                    have hGMc : Hid (∀ w, Calls Try.prog 34 #[.agg #[.int .i64 x0, .int .i64 y0, .int .i64 p0', .int .i64 q0', .int .i64 s0], .agg #[.int .i64 x, .int .i64 y, .int .i64 p, .int .i64 q, .int .i64 s]] w fun e w' => e = .returned (.tuple #[.bool true, .int .i64 0]) ∧ Below w.heap.size w w') := fun w => by
                      have := impl_GatesMeet x0 y0 p0' q0' s0 x y p q s w
                      rw [hmeet.out hr1 hr0] at this
                      exact this
                    clear u1 u2 hr0 hr1
                    go_wp2_with fail
                    (refine wp_region_noPanic ?_; refine wp_region_held_drew (S := (fun w' => w'.cell? ⟨bq, oq + i, none⟩ = some (.slice (some ⟨b2, o2, none⟩) row.length c') ∧ w'.cell? ⟨b2, o2 + k, none⟩ = some (.int .i64 vv))) (by kernel_rfl) ?_ (fun hHeld => ?_); (focus ((try dsimp only); (refine ⟨?_, ?_⟩ <;> repeat' (first | (with_reducible assumption) | ((with_reducible apply bx_new) <;> first | (simp only [World.size_alloc, World.size_setCell]; done) | rfl) | (with_reducible apply bx_alloc) | (with_reducible apply bx_other; (first | (simp only [World.size_alloc, World.size_setCell]; omega) | omega)) | (with_reducible apply bx_same) | (with_reducible apply bx_drew) | (with_reducible apply bx_drew1) | (with_reducible apply bx_keep; with_reducible assumption) | fail)))); (refine takeT (i := 0) (d := 118) rfl rfl (by kernel_rfl) (by kernel_rfl) (by kernel_rfl) (by rfl) (by assumption) (v := ?_) ?_ ?_; rotate_left; (focus (intro wq hSw; (try dsimp only at hSw); go_simp; (try (with_reducible rfl)); done)); (try simp only [Act.put, List.setIfInBounds_toArray, List.set_cons_zero, List.set_cons_succ])); (refine takeT (i := 1) (d := 119) rfl rfl (by kernel_rfl) (by kernel_rfl) (by kernel_rfl) (by rfl) (by assumption) (v := ?_) ?_ ?_; rotate_left; (focus (intro wq hSw; (try dsimp only at hSw); go_simp; (try (with_reducible rfl)); done)); (try simp only [Act.put, List.setIfInBounds_toArray, List.set_cons_zero, List.set_cons_succ])); (refine takeT (i := 2) (d := 120) rfl rfl (by kernel_rfl) (by kernel_rfl) (by kernel_rfl) (by rfl) (by assumption) (v := ?_) ?_ ?_; rotate_left; (focus (intro wq hSw; (try dsimp only at hSw); go_simp; (try (with_reducible rfl)); done)); (try simp only [Act.put, List.setIfInBounds_toArray, List.set_cons_zero, List.set_cons_succ])); (refine takeT (i := 3) (d := 121) rfl rfl (by kernel_rfl) (by kernel_rfl) (by kernel_rfl) (by rfl) (by assumption) (v := ?_) ?_ ?_; rotate_left; (focus (intro wq hSw; (try dsimp only at hSw); go_simp; (try (with_reducible rfl)); done)); (try simp only [Act.put, List.setIfInBounds_toArray, List.set_cons_zero, List.set_cons_succ])); (refine takeT (i := 4) (d := 122) rfl rfl (by kernel_rfl) (by kernel_rfl) (by kernel_rfl) (by rfl) (by assumption) (v := ?_) ?_ ?_; rotate_left; (focus (intro wq hSw; (try dsimp only at hSw); go_simp; (try (with_reducible rfl)); done)); (try simp only [Act.put, List.setIfInBounds_toArray, List.set_cons_zero, List.set_cons_succ])); (refine takeT (i := 5) (d := 123) rfl rfl (by kernel_rfl) (by kernel_rfl) (by kernel_rfl) (by rfl) (by assumption) (v := ?_) ?_ ?_; rotate_left; (focus (intro wq hSw; (try dsimp only at hSw); go_simp; (try (with_reducible rfl)); done)); (try simp only [Act.put, List.setIfInBounds_toArray, List.set_cons_zero, List.set_cons_succ])); (refine takeT (i := 6) (d := 124) rfl rfl (by kernel_rfl) (by kernel_rfl) (by kernel_rfl) (by rfl) (by assumption) (v := ?_) ?_ ?_; rotate_left; (focus (intro wq hSw; (try dsimp only at hSw); go_simp; (try (with_reducible rfl)); done)); (try simp only [Act.put, List.setIfInBounds_toArray, List.set_cons_zero, List.set_cons_succ])); (refine takeT (i := 7) (d := 125) rfl rfl (by kernel_rfl) (by kernel_rfl) (by kernel_rfl) (by rfl) (by assumption) (v := ?_) ?_ ?_; rotate_left; (focus (intro wq hSw; (try dsimp only at hSw); go_simp; (try (with_reducible rfl)); done)); (try simp only [Act.put, List.setIfInBounds_toArray, List.set_cons_zero, List.set_cons_succ])); (refine takeT (i := 8) (d := 126) rfl rfl (by kernel_rfl) (by kernel_rfl) (by kernel_rfl) (by rfl) (by assumption) (v := ?_) ?_ ?_; rotate_left; (focus (intro wq hSw; (try dsimp only at hSw); go_simp; (try (with_reducible rfl)); done)); (try simp only [Act.put, List.setIfInBounds_toArray, List.set_cons_zero, List.set_cons_succ])); (refine takeT (i := 9) (d := 127) rfl rfl (by kernel_rfl) (by kernel_rfl) (by kernel_rfl) (by rfl) (by assumption) (v := ?_) ?_ ?_; rotate_left; (focus (intro wq hSw; (try dsimp only at hSw); go_simp; (try (with_reducible rfl)); done)); (try simp only [Act.put, List.setIfInBounds_toArray, List.set_cons_zero, List.set_cons_succ])); (refine wpAnyH_ready (rs := [10]) (by kernel_rfl) (by simp) ?_; refine AllReadyH.cons rfl (fun K hK => ?_) AllReadyH.nil; go_simp; (first | (go_at_call 29; refine (hhasH.out _ (I64.up ri (by repeat' (first | (with_reducible exact Below.refl _ _) | (with_reducible assumption) | (with_reducible refine Below.new ?_ _) | (with_reducible refine Below.alloc ?_ ?_ _) | (with_reducible refine Below.drew ?_) | (with_reducible refine below_drewN ?_ _) | (with_reducible refine Below.setCell ?_ ?_ _) | (refine Below.next ?_ (by with_reducible assumption)) | (refine Below.row ?_ (by with_reducible assumption) (by omega)) | (refine Below.trans ?_ (by with_reducible assumption)) | (refine Below.after ?_ ?_ (by with_reducible assumption)) | go_size)))).mono ?_; rintro e w' ⟨rfl, rfl⟩) | skip); (try go_wp2_with fail); refine hK.out _ _ ?_ (fun hHeld => ?_); (focus ((try dsimp only); (refine ⟨?_, ?_⟩ <;> repeat' (first | (with_reducible assumption) | ((with_reducible apply bx_new) <;> first | (simp only [World.size_alloc, World.size_setCell]; done) | rfl) | (with_reducible apply bx_alloc) | (with_reducible apply bx_other; (first | (simp only [World.size_alloc, World.size_setCell]; omega) | omega)) | (with_reducible apply bx_same) | (with_reducible apply bx_drew) | (with_reducible apply bx_drew1) | (with_reducible apply bx_keep; with_reducible assumption) | fail)))); clear hK K; (try simp only [Act.put, List.setIfInBounds_toArray, List.set_cons_zero, List.set_cons_succ])); (refine takeT (i := 11) (d := 129) rfl rfl (by kernel_rfl) (by kernel_rfl) (by kernel_rfl) (by rfl) (by assumption) (v := ?_) ?_ ?_; rotate_left; (focus (intro wq hSw; (try dsimp only at hSw); go_simp; (try (with_reducible rfl)); done)); (try simp only [Act.put, List.setIfInBounds_toArray, List.set_cons_zero, List.set_cons_succ])); refine wpAnyH_done (by kernel_rfl) ?_ _; refine NoPanic.normal ?_)
                    go_wp2_with fail
                    (refine wp_region_noPanic ?_; refine wp_region_held_drew (S := (fun w' => w'.cell? ⟨bm, om, none⟩ = some (.int .i64 x0) ∧ w'.cell? ⟨bm, om + 1, none⟩ = some (.int .i64 y0) ∧ w'.cell? ⟨bm, om + 2, none⟩ = some (.int .i64 p0') ∧ w'.cell? ⟨bm, om + 3, none⟩ = some (.int .i64 q0') ∧ w'.cell? ⟨bm, om + 4, none⟩ = some (.int .i64 s0) ∧ w'.cell? ⟨bm, om + i * 5, none⟩ = some (.int .i64 x) ∧ w'.cell? ⟨bm, om + i * 5 + 1, none⟩ = some (.int .i64 y) ∧ w'.cell? ⟨bm, om + i * 5 + 2, none⟩ = some (.int .i64 p) ∧ w'.cell? ⟨bm, om + i * 5 + 3, none⟩ = some (.int .i64 q) ∧ w'.cell? ⟨bm, om + i * 5 + 4, none⟩ = some (.int .i64 s))) (by kernel_rfl) ?_ (fun hHeld => ?_); (focus ((try dsimp only); (refine ⟨?_, ?_, ?_, ?_, ?_, ?_, ?_, ?_, ?_, ?_⟩ <;> repeat' (first | (with_reducible assumption) | ((with_reducible apply bx_new) <;> first | (simp only [World.size_alloc, World.size_setCell]; done) | rfl) | (with_reducible apply bx_alloc) | (with_reducible apply bx_other; (first | (simp only [World.size_alloc, World.size_setCell]; omega) | omega)) | (with_reducible apply bx_same) | (with_reducible apply bx_drew) | (with_reducible apply bx_drew1) | (with_reducible apply bx_keep; with_reducible assumption) | fail)))); (refine takeT (i := 0) (d := 152) rfl rfl (by kernel_rfl) (by kernel_rfl) (by kernel_rfl) (by rfl) (by assumption) (v := ?_) ?_ ?_; rotate_left; (focus (intro wq hSw; (try dsimp only at hSw); go_simp; (try (with_reducible rfl)); done)); (try simp only [Act.put, List.setIfInBounds_toArray, List.set_cons_zero, List.set_cons_succ])); (refine takeT (i := 1) (d := 153) rfl rfl (by kernel_rfl) (by kernel_rfl) (by kernel_rfl) (by rfl) (by assumption) (v := ?_) ?_ ?_; rotate_left; (focus (intro wq hSw; (try dsimp only at hSw); go_simp; (try (with_reducible rfl)); done)); (try simp only [Act.put, List.setIfInBounds_toArray, List.set_cons_zero, List.set_cons_succ])); (refine takeT (i := 2) (d := 154) rfl rfl (by kernel_rfl) (by kernel_rfl) (by kernel_rfl) (by rfl) (by assumption) (v := ?_) ?_ ?_; rotate_left; (focus (intro wq hSw; (try dsimp only at hSw); go_simp; (try (with_reducible rfl)); done)); (try simp only [Act.put, List.setIfInBounds_toArray, List.set_cons_zero, List.set_cons_succ])); (refine takeT (i := 3) (d := 155) rfl rfl (by kernel_rfl) (by kernel_rfl) (by kernel_rfl) (by rfl) (by assumption) (v := ?_) ?_ ?_; rotate_left; (focus (intro wq hSw; (try dsimp only at hSw); go_simp; (try (with_reducible rfl)); done)); (try simp only [Act.put, List.setIfInBounds_toArray, List.set_cons_zero, List.set_cons_succ])); (refine takeT (i := 4) (d := 156) rfl rfl (by kernel_rfl) (by kernel_rfl) (by kernel_rfl) (by rfl) (by assumption) (v := ?_) ?_ ?_; rotate_left; (focus (intro wq hSw; (try dsimp only at hSw); go_simp; (try (with_reducible rfl)); done)); (try simp only [Act.put, List.setIfInBounds_toArray, List.set_cons_zero, List.set_cons_succ])); (refine takeT (i := 5) (d := 157) rfl rfl (by kernel_rfl) (by kernel_rfl) (by kernel_rfl) (by rfl) (by assumption) (v := ?_) ?_ ?_; rotate_left; (focus (intro wq hSw; (try dsimp only at hSw); go_simp; (try (with_reducible rfl)); done)); (try simp only [Act.put, List.setIfInBounds_toArray, List.set_cons_zero, List.set_cons_succ])); (refine takeT (i := 6) (d := 158) rfl rfl (by kernel_rfl) (by kernel_rfl) (by kernel_rfl) (by rfl) (by assumption) (v := ?_) ?_ ?_; rotate_left; (focus (intro wq hSw; (try dsimp only at hSw); go_simp; (try (with_reducible rfl)); done)); (try simp only [Act.put, List.setIfInBounds_toArray, List.set_cons_zero, List.set_cons_succ])); (refine wpAnyH_ready (rs := [7]) (by kernel_rfl) (by simp) ?_; refine AllReadyH.cons rfl (fun K hK => ?_) AllReadyH.nil; go_simp; (first | (go_at_call 34; refine (hGMc.out _).mono ?_; rintro e w12 ⟨rfl, hb12⟩; have BK : Below w10.heap.size w10 w12 := Below.trans (below_drew (below_drew hbk)) (hb12.mono (by have := hbk.size; exact this)); have e0 := bx_keep (W := wr.drew.drew) hb12 e0; have e1 := bx_keep (W := wr.drew.drew) hb12 e1; have e2 := bx_keep (W := wr.drew.drew) hb12 e2; have e3 := bx_keep (W := wr.drew.drew) hb12 e3; have e4 := bx_keep (W := wr.drew.drew) hb12 e4; have d0 := bx_keep (W := wr.drew.drew) hb12 d0; have d1 := bx_keep (W := wr.drew.drew) hb12 d1; have d2 := bx_keep (W := wr.drew.drew) hb12 d2; have d3 := bx_keep (W := wr.drew.drew) hb12 d3; have d4 := bx_keep (W := wr.drew.drew) hb12 d4) | skip); (try go_wp2_with fail); refine hK.out _ _ ?_ (fun hHeld => ?_); (focus ((try dsimp only); (refine ⟨?_, ?_, ?_, ?_, ?_, ?_, ?_, ?_, ?_, ?_⟩ <;> repeat' (first | (with_reducible assumption) | ((with_reducible apply bx_new) <;> first | (simp only [World.size_alloc, World.size_setCell]; done) | rfl) | (with_reducible apply bx_alloc) | (with_reducible apply bx_other; (first | (simp only [World.size_alloc, World.size_setCell]; omega) | omega)) | (with_reducible apply bx_same) | (with_reducible apply bx_drew) | (with_reducible apply bx_drew1) | (with_reducible apply bx_keep; with_reducible assumption) | fail)))); clear hK K; (try simp only [Act.put, List.setIfInBounds_toArray, List.set_cons_zero, List.set_cons_succ])); (refine takeT (i := 8) (d := 151) rfl rfl (by kernel_rfl) (by kernel_rfl) (by kernel_rfl) (by rfl) (by assumption) (v := ?_) ?_ ?_; rotate_left; (focus (intro wq hSw; (try dsimp only at hSw); go_simp; (try (with_reducible rfl)); done)); (try simp only [Act.put, List.setIfInBounds_toArray, List.set_cons_zero, List.set_cons_succ])); (refine takeT (i := 9) (d := 160) rfl rfl (by kernel_rfl) (by kernel_rfl) (by kernel_rfl) (by rfl) (by assumption) (v := ?_) ?_ ?_; rotate_left; (focus (intro wq hSw; (try dsimp only at hSw); go_simp; (try (with_reducible rfl)); done)); (try simp only [Act.put, List.setIfInBounds_toArray, List.set_cons_zero, List.set_cons_succ])); (refine takeT (i := 10) (d := 161) rfl rfl (by kernel_rfl) (by kernel_rfl) (by kernel_rfl) (by rfl) (by assumption) (v := ?_) ?_ ?_; rotate_left; (focus (intro wq hSw; (try dsimp only at hSw); go_simp; (try (with_reducible rfl)); done)); (try simp only [Act.put, List.setIfInBounds_toArray, List.set_cons_zero, List.set_cons_succ])); (refine takeT (i := 11) (d := 21) rfl rfl (by kernel_rfl) (by kernel_rfl) (by kernel_rfl) (by rfl) (by assumption) (v := ?_) ?_ ?_; rotate_left; (focus (intro wq hSw; (try dsimp only at hSw); go_simp; (try (with_reducible rfl)); done)); (try simp only [Act.put, List.setIfInBounds_toArray, List.set_cons_zero, List.set_cons_succ])); (refine takeT (i := 12) (d := 22) rfl rfl (by kernel_rfl) (by kernel_rfl) (by kernel_rfl) (by rfl) (by assumption) (v := ?_) ?_ ?_; rotate_left; (focus (intro wq hSw; (try dsimp only at hSw); go_simp; (try (with_reducible rfl)); done)); (try simp only [Act.put, List.setIfInBounds_toArray, List.set_cons_zero, List.set_cons_succ])); refine wpAnyH_done (by kernel_rfl) ?_ _; refine NoPanic.normal ?_)
                    go_wp2_with fail
                    go_roundw
                    case rel => exact ⟨k + 1, by omega, by go_num, BK⟩
                    case measure => simp [intOf]; omega
                · clear u1 u2 hr1
                  go_wp2_with fail
                  (refine wp_region_noPanic ?_; refine wp_region_held_drew (S := (fun w' => w'.cell? ⟨bq, oq + i, none⟩ = some (.slice (some ⟨b2, o2, none⟩) row.length c') ∧ w'.cell? ⟨b2, o2 + k, none⟩ = some (.int .i64 vv))) (by kernel_rfl) ?_ (fun hHeld => ?_); (focus ((try dsimp only); (refine ⟨?_, ?_⟩ <;> repeat' (first | (with_reducible assumption) | ((with_reducible apply bx_new) <;> first | (simp only [World.size_alloc, World.size_setCell]; done) | rfl) | (with_reducible apply bx_alloc) | (with_reducible apply bx_other; (first | (simp only [World.size_alloc, World.size_setCell]; omega) | omega)) | (with_reducible apply bx_same) | (with_reducible apply bx_drew) | (with_reducible apply bx_drew1) | (with_reducible apply bx_keep; with_reducible assumption) | fail)))); (refine takeT (i := 0) (d := 118) rfl rfl (by kernel_rfl) (by kernel_rfl) (by kernel_rfl) (by rfl) (by assumption) (v := ?_) ?_ ?_; rotate_left; (focus (intro wq hSw; (try dsimp only at hSw); go_simp; (try (with_reducible rfl)); done)); (try simp only [Act.put, List.setIfInBounds_toArray, List.set_cons_zero, List.set_cons_succ])); (refine takeT (i := 1) (d := 119) rfl rfl (by kernel_rfl) (by kernel_rfl) (by kernel_rfl) (by rfl) (by assumption) (v := ?_) ?_ ?_; rotate_left; (focus (intro wq hSw; (try dsimp only at hSw); go_simp; (try (with_reducible rfl)); done)); (try simp only [Act.put, List.setIfInBounds_toArray, List.set_cons_zero, List.set_cons_succ])); (refine takeT (i := 2) (d := 120) rfl rfl (by kernel_rfl) (by kernel_rfl) (by kernel_rfl) (by rfl) (by assumption) (v := ?_) ?_ ?_; rotate_left; (focus (intro wq hSw; (try dsimp only at hSw); go_simp; (try (with_reducible rfl)); done)); (try simp only [Act.put, List.setIfInBounds_toArray, List.set_cons_zero, List.set_cons_succ])); (refine takeT (i := 3) (d := 121) rfl rfl (by kernel_rfl) (by kernel_rfl) (by kernel_rfl) (by rfl) (by assumption) (v := ?_) ?_ ?_; rotate_left; (focus (intro wq hSw; (try dsimp only at hSw); go_simp; (try (with_reducible rfl)); done)); (try simp only [Act.put, List.setIfInBounds_toArray, List.set_cons_zero, List.set_cons_succ])); (refine takeT (i := 4) (d := 122) rfl rfl (by kernel_rfl) (by kernel_rfl) (by kernel_rfl) (by rfl) (by assumption) (v := ?_) ?_ ?_; rotate_left; (focus (intro wq hSw; (try dsimp only at hSw); go_simp; (try (with_reducible rfl)); done)); (try simp only [Act.put, List.setIfInBounds_toArray, List.set_cons_zero, List.set_cons_succ])); (refine takeT (i := 5) (d := 123) rfl rfl (by kernel_rfl) (by kernel_rfl) (by kernel_rfl) (by rfl) (by assumption) (v := ?_) ?_ ?_; rotate_left; (focus (intro wq hSw; (try dsimp only at hSw); go_simp; (try (with_reducible rfl)); done)); (try simp only [Act.put, List.setIfInBounds_toArray, List.set_cons_zero, List.set_cons_succ])); (refine takeT (i := 6) (d := 124) rfl rfl (by kernel_rfl) (by kernel_rfl) (by kernel_rfl) (by rfl) (by assumption) (v := ?_) ?_ ?_; rotate_left; (focus (intro wq hSw; (try dsimp only at hSw); go_simp; (try (with_reducible rfl)); done)); (try simp only [Act.put, List.setIfInBounds_toArray, List.set_cons_zero, List.set_cons_succ])); (refine takeT (i := 7) (d := 125) rfl rfl (by kernel_rfl) (by kernel_rfl) (by kernel_rfl) (by rfl) (by assumption) (v := ?_) ?_ ?_; rotate_left; (focus (intro wq hSw; (try dsimp only at hSw); go_simp; (try (with_reducible rfl)); done)); (try simp only [Act.put, List.setIfInBounds_toArray, List.set_cons_zero, List.set_cons_succ])); (refine takeT (i := 8) (d := 126) rfl rfl (by kernel_rfl) (by kernel_rfl) (by kernel_rfl) (by rfl) (by assumption) (v := ?_) ?_ ?_; rotate_left; (focus (intro wq hSw; (try dsimp only at hSw); go_simp; (try (with_reducible rfl)); done)); (try simp only [Act.put, List.setIfInBounds_toArray, List.set_cons_zero, List.set_cons_succ])); (refine takeT (i := 9) (d := 127) rfl rfl (by kernel_rfl) (by kernel_rfl) (by kernel_rfl) (by rfl) (by assumption) (v := ?_) ?_ ?_; rotate_left; (focus (intro wq hSw; (try dsimp only at hSw); go_simp; (try (with_reducible rfl)); done)); (try simp only [Act.put, List.setIfInBounds_toArray, List.set_cons_zero, List.set_cons_succ])); (refine wpAnyH_ready (rs := [10]) (by kernel_rfl) (by simp) ?_; refine AllReadyH.cons rfl (fun K hK => ?_) AllReadyH.nil; go_simp; (first | (go_at_call 29; refine (hhasH.out _ (I64.up ri (by repeat' (first | (with_reducible exact Below.refl _ _) | (with_reducible assumption) | (with_reducible refine Below.new ?_ _) | (with_reducible refine Below.alloc ?_ ?_ _) | (with_reducible refine Below.drew ?_) | (with_reducible refine below_drewN ?_ _) | (with_reducible refine Below.setCell ?_ ?_ _) | (refine Below.next ?_ (by with_reducible assumption)) | (refine Below.row ?_ (by with_reducible assumption) (by omega)) | (refine Below.trans ?_ (by with_reducible assumption)) | (refine Below.after ?_ ?_ (by with_reducible assumption)) | go_size)))).mono ?_; rintro e w' ⟨rfl, rfl⟩) | skip); (try go_wp2_with fail); refine hK.out _ _ ?_ (fun hHeld => ?_); (focus ((try dsimp only); (refine ⟨?_, ?_⟩ <;> repeat' (first | (with_reducible assumption) | ((with_reducible apply bx_new) <;> first | (simp only [World.size_alloc, World.size_setCell]; done) | rfl) | (with_reducible apply bx_alloc) | (with_reducible apply bx_other; (first | (simp only [World.size_alloc, World.size_setCell]; omega) | omega)) | (with_reducible apply bx_same) | (with_reducible apply bx_drew) | (with_reducible apply bx_drew1) | (with_reducible apply bx_keep; with_reducible assumption) | fail)))); clear hK K; (try simp only [Act.put, List.setIfInBounds_toArray, List.set_cons_zero, List.set_cons_succ])); (refine takeT (i := 11) (d := 129) rfl rfl (by kernel_rfl) (by kernel_rfl) (by kernel_rfl) (by rfl) (by assumption) (v := ?_) ?_ ?_; rotate_left; (focus (intro wq hSw; (try dsimp only at hSw); go_simp; (try (with_reducible rfl)); done)); (try simp only [Act.put, List.setIfInBounds_toArray, List.set_cons_zero, List.set_cons_succ])); refine wpAnyH_done (by kernel_rfl) ?_ _; refine NoPanic.normal ?_)
                  go_wp2_with fail
                  go_roundw
                  case rel => exact ⟨k + 1, by omega, by go_num, below_drew hbk⟩
                  case measure => simp [intOf]; omega
            · go_wp2_with fail
              go_roundw
              case rel => exact ⟨i + 1, by omega, by go_num, B10.trans (hbk.mono B10.size)⟩
              case measure => simp [intOf]; omega
        · go_wp2_with fail
          refine (impl_AreCosts _ _ ck _ (II64.up rl hbr) (by have := hclH.out; omega) hrows.out).mono ?_
          rintro e w11 ⟨rfl, hb11⟩
          rw [hAreH.out]
          go_wp2_with fail
          all_goals go_returns
          all_goals exact ⟨rfl, B.trans ((hbr.trans (hb11.mono hbr.size)).mono B.size)⟩
    · go_wp2_with fail
      all_goals go_returns
      all_goals exact ⟨rfl, B⟩
end Go.Proofs.Ytpanignlpcemnaa
