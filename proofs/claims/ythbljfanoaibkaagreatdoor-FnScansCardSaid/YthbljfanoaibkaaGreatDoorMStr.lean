/- Several texts in one: StrA, StrB, StrO, StrI, LaidP. No condition of its own. Printed by mergeclaim.py. -/
import Derived.Test.YthbljfanoaibkaaGreatDoorMKit
import Derived.Laws.Concat
import Derived.Laws.BytesString
import Derived.Laws.IdiomStrings
import Derived.Lib.ItoaLen
import Derived.IntWalk
import Derived.Lib.ItoaMem
import Derived.Lib.Join
import Derived.Test.YthbljfanoaibkaaGreatDoorShelf
import Derived.Lib.AppendIntMem
import Derived.Lib.LaidTab
import Derived.Stop.LaidErr
import Derived.MakeChecks
namespace Go.Proofs.YthbljfanoaibkaaGreatDoor
open Go.RowKit Go.ChangeShapes Go.WideShapes Go.ChangeAt
set_option linter.unusedVariables false
set_option linter.unusedSimpArgs false
/-- the text of these bytes -/
def mkT (l : List UInt8) : ByteArray := ⟨l.toArray⟩
theorem mkT_size (l : List UInt8) : (mkT l).size = l.length := by simp [mkT, ByteArray.size]
theorem mkT_app (a b : List UInt8) : mkT a ++ mkT b = mkT (a ++ b) := by
  apply ByteArray.ext
  simp [mkT]
theorem dec_len (u : Nat) (h : u < 18446744073709551616) : (Lib.decDigits u).length ≤ 20 := by rw [Lib.decDigits_length]; exact Lib.nDigits_le20 u h
theorem add_T {P : Program} (a b : List UInt8) (ha : a.length ≤ 1099511627776) (hb : b.length ≤ 1099511627776) (w : World) : (Op.stringOp .add (mkT a) (mkT b)).run P w = .ok (.string (mkT (a ++ b))) w := by
  rw [run_string_add_sum w (mkT a) (mkT b) (by rw [mkT_size, mkT_size]; omega), mkT_app]
theorem u8_in (x : Int) (h : 0 ≤ x ∧ x < 256) : IntKind.u8.wrap x = x := by
  simp [IntKind.wrap, IntKind.bits, IntKind.signed]
  omega
/-- the digit x as a byte -/
def dgb (x : Nat) : UInt8 := UInt8.ofNat (48 + x)
theorem dgb_nat {x : Nat} (h : x < 10) : (dgb x).toNat = 48 + x := by unfold dgb; simp; omega
theorem dec_small {u : Nat} (h : u < 10) : Lib.decDigits u = [dgb u] := by rw [Lib.decDigits, dif_pos h]; rfl
theorem dec_big {u : Nat} (h : ¬ u < 10) : Lib.decDigits u = Lib.decDigits (u / 10) ++ [dgb (u % 10)] := by rw [Lib.decDigits, dif_neg h]; rfl
theorem conv_one (b : UInt8) (x : Int) (hx : (b.toNat : Int) = x) (w : World) (g : Nat) (hc : w.cell? ⟨g, 0, none⟩ = some (.int .u8 x)) : (convert 22 9 (.slice (some ⟨g, 0, none⟩) 1 1)).run Tryz.prog w = .ok (.string (mkT [b])) w := by
  have := run_convert_bytes_back (P := Tryz.prog) w 22 9 5 ⟨g, 0, none⟩ 1 [b] Tryz.underlying22 Tryz.underlying5 Tryz.underlying9 (fun j hj => by
    have : j = 0 := by simpa using hj
    subst this
    have e : ((⟨g, 0, none⟩ : Addr).add 0) = ⟨g, 0, none⟩ := by simp [Addr.add]
    rw [e, hc]
    simp [hx])
  exact this
theorem conv_new (b : UInt8) (x : Int) (hx : (b.toNat : Int) = x) (w : World) : (convert 22 9 (.slice (some ⟨w.heap.size, 0, none⟩) 1 1)).run Tryz.prog (w.alloc (.cells #[.int .u8 x] 5)) = .ok (.string (mkT [b])) (w.alloc (.cells #[.int .u8 x] 5)) :=
  conv_one b x hx _ _ (by rw [World.cell?_alloc_new]; rfl)
set_option maxRecDepth 100000 in
set_option maxHeartbeats 1600000 in
theorem spec_l01Dec : ∀ (u : Nat) (w : World), u < 9223372036854775808 → Calls Tryz.prog 32 #[.int .i64 (u : Int)] w fun e w' => e = .returned (.string (mkT (Lib.decDigits u))) ∧ Below w.heap.size w w' := by
  intro u
  induction u using Nat.strongRecOn with
  | ind u ih =>
    intro w hu
    by_cases h : u < 10
    · have h1 : (u : Int) < 10 := by omega
      have hc := conv_new (dgb u) (48 + (u : Int)) (by rw [dgb_nat h]; omega)
      rw [dec_small h]
      go_enter Tryz.func32, Tryz.ntmps32
      go_wp2_with fail
      go_ret
      exact ⟨rfl, by exact bgr⟩
    · have h1 : ¬ (u : Int) < 10 := by omega
      have h2 : (0 : Int) ≤ (u : Int) := by omega
      have q1 : (u : Int).tdiv 10 = ((u / 10 : Nat) : Int) := by rw [Int.tdiv_eq_ediv_of_nonneg h2]; omega
      have q2 : (u : Int).tmod 10 = ((u % 10 : Nat) : Int) := by rw [Int.tmod_eq_emod_of_nonneg h2]; omega
      have q3 : (u : Int) / 10 = ((u / 10 : Nat) : Int) := by omega
      have q4 : (u : Int) % 10 = ((u % 10 : Nat) : Int) := by omega
      have hd := ih (u / 10) (by omega)
      have hl := dec_len (u / 10) (by omega)
      have ha := add_T (P := Tryz.prog) (Lib.decDigits (u / 10)) [dgb (u % 10)] (by omega) (by simp)
      rw [dec_big h]
      obtain ⟨d, hdd⟩ : ∃ d, d = u / 10 := ⟨_, rfl⟩
      obtain ⟨r, hr⟩ : ∃ r, r = u % 10 := ⟨_, rfl⟩
      have hr10 : r < 10 := by omega
      have hc := conv_new (dgb r) (48 + (r : Int)) (by rw [dgb_nat hr10]; omega)
      have hg := conv_one (dgb r) (48 + (r : Int)) (by rw [dgb_nat hr10]; omega)
      have hD : d < 9223372036854775808 := by omega
      rw [← hdd] at q1 q3 hd ha hl ⊢
      rw [← hr] at q2 q4 ha ⊢
      have hdH := Lib.hid hd
      have wd : IntKind.i64.wrap (d : Int) = (d : Int) := IntWalk.i64_in _ (by omega)
      have wr : IntKind.i64.wrap (48 + (r : Int)) = 48 + (r : Int) := IntWalk.i64_in _ (by omega)
      have wb : IntKind.u8.wrap (48 + (r : Int)) = 48 + (r : Int) := u8_in _ (by omega)
      clear hd hdd hr ih
      go_enter Tryz.func32, Tryz.ntmps32
      go_wp2_with fail
      go_region_with (go_at_call 32; ((with_reducible refine (hdH.out _ hD).mono ?_); rintro e w1 ⟨rfl, hb1⟩; (first | (have c1 : w1.cell? ⟨w.heap.size, 0, none⟩ = some (.int .u8 (48 + (r : Int))) := bx_keep hb1 (bx_drew1 (bx_new rfl rfl))) | skip)))
      all_goals go_wp2_with fail
      all_goals go_ret
      all_goals exact ⟨rfl, by exact bgr⟩
end Go.Proofs.YthbljfanoaibkaaGreatDoor
namespace Go.Proofs.YthbljfanoaibkaaGreatDoor
open Go.RowKit Go.ChangeShapes Go.WideShapes Go.ChangeAt
set_option linter.unusedVariables false
set_option linter.unusedSimpArgs false
theorem itoa_pos {n : Int} (h : 0 ≤ n) : Lib.itoa n = Lib.decDigits n.toNat := by unfold Lib.itoa; rw [if_neg (by omega)]
theorem itoa_minus {n : Int} (h : n < 0) : Lib.itoa n = 45 :: Lib.decDigits (-n).toNat := by
  unfold Lib.itoa
  rw [if_pos h]
  congr 2
  omega
/-- the first k numbers in decimal, commas between them -/
def jnk (xs : List Int) (k : Nat) : List UInt8 := Lib.join ((xs.take k).map Lib.itoa) [44]
theorem jnk_zero {xs : List Int} : jnk xs 0 = [] := by simp [jnk, Lib.join_nil]
theorem jnk_first {xs : List Int} {x : Int} (h : xs[0]? = some x) : jnk xs 1 = Lib.itoa x := by
  cases xs with
  | nil => simp at h
  | cons y r =>
    obtain rfl : y = x := by simpa using h
    simp [jnk, Lib.join_one]
theorem join_snoc {x : List UInt8} {r : List (List UInt8)} {y sep : List UInt8} : Lib.join ((x :: r) ++ [y]) sep = Lib.join (x :: r) sep ++ sep ++ y := by
  rw [List.cons_append, Lib.join_cons, Lib.join_cons]
  simp [Lib.joinTail, List.append_assoc]
theorem jnk_next {xs : List Int} {k : Nat} {x : Int} (hk : 0 < k) (h : xs[k]? = some x) : jnk xs (k + 1) = jnk xs k ++ [44] ++ Lib.itoa x := by
  unfold jnk
  rw [take_snoc h, List.map_append]
  cases xs with
  | nil => simp at h
  | cons y r =>
    obtain ⟨m, rfl⟩ : ∃ m, k = m + 1 := ⟨k - 1, by omega⟩
    simp only [List.take_succ_cons, List.map_cons, List.map_nil]
    exact join_snoc
theorem jnk_len {xs : List Int} (hb : ∀ x ∈ xs, -9223372036854775808 ≤ x ∧ x ≤ 9223372036854775807) : ∀ k, k ≤ xs.length → (jnk xs k).length ≤ 22 * k
  | 0, _ => by simp [jnk_zero]
  | k + 1, hk => by
    have ih := jnk_len hb k (by omega)
    obtain ⟨x, hx⟩ := get_of_lt (xs := xs) (k := k) (by omega)
    have hi := Lib.itoa_length_le x (hb x (List.mem_of_getElem? hx)).1 (hb x (List.mem_of_getElem? hx)).2
    rcases Nat.eq_zero_or_pos k with h0 | h0
    · subst h0; rw [jnk_first hx]; omega
    · rw [jnk_next h0 hx]; simp; omega
set_option maxRecDepth 100000 in
theorem spec_l01Number (n : Int) (w : World) (h0 : -9223372036854775808 < n) (h1 : n ≤ 9223372036854775807) : Calls Tryz.prog 63 #[.int .i64 n] w fun e w' => e = .returned (.string (mkT (Lib.itoa n))) ∧ Below w.heap.size w w' := by
  by_cases h : n < 0
  · obtain ⟨u, hu⟩ : ∃ u : Nat, u = (-n).toNat := ⟨_, rfl⟩
    have hl := dec_len u (by omega)
    have hd := fun w => spec_l01Dec u w (by omega)
    have ha : ∀ w, (Op.stringOp .add ⟨#[45]⟩ (mkT (Lib.decDigits u))).run Tryz.prog w = .ok (.string (mkT (45 :: Lib.decDigits u))) w := add_T [45] (Lib.decDigits u) (by simp) (by omega)
    rw [itoa_minus h, ← hu]
    have e : -n = (u : Int) := by omega
    rw [← e] at hd
    have hdH := Lib.hid hd
    clear hd e hu
    go_enter Tryz.func63, Tryz.ntmps63
    go_wp2_with (go_at_call 32; ((with_reducible refine (hdH.out _).mono ?_); rintro e w1 ⟨rfl, hb1⟩))
    go_ret
    exact ⟨rfl, by exact bgr⟩
  · obtain ⟨u, hu⟩ : ∃ u : Nat, u = n.toNat := ⟨_, rfl⟩
    obtain rfl : n = (u : Int) := by omega
    have hd := fun w => spec_l01Dec u w (by omega)
    rw [itoa_pos (by omega), ← hu]
    have hdH := Lib.hid hd
    clear hd hu
    go_enter Tryz.func63, Tryz.ntmps63
    go_wp2_with (go_at_call 32; ((with_reducible refine (hdH.out _).mono ?_); rintro e w1 ⟨rfl, hb1⟩))
    go_ret
    exact ⟨rfl, by exact bgr⟩
set_option maxRecDepth 100000 in
set_option maxHeartbeats 1600000 in
theorem spec_l01Join (A : Option Addr) (c : Nat) (xs : List Int) (w : World) (hr : I64 w w.heap.size A xs) (hl : xs.length ≤ 1048576) (hb : ∀ x ∈ xs, -9223372036854775808 < x ∧ x ≤ 9223372036854775807) :
    Calls Tryz.prog 37 #[.slice A xs.length c, .string ⟨#[44]⟩] w fun e w' => e = .returned (.string (mkT (jnk xs xs.length))) ∧ Below w.heap.size w w' := by
  have hlen := fun k hk => jnk_len (xs := xs) (fun x hx => ⟨Int.le_of_lt (hb x hx).1, (hb x hx).2⟩) k hk
  have hlenH := Lib.hid hlen
  have hbH := Lib.hid hb
  clear hlen hb
  go_enter Tryz.func37, Tryz.ntmps37
  go_wp2
  go_loopw [5, 6] (fun o i wr => ∃ k : Nat, k ≤ xs.length ∧ i = .int .i64 k ∧ o = .string (mkT (jnk xs k)) ∧ Below w.heap.size w wr) (fun _ i _ => xs.length - (intOf i).toNat)
  case atStart => exact ⟨0, Nat.zero_le _, rfl, by rw [jnk_zero]; rfl, by exact bgr⟩
  case round =>
    obtain ⟨k, hk, rfl, rfl, hbr⟩ := hrel
    by_cases hlt : k < xs.length
    · obtain ⟨x, hx⟩ := get_of_lt hlt
      obtain ⟨b, o, rfl, hbB, hc⟩ := I64.at_ (hr.up hbr) hx
      have p0 : (0 : Int) ≤ (k : Int) := by omega
      have p1 : (k : Int) < (xs.length : Int) := by omega
      have hxb := hbH.out x (List.mem_of_getElem? hx)
      have hix := Lib.itoa_length_le x (by omega) hxb.2
      have hjl := hlenH.out k hk
      have hs := fun w => spec_l01Number x w hxb.1 hxb.2
      have hsH := Lib.hid hs
      clear hs
      rcases Nat.eq_zero_or_pos k with h0 | h0
      · have q0 : ¬ (0 : Int) < (k : Int) := by omega
        have e1 : Hid (jnk xs (k + 1) = Lib.itoa x) := by subst h0; exact Lib.hid (jnk_first hx)
        have ha : ∀ w, (Op.stringOp .add (mkT (jnk xs k)) (mkT (Lib.itoa x))).run Tryz.prog w = .ok (.string (mkT (Lib.itoa x))) w := fun w => by
          subst h0
          have := add_T (P := Tryz.prog) (jnk xs 0) (Lib.itoa x) (by omega) (by omega) w
          rw [this, jnk_zero]; rfl
        clear hx h0
        go_wp2_with (go_at_call 63; ((with_reducible refine (hsH.out _).mono ?_); rintro e w1 ⟨rfl, hb1⟩))
        go_roundw
        case rel => exact ⟨k + 1, by omega, by go_num, by rw [e1.out], by exact bgr⟩
        case measure => simp [intOf]; omega
      · have e1 := Lib.hid (jnk_next h0 hx)
        have q0 : (0 : Int) < (k : Int) := by omega
        have ha : ∀ w, (Op.stringOp .add (mkT (jnk xs k)) ⟨#[44]⟩).run Tryz.prog w = .ok (.string (mkT (jnk xs k ++ [44]))) w := add_T (jnk xs k) [44] (by omega) (by simp)
        have hb2 : ∀ w, (Op.stringOp .add (mkT (jnk xs k ++ [44])) (mkT (Lib.itoa x))).run Tryz.prog w = .ok (.string (mkT (jnk xs k ++ [44] ++ Lib.itoa x))) w := add_T (jnk xs k ++ [44]) (Lib.itoa x) (by simp; omega) (by omega)
        clear hx
        go_wp2_with (go_at_call 63; ((with_reducible refine (hsH.out _).mono ?_); rintro e w1 ⟨rfl, hb1⟩))
        go_roundw
        case rel => exact ⟨k + 1, by omega, by go_num, by rw [e1.out]; simp, by exact bgr⟩
        case measure => simp [intOf]; omega
    · obtain rfl : k = xs.length := by omega
      go_wp2
      go_ret
      exact ⟨rfl, by exact bgr⟩
end Go.Proofs.YthbljfanoaibkaaGreatDoor
namespace Go.Proofs.YthbljfanoaibkaaGreatDoor
open Go.RowKit Go.ChangeShapes Go.WideShapes Go.ChangeAt
set_option linter.unusedVariables false
set_option linter.unusedSimpArgs false
/-- a text as a value -/
def tv (l : List UInt8) : Value := .string (mkT l)
theorem tv_cells (l : List UInt8) : (tv l).cells = #[tv l] := rfl
theorem str_info : (Tryz.prog.info? 9).map (fun i => (i.zero, i.size, i.bytes)) = some (some (.string ⟨#[]⟩), 1, 16) := by kernel_rfl
/-- the value v is a slice of texts that the call itself made, from block base on; it reads as ls -/
def OwnX (w : World) (base : Nat) (v : Value) (ls : List (List UInt8)) : Prop := ∃ A c, v = .slice A ls.length c ∧ w.ownsRow base 9 1 (.slice A ls.length c) ls.length (ls.map tv)
section
variable {w w' : World} {base base' : Nat} {v u : Value} {ls ms : List (List UInt8)} {A : Option Addr} {n c : Nat}
theorem OwnX.nil (w : World) (base : Nat) : OwnX w base (.slice none 0 0) [] := ⟨none, 0, rfl, World.ownsRow_nil _ _ _ _⟩
theorem OwnX.lit0 {W : World} {base : Nat} (h : base ≤ W.heap.size) : OwnX (W.alloc (.cells #[] 9)) base (.slice (some ⟨W.heap.size, 0, none⟩) 0 0) [] :=
  ⟨_, 0, rfl, World.ownsRow_lit W #[] 0 h (by simp) rfl⟩
theorem OwnX.form (h : OwnX w base v ls) : ∃ A c, v = .slice A ls.length c := by
  obtain ⟨A, c, rfl, _⟩ := h
  exact ⟨A, c, rfl⟩
theorem OwnX.lt (h : OwnX w base v ls) : ∀ k, v.ownBlock = some k → base ≤ k ∧ k < w.heap.size := by
  obtain ⟨A', c', rfl, ho⟩ := h
  exact ho.lt
theorem OwnX.kept (h : OwnX w base v ls) {row : Option Nat} (hg : w.grownBy w' row) (hne : v.ownBlock = none ∨ v.ownBlock ≠ row) : OwnX w' base v ls := by
  obtain ⟨A', c', rfl, ho⟩ := h
  exact ⟨A', c', rfl, ho.kept hg hne⟩
theorem OwnX.below (h : OwnX w base v ls) (hb : Below w.heap.size w w') : OwnX w' base v ls := h.kept (grownBy_of_below hb none) (by cases v.ownBlock <;> simp)
theorem OwnX.alloc (h : OwnX w base v ls) (o : Obj) : OwnX (w.alloc o) base v ls := h.below (Below.new (Below.refl _ _) o)
theorem OwnX.mono (h : OwnX w base v ls) (hb : base' ≤ base) : OwnX w base' v ls := by
  obtain ⟨A', c', rfl, h1, h2⟩ := h
  refine ⟨A', c', rfl, h1, ?_⟩
  rcases h2 with h2 | ⟨g, cap, cur, q1, q2, q3⟩
  · exact .inl h2
  · exact .inr ⟨g, cap, cur, q1, by omega, q3⟩
theorem OwnX.cap (h : OwnX w base (.slice A n c) ls) : ls.length ≤ c := by
  obtain ⟨A', c', h1, h2, h3⟩ := h
  injection h1 with h1 hn hc
  subst h1 hn hc
  rcases h3 with ⟨e1, e2⟩ | ⟨g, cap, cur, q1, q2, q3, q4, _⟩
  · injection e1 with a b d; omega
  · injection q1 with a b d; omega
theorem OwnX.cell {k : Nat} {x : List UInt8} (h : OwnX w base (.slice A n c) ls) (hx : ls[k]? = some x) : ∃ g, A = some ⟨g, 0, none⟩ ∧ base ≤ g ∧ g < w.heap.size ∧ w.cell? ⟨g, k, none⟩ = some (tv x) ∧ w.frozen? ⟨g, k, none⟩ = false ∧
    ∀ y, OwnX (w.setCell ⟨g, k, none⟩ (tv y)) base (.slice (some ⟨g, 0, none⟩) n c) (ls.set k y) ∧ w.grownBy (w.setCell ⟨g, k, none⟩ (tv y)) (some g) := by
  obtain ⟨A', c', he, ho⟩ := h
  injection he with h1 h2 h3
  subst h1 h2 h3
  have hk : k < ls.length := (List.getElem?_eq_some_iff.1 hx).1
  obtain ⟨g, cap, hv, hb, hlt⟩ := ho.form (by omega)
  injection hv with h1 h2 h3
  subst h1 h3
  refine ⟨g, rfl, hb, hlt, by rw [ho.cellAt k (by omega), List.getElem?_map, hx]; rfl, ho.frozenAt k, fun y => ?_⟩
  have hs := ho.stored k (tv y)
  rw [← List.map_set] at hs
  exact ⟨⟨some ⟨g, 0, none⟩, c, by simp, by simpa using hs.1⟩, hs.2⟩
theorem belowX_of_grownBy (h : w.grownBy w' v.ownBlock) (ho : OwnX w base v ls) (hb : base ≤ w.heap.size) : Below base w w' :=
  ⟨h.os, h.tape, h.output, h.size, fun k hk => h.block k (by omega) (fun e => by have := ho.lt k e.symm; omega)⟩
end
/-- 'append(out, y)' -/
theorem push_X {ops : Array Oper} {rest : List Oper} {o : Oper} {a : Act} {Q : Exit → Act → World → Prop} {W : World} {y : ByteArray} {z : List UInt8} {ls : List (List UInt8)} {v : Value} {base : Nat} (H : Nat) (hH : W.heap.size = H) (hown : OwnX W base v ls) (hyz : y = mkT z) (hgd : o.guard = none) (s x : Operand)
    (ho : o.op = .call { callee := .builtin .append, args := #[s, x], argTypes := #[83, 83] }) (hs : a.eval s = v) (hx : a.eval x = .slice (some ⟨H, 0, none⟩) 1 1) (hbase : base ≤ H) (hb : ls.length ≤ 1099511627776)
    (h : ∀ v' w', OwnX w' base v' (ls ++ [z]) → W.grownBy w' v.ownBlock → Below base W w' → wpList Tryz.prog ops Q rest (a.put o.dst v') w') : wpList Tryz.prog ops Q (o :: rest) a (W.alloc (.cells #[.string y] 9)) := by
  subst hH hyz
  obtain ⟨i0, hi, hz0, hz1, hz2⟩ := info_parts str_info
  obtain ⟨A, c, hv, hr⟩ := hown
  subst hv
  refine wpList_append_lies _ hgd s x 83 ho base 9 i0 _ 1 16 Tryz.underlying83 hi hz0 hz1 hz2 rfl (by omega) _ ls.length (ls.map tv) hs (hr.alloc _) ⟨W.heap.size, 0, none⟩ 1 1 [tv z] hx rfl (World.news_of_block (heap_alloc_new W _)) (by simp [tv, Value.oneCell']) (by omega) (by simp only [maxLen]; omega) (by omega) (by simp; omega) _ rfl ?_
  intro g cap w1 h1 h2 h3 h4
  have hg : W.grownBy w1 (Value.slice A ls.length c).ownBlock := ⟨h2.os, h2.tape, h2.output, Nat.le_trans (by simp) h2.size, fun k hk hne => (h2.block k (by simp; omega) hne).trans (Below.heap_alloc W _ k hk)⟩
  have ho' : OwnX w1 base (.slice (some ⟨g, 0, none⟩) (ls.length + 1) cap) (ls ++ [z]) := ⟨some ⟨g, 0, none⟩, cap, by simp, by simpa using h1⟩
  exact h _ _ ho' hg (belowX_of_grownBy hg ⟨A, c, rfl, hr⟩ hbase)
/-- the same at a step of a region that draws its order -/
theorem step_X {ops : Array Oper} {o : Oper} {a : Act} {K : Act → World → Prop} {Q : Exit → Act → World → Prop} {E : Prop} {w1 : World} {t : Nat} {y : ByteArray} {z : List UInt8} {ls : List (List UInt8)} {v : Value} {base : Nat} (hown : OwnX w1 base v ls) (ht : w1.heap[t]? = some (.cells #[.string y] 9 (0, 0))) (hyz : y = mkT z)
    (hgd : o.guard = none) (s x : Operand) (ho : o.op = .call { callee := .builtin .append, args := #[s, x], argTypes := #[83, 83] }) (hs : a.eval s = v) (hx : a.eval x = .slice (some ⟨t, 0, none⟩) 1 1) (hbase : base ≤ w1.heap.size) (hb : ls.length ≤ 1099511627776)
    (h : ∀ v' w', OwnX w' base v' (ls ++ [z]) → w1.grownBy w' v.ownBlock → Below base w1 w' → K (a.put o.dst v') w') : if Region.wanted o (yielded ops a.tmps) = true then Oper.wp Tryz.prog o a w1 K Q else E := by
  subst hyz
  obtain ⟨i0, hi, hz0, hz1, hz2⟩ := info_parts str_info
  have hown' := hown
  obtain ⟨A, c, hv, hr⟩ := hown
  subst hv
  refine step_append_lies _ hgd s x 83 ho base 9 i0 _ 1 16 Tryz.underlying83 hi hz0 hz1 hz2 rfl (by omega) _ ls.length (ls.map tv) hs hr ⟨t, 0, none⟩ 1 1 [tv z] hx rfl (World.news_of_block ht) (by simp [tv, Value.oneCell']) (by omega) (by simp only [maxLen]; omega) (by omega) hbase _ rfl ?_
  intro g cap w2 h1 h2 h3 h4
  exact h _ _ ⟨some ⟨g, 0, none⟩, cap, by simp, by simpa using h1⟩ h2 (belowX_of_grownBy h2 hown' hbase)
/-- 'make([]string, n)' as an equation -/
theorem make_str_run (w1 : World) (n : Nat) (hn : n ≤ 1048576) : ∃ w', (Instr.makeSlice 83 (.int .i64 (n : Int)) (.int .i64 (n : Int))).run Tryz.prog w1 = .ok (.slice (some ⟨w1.heap.size, 0, none⟩) n n) w' ∧
    OwnX w' w1.heap.size (.slice (some ⟨w1.heap.size, 0, none⟩) n n) (List.replicate n []) ∧ Below w1.heap.size w1 w' ∧ w1.heap.size < w'.heap.size := by
  obtain ⟨i0, hi, hz0, hz1, hz2⟩ := info_parts str_info
  obtain ⟨w', hrun, r1, r2⟩ := run_make_full (P := Tryz.prog) w1 w1.heap.size 83 9 i0 _ 1 Tryz.underlying83 hi hz0 hz1 .i64 .i64 n (by rw [hz2]; omega) (by simp only [maxLen]; omega) (Nat.le_refl _)
  refine ⟨w', hrun, ⟨some ⟨w1.heap.size, 0, none⟩, n, by simp, ?_⟩, ⟨r2.os, r2.tape, r2.output, r2.size, fun k hk => r2.block k hk (by simp)⟩, by have := r1.lt w1.heap.size rfl; omega⟩
  simp only [show (Value.string ⟨#[]⟩).cells = #[Value.string ⟨#[]⟩] from rfl, Nat.mul_one, toList_madeCells_one] at r1
  simpa [tv, mkT] using r1
end Go.Proofs.YthbljfanoaibkaaGreatDoor
namespace Go.Proofs.YthbljfanoaibkaaGreatDoor
open Go.RowKit Go.ChangeShapes Go.WideShapes Go.ChangeAt
set_option linter.unusedVariables false
set_option linter.unusedSimpArgs false
/-- the library's table of powers of ten lies as its initialiser lays it -/
def Pow (w : World) : Prop := Lib.TabIs Tryz.prog w "internal/strconv.uint64pow10" .u64 Lib.pow10Tab
theorem Pow.up {w w' : World} (h : Pow w) (hb : Below w.heap.size w w') : Pow w' := Lib.tabBelow_of_tabIs h w' hb
set_option maxRecDepth 100000 in
theorem impl_decimal (n : Int) (w : World) (h0 : -9223372036854775808 ≤ n) (h1 : n ≤ 9223372036854775807) (ht : Pow w) : Calls Tryz.prog 29 #[.int .i64 n] w fun e w' => e = .returned (.string (mkT (Lib.itoa n))) ∧ Below w.heap.size w w' := by
  have hf := fun w (h : Pow w) => Tryz.strconv_FormatInt_10 n h0 h1 w h
  have hfH := Lib.hid hf
  have htH := Lib.hid ht
  clear hf ht
  go_enter Tryz.func29, Tryz.ntmps29
  go_wp2_with (go_at_call 53; ((with_reducible refine (hfH.out _ htH.out).mono ?_); rintro e w1 ⟨rfl, k, os, rfl⟩))
  go_ret
  exact ⟨rfl, Lib.below_grow _ _ (Nat.le_refl _) _ _⟩
theorem map_mkT (ls : List (List UInt8)) : (ls.map mkT).map (·.data.toList) = ls := by
  rw [List.map_map]
  conv => rhs; rw [← List.map_id ls]
  exact List.map_congr_left fun l _ => by simp [mkT]
/-- strings.Join at texts of the call's own -/
theorem join_own (A : Option Addr) (c base : Nat) (ls : List (List UInt8)) (sep : List UInt8) (w : World) (ho : OwnX w base (.slice A ls.length c) ls) (hl : ls.length ≤ 1048576) (hj : (Lib.join ls sep).length ≤ 140737488355328) :
    Calls Tryz.prog 80 #[.slice A ls.length c, .string (mkT sep)] w fun e w' => e = .returned (.string (mkT (Lib.join ls sep))) ∧ Below w.heap.size w w' := by
  have hc := ho.cap
  cases ls with
  | nil =>
    refine (Tryz.strings_Join_none A c (mkT sep) w).mono fun e w' h => ?_
    obtain ⟨rfl, rfl⟩ := h
    exact ⟨rfl, Below.refl _ _⟩
  | cons l r =>
    obtain ⟨g, rfl, hb, hlt, _⟩ := ho.cell (k := 0) (x := l) rfl
    have h := Tryz.strings_Join g 0 c ((l :: r).map mkT) (mkT sep) w (fun j x hx => by
      rw [List.getElem?_map] at hx
      obtain ⟨y, hy, rfl⟩ := Option.map_eq_some_iff.1 hx
      obtain ⟨g', hg, _, _, h2, _⟩ := ho.cell hy
      obtain rfl : g = g' := by simpa using hg
      rw [Nat.zero_add]; exact h2) hlt (by simp at hl ⊢; omega) (by simpa using hc) (by rw [map_mkT]; simpa [mkT] using hj)
    rw [map_mkT] at h
    simp only [List.length_map] at h
    exact h
set_option maxRecDepth 100000 in
set_option maxHeartbeats 1600000 in
theorem impl_join (A : Option Addr) (c : Nat) (xs : List Int) (w : World) (hr : I64 w w.heap.size A xs) (hl : xs.length ≤ 1048576) (hb : ∀ x ∈ xs, -9223372036854775808 ≤ x ∧ x ≤ 9223372036854775807) (ht : Pow w) :
    Calls Tryz.prog 54 #[.slice A xs.length c, .string ⟨#[44]⟩] w fun e w' => e = .returned (.string (mkT (jnk xs xs.length))) ∧ Below w.heap.size w w' := by
  have hlen := jnk_len hb xs.length (Nat.le_refl _)
  have hlenH := Lib.hid hlen
  have hbH := Lib.hid hb
  have htH := Lib.hid ht
  clear hlen hb ht
  obtain ⟨w0, hrun, how, hb0, hz0⟩ := make_str_run w xs.length hl
  go_enter Tryz.func54, Tryz.ntmps54
  go_wp2
  go_loopw [13] (fun i wr => ∃ (k : Nat) (zs : List (List UInt8)), k ≤ xs.length ∧ i = .int .i64 k ∧ Hid (zs.length = xs.length) ∧ Hid (zs.take k = (xs.take k).map Lib.itoa) ∧ OwnX wr w.heap.size (.slice (some ⟨w.heap.size, 0, none⟩) xs.length xs.length) zs ∧ Below w.heap.size w wr) (fun i _ => xs.length - (intOf i).toNat)
  case atStart => exact ⟨0, List.replicate xs.length [], Nat.zero_le _, rfl, by simp [Hid], by simp [Hid], how, hb0⟩
  case round =>
    clear hrun how hb0 hz0
    obtain ⟨k, zs, hk, rfl, hz, hzt, ho, hbr⟩ := hrel
    by_cases hlt : k < xs.length
    · obtain ⟨x, hx⟩ := get_of_lt hlt
      obtain ⟨b, o, rfl, hbB, hc⟩ := I64.at_ (hr.up hbr) hx
      have p0 : (0 : Int) ≤ (k : Int) := by omega
      have p1 : (k : Int) < (xs.length : Int) := by omega
      have hxb := hbH.out x (List.mem_of_getElem? hx)
      obtain ⟨z, hzk⟩ := get_of_lt (xs := zs) (k := k) (by have := hz.out; omega)
      have hs := fun w h => impl_decimal x w hxb.1 hxb.2 h
      have hsH := Lib.hid hs
      have hxH := Lib.hid hx
      have hzkH := Lib.hid hzk
      clear hs hx hzk
      go_wp2_with (go_at_call 29; ((with_reducible refine (hsH.out _ (htH.out.up hbr)).mono ?_); rintro e w1 ⟨rfl, hb1⟩; have ho1 := ho.below hb1; obtain ⟨g1, hg1, z1, z2, c1, f1, st⟩ := ho1.cell hzkH.out; obtain rfl : g1 = w.heap.size := (by simpa using hg1.symm); have stH := Lib.hid (st (Lib.itoa x)); clear st hg1))
      go_roundw
      case rel => exact ⟨k + 1, zs.set k (Lib.itoa x), by omega, by go_num, by unfold Hid; rw [List.length_set]; exact hz.out, by unfold Hid; rw [take_set_snoc (by have := hz.out; omega), take_snoc hxH.out, List.map_append, hzt.out]; rfl, stH.out.1, by exact bgr⟩
      case measure => simp [intOf]; omega
    · have e : zs = xs.map Lib.itoa := by have := hzt.out; rw [take_all (xs := xs) hlt, take_all (xs := zs) (by have := hz.out; omega)] at this; exact this
      have hlz := hz.out
      have ej : jnk xs xs.length = Lib.join zs [44] := by rw [jnk, List.take_length, e]
      have hj := join_own (some ⟨w.heap.size, 0, none⟩) xs.length w.heap.size zs [44] wr (by rw [hlz]; exact ho) (by omega) (by rw [← ej]; have := hlenH.out; omega)
      rw [hlz, ← ej] at hj
      have hjH := Lib.hid hj
      clear hj ej e hlz hz hzt
      go_wp2_with (go_at_call 80; refine hjH.out.mono ?_; rintro e w1 ⟨rfl, hb1⟩)
      go_ret
      exact ⟨rfl, by exact bgr⟩
end Go.Proofs.YthbljfanoaibkaaGreatDoor
namespace Go.Proofs.YthbljfanoaibkaaGreatDoor
open Go.RowKit Go.ChangeShapes Go.WideShapes Go.ChangeAt
set_option linter.unusedVariables false
theorem laid_pow {W : World} (h : laidMet Tryz.prog [("math/bits.deBruijn32tab", Rows.laid_math_bits_deBruijn32tab), ("math/bits.deBruijn64tab", Rows.laid_math_bits_deBruijn64tab), ("internal/strconv.uint64pow10", Rows.laid_internal_strconv_uint64pow10)] W) : Pow W := by
  have h := laidMet.tail (laidMet.tail h)
  have e : (Rows.laid_internal_strconv_uint64pow10 : DataW Unit) = Lib.tabData .u64 Lib.pow10Tab := by kernel_rfl
  rw [e] at h
  exact Lib.tabIs_of_head (g := 0) (t := 139) (e := 117) (n := 20) (by kernel_rfl) (by kernel_rfl) (by kernel_rfl) (by kernel_rfl) (by kernel_rfl) (by kernel_rfl) h
end Go.Proofs.YthbljfanoaibkaaGreatDoor
