/- Decimal texts of the reference: contracts. -/
import Derived.Test.YtgokiedhdihamaaDoorLawKit
import Derived.Test.YtgokiedhdihamaaDoorBox
import Derived.Laws.Concat
import Derived.Laws.BytesString
import Derived.Laws.IdiomStrings
import Derived.Lib.ItoaLen
import Derived.IntWalk
import Derived.Lib.ItoaMem
namespace Go.Proofs.YtgokiedhdihamaaDoor
open Go.RowKit Go.ChangeShapes Go.WideShapes Go.ChangeAt
set_option linter.unusedVariables false
set_option linter.unusedSimpArgs false
/-- the text of these bytes -/
def mkT (l : List UInt8) : ByteArray := ⟨l.toArray⟩
theorem mkT_size (l : List UInt8) : (mkT l).size = l.length := by simp [mkT, ByteArray.size]
theorem mkT_app (a b : List UInt8) : mkT a ++ mkT b = mkT (a ++ b) := by
  apply ByteArray.ext
  simp [mkT]
theorem dec_len (u : Nat) (h : u < 18446744073709551616) : (Lib.decDigits u).length ≤ 20 := by rw [Lib.decDigits_length]; exact Lib.nDigits_le20 u h
theorem add_T {P : Program} (a b : List UInt8) (ha : a.length ≤ 1099511627776) (hb : b.length ≤ 1099511627776) (w : World) : (Op.stringOp .add (mkT a) (mkT b)).run P w = .ok (.string (mkT (a ++ b))) w := by
  rw [run_string_add_sum w (mkT a) (mkT b) (by rw [mkT_size, mkT_size]; omega), mkT_app]
theorem u8_in (x : Int) (h : 0 ≤ x ∧ x < 256) : IntKind.u8.wrap x = x := by
  simp [IntKind.wrap, IntKind.bits, IntKind.signed]
  omega
/-- the digit x as a byte -/
def dgb (x : Nat) : UInt8 := UInt8.ofNat (48 + x)
theorem dgb_nat {x : Nat} (h : x < 10) : (dgb x).toNat = 48 + x := by unfold dgb; simp; omega
theorem dec_small {u : Nat} (h : u < 10) : Lib.decDigits u = [dgb u] := by rw [Lib.decDigits, dif_pos h]; rfl
theorem dec_big {u : Nat} (h : ¬ u < 10) : Lib.decDigits u = Lib.decDigits (u / 10) ++ [dgb (u % 10)] := by rw [Lib.decDigits, dif_neg h]; rfl
theorem conv_one (b : UInt8) (x : Int) (hx : (b.toNat : Int) = x) (w : World) (g : Nat) (hc : w.cell? ⟨g, 0, none⟩ = some (.int .u8 x)) : (convert 46 9 (.slice (some ⟨g, 0, none⟩) 1 1)).run Tryd.prog w = .ok (.string (mkT [b])) w := by
  have := run_convert_bytes_back (P := Tryd.prog) w 46 9 5 ⟨g, 0, none⟩ 1 [b] Tryd.underlying46 Tryd.underlying5 Tryd.underlying9 (fun j hj => by
    have : j = 0 := by simpa using hj
    subst this
    have e : ((⟨g, 0, none⟩ : Addr).add 0) = ⟨g, 0, none⟩ := by simp [Addr.add]
    rw [e, hc]
    simp [hx])
  exact this
theorem conv_new (b : UInt8) (x : Int) (hx : (b.toNat : Int) = x) (w : World) : (convert 46 9 (.slice (some ⟨w.heap.size, 0, none⟩) 1 1)).run Tryd.prog (w.alloc (.cells #[.int .u8 x] 5)) = .ok (.string (mkT [b])) (w.alloc (.cells #[.int .u8 x] 5)) :=
  conv_one b x hx _ _ (by rw [World.cell?_alloc_new]; rfl)
set_option maxRecDepth 100000 in
set_option maxHeartbeats 1600000 in
theorem spec_l01Dec : ∀ (u : Nat) (w : World), u < 9223372036854775808 → Calls Tryd.prog 25 #[.int .i64 (u : Int)] w fun e w' => e = .returned (.string (mkT (Lib.decDigits u))) ∧ Below w.heap.size w w' := by
  intro u
  induction u using Nat.strongRecOn with
  | ind u ih =>
    intro w hu
    by_cases h : u < 10
    · have h1 : (u : Int) < 10 := by omega
      have hc := conv_new (dgb u) (48 + (u : Int)) (by rw [dgb_nat h]; omega)
      rw [dec_small h]
      go_enter Tryd.func25, Tryd.ntmps25
      go_wp2_with fail
      go_ret
      exact ⟨rfl, by exact bgr⟩
    · have h1 : ¬ (u : Int) < 10 := by omega
      have h2 : (0 : Int) ≤ (u : Int) := by omega
      have q1 : (u : Int).tdiv 10 = ((u / 10 : Nat) : Int) := by rw [Int.tdiv_eq_ediv_of_nonneg h2]; omega
      have q2 : (u : Int).tmod 10 = ((u % 10 : Nat) : Int) := by rw [Int.tmod_eq_emod_of_nonneg h2]; omega
      have q3 : (u : Int) / 10 = ((u / 10 : Nat) : Int) := by omega
      have q4 : (u : Int) % 10 = ((u % 10 : Nat) : Int) := by omega
      have hd := ih (u / 10) (by omega)
      have hl := dec_len (u / 10) (by omega)
      have ha := add_T (P := Tryd.prog) (Lib.decDigits (u / 10)) [dgb (u % 10)] (by omega) (by simp)
      rw [dec_big h]
      obtain ⟨d, hdd⟩ : ∃ d, d = u / 10 := ⟨_, rfl⟩
      obtain ⟨r, hr⟩ : ∃ r, r = u % 10 := ⟨_, rfl⟩
      have hr10 : r < 10 := by omega
      have hc := conv_new (dgb r) (48 + (r : Int)) (by rw [dgb_nat hr10]; omega)
      have hg := conv_one (dgb r) (48 + (r : Int)) (by rw [dgb_nat hr10]; omega)
      have hD : d < 9223372036854775808 := by omega
      rw [← hdd] at q1 q3 hd ha hl ⊢
      rw [← hr] at q2 q4 ha ⊢
      have hdH := Lib.hid hd
      have wd : IntKind.i64.wrap (d : Int) = (d : Int) := IntWalk.i64_in _ (by omega)
      have wr : IntKind.i64.wrap (48 + (r : Int)) = 48 + (r : Int) := IntWalk.i64_in _ (by omega)
      have wb : IntKind.u8.wrap (48 + (r : Int)) = 48 + (r : Int) := u8_in _ (by omega)
      clear hd hdd hr ih
      go_enter Tryd.func25, Tryd.ntmps25
      go_wp2_with fail
      go_region_with (go_at_call 25; ((with_reducible refine (hdH.out _ hD).mono ?_); rintro e w1 ⟨rfl, hb1⟩; (first | (have c1 : w1.cell? ⟨w.heap.size, 0, none⟩ = some (.int .u8 (48 + (r : Int))) := bx_keep hb1 (bx_drew1 (bx_new rfl rfl))) | skip)))
      all_goals go_wp2_with fail
      all_goals go_ret
      all_goals exact ⟨rfl, by exact bgr⟩
end Go.Proofs.YtgokiedhdihamaaDoor
