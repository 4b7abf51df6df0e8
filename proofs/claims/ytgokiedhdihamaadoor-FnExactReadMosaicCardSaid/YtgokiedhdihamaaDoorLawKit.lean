/- Words for the walks of the exact laws: values that the call itself made, in a range of blocks. -/
import Derived.Test.YtgokiedhdihamaaDoorListB
namespace Go.Proofs.YtgokiedhdihamaaDoor
open Go.RowKit
set_option linter.unusedVariables false
set_option linter.unusedSimpArgs false

/-- outside of the blocks lo .. hi - 1 nothing that was there has turned -/
structure Within (lo hi : Nat) (w w' : World) : Prop where
  os : w'.os = w.os
  tape : w'.tape = w.tape
  output : w'.output = w.output
  size : w.heap.size ≤ w'.heap.size
  block : ∀ k, k < w.heap.size → (k < lo ∨ hi ≤ k) → w'.heap[k]? = w.heap[k]?

theorem Within.refl (lo hi : Nat) (w : World) : Within lo hi w w := ⟨rfl, rfl, rfl, Nat.le_refl _, fun _ _ _ => rfl⟩
theorem Within.trans {lo hi : Nat} {a b c : World} (h : Within lo hi a b) (k : Within lo hi b c) : Within lo hi a c :=
  ⟨k.os.trans h.os, k.tape.trans h.tape, k.output.trans h.output, Nat.le_trans h.size k.size, fun i hi hn => (k.block i (Nat.lt_of_lt_of_le hi h.size) hn).trans (h.block i hi hn)⟩
theorem Within.below {lo hi B : Nat} {a b : World} (h : Within lo hi a b) (h1 : B ≤ lo) (h2 : B ≤ a.heap.size) : Below B a b :=
  ⟨h.os, h.tape, h.output, h.size, fun k hk => h.block k (by omega) (by omega)⟩
theorem Within.of_below {lo hi : Nat} {a b : World} (h : Below a.heap.size a b) : Within lo hi a b := ⟨h.os, h.tape, h.output, h.size, fun k hk _ => h.block k hk⟩

/-- a slice of int64 that the call made in the blocks lo .. hi - 1 -/
def OwnR (w : World) (lo hi : Nat) (v : Value) (xs : List Int) : Prop := OwnI w lo v xs ∧ ∀ k, v.ownBlock = some k → k < hi

section
variable {w w' : World} {lo hi lo' hi' : Nat} {v : Value} {xs : List Int} {A : Option Addr} {n c : Nat}
theorem OwnI.inR (h : OwnI w lo v xs) : OwnR w lo w.heap.size v xs := ⟨h, fun k hk => (h.lt k hk).2⟩
theorem OwnR.next (h : OwnR w lo hi v xs) (hb : Below w.heap.size w w') : OwnR w' lo hi v xs := ⟨h.1.below hb, h.2⟩
theorem OwnR.apart (h : OwnR w lo hi v xs) (hw : Within lo' hi' w w') (hd : hi ≤ lo' ∨ hi' ≤ lo) : OwnR w' lo hi v xs := by
  obtain ⟨A, c, rfl, h1, h2⟩ := h.1
  refine ⟨⟨A, c, rfl, h1, ?_⟩, h.2⟩
  rcases h2 with h2 | ⟨g, cap, cur, q1, q2, q3, q4⟩
  · exact .inl h2
  · have hg : g < hi := h.2 g (by rw [q1]; rfl)
    exact .inr ⟨g, cap, cur, q1, q2, by rw [hw.block g (Array.getElem?_eq_some_iff.1 q3).1 (by omega)]; exact q3, q4⟩
theorem OwnR.rd (h : OwnR w lo hi (.slice A n c) xs) : I64 w w.heap.size A xs := h.1.reads.2
theorem OwnR.form (h : OwnR w lo hi v xs) : ∃ A c, v = .slice A xs.length c := by
  obtain ⟨A, c, rfl, _⟩ := h.1
  exact ⟨A, c, rfl⟩
end

theorem box_keep {W w' : World} (hb : Below W.heap.size W w') {X o : Nat} {v : Value} (h : W.cell? ⟨X, o, none⟩ = some v) : w'.cell? ⟨X, o, none⟩ = some v :=
  (hb.cell (p := ⟨X, o, none⟩) (World.block_lt_of_cell? W ⟨X, o, none⟩ h)).trans h
theorem box_alloc {W : World} {ob : Obj} {X o : Nat} {v : Value} (h : W.cell? ⟨X, o, none⟩ = some v) : (W.alloc ob).cell? ⟨X, o, none⟩ = some v :=
  (World.cell?_alloc_lt W ob ⟨X, o, none⟩ (World.block_lt_of_cell? W ⟨X, o, none⟩ h)).trans h
theorem box_new {W : World} {cs : Array Value} {t : TypeId} {o : Nat} {v : Value} (h : cs[o]? = some v) : (W.alloc (.cells cs t)).cell? ⟨W.heap.size, o, none⟩ = some v := by
  rw [World.cell?_alloc_new]; exact h
theorem box_lt {W : World} {X o : Nat} {v : Value} (h : W.cell? ⟨X, o, none⟩ = some v) : X < W.heap.size := World.block_lt_of_cell? W ⟨X, o, none⟩ h

theorem markR {A : Option Addr} {n c lo hi : Nat} {xs : List Int} {k : Int} {w : World} (ho : OwnR w lo hi (.slice A n c) xs) (hl : xs.length ≤ 1099511627776) (hk0 : 0 ≤ k) (hk1 : k ≤ 1099511627776) :
    Calls Tryd.prog 21 #[.slice A n c, .int .i64 k] w fun e w' => e = .returned (.int .i64 (k + (xs.length : Int))) ∧ OwnR w' lo hi (.slice A n c) (marks k xs.length) ∧ Within lo hi w w' :=
  (laws_markInt64S A n c lo xs k w ho.1 hl hk0 hk1).mono fun e w' ⟨he, h1, h2⟩ => ⟨he, ⟨h1, ho.2⟩, ⟨h2.os, h2.tape, h2.output, h2.size, fun i hi' hn => h2.block i hi' (fun e => by
    have h3 := ho.1.lt i e.symm
    have h4 := ho.2 i e.symm
    omega)⟩⟩
theorem heldR {A : Option Addr} {n c lo hi : Nat} {k : Int} {m : Nat} {w : World} (ho : OwnR w lo hi (.slice A n c) (marks k m)) (hl : m ≤ 1099511627776) (hk0 : 0 ≤ k) (hk1 : k ≤ 1099511627776) :
    Calls Tryd.prog 22 #[.slice A n c, .int .i64 k] w fun e w' => e = .returned (.int .i64 (k + (m : Int))) ∧ w = w' := by
  have hr := ho.1.reads
  rw [marks_len] at hr
  rw [hr.1]
  exact laws_heldInt64S A m c k w hr.2 hl hk0 hk1
theorem eqR {A B : Option Addr} {n m c d lo hi lo' hi' : Nat} {xs ys : List Int} {w : World} (ho : OwnR w lo hi (.slice A n c) xs) (ho' : OwnR w lo' hi' (.slice B m d) ys) (hl : xs.length ≤ 1099511627776) (hm : ys.length ≤ 1099511627776) :
    Calls Tryd.prog 20 #[.slice A n c, .slice B m d] w fun e w' => e = .returned (.bool (decide (xs = ys))) ∧ Below w.heap.size w w' := by
  have h1 := ho.1.reads
  have h2 := ho'.1.reads
  rw [h1.1, h2.1]
  exact laws_eqInt64S A B c d xs ys w h1.2 h2.2 (by omega) (by omega)
theorem toR {A : Option Addr} {c : Nat} {xs : List Int} {w0 w : World} (hr : I64 w0 w0.heap.size A xs) (hB : Below w0.heap.size w0 w) (hl : xs.length ≤ 1048576) :
    Calls Tryd.prog 26 #[.slice A xs.length c] w fun e w' => ∃ g, e = .returned (.slice (some ⟨g, 0, none⟩) xs.length xs.length) ∧ OwnR w' w.heap.size w'.heap.size (.slice (some ⟨g, 0, none⟩) xs.length xs.length) xs ∧ Below w.heap.size w w' :=
  (laws_toInt64S A c xs w (hr.up hB) hl).mono fun e w' ⟨g, he, ho, hb⟩ => ⟨g, he, OwnI.inR ⟨_, _, rfl, ho⟩, hb⟩
end Go.Proofs.YtgokiedhdihamaaDoor
