/- The program's ReadMosaic returns what the reference's returns, for all arguments; the listed variables of the library (its tables, its two errors of strconv) lie as their initialisers lay them (tied to the program's text). -/
import Derived.Test.YtgokiedhdihamaaDoorRExactReadMosaic
import Derived.Test.YtgokiedhdihamaaDoorCards
import Derived.Test.YtgokiedhdihamaaDoorTie
import Derived.SevenTiedAt
namespace Go.Proofs.YtgokiedhdihamaaDoor.fnExactReadMosaic
open Go
theorem over : Rows.fnExactReadMosaicRow.holds Tryd.pinned (OpenSpec.ofChange Rows.fnExactReadMosaicSpec) :=
  OpenClaim.holds_of_wide 3 Tryd.f3 rfl rfl rfl rfl rfl rfl rfl ⟨rfl, rfl, rfl, rfl, rfl⟩ rfl rfl rfl rfl rfl (by kernel_rfl) Tryd.func3 (by kernel_rfl)
    (of_decide_eq_true (by kernel_rfl)) (by unfold Func.isWrapper; first | (rw [if_pos (by decide +kernel)]; kernel_rfl) | (rw [if_neg (by decide +kernel)]; exact ⟨rfl, rfl⟩))
    (fun os started H enc _ => lifted os started H enc)

/-- The given statement: the row, its listed variables tied to the program's text. -/
theorem proved : Rows.FnExactReadMosaicCardSaid :=
  Claim7.holds_tied_plain_at .later [] [.data, .data, .data, .data, .sentinel, .sentinel, .pinned] true Rows.fnExactReadMosaicCard.stood.harness Rows.fnExactReadMosaicCard.stood.looks
    over (fun _ h => by cases h) (by kernel_rfl) (fun _ h => by cases h) fnExactReadMosaic_row_tie rfl ⟨rfl, rfl⟩ (by kernel_rfl) rfl
    (fun f fn hf hfn => by
      obtain rfl : f = 3 := Option.some.inj ((show Tryd.prog.funcNamed Rows.fnExactReadMosaicRow.func = some 3 by kernel_rfl).symm.trans hf) |>.symm
      obtain rfl : fn = Tryd.f3 := (Option.some.inj (Tryd.func3.symm.trans hfn)).symm
      exact ⟨by kernel_rfl, fun j t ht => by
        rw [Tryd.params3] at ht
        have hm : t ∈ [9] := by simpa using Array.mem_of_getElem? ht
        have hall : ([9].all fun u => !Tryd.prog.wantsStandIn u) = true := by kernel_rfl
        exact (show Tryd.prog.wantsStandIn t = false by simpa using List.all_eq_true.1 hall t hm)⟩)
    (by kernel_rfl)
#print axioms proved
end Go.Proofs.YtgokiedhdihamaaDoor.fnExactReadMosaic
