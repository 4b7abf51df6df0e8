/- The program's MosaicText returns what the reference's returns, for all arguments; the library's table of powers of ten lies as its initialiser lays it (tied to the program's text). -/
import Derived.Test.YtgokiedhdihamaaDoorRExactMosaicText
import Derived.Test.YtgokiedhdihamaaDoorCards
import Derived.Test.YtgokiedhdihamaaDoorTie
import Derived.SevenTiedAt
namespace Go.Proofs.YtgokiedhdihamaaDoor.fnExactMosaicText
open Go
theorem over : Rows.fnExactMosaicTextRow.holds Tryd.pinned (OpenSpec.ofChange Rows.fnExactMosaicTextSpec) :=
  OpenClaim.holds_of_wide 4 Tryd.f4 rfl rfl rfl rfl rfl rfl rfl ⟨rfl, rfl, rfl, rfl, rfl⟩ rfl rfl rfl rfl rfl (by kernel_rfl) Tryd.func4 (by kernel_rfl)
    (of_decide_eq_true (by kernel_rfl)) (by unfold Func.isWrapper; first | (rw [if_pos (by decide +kernel)]; kernel_rfl) | (rw [if_neg (by decide +kernel)]; exact ⟨rfl, rfl⟩))
    (fun os started H enc _ => lifted os started H enc)

/-- The given statement: the row, its listed variables tied to the program's text. -/
theorem proved : Rows.FnExactMosaicTextCardSaid :=
  Claim7.holds_tied_plain_at .later [] [.data, .data, .data] true Rows.fnExactMosaicTextCard.stood.harness Rows.fnExactMosaicTextCard.stood.looks
    over (fun _ h => by cases h) (by kernel_rfl) (fun _ h => by cases h) fnExactMosaicText_row_tie rfl ⟨rfl, rfl⟩ (by kernel_rfl) rfl
    (fun f fn hf hfn => by
      obtain rfl : f = 4 := Option.some.inj ((show Tryd.prog.funcNamed Rows.fnExactMosaicTextRow.func = some 4 by kernel_rfl).symm.trans hf) |>.symm
      obtain rfl : fn = Tryd.f4 := (Option.some.inj (Tryd.func4.symm.trans hfn)).symm
      exact ⟨by kernel_rfl, fun j t ht => by
        rw [Tryd.params4] at ht
        have hm : t ∈ [30] := by simpa using Array.mem_of_getElem? ht
        have hall : ([30].all fun u => !Tryd.prog.wantsStandIn u) = true := by kernel_rfl
        exact (show Tryd.prog.wantsStandIn t = false by simpa using List.all_eq_true.1 hall t hm)⟩)
    (by kernel_rfl)
#print axioms proved
end Go.Proofs.YtgokiedhdihamaaDoor.fnExactMosaicText
