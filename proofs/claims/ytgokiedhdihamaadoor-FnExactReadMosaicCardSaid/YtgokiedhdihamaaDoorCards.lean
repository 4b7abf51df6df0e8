/-
  DERIVED. GIVEN WITH THE SEED: THE CARDS: each row of YtgokiedhdihamaaDoorRows.lean that lists a variable, with what it lists TIED to the program's text (the seventh form; the later family's looks); each row that meets fmt, with fmt's text TOLD by the authors' own Lean function (tested against real Go, not proved from fmt's source: count such statements apart). THE CARD IS WHAT COUNTS. Prove the row's statement (the work); the ties are given (YtgokiedhdihamaaDoorTie.lean); close each card by the builder's one call (the guide's Derived/Test/ToyasCard.lean, 'card_holds'). Laid BY PROGRAM, IN A SANDBOX (cutbox-door.mjs). By AI agents, Wed Nov 11 2026. No macro, syntax, notation, axiom, sorry.
-/
import Derived.Test.YtgokiedhdihamaaDoorRows
import GoSem.ClaimSeven
namespace Go.Proofs.YtgokiedhdihamaaDoor
namespace Rows

/-- THE TIED CARD OF 'laws.FnExactReadMosaic'. -/
def fnExactReadMosaicCard : Claim7 := { stood := { row := fnExactReadMosaicRow, standIns := [], harness := (true, "581f2671a79c307101b176ba3ea9b8c056bc4707166a639ce575919c041cda00"), looks := true }, kinds := [], alts := [], laidByText := true, laidKinds := [.data, .data, .data, .data, .sentinel, .sentinel, .pinned], laidTests := true, laidLooks := .later }
def FnExactReadMosaicCardSaid : Prop := Claim7.holds Tryd.pinned (.plain (OpenSpec.ofChange fnExactReadMosaicSpec)) fnExactReadMosaicCard

/-- THE TIED CARD OF 'laws.FnExactMosaicText'. -/
def fnExactMosaicTextCard : Claim7 := { stood := { row := fnExactMosaicTextRow, standIns := [], harness := (true, "581f2671a79c307101b176ba3ea9b8c056bc4707166a639ce575919c041cda00"), looks := true }, kinds := [], alts := [], laidByText := true, laidKinds := [.data, .data, .data], laidTests := true, laidLooks := .later }
def FnExactMosaicTextCardSaid : Prop := Claim7.holds Tryd.pinned (.plain (OpenSpec.ofChange fnExactMosaicTextSpec)) fnExactMosaicTextCard

/-- THE SECOND FORM's CARD OF 'laws.FnExactReadMosaic'. -/
def fnExactReadMosaicUptoCard : Claim7 := { stood := { row := fnExactReadMosaicUptoRow, standIns := [], harness := (true, "581f2671a79c307101b176ba3ea9b8c056bc4707166a639ce575919c041cda00"), looks := true }, kinds := [], alts := [], laidByText := true, laidKinds := [.data, .data, .data, .data, .sentinel, .sentinel, .pinned], laidTests := true, laidLooks := .later }
def FnExactReadMosaicUptoCardSaid : Prop := Claim7.holds Tryd.pinned (.plain (OpenSpec.upto fnExactReadMosaicSpec)) fnExactReadMosaicUptoCard

/-- THE SECOND FORM's CARD OF 'laws.FnExactMosaicText'. -/
def fnExactMosaicTextUptoCard : Claim7 := { stood := { row := fnExactMosaicTextUptoRow, standIns := [], harness := (true, "581f2671a79c307101b176ba3ea9b8c056bc4707166a639ce575919c041cda00"), looks := true }, kinds := [], alts := [], laidByText := true, laidKinds := [.data, .data, .data], laidTests := true, laidLooks := .later }
def FnExactMosaicTextUptoCardSaid : Prop := Claim7.holds Tryd.pinned (.plain (OpenSpec.upto fnExactMosaicTextSpec)) fnExactMosaicTextUptoCard
end Rows
end Go.Proofs.YtgokiedhdihamaaDoor
