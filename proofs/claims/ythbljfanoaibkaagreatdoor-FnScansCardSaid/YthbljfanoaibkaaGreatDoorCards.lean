/-
  DERIVED. GIVEN WITH THE SEED: THE CARDS: each row of YthbljfanoaibkaaGreatDoorRows.lean that lists a variable, with what it lists TIED to the program's text (the seventh form; the later family's looks); each row that meets fmt, with fmt's text TOLD by the authors' own Lean function (tested against real Go, not proved from fmt's source: count such statements apart). THE CARD IS WHAT COUNTS. Prove the row's statement (the work); the ties are given (YthbljfanoaibkaaGreatDoorTie.lean); close each card by the builder's one call (the guide's Derived/Test/ToyasCard.lean, 'card_holds'). Laid BY PROGRAM, IN A SANDBOX (cutbox-door.mjs). By AI agents, Wed Nov 11 2026. No macro, syntax, notation, axiom, sorry.
-/
import Derived.Test.YthbljfanoaibkaaGreatDoorRows
import GoSem.ClaimSeven
namespace Go.Proofs.YthbljfanoaibkaaGreatDoor
namespace Rows

/-- THE TIED CARD OF 'laws.FnScans'. -/
def fnScansCard : Claim7 := { stood := { row := fnScansRow, standIns := [], harness := (true, "b6769e29c292fb6a7d40fe616e55c31f08ab67759cd58d5836cc1fc6b74374f8"), looks := false }, kinds := [], alts := [], laidByText := true, laidKinds := [.data, .data, .data], laidTests := true, laidLooks := .later }
def FnScansCardSaid : Prop := Claim7.holds Tryz.pinned (.plain (OpenSpec.ofChange fnScansSpec)) fnScansCard

/-- THE SECOND FORM's CARD OF 'laws.FnScans'. -/
def fnScansUptoCard : Claim7 := { stood := { row := fnScansUptoRow, standIns := [], harness := (true, "b6769e29c292fb6a7d40fe616e55c31f08ab67759cd58d5836cc1fc6b74374f8"), looks := false }, kinds := [], alts := [], laidByText := true, laidKinds := [.data, .data, .data], laidTests := true, laidLooks := .later }
def FnScansUptoCardSaid : Prop := Claim7.holds Tryz.pinned (.plain (OpenSpec.upto fnScansSpec)) fnScansUptoCard
end Rows
end Go.Proofs.YthbljfanoaibkaaGreatDoor
