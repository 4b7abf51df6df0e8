/-
  DERIVED. GIVEN WITH THE SEED: THE CARDS: each row of YthbljfanoaibkaaDoorRows.lean that lists a variable, with what it lists TIED to the program's text (the seventh form; the later family's looks); each row that meets fmt, with fmt's text TOLD by the authors' own Lean function (tested against real Go, not proved from fmt's source: count such statements apart). THE CARD IS WHAT COUNTS. Prove the row's statement (the work); the ties are given (YthbljfanoaibkaaDoorTie.lean); close each card by the builder's one call (the guide's Derived/Test/ToyasCard.lean, 'card_holds'). Laid BY PROGRAM, IN A SANDBOX (cutbox-door.mjs). By AI agents, Wed Nov 11 2026. No macro, syntax, notation, axiom, sorry.
-/
import Derived.Test.YthbljfanoaibkaaDoorRows
import GoSem.ClaimSeven
namespace Go.Proofs.YthbljfanoaibkaaDoor
namespace Rows

/-- THE TIED CARD OF 'laws.FnExactTrailText'. -/
def fnExactTrailTextCard : Claim7 := { stood := { row := fnExactTrailTextRow, standIns := [], harness := (true, "b9dce63efa7623f692fc4335006667e849279dd32385ceb25e7d8c4c8a977e0d"), looks := false }, kinds := [], alts := [], laidByText := true, laidKinds := [.data, .data, .data], laidTests := true, laidLooks := .later }
def FnExactTrailTextCardSaid : Prop := Claim7.holds Tryd.pinned (.plain (OpenSpec.ofChange fnExactTrailTextSpec)) fnExactTrailTextCard

/-- THE TIED CARD OF 'laws.FnExactPictureText'. -/
def fnExactPictureTextCard : Claim7 := { stood := { row := fnExactPictureTextRow, standIns := [], harness := (true, "b9dce63efa7623f692fc4335006667e849279dd32385ceb25e7d8c4c8a977e0d"), looks := false }, kinds := [], alts := [], laidByText := true, laidKinds := [.data, .data, .data], laidTests := true, laidLooks := .later }
def FnExactPictureTextCardSaid : Prop := Claim7.holds Tryd.pinned (.plain (OpenSpec.ofChange fnExactPictureTextSpec)) fnExactPictureTextCard

/-- THE SECOND FORM's CARD OF 'laws.FnExactTrailText'. -/
def fnExactTrailTextUptoCard : Claim7 := { stood := { row := fnExactTrailTextUptoRow, standIns := [], harness := (true, "b9dce63efa7623f692fc4335006667e849279dd32385ceb25e7d8c4c8a977e0d"), looks := false }, kinds := [], alts := [], laidByText := true, laidKinds := [.data, .data, .data], laidTests := true, laidLooks := .later }
def FnExactTrailTextUptoCardSaid : Prop := Claim7.holds Tryd.pinned (.plain (OpenSpec.upto fnExactTrailTextSpec)) fnExactTrailTextUptoCard

/-- THE SECOND FORM's CARD OF 'laws.FnExactPictureText'. -/
def fnExactPictureTextUptoCard : Claim7 := { stood := { row := fnExactPictureTextUptoRow, standIns := [], harness := (true, "b9dce63efa7623f692fc4335006667e849279dd32385ceb25e7d8c4c8a977e0d"), looks := false }, kinds := [], alts := [], laidByText := true, laidKinds := [.data, .data, .data], laidTests := true, laidLooks := .later }
def FnExactPictureTextUptoCardSaid : Prop := Claim7.holds Tryd.pinned (.plain (OpenSpec.upto fnExactPictureTextSpec)) fnExactPictureTextUptoCard
end Rows
end Go.Proofs.YthbljfanoaibkaaDoor
