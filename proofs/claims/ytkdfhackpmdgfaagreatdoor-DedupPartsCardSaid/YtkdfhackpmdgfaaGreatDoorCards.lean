/-
  DERIVED. GIVEN WITH THE SEED: THE CARDS: each row of YtkdfhackpmdgfaaGreatDoorRows.lean that lists a variable, with what it lists TIED to the program's text (the seventh form; the later family's looks); each row that meets fmt, with fmt's text TOLD by the authors' own Lean function (tested against real Go, not proved from fmt's source: count such statements apart). THE CARD IS WHAT COUNTS. Prove the row's statement (the work); the ties are given (YtkdfhackpmdgfaaGreatDoorTie.lean); close each card by the builder's one call (the guide's Derived/Test/ToyasCard.lean, 'card_holds'). Laid BY PROGRAM, IN A SANDBOX (cutbox-door.mjs). By AI agents, Wed Nov 11 2026. No macro, syntax, notation, axiom, sorry.
-/
import Derived.Test.YtkdfhackpmdgfaaGreatDoorRows
import GoSem.ClaimSeven
namespace Go.Proofs.YtkdfhackpmdgfaaGreatDoor
namespace Rows

/-- THE TIED CARD OF 'skaldlaw09.DedupParts'. -/
def dedupPartsCard : Claim7 := { stood := { row := dedupPartsRow, standIns := [], harness := (true, "5c6c20b5fe5e22519dd578fca40b4f8738e4667531652db69a76755508c9d1e3"), looks := false }, kinds := [], alts := [], laidByText := true, laidKinds := [.data, .pinned], laidTests := true, laidLooks := .later }
def DedupPartsCardSaid : Prop := Claim7.holds Tryz.pinned (.plain (OpenSpec.ofChange dedupPartsSpec)) dedupPartsCard

/-- THE SECOND FORM's CARD OF 'skaldlaw09.DedupParts'. -/
def dedupPartsUptoCard : Claim7 := { stood := { row := dedupPartsUptoRow, standIns := [], harness := (true, "5c6c20b5fe5e22519dd578fca40b4f8738e4667531652db69a76755508c9d1e3"), looks := false }, kinds := [], alts := [], laidByText := true, laidKinds := [.data, .pinned], laidTests := true, laidLooks := .later }
def DedupPartsUptoCardSaid : Prop := Claim7.holds Tryz.pinned (.plain (OpenSpec.upto dedupPartsSpec)) dedupPartsUptoCard
end Rows
end Go.Proofs.YtkdfhackpmdgfaaGreatDoor
