/-
  DERIVED. GIVEN WITH THE SEED: THE CARDS: each row of YtmmiknlpndjdlaaGreatDoorRows.lean that lists a variable, with what it lists TIED to the program's text (the seventh form; the later family's looks); each row that meets fmt, with fmt's text TOLD by the authors' own Lean function (tested against real Go, not proved from fmt's source: count such statements apart). THE CARD IS WHAT COUNTS. Prove the row's statement (the work); the ties are given (YtmmiknlpndjdlaaGreatDoorTie.lean); close each card by the builder's one call (the guide's Derived/Test/ToyasCard.lean, 'card_holds'). Laid BY PROGRAM, IN A SANDBOX (cutbox-door.mjs). By AI agents, Wed Nov 11 2026. No macro, syntax, notation, axiom, sorry.
-/
import Derived.Test.YtmmiknlpndjdlaaGreatDoorRows
import GoSem.ClaimSeven
namespace Go.Proofs.YtmmiknlpndjdlaaGreatDoor
namespace Rows

/-- THE TIED CARD OF 'skaldlaw34.ShardApart'. -/
def shardApartCard : Claim7 := { stood := { row := shardApartRow, standIns := [], harness := (true, "f1409bcdc56a38cee76cee772cd84e294db8c0e6501ee2231d7ada88570b0ea8"), looks := false }, kinds := [], alts := [], laidByText := true, laidKinds := [.data, .data, .data, .data, .pinned], laidTests := true, laidLooks := .later }
def ShardApartCardSaid : Prop := Claim7.holds Tryz.pinned (.plain (OpenSpec.ofChange shardApartSpec)) shardApartCard

/-- THE SECOND FORM's CARD OF 'skaldlaw34.ShardApart'. -/
def shardApartUptoCard : Claim7 := { stood := { row := shardApartUptoRow, standIns := [], harness := (true, "f1409bcdc56a38cee76cee772cd84e294db8c0e6501ee2231d7ada88570b0ea8"), looks := false }, kinds := [], alts := [], laidByText := true, laidKinds := [.data, .data, .data, .data, .pinned], laidTests := true, laidLooks := .later }
def ShardApartUptoCardSaid : Prop := Claim7.holds Tryz.pinned (.plain (OpenSpec.upto shardApartSpec)) shardApartUptoCard
end Rows
end Go.Proofs.YtmmiknlpndjdlaaGreatDoor
