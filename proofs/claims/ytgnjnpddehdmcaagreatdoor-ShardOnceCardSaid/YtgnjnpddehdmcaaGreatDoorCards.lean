/-
  DERIVED. GIVEN WITH THE SEED: THE CARDS: each row of YtgnjnpddehdmcaaGreatDoorRows.lean that lists a variable, with what it lists TIED to the program's text (the seventh form; the later family's looks); each row that meets fmt, with fmt's text TOLD by the authors' own Lean function (tested against real Go, not proved from fmt's source: count such statements apart). THE CARD IS WHAT COUNTS. Prove the row's statement (the work); the ties are given (YtgnjnpddehdmcaaGreatDoorTie.lean); close each card by the builder's one call (the guide's Derived/Test/ToyasCard.lean, 'card_holds'). Laid BY PROGRAM, IN A SANDBOX (cutbox-door.mjs). By AI agents, Wed Nov 11 2026. No macro, syntax, notation, axiom, sorry.
-/
import Derived.Test.YtgnjnpddehdmcaaGreatDoorRows
import GoSem.ClaimSeven
namespace Go.Proofs.YtgnjnpddehdmcaaGreatDoor
namespace Rows

/-- THE TIED CARD OF 'skaldlaw34.ShardOnce'. -/
def shardOnceCard : Claim7 := { stood := { row := shardOnceRow, standIns := [], harness := (true, "713d5a8a5b610b3059b1ef8c5ddb7a999328f8920e5394eef41654af62ce3d11"), looks := false }, kinds := [], alts := [], laidByText := true, laidKinds := [.data, .data, .data, .data, .pinned], laidTests := true, laidLooks := .later }
def ShardOnceCardSaid : Prop := Claim7.holds Tryz.pinned (.plain (OpenSpec.ofChange shardOnceSpec)) shardOnceCard

/-- THE SECOND FORM's CARD OF 'skaldlaw34.ShardOnce'. -/
def shardOnceUptoCard : Claim7 := { stood := { row := shardOnceUptoRow, standIns := [], harness := (true, "713d5a8a5b610b3059b1ef8c5ddb7a999328f8920e5394eef41654af62ce3d11"), looks := false }, kinds := [], alts := [], laidByText := true, laidKinds := [.data, .data, .data, .data, .pinned], laidTests := true, laidLooks := .later }
def ShardOnceUptoCardSaid : Prop := Claim7.holds Tryz.pinned (.plain (OpenSpec.upto shardOnceSpec)) shardOnceUptoCard
end Rows
end Go.Proofs.YtgnjnpddehdmcaaGreatDoor
