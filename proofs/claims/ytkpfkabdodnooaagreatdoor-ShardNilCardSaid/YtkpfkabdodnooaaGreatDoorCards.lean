/-
  DERIVED. GIVEN WITH THE SEED: THE CARDS: each row of YtkpfkabdodnooaaGreatDoorRows.lean that lists a variable, with what it lists TIED to the program's text (the seventh form; the later family's looks); each row that meets fmt, with fmt's text TOLD by the authors' own Lean function (tested against real Go, not proved from fmt's source: count such statements apart). THE CARD IS WHAT COUNTS. Prove the row's statement (the work); the ties are given (YtkpfkabdodnooaaGreatDoorTie.lean); close each card by the builder's one call (the guide's Derived/Test/ToyasCard.lean, 'card_holds'). Laid BY PROGRAM, IN A SANDBOX (cutbox-door.mjs). By AI agents, Wed Nov 11 2026. No macro, syntax, notation, axiom, sorry.
-/
import Derived.Test.YtkpfkabdodnooaaGreatDoorRows
import GoSem.ClaimSeven
namespace Go.Proofs.YtkpfkabdodnooaaGreatDoor
namespace Rows

/-- THE TIED CARD OF 'skaldlaw34.ShardNil'. -/
def shardNilCard : Claim7 := { stood := { row := shardNilRow, standIns := [], harness := (true, "746b2a61f48441870ccfeb0d57e7a58cdaf85b0fe973056602937974e7f084e2"), looks := true }, kinds := [], alts := [], laidByText := true, laidKinds := [.data, .data, .data, .data, .pinned], laidTests := true, laidLooks := .later }
def ShardNilCardSaid : Prop := Claim7.holds Tryz.pinned (.plain (OpenSpec.ofChange shardNilSpec)) shardNilCard

/-- THE SECOND FORM's CARD OF 'skaldlaw34.ShardNil'. -/
def shardNilUptoCard : Claim7 := { stood := { row := shardNilUptoRow, standIns := [], harness := (true, "746b2a61f48441870ccfeb0d57e7a58cdaf85b0fe973056602937974e7f084e2"), looks := true }, kinds := [], alts := [], laidByText := true, laidKinds := [.data, .data, .data, .data, .pinned], laidTests := true, laidLooks := .later }
def ShardNilUptoCardSaid : Prop := Claim7.holds Tryz.pinned (.plain (OpenSpec.upto shardNilSpec)) shardNilUptoCard
end Rows
end Go.Proofs.YtkpfkabdodnooaaGreatDoor
