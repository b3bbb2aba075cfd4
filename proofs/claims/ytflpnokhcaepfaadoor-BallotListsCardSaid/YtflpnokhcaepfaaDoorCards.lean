/-
  DERIVED. GIVEN WITH THE SEED: THE CARDS: each row of YtflpnokhcaepfaaDoorRows.lean that lists a variable, with what it lists TIED to the program's text (the seventh form; the later family's looks); each row that meets fmt, with fmt's text TOLD by the authors' own Lean function (tested against real Go, not proved from fmt's source: count such statements apart). THE CARD IS WHAT COUNTS. Prove the row's statement (the work); the ties are given (YtflpnokhcaepfaaDoorTie.lean); close each card by the builder's one call (the guide's Derived/Test/ToyasCard.lean, 'card_holds'). Laid BY PROGRAM, IN A SANDBOX (cutbox-door.mjs). By AI agents, Wed Nov 11 2026. No macro, syntax, notation, axiom, sorry.
-/
import Derived.Test.YtflpnokhcaepfaaDoorRows
import GoSem.ClaimSeven
namespace Go.Proofs.YtflpnokhcaepfaaDoor
namespace Rows

/-- THE TIED CARD OF 'skaldlaw10.BallotPairs'. -/
def ballotPairsCard : Claim7 := { stood := { row := ballotPairsRow, standIns := [], harness := (true, "8d67ed1fb80e7f471c4b3ca005fe95047b4fadf631c3cb0e13964142434f3f5c"), looks := true }, kinds := [], alts := [], laidByText := true, laidKinds := [.data, .data, .data, .sentinel, .sentinel], laidTests := true, laidLooks := .later }
def BallotPairsCardSaid : Prop := Claim7.holds Tryd.pinned (.plain (OpenSpec.ofChange ballotPairsSpec)) ballotPairsCard

/-- THE TIED CARD OF 'skaldlaw10.BallotTexts'. -/
def ballotTextsCard : Claim7 := { stood := { row := ballotTextsRow, standIns := [], harness := (true, "8d67ed1fb80e7f471c4b3ca005fe95047b4fadf631c3cb0e13964142434f3f5c"), looks := true }, kinds := [], alts := [], laidByText := true, laidKinds := [.data, .data, .data, .sentinel, .sentinel], laidTests := true, laidLooks := .later }
def BallotTextsCardSaid : Prop := Claim7.holds Tryd.pinned (.plain (OpenSpec.ofChange ballotTextsSpec)) ballotTextsCard

/-- THE TIED CARD OF 'skaldlaw10.BallotNumbers'. -/
def ballotNumbersCard : Claim7 := { stood := { row := ballotNumbersRow, standIns := [], harness := (true, "8d67ed1fb80e7f471c4b3ca005fe95047b4fadf631c3cb0e13964142434f3f5c"), looks := true }, kinds := [], alts := [], laidByText := true, laidKinds := [.data, .data, .data, .sentinel, .sentinel], laidTests := true, laidLooks := .later }
def BallotNumbersCardSaid : Prop := Claim7.holds Tryd.pinned (.plain (OpenSpec.ofChange ballotNumbersSpec)) ballotNumbersCard

/-- THE TIED CARD OF 'skaldlaw10.BallotNext'. -/
def ballotNextCard : Claim7 := { stood := { row := ballotNextRow, standIns := [], harness := (true, "8d67ed1fb80e7f471c4b3ca005fe95047b4fadf631c3cb0e13964142434f3f5c"), looks := true }, kinds := [], alts := [], laidByText := true, laidKinds := [.data, .data, .data, .sentinel, .sentinel], laidTests := true, laidLooks := .later }
def BallotNextCardSaid : Prop := Claim7.holds Tryd.pinned (.plain (OpenSpec.ofChange ballotNextSpec)) ballotNextCard

/-- THE TIED CARD OF 'skaldlaw10.BallotCounts'. -/
def ballotCountsCard : Claim7 := { stood := { row := ballotCountsRow, standIns := [], harness := (true, "8d67ed1fb80e7f471c4b3ca005fe95047b4fadf631c3cb0e13964142434f3f5c"), looks := true }, kinds := [], alts := [], laidByText := true, laidKinds := [.data, .data, .data, .sentinel, .sentinel], laidTests := true, laidLooks := .later }
def BallotCountsCardSaid : Prop := Claim7.holds Tryd.pinned (.plain (OpenSpec.ofChange ballotCountsSpec)) ballotCountsCard

/-- THE TIED CARD OF 'skaldlaw10.BallotBack'. -/
def ballotBackCard : Claim7 := { stood := { row := ballotBackRow, standIns := [], harness := (true, "8d67ed1fb80e7f471c4b3ca005fe95047b4fadf631c3cb0e13964142434f3f5c"), looks := true }, kinds := [], alts := [], laidByText := true, laidKinds := [.data, .data, .data, .sentinel, .sentinel], laidTests := true, laidLooks := .later }
def BallotBackCardSaid : Prop := Claim7.holds Tryd.pinned (.plain (OpenSpec.ofChange ballotBackSpec)) ballotBackCard

/-- THE TIED CARD OF 'skaldlaw10.BallotNodes'. -/
def ballotNodesCard : Claim7 := { stood := { row := ballotNodesRow, standIns := [], harness := (true, "8d67ed1fb80e7f471c4b3ca005fe95047b4fadf631c3cb0e13964142434f3f5c"), looks := true }, kinds := [], alts := [], laidByText := true, laidKinds := [.data, .data, .data, .sentinel, .sentinel], laidTests := true, laidLooks := .later }
def BallotNodesCardSaid : Prop := Claim7.holds Tryd.pinned (.plain (OpenSpec.ofChange ballotNodesSpec)) ballotNodesCard

/-- THE TIED CARD OF 'skaldlaw10.BallotLists'. -/
def ballotListsCard : Claim7 := { stood := { row := ballotListsRow, standIns := [], harness := (true, "8d67ed1fb80e7f471c4b3ca005fe95047b4fadf631c3cb0e13964142434f3f5c"), looks := true }, kinds := [], alts := [], laidByText := true, laidKinds := [.data, .data, .data, .sentinel, .sentinel], laidTests := true, laidLooks := .later }
def BallotListsCardSaid : Prop := Claim7.holds Tryd.pinned (.plain (OpenSpec.ofChange ballotListsSpec)) ballotListsCard

/-- THE TIED CARD OF 'skaldlaw10.BallotOrder'. -/
def ballotOrderCard : Claim7 := { stood := { row := ballotOrderRow, standIns := [], harness := (true, "8d67ed1fb80e7f471c4b3ca005fe95047b4fadf631c3cb0e13964142434f3f5c"), looks := true }, kinds := [], alts := [], laidByText := true, laidKinds := [.data, .data, .data, .sentinel, .sentinel], laidTests := true, laidLooks := .later }
def BallotOrderCardSaid : Prop := Claim7.holds Tryd.pinned (.plain (OpenSpec.ofChange ballotOrderSpec)) ballotOrderCard

/-- THE SECOND FORM's CARD OF 'skaldlaw10.BallotPairs'. -/
def ballotPairsUptoCard : Claim7 := { stood := { row := ballotPairsUptoRow, standIns := [], harness := (true, "8d67ed1fb80e7f471c4b3ca005fe95047b4fadf631c3cb0e13964142434f3f5c"), looks := true }, kinds := [], alts := [], laidByText := true, laidKinds := [.data, .data, .data, .sentinel, .sentinel], laidTests := true, laidLooks := .later }
def BallotPairsUptoCardSaid : Prop := Claim7.holds Tryd.pinned (.plain (OpenSpec.upto ballotPairsSpec)) ballotPairsUptoCard

/-- THE SECOND FORM's CARD OF 'skaldlaw10.BallotTexts'. -/
def ballotTextsUptoCard : Claim7 := { stood := { row := ballotTextsUptoRow, standIns := [], harness := (true, "8d67ed1fb80e7f471c4b3ca005fe95047b4fadf631c3cb0e13964142434f3f5c"), looks := true }, kinds := [], alts := [], laidByText := true, laidKinds := [.data, .data, .data, .sentinel, .sentinel], laidTests := true, laidLooks := .later }
def BallotTextsUptoCardSaid : Prop := Claim7.holds Tryd.pinned (.plain (OpenSpec.upto ballotTextsSpec)) ballotTextsUptoCard

/-- THE SECOND FORM's CARD OF 'skaldlaw10.BallotNumbers'. -/
def ballotNumbersUptoCard : Claim7 := { stood := { row := ballotNumbersUptoRow, standIns := [], harness := (true, "8d67ed1fb80e7f471c4b3ca005fe95047b4fadf631c3cb0e13964142434f3f5c"), looks := true }, kinds := [], alts := [], laidByText := true, laidKinds := [.data, .data, .data, .sentinel, .sentinel], laidTests := true, laidLooks := .later }
def BallotNumbersUptoCardSaid : Prop := Claim7.holds Tryd.pinned (.plain (OpenSpec.upto ballotNumbersSpec)) ballotNumbersUptoCard

/-- THE SECOND FORM's CARD OF 'skaldlaw10.BallotNext'. -/
def ballotNextUptoCard : Claim7 := { stood := { row := ballotNextUptoRow, standIns := [], harness := (true, "8d67ed1fb80e7f471c4b3ca005fe95047b4fadf631c3cb0e13964142434f3f5c"), looks := true }, kinds := [], alts := [], laidByText := true, laidKinds := [.data, .data, .data, .sentinel, .sentinel], laidTests := true, laidLooks := .later }
def BallotNextUptoCardSaid : Prop := Claim7.holds Tryd.pinned (.plain (OpenSpec.upto ballotNextSpec)) ballotNextUptoCard

/-- THE SECOND FORM's CARD OF 'skaldlaw10.BallotCounts'. -/
def ballotCountsUptoCard : Claim7 := { stood := { row := ballotCountsUptoRow, standIns := [], harness := (true, "8d67ed1fb80e7f471c4b3ca005fe95047b4fadf631c3cb0e13964142434f3f5c"), looks := true }, kinds := [], alts := [], laidByText := true, laidKinds := [.data, .data, .data, .sentinel, .sentinel], laidTests := true, laidLooks := .later }
def BallotCountsUptoCardSaid : Prop := Claim7.holds Tryd.pinned (.plain (OpenSpec.upto ballotCountsSpec)) ballotCountsUptoCard

/-- THE SECOND FORM's CARD OF 'skaldlaw10.BallotBack'. -/
def ballotBackUptoCard : Claim7 := { stood := { row := ballotBackUptoRow, standIns := [], harness := (true, "8d67ed1fb80e7f471c4b3ca005fe95047b4fadf631c3cb0e13964142434f3f5c"), looks := true }, kinds := [], alts := [], laidByText := true, laidKinds := [.data, .data, .data, .sentinel, .sentinel], laidTests := true, laidLooks := .later }
def BallotBackUptoCardSaid : Prop := Claim7.holds Tryd.pinned (.plain (OpenSpec.upto ballotBackSpec)) ballotBackUptoCard

/-- THE SECOND FORM's CARD OF 'skaldlaw10.BallotNodes'. -/
def ballotNodesUptoCard : Claim7 := { stood := { row := ballotNodesUptoRow, standIns := [], harness := (true, "8d67ed1fb80e7f471c4b3ca005fe95047b4fadf631c3cb0e13964142434f3f5c"), looks := true }, kinds := [], alts := [], laidByText := true, laidKinds := [.data, .data, .data, .sentinel, .sentinel], laidTests := true, laidLooks := .later }
def BallotNodesUptoCardSaid : Prop := Claim7.holds Tryd.pinned (.plain (OpenSpec.upto ballotNodesSpec)) ballotNodesUptoCard

/-- THE SECOND FORM's CARD OF 'skaldlaw10.BallotLists'. -/
def ballotListsUptoCard : Claim7 := { stood := { row := ballotListsUptoRow, standIns := [], harness := (true, "8d67ed1fb80e7f471c4b3ca005fe95047b4fadf631c3cb0e13964142434f3f5c"), looks := true }, kinds := [], alts := [], laidByText := true, laidKinds := [.data, .data, .data, .sentinel, .sentinel], laidTests := true, laidLooks := .later }
def BallotListsUptoCardSaid : Prop := Claim7.holds Tryd.pinned (.plain (OpenSpec.upto ballotListsSpec)) ballotListsUptoCard

/-- THE SECOND FORM's CARD OF 'skaldlaw10.BallotOrder'. -/
def ballotOrderUptoCard : Claim7 := { stood := { row := ballotOrderUptoRow, standIns := [], harness := (true, "8d67ed1fb80e7f471c4b3ca005fe95047b4fadf631c3cb0e13964142434f3f5c"), looks := true }, kinds := [], alts := [], laidByText := true, laidKinds := [.data, .data, .data, .sentinel, .sentinel], laidTests := true, laidLooks := .later }
def BallotOrderUptoCardSaid : Prop := Claim7.holds Tryd.pinned (.plain (OpenSpec.upto ballotOrderSpec)) ballotOrderUptoCard
end Rows
end Go.Proofs.YtflpnokhcaepfaaDoor
