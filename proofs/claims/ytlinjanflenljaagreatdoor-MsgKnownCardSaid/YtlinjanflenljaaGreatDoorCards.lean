/-
  DERIVED. GIVEN WITH THE SEED: THE CARDS: each row of YtlinjanflenljaaGreatDoorRows.lean that lists a variable, with what it lists TIED to the program's text (the seventh form; the later family's looks); each row that meets fmt, with fmt's text TOLD by the authors' own Lean function (tested against real Go, not proved from fmt's source: count such statements apart). THE CARD IS WHAT COUNTS. Prove the row's statement (the work); the ties are given (YtlinjanflenljaaGreatDoorTie.lean); close each card by the builder's one call (the guide's Derived/Test/ToyasCard.lean, 'card_holds'). Laid BY PROGRAM, IN A SANDBOX (cutbox-door.mjs). By AI agents, Wed Nov 11 2026. No macro, syntax, notation, axiom, sorry.
-/
import Derived.Test.YtlinjanflenljaaGreatDoorRows
import GoSem.ClaimSeven
namespace Go.Proofs.YtlinjanflenljaaGreatDoor
namespace Rows

/-- THE TIED CARD OF 'skaldlaw20.MsgReads'. -/
def msgReadsCard : Claim7 := { stood := { row := msgReadsRow, standIns := [], harness := (true, "4ab1632ef511e1542d84e73539993e5da09e04271f083e37bb4d6d8f2d04f8e7"), looks := false }, kinds := [], alts := [], laidByText := true, laidKinds := [.data, .data, .data, .data, .data], laidTests := true, laidLooks := .later }
def MsgReadsCardSaid : Prop := Claim7.holds Tryz.pinned (.plain (OpenSpec.ofChange msgReadsSpec)) msgReadsCard

/-- THE TIED CARD OF 'skaldlaw20.MsgBack'. -/
def msgBackCard : Claim7 := { stood := { row := msgBackRow, standIns := [], harness := (true, "4ab1632ef511e1542d84e73539993e5da09e04271f083e37bb4d6d8f2d04f8e7"), looks := false }, kinds := [], alts := [], laidByText := true, laidKinds := [.data, .data, .data, .data, .data], laidTests := true, laidLooks := .later }
def MsgBackCardSaid : Prop := Claim7.holds Tryz.pinned (.plain (OpenSpec.ofChange msgBackSpec)) msgBackCard

/-- THE TIED CARD OF 'skaldlaw20.MsgCuts'. -/
def msgCutsCard : Claim7 := { stood := { row := msgCutsRow, standIns := [], harness := (true, "4ab1632ef511e1542d84e73539993e5da09e04271f083e37bb4d6d8f2d04f8e7"), looks := false }, kinds := [], alts := [], laidByText := true, laidKinds := [.data, .data, .data, .data, .data], laidTests := true, laidLooks := .later }
def MsgCutsCardSaid : Prop := Claim7.holds Tryz.pinned (.plain (OpenSpec.ofChange msgCutsSpec)) msgCutsCard

/-- THE TIED CARD OF 'skaldlaw20.MsgOnes'. -/
def msgOnesCard : Claim7 := { stood := { row := msgOnesRow, standIns := [], harness := (true, "4ab1632ef511e1542d84e73539993e5da09e04271f083e37bb4d6d8f2d04f8e7"), looks := false }, kinds := [], alts := [], laidByText := true, laidKinds := [.data, .data, .data, .data, .data], laidTests := true, laidLooks := .later }
def MsgOnesCardSaid : Prop := Claim7.holds Tryz.pinned (.plain (OpenSpec.ofChange msgOnesSpec)) msgOnesCard

/-- THE TIED CARD OF 'skaldlaw20.MsgSizes'. -/
def msgSizesCard : Claim7 := { stood := { row := msgSizesRow, standIns := [], harness := (true, "4ab1632ef511e1542d84e73539993e5da09e04271f083e37bb4d6d8f2d04f8e7"), looks := false }, kinds := [], alts := [], laidByText := true, laidKinds := [.data, .data, .data, .data, .data], laidTests := true, laidLooks := .later }
def MsgSizesCardSaid : Prop := Claim7.holds Tryz.pinned (.plain (OpenSpec.ofChange msgSizesSpec)) msgSizesCard

/-- THE TIED CARD OF 'skaldlaw20.MsgWrites'. -/
def msgWritesCard : Claim7 := { stood := { row := msgWritesRow, standIns := [], harness := (true, "4ab1632ef511e1542d84e73539993e5da09e04271f083e37bb4d6d8f2d04f8e7"), looks := false }, kinds := [], alts := [], laidByText := true, laidKinds := [.data, .data, .data, .data, .data], laidTests := true, laidLooks := .later }
def MsgWritesCardSaid : Prop := Claim7.holds Tryz.pinned (.plain (OpenSpec.ofChange msgWritesSpec)) msgWritesCard

/-- THE TIED CARD OF 'skaldlaw20.MsgKnown'. -/
def msgKnownCard : Claim7 := { stood := { row := msgKnownRow, standIns := [], harness := (true, "4ab1632ef511e1542d84e73539993e5da09e04271f083e37bb4d6d8f2d04f8e7"), looks := false }, kinds := [], alts := [], laidByText := true, laidKinds := [.data, .data, .data, .data, .data], laidTests := true, laidLooks := .later }
def MsgKnownCardSaid : Prop := Claim7.holds Tryz.pinned (.plain (OpenSpec.ofChange msgKnownSpec)) msgKnownCard

/-- THE TIED CARD OF 'skaldlaw20.MsgSames'. -/
def msgSamesCard : Claim7 := { stood := { row := msgSamesRow, standIns := [], harness := (true, "4ab1632ef511e1542d84e73539993e5da09e04271f083e37bb4d6d8f2d04f8e7"), looks := false }, kinds := [], alts := [], laidByText := true, laidKinds := [.data, .data, .data, .data, .data], laidTests := true, laidLooks := .later }
def MsgSamesCardSaid : Prop := Claim7.holds Tryz.pinned (.plain (OpenSpec.ofChange msgSamesSpec)) msgSamesCard

/-- THE TIED CARD OF 'skaldlaw20.MsgFields'. -/
def msgFieldsCard : Claim7 := { stood := { row := msgFieldsRow, standIns := [], harness := (true, "4ab1632ef511e1542d84e73539993e5da09e04271f083e37bb4d6d8f2d04f8e7"), looks := false }, kinds := [], alts := [], laidByText := true, laidKinds := [.data, .data, .data, .data, .data], laidTests := true, laidLooks := .later }
def MsgFieldsCardSaid : Prop := Claim7.holds Tryz.pinned (.plain (OpenSpec.ofChange msgFieldsSpec)) msgFieldsCard

/-- THE SECOND FORM's CARD OF 'skaldlaw20.MsgReads'. -/
def msgReadsUptoCard : Claim7 := { stood := { row := msgReadsUptoRow, standIns := [], harness := (true, "4ab1632ef511e1542d84e73539993e5da09e04271f083e37bb4d6d8f2d04f8e7"), looks := false }, kinds := [], alts := [], laidByText := true, laidKinds := [.data, .data, .data, .data, .data], laidTests := true, laidLooks := .later }
def MsgReadsUptoCardSaid : Prop := Claim7.holds Tryz.pinned (.plain (OpenSpec.upto msgReadsSpec)) msgReadsUptoCard

/-- THE SECOND FORM's CARD OF 'skaldlaw20.MsgBack'. -/
def msgBackUptoCard : Claim7 := { stood := { row := msgBackUptoRow, standIns := [], harness := (true, "4ab1632ef511e1542d84e73539993e5da09e04271f083e37bb4d6d8f2d04f8e7"), looks := false }, kinds := [], alts := [], laidByText := true, laidKinds := [.data, .data, .data, .data, .data], laidTests := true, laidLooks := .later }
def MsgBackUptoCardSaid : Prop := Claim7.holds Tryz.pinned (.plain (OpenSpec.upto msgBackSpec)) msgBackUptoCard

/-- THE SECOND FORM's CARD OF 'skaldlaw20.MsgCuts'. -/
def msgCutsUptoCard : Claim7 := { stood := { row := msgCutsUptoRow, standIns := [], harness := (true, "4ab1632ef511e1542d84e73539993e5da09e04271f083e37bb4d6d8f2d04f8e7"), looks := false }, kinds := [], alts := [], laidByText := true, laidKinds := [.data, .data, .data, .data, .data], laidTests := true, laidLooks := .later }
def MsgCutsUptoCardSaid : Prop := Claim7.holds Tryz.pinned (.plain (OpenSpec.upto msgCutsSpec)) msgCutsUptoCard

/-- THE SECOND FORM's CARD OF 'skaldlaw20.MsgOnes'. -/
def msgOnesUptoCard : Claim7 := { stood := { row := msgOnesUptoRow, standIns := [], harness := (true, "4ab1632ef511e1542d84e73539993e5da09e04271f083e37bb4d6d8f2d04f8e7"), looks := false }, kinds := [], alts := [], laidByText := true, laidKinds := [.data, .data, .data, .data, .data], laidTests := true, laidLooks := .later }
def MsgOnesUptoCardSaid : Prop := Claim7.holds Tryz.pinned (.plain (OpenSpec.upto msgOnesSpec)) msgOnesUptoCard

/-- THE SECOND FORM's CARD OF 'skaldlaw20.MsgSizes'. -/
def msgSizesUptoCard : Claim7 := { stood := { row := msgSizesUptoRow, standIns := [], harness := (true, "4ab1632ef511e1542d84e73539993e5da09e04271f083e37bb4d6d8f2d04f8e7"), looks := false }, kinds := [], alts := [], laidByText := true, laidKinds := [.data, .data, .data, .data, .data], laidTests := true, laidLooks := .later }
def MsgSizesUptoCardSaid : Prop := Claim7.holds Tryz.pinned (.plain (OpenSpec.upto msgSizesSpec)) msgSizesUptoCard

/-- THE SECOND FORM's CARD OF 'skaldlaw20.MsgWrites'. -/
def msgWritesUptoCard : Claim7 := { stood := { row := msgWritesUptoRow, standIns := [], harness := (true, "4ab1632ef511e1542d84e73539993e5da09e04271f083e37bb4d6d8f2d04f8e7"), looks := false }, kinds := [], alts := [], laidByText := true, laidKinds := [.data, .data, .data, .data, .data], laidTests := true, laidLooks := .later }
def MsgWritesUptoCardSaid : Prop := Claim7.holds Tryz.pinned (.plain (OpenSpec.upto msgWritesSpec)) msgWritesUptoCard

/-- THE SECOND FORM's CARD OF 'skaldlaw20.MsgKnown'. -/
def msgKnownUptoCard : Claim7 := { stood := { row := msgKnownUptoRow, standIns := [], harness := (true, "4ab1632ef511e1542d84e73539993e5da09e04271f083e37bb4d6d8f2d04f8e7"), looks := false }, kinds := [], alts := [], laidByText := true, laidKinds := [.data, .data, .data, .data, .data], laidTests := true, laidLooks := .later }
def MsgKnownUptoCardSaid : Prop := Claim7.holds Tryz.pinned (.plain (OpenSpec.upto msgKnownSpec)) msgKnownUptoCard

/-- THE SECOND FORM's CARD OF 'skaldlaw20.MsgSames'. -/
def msgSamesUptoCard : Claim7 := { stood := { row := msgSamesUptoRow, standIns := [], harness := (true, "4ab1632ef511e1542d84e73539993e5da09e04271f083e37bb4d6d8f2d04f8e7"), looks := false }, kinds := [], alts := [], laidByText := true, laidKinds := [.data, .data, .data, .data, .data], laidTests := true, laidLooks := .later }
def MsgSamesUptoCardSaid : Prop := Claim7.holds Tryz.pinned (.plain (OpenSpec.upto msgSamesSpec)) msgSamesUptoCard

/-- THE SECOND FORM's CARD OF 'skaldlaw20.MsgFields'. -/
def msgFieldsUptoCard : Claim7 := { stood := { row := msgFieldsUptoRow, standIns := [], harness := (true, "4ab1632ef511e1542d84e73539993e5da09e04271f083e37bb4d6d8f2d04f8e7"), looks := false }, kinds := [], alts := [], laidByText := true, laidKinds := [.data, .data, .data, .data, .data], laidTests := true, laidLooks := .later }
def MsgFieldsUptoCardSaid : Prop := Claim7.holds Tryz.pinned (.plain (OpenSpec.upto msgFieldsSpec)) msgFieldsUptoCard
end Rows
end Go.Proofs.YtlinjanflenljaaGreatDoor
