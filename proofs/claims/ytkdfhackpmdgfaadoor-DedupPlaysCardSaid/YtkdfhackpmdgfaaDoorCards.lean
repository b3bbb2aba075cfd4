/-
  DERIVED. GIVEN WITH THE SEED: THE CARDS: each row of YtkdfhackpmdgfaaDoorRows.lean that lists a variable, with what it lists TIED to the program's text (the seventh form; the later family's looks); each row that meets fmt, with fmt's text TOLD by the authors' own Lean function (tested against real Go, not proved from fmt's source: count such statements apart). THE CARD IS WHAT COUNTS. Prove the row's statement (the work); the ties are given (YtkdfhackpmdgfaaDoorTie.lean); close each card by the builder's one call (the guide's Derived/Test/ToyasCard.lean, 'card_holds'). Laid BY PROGRAM, IN A SANDBOX (cutbox-door.mjs). By AI agents, Wed Nov 11 2026. No macro, syntax, notation, axiom, sorry.
-/
import Derived.Test.YtkdfhackpmdgfaaDoorRows
import GoSem.ClaimSeven
namespace Go.Proofs.YtkdfhackpmdgfaaDoor
namespace Rows

/-- THE TIED CARD OF 'skaldlaw09.DedupSizes'. -/
def dedupSizesCard : Claim7 := { stood := { row := dedupSizesRow, standIns := [], harness := (true, "43cf460c55a3ca9fd49ca2f72f7fe89e5ddef31596d21ad0beda4732b4cf7399"), looks := false }, kinds := [], alts := [], laidByText := true, laidKinds := [.data, .pinned], laidTests := true, laidLooks := .later }
def DedupSizesCardSaid : Prop := Claim7.holds Tryd.pinned (.plain (OpenSpec.ofChange dedupSizesSpec)) dedupSizesCard

/-- THE TIED CARD OF 'skaldlaw09.DedupPlays'. -/
def dedupPlaysCard : Claim7 := { stood := { row := dedupPlaysRow, standIns := [], harness := (true, "43cf460c55a3ca9fd49ca2f72f7fe89e5ddef31596d21ad0beda4732b4cf7399"), looks := false }, kinds := [], alts := [], laidByText := true, laidKinds := [.data, .pinned], laidTests := true, laidLooks := .later }
def DedupPlaysCardSaid : Prop := Claim7.holds Tryd.pinned (.plain (OpenSpec.ofChange dedupPlaysSpec)) dedupPlaysCard

/-- THE TIED CARD OF 'skaldlaw09.DedupNil'. -/
def dedupNilCard : Claim7 := { stood := { row := dedupNilRow, standIns := [], harness := (true, "43cf460c55a3ca9fd49ca2f72f7fe89e5ddef31596d21ad0beda4732b4cf7399"), looks := false }, kinds := [], alts := [], laidByText := true, laidKinds := [.data, .pinned], laidTests := true, laidLooks := .later }
def DedupNilCardSaid : Prop := Claim7.holds Tryd.pinned (.plain (OpenSpec.ofChange dedupNilSpec)) dedupNilCard

/-- THE TIED CARD OF 'skaldlaw09.DedupRefuses'. -/
def dedupRefusesCard : Claim7 := { stood := { row := dedupRefusesRow, standIns := [], harness := (true, "43cf460c55a3ca9fd49ca2f72f7fe89e5ddef31596d21ad0beda4732b4cf7399"), looks := false }, kinds := [], alts := [], laidByText := true, laidKinds := [.data, .pinned], laidTests := true, laidLooks := .later }
def DedupRefusesCardSaid : Prop := Claim7.holds Tryd.pinned (.plain (OpenSpec.ofChange dedupRefusesSpec)) dedupRefusesCard

/-- THE TIED CARD OF 'skaldlaw09.DedupLong'. -/
def dedupLongCard : Claim7 := { stood := { row := dedupLongRow, standIns := [], harness := (true, "43cf460c55a3ca9fd49ca2f72f7fe89e5ddef31596d21ad0beda4732b4cf7399"), looks := false }, kinds := [], alts := [], laidByText := true, laidKinds := [.data, .pinned], laidTests := true, laidLooks := .later }
def DedupLongCardSaid : Prop := Claim7.holds Tryd.pinned (.plain (OpenSpec.ofChange dedupLongSpec)) dedupLongCard

/-- THE TIED CARD OF 'skaldlaw09.DedupOnce'. -/
def dedupOnceCard : Claim7 := { stood := { row := dedupOnceRow, standIns := [], harness := (true, "43cf460c55a3ca9fd49ca2f72f7fe89e5ddef31596d21ad0beda4732b4cf7399"), looks := false }, kinds := [], alts := [], laidByText := true, laidKinds := [.data, .pinned], laidTests := true, laidLooks := .later }
def DedupOnceCardSaid : Prop := Claim7.holds Tryd.pinned (.plain (OpenSpec.ofChange dedupOnceSpec)) dedupOnceCard

/-- THE TIED CARD OF 'skaldlaw09.DedupTakes'. -/
def dedupTakesCard : Claim7 := { stood := { row := dedupTakesRow, standIns := [], harness := (true, "43cf460c55a3ca9fd49ca2f72f7fe89e5ddef31596d21ad0beda4732b4cf7399"), looks := false }, kinds := [], alts := [], laidByText := true, laidKinds := [.data, .pinned], laidTests := true, laidLooks := .later }
def DedupTakesCardSaid : Prop := Claim7.holds Tryd.pinned (.plain (OpenSpec.ofChange dedupTakesSpec)) dedupTakesCard

/-- THE SECOND FORM's CARD OF 'skaldlaw09.DedupSizes'. -/
def dedupSizesUptoCard : Claim7 := { stood := { row := dedupSizesUptoRow, standIns := [], harness := (true, "43cf460c55a3ca9fd49ca2f72f7fe89e5ddef31596d21ad0beda4732b4cf7399"), looks := false }, kinds := [], alts := [], laidByText := true, laidKinds := [.data, .pinned], laidTests := true, laidLooks := .later }
def DedupSizesUptoCardSaid : Prop := Claim7.holds Tryd.pinned (.plain (OpenSpec.upto dedupSizesSpec)) dedupSizesUptoCard

/-- THE SECOND FORM's CARD OF 'skaldlaw09.DedupPlays'. -/
def dedupPlaysUptoCard : Claim7 := { stood := { row := dedupPlaysUptoRow, standIns := [], harness := (true, "43cf460c55a3ca9fd49ca2f72f7fe89e5ddef31596d21ad0beda4732b4cf7399"), looks := false }, kinds := [], alts := [], laidByText := true, laidKinds := [.data, .pinned], laidTests := true, laidLooks := .later }
def DedupPlaysUptoCardSaid : Prop := Claim7.holds Tryd.pinned (.plain (OpenSpec.upto dedupPlaysSpec)) dedupPlaysUptoCard

/-- THE SECOND FORM's CARD OF 'skaldlaw09.DedupNil'. -/
def dedupNilUptoCard : Claim7 := { stood := { row := dedupNilUptoRow, standIns := [], harness := (true, "43cf460c55a3ca9fd49ca2f72f7fe89e5ddef31596d21ad0beda4732b4cf7399"), looks := false }, kinds := [], alts := [], laidByText := true, laidKinds := [.data, .pinned], laidTests := true, laidLooks := .later }
def DedupNilUptoCardSaid : Prop := Claim7.holds Tryd.pinned (.plain (OpenSpec.upto dedupNilSpec)) dedupNilUptoCard

/-- THE SECOND FORM's CARD OF 'skaldlaw09.DedupRefuses'. -/
def dedupRefusesUptoCard : Claim7 := { stood := { row := dedupRefusesUptoRow, standIns := [], harness := (true, "43cf460c55a3ca9fd49ca2f72f7fe89e5ddef31596d21ad0beda4732b4cf7399"), looks := false }, kinds := [], alts := [], laidByText := true, laidKinds := [.data, .pinned], laidTests := true, laidLooks := .later }
def DedupRefusesUptoCardSaid : Prop := Claim7.holds Tryd.pinned (.plain (OpenSpec.upto dedupRefusesSpec)) dedupRefusesUptoCard

/-- THE SECOND FORM's CARD OF 'skaldlaw09.DedupLong'. -/
def dedupLongUptoCard : Claim7 := { stood := { row := dedupLongUptoRow, standIns := [], harness := (true, "43cf460c55a3ca9fd49ca2f72f7fe89e5ddef31596d21ad0beda4732b4cf7399"), looks := false }, kinds := [], alts := [], laidByText := true, laidKinds := [.data, .pinned], laidTests := true, laidLooks := .later }
def DedupLongUptoCardSaid : Prop := Claim7.holds Tryd.pinned (.plain (OpenSpec.upto dedupLongSpec)) dedupLongUptoCard

/-- THE SECOND FORM's CARD OF 'skaldlaw09.DedupOnce'. -/
def dedupOnceUptoCard : Claim7 := { stood := { row := dedupOnceUptoRow, standIns := [], harness := (true, "43cf460c55a3ca9fd49ca2f72f7fe89e5ddef31596d21ad0beda4732b4cf7399"), looks := false }, kinds := [], alts := [], laidByText := true, laidKinds := [.data, .pinned], laidTests := true, laidLooks := .later }
def DedupOnceUptoCardSaid : Prop := Claim7.holds Tryd.pinned (.plain (OpenSpec.upto dedupOnceSpec)) dedupOnceUptoCard

/-- THE SECOND FORM's CARD OF 'skaldlaw09.DedupTakes'. -/
def dedupTakesUptoCard : Claim7 := { stood := { row := dedupTakesUptoRow, standIns := [], harness := (true, "43cf460c55a3ca9fd49ca2f72f7fe89e5ddef31596d21ad0beda4732b4cf7399"), looks := false }, kinds := [], alts := [], laidByText := true, laidKinds := [.data, .pinned], laidTests := true, laidLooks := .later }
def DedupTakesUptoCardSaid : Prop := Claim7.holds Tryd.pinned (.plain (OpenSpec.upto dedupTakesSpec)) dedupTakesUptoCard
end Rows
end Go.Proofs.YtkdfhackpmdgfaaDoor
