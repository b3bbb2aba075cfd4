/-
  DERIVED. GIVEN WITH THE SEED: THE CARDS: each row of YthmkfbabacehnaaDoorRows.lean that lists a variable, with what it lists TIED to the program's text (the seventh form; the later family's looks); each row that meets fmt, with fmt's text TOLD by the authors' own Lean function (tested against real Go, not proved from fmt's source: count such statements apart). THE CARD IS WHAT COUNTS. Prove the row's statement (the work); the ties are given (YthmkfbabacehnaaDoorTie.lean); close each card by the builder's one call (the guide's Derived/Test/ToyasCard.lean, 'card_holds'). Laid BY PROGRAM, IN A SANDBOX (cutbox-door.mjs). By AI agents, Wed Nov 11 2026. No macro, syntax, notation, axiom, sorry.
-/
import Derived.Test.YthmkfbabacehnaaDoorRows
import GoSem.ClaimSeven
namespace Go.Proofs.YthmkfbabacehnaaDoor
namespace Rows

/-- THE TIED CARD OF 'skaldlaw30.EffectsAdd'. -/
def effectsAddCard : Claim7 := { stood := { row := effectsAddRow, standIns := [], harness := (true, "a27156eb13a7bcb60f604c90db393102473c2209e9f00c1ea486171e115cb4e9"), looks := false }, kinds := [], alts := [], laidByText := true, laidKinds := [.data, .data, .pinned], laidTests := true, laidLooks := .later }
def EffectsAddCardSaid : Prop := Claim7.holds Tryd.pinned (.plain (OpenSpec.ofChange effectsAddSpec)) effectsAddCard

/-- THE TIED CARD OF 'skaldlaw30.EffectsSums'. -/
def effectsSumsCard : Claim7 := { stood := { row := effectsSumsRow, standIns := [], harness := (true, "a27156eb13a7bcb60f604c90db393102473c2209e9f00c1ea486171e115cb4e9"), looks := false }, kinds := [], alts := [], laidByText := true, laidKinds := [.data, .data, .data, .pinned], laidTests := true, laidLooks := .later }
def EffectsSumsCardSaid : Prop := Claim7.holds Tryd.pinned (.plain (OpenSpec.ofChange effectsSumsSpec)) effectsSumsCard

/-- THE TIED CARD OF 'skaldlaw30.EffectsCounters'. -/
def effectsCountersCard : Claim7 := { stood := { row := effectsCountersRow, standIns := [], harness := (true, "a27156eb13a7bcb60f604c90db393102473c2209e9f00c1ea486171e115cb4e9"), looks := false }, kinds := [], alts := [], laidByText := true, laidKinds := [.data, .data, .data, .pinned], laidTests := true, laidLooks := .later }
def EffectsCountersCardSaid : Prop := Claim7.holds Tryd.pinned (.plain (OpenSpec.ofChange effectsCountersSpec)) effectsCountersCard

/-- THE SECOND FORM's CARD OF 'skaldlaw30.EffectsAdd'. -/
def effectsAddUptoCard : Claim7 := { stood := { row := effectsAddUptoRow, standIns := [], harness := (true, "a27156eb13a7bcb60f604c90db393102473c2209e9f00c1ea486171e115cb4e9"), looks := false }, kinds := [], alts := [], laidByText := true, laidKinds := [.data, .data, .pinned], laidTests := true, laidLooks := .later }
def EffectsAddUptoCardSaid : Prop := Claim7.holds Tryd.pinned (.plain (OpenSpec.upto effectsAddSpec)) effectsAddUptoCard

/-- THE SECOND FORM's CARD OF 'skaldlaw30.EffectsSums'. -/
def effectsSumsUptoCard : Claim7 := { stood := { row := effectsSumsUptoRow, standIns := [], harness := (true, "a27156eb13a7bcb60f604c90db393102473c2209e9f00c1ea486171e115cb4e9"), looks := false }, kinds := [], alts := [], laidByText := true, laidKinds := [.data, .data, .data, .pinned], laidTests := true, laidLooks := .later }
def EffectsSumsUptoCardSaid : Prop := Claim7.holds Tryd.pinned (.plain (OpenSpec.upto effectsSumsSpec)) effectsSumsUptoCard

/-- THE SECOND FORM's CARD OF 'skaldlaw30.EffectsCounters'. -/
def effectsCountersUptoCard : Claim7 := { stood := { row := effectsCountersUptoRow, standIns := [], harness := (true, "a27156eb13a7bcb60f604c90db393102473c2209e9f00c1ea486171e115cb4e9"), looks := false }, kinds := [], alts := [], laidByText := true, laidKinds := [.data, .data, .data, .pinned], laidTests := true, laidLooks := .later }
def EffectsCountersUptoCardSaid : Prop := Claim7.holds Tryd.pinned (.plain (OpenSpec.upto effectsCountersSpec)) effectsCountersUptoCard
end Rows
end Go.Proofs.YthmkfbabacehnaaDoor
