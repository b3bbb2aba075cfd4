/-
  No cell of these rows narrows 'for every input' (looked for: loops, veiled, ifaces, maps, wideKeys, modest, calm, conditions, laid).
  DERIVED. THE GIVEN ROWS OF THIS SEAT. 6 by the template 'for every input the law returns true; each argument reads behind the call as it read before'; 0 by the template 'total and deterministic' (their statements: YthmkfbabacehnaaTotals.lean).
  GIVEN WITH THE SEED: the statements are not yours to turn. If you find one false, say at which input.
  Laid BY PROGRAM, IN A SANDBOX (cutbox-rows.mjs): the forced cells as the released guide's own fill.sh prints them over the translation 6cf66d6b29f7021c… (all of the seat's roots in one cut). By AI agents, Wed Nov 11 2026. No macro, syntax, notation, axiom, sorry.
-/
import Derived.Test.YthmkfbabacehnaaChecked
import GoSem.Claim
import GoSem.ClaimJoined
import GoSem.ClaimMapViews
import Derived.JoinedTies
import Derived.KernelRfl
namespace Go.Proofs.Ythmkfbabacehnaa
/- THE CELL 'sum', in the pinned program and in every row, IS THE sha256 OF THE DUMP (.gsa) THAT YthmkfbabacehnaaProg.lean LOADS. Nothing in Lean hashes anything: it is a label: what it is worth is what the hold of that sum in a sandbox is worth. -/
noncomputable def Try.pinned : Pinned := { name := "ythmkfbabacehnaa", sum := "6cf66d6b29f7021c7869952c4edb4c2778501dae635762d03ff3a512e71a94fa", checked := Try.checked }
namespace Rows
def none {H : Type} : Left H := { results := [], args := [] }

/-- 'skaldlaw30.EffectsLegal': WHATEVER THE INPUT: true; the input reads as it did. -/
def effectsLegalSpec : ChangeSpec := { name := "effectsLegal", fn := fun _ => fun
  | [d1, d2] => { results := [.lit (.bool true)], args := [d1, d2] }
  | _ => none }
def effectsLegalRow : OpenClaim := { program := "ythmkfbabacehnaa", sum := "6cf66d6b29f7021c7869952c4edb4c2778501dae635762d03ff3a512e71a94fa", func := "skald/skaldlaw30.EffectsLegal", spec := "effectsLegal", unfollowed := true, recurses := true, apart := false }
def EffectsLegalSaid : Prop := effectsLegalRow.holds Try.pinned (OpenSpec.ofChange effectsLegalSpec)

/-- ITS FALSE NEIGHBOUR: 'it returns false'. Refute it at one input. -/
def effectsLegalWrong : ChangeSpec := { name := "effectsLegal", fn := fun _ => fun
  | [d1, d2] => { results := [.lit (.bool false)], args := [d1, d2] }
  | _ => none }
def EffectsLegalWrongFalsely : Prop := effectsLegalRow.holds Try.pinned (OpenSpec.ofChange effectsLegalWrong)

/-- 'skaldlaw30.EffectsAll': WHATEVER THE INPUT: true; the input reads as it did. -/
def effectsAllSpec : ChangeSpec := { name := "effectsAll", fn := fun _ => fun
  | [d] => { results := [.lit (.bool true)], args := [d] }
  | _ => none }
def effectsAllRow : OpenClaim := { program := "ythmkfbabacehnaa", sum := "6cf66d6b29f7021c7869952c4edb4c2778501dae635762d03ff3a512e71a94fa", func := "skald/skaldlaw30.EffectsAll", spec := "effectsAll", unfollowed := true, recurses := true, apart := false }
def EffectsAllSaid : Prop := effectsAllRow.holds Try.pinned (OpenSpec.ofChange effectsAllSpec)

/-- ITS FALSE NEIGHBOUR: 'it returns false'. Refute it at one input. -/
def effectsAllWrong : ChangeSpec := { name := "effectsAll", fn := fun _ => fun
  | [d] => { results := [.lit (.bool false)], args := [d] }
  | _ => none }
def EffectsAllWrongFalsely : Prop := effectsAllRow.holds Try.pinned (OpenSpec.ofChange effectsAllWrong)

/-- 'skaldlaw30.EffectsGrow': WHATEVER THE INPUT: true; the input reads as it did. -/
def effectsGrowSpec : ChangeSpec := { name := "effectsGrow", fn := fun _ => fun
  | [d1, d2, d3, d4, d5] => { results := [.lit (.bool true)], args := [d1, d2, d3, d4, d5] }
  | _ => none }
def effectsGrowRow : OpenClaim := { program := "ythmkfbabacehnaa", sum := "6cf66d6b29f7021c7869952c4edb4c2778501dae635762d03ff3a512e71a94fa", func := "skald/skaldlaw30.EffectsGrow", spec := "effectsGrow", unfollowed := true, recurses := true, apart := false }
def EffectsGrowSaid : Prop := effectsGrowRow.holds Try.pinned (OpenSpec.ofChange effectsGrowSpec)

/-- ITS FALSE NEIGHBOUR: 'it returns false'. Refute it at one input. -/
def effectsGrowWrong : ChangeSpec := { name := "effectsGrow", fn := fun _ => fun
  | [d1, d2, d3, d4, d5] => { results := [.lit (.bool false)], args := [d1, d2, d3, d4, d5] }
  | _ => none }
def EffectsGrowWrongFalsely : Prop := effectsGrowRow.holds Try.pinned (OpenSpec.ofChange effectsGrowWrong)

/-- 'skaldlaw30.EffectsEnds': WHATEVER THE INPUT: true; the input reads as it did. -/
def effectsEndsSpec : ChangeSpec := { name := "effectsEnds", fn := fun _ => fun
  | [d] => { results := [.lit (.bool true)], args := [d] }
  | _ => none }
def effectsEndsRow : OpenClaim := { program := "ythmkfbabacehnaa", sum := "6cf66d6b29f7021c7869952c4edb4c2778501dae635762d03ff3a512e71a94fa", func := "skald/skaldlaw30.EffectsEnds", spec := "effectsEnds", unfollowed := true, recurses := true, apart := false }
def EffectsEndsSaid : Prop := effectsEndsRow.holds Try.pinned (OpenSpec.ofChange effectsEndsSpec)

/-- ITS FALSE NEIGHBOUR: 'it returns false'. Refute it at one input. -/
def effectsEndsWrong : ChangeSpec := { name := "effectsEnds", fn := fun _ => fun
  | [d] => { results := [.lit (.bool false)], args := [d] }
  | _ => none }
def EffectsEndsWrongFalsely : Prop := effectsEndsRow.holds Try.pinned (OpenSpec.ofChange effectsEndsWrong)

/-- 'skaldlaw30.EffectsParts': WHATEVER THE INPUT: true; the input reads as it did. -/
def effectsPartsSpec : ChangeSpec := { name := "effectsParts", fn := fun _ => fun
  | [d1, d2] => { results := [.lit (.bool true)], args := [d1, d2] }
  | _ => none }
def effectsPartsRow : OpenClaim := { program := "ythmkfbabacehnaa", sum := "6cf66d6b29f7021c7869952c4edb4c2778501dae635762d03ff3a512e71a94fa", func := "skald/skaldlaw30.EffectsParts", spec := "effectsParts", unfollowed := true, recurses := true, apart := false }
def EffectsPartsSaid : Prop := effectsPartsRow.holds Try.pinned (OpenSpec.ofChange effectsPartsSpec)

/-- ITS FALSE NEIGHBOUR: 'it returns false'. Refute it at one input. -/
def effectsPartsWrong : ChangeSpec := { name := "effectsParts", fn := fun _ => fun
  | [d1, d2] => { results := [.lit (.bool false)], args := [d1, d2] }
  | _ => none }
def EffectsPartsWrongFalsely : Prop := effectsPartsRow.holds Try.pinned (OpenSpec.ofChange effectsPartsWrong)

/-- 'skaldlaw30.EffectsApart': WHATEVER THE INPUT: true; the input reads as it did. -/
def effectsApartSpec : ChangeSpec := { name := "effectsApart", fn := fun _ => fun
  | [d1, d2] => { results := [.lit (.bool true)], args := [d1, d2] }
  | _ => none }
def effectsApartRow : OpenClaim := { program := "ythmkfbabacehnaa", sum := "6cf66d6b29f7021c7869952c4edb4c2778501dae635762d03ff3a512e71a94fa", func := "skald/skaldlaw30.EffectsApart", spec := "effectsApart", unfollowed := true, recurses := true, apart := false }
def EffectsApartSaid : Prop := effectsApartRow.holds Try.pinned (OpenSpec.ofChange effectsApartSpec)

/-- ITS FALSE NEIGHBOUR: 'it returns false'. Refute it at one input. -/
def effectsApartWrong : ChangeSpec := { name := "effectsApart", fn := fun _ => fun
  | [d1, d2] => { results := [.lit (.bool false)], args := [d1, d2] }
  | _ => none }
def EffectsApartWrongFalsely : Prop := effectsApartRow.holds Try.pinned (OpenSpec.ofChange effectsApartWrong)

/- THE SECOND FORM. 'bulk': how many values and letters a reading holds, each counted each time it is reached (what is shared counts as often as it is met; a slice's spare places count too). A statement '..UptoSaid' is the law's where the arguments, and the package variables that the reading takes, are together of bulk at most 1048576: NARROWER than '..Said'. Prove '..Said' where nothing that the law and all that it calls make is longer than what came in: it says more and counts as full. Else prove '..UptoSaid'. A law counts once. -/
mutual
def uptoBulk {H : Type} : DataW H → Nat
  | .lit (.string bytes) => bytes.length + 1
  | .lit _ => 1
  | .nil => 1
  | .ptr d => uptoBulk d + 1
  | .slice elems spare => uptoBulkAll elems + uptoBulkAll spare + 1
  | .agg parts => uptoBulkAll parts + 1
  | .iface _ d => uptoBulk d + 1
  | .map entries => uptoBulkEntries entries + 1
  | .held _ => 1
def uptoBulkAll {H : Type} : List (DataW H) → Nat
  | [] => 0
  | d :: r => uptoBulk d + uptoBulkAll r
def uptoBulkEntries {H : Type} : List (Lit × DataW H) → Nat
  | [] => 0
  | x :: r => uptoBulkEntry x + uptoBulkEntries r
def uptoBulkEntry {H : Type} : Lit × DataW H → Nat
  | (.string bytes, d) => bytes.length + uptoBulk d + 1
  | (_, d) => uptoBulk d + 1
 end
def uptoSmall : (H : Type) → List (DataW H) → Bool := fun _ ds => decide (uptoBulkAll ds ≤ 1048576)
def OpenSpec.upto (s : _root_.Go.ChangeSpec) : _root_.Go.OpenSpec := { _root_.Go.OpenSpec.ofChange s with cond := some uptoSmall }

/-- 'skaldlaw30.EffectsLegal', WHERE WHAT IT READS IS OF BULK AT MOST 1048576: true; the input reads as it did. -/
def effectsLegalUptoRow : OpenClaim := { program := "ythmkfbabacehnaa", sum := "6cf66d6b29f7021c7869952c4edb4c2778501dae635762d03ff3a512e71a94fa", func := "skald/skaldlaw30.EffectsLegal", spec := "effectsLegal", unfollowed := true, recurses := true, apart := false, narrowed := true }
def EffectsLegalUptoSaid : Prop := effectsLegalUptoRow.holds Try.pinned (OpenSpec.upto effectsLegalSpec)

/-- 'skaldlaw30.EffectsAll', WHERE WHAT IT READS IS OF BULK AT MOST 1048576: true; the input reads as it did. -/
def effectsAllUptoRow : OpenClaim := { program := "ythmkfbabacehnaa", sum := "6cf66d6b29f7021c7869952c4edb4c2778501dae635762d03ff3a512e71a94fa", func := "skald/skaldlaw30.EffectsAll", spec := "effectsAll", unfollowed := true, recurses := true, apart := false, narrowed := true }
def EffectsAllUptoSaid : Prop := effectsAllUptoRow.holds Try.pinned (OpenSpec.upto effectsAllSpec)

/-- 'skaldlaw30.EffectsGrow', WHERE WHAT IT READS IS OF BULK AT MOST 1048576: true; the input reads as it did. -/
def effectsGrowUptoRow : OpenClaim := { program := "ythmkfbabacehnaa", sum := "6cf66d6b29f7021c7869952c4edb4c2778501dae635762d03ff3a512e71a94fa", func := "skald/skaldlaw30.EffectsGrow", spec := "effectsGrow", unfollowed := true, recurses := true, apart := false, narrowed := true }
def EffectsGrowUptoSaid : Prop := effectsGrowUptoRow.holds Try.pinned (OpenSpec.upto effectsGrowSpec)

/-- 'skaldlaw30.EffectsEnds', WHERE WHAT IT READS IS OF BULK AT MOST 1048576: true; the input reads as it did. -/
def effectsEndsUptoRow : OpenClaim := { program := "ythmkfbabacehnaa", sum := "6cf66d6b29f7021c7869952c4edb4c2778501dae635762d03ff3a512e71a94fa", func := "skald/skaldlaw30.EffectsEnds", spec := "effectsEnds", unfollowed := true, recurses := true, apart := false, narrowed := true }
def EffectsEndsUptoSaid : Prop := effectsEndsUptoRow.holds Try.pinned (OpenSpec.upto effectsEndsSpec)

/-- 'skaldlaw30.EffectsParts', WHERE WHAT IT READS IS OF BULK AT MOST 1048576: true; the input reads as it did. -/
def effectsPartsUptoRow : OpenClaim := { program := "ythmkfbabacehnaa", sum := "6cf66d6b29f7021c7869952c4edb4c2778501dae635762d03ff3a512e71a94fa", func := "skald/skaldlaw30.EffectsParts", spec := "effectsParts", unfollowed := true, recurses := true, apart := false, narrowed := true }
def EffectsPartsUptoSaid : Prop := effectsPartsUptoRow.holds Try.pinned (OpenSpec.upto effectsPartsSpec)

/-- 'skaldlaw30.EffectsApart', WHERE WHAT IT READS IS OF BULK AT MOST 1048576: true; the input reads as it did. -/
def effectsApartUptoRow : OpenClaim := { program := "ythmkfbabacehnaa", sum := "6cf66d6b29f7021c7869952c4edb4c2778501dae635762d03ff3a512e71a94fa", func := "skald/skaldlaw30.EffectsApart", spec := "effectsApart", unfollowed := true, recurses := true, apart := false, narrowed := true }
def EffectsApartUptoSaid : Prop := effectsApartUptoRow.holds Try.pinned (OpenSpec.upto effectsApartSpec)

end Rows
end Go.Proofs.Ythmkfbabacehnaa
