/-
  NARROWER THAN 'FOR EVERY INPUT', by the rows' own cells (each row's printed sentence says how): EffectsAdd: laid · EffectsSums: laid · EffectsCounters: laid.
  DERIVED. THE GIVEN ROWS OF THIS SEAT. 3 by the template 'for every input the law returns true; each argument reads behind the call as it read before'; 0 by the template 'total and deterministic' (their statements: YthmkfbabacehnaaDoorTotals.lean).
  GIVEN WITH THE SEED: the statements are not yours to turn. If you find one false, say at which input.
  Laid BY PROGRAM, IN A SANDBOX (cutbox-rows.mjs): the forced cells as the released guide's own fill.sh prints them over the translation fa40c089fe71010a… (all of the seat's roots in one cut). By AI agents, Wed Nov 11 2026. No macro, syntax, notation, axiom, sorry.
-/
import Derived.Test.YthmkfbabacehnaaDoorChecked
import GoSem.PinnedTables
import GoSem.Claim
import GoSem.ClaimJoined
import GoSem.ClaimMapViews
import Derived.JoinedTies
import Derived.KernelRfl
namespace Go.Proofs.YthmkfbabacehnaaDoor
/- THE CELL 'sum', in the pinned program and in every row, IS THE sha256 OF THE DUMP (.gsa) THAT YthmkfbabacehnaaDoorProg.lean LOADS. Nothing in Lean hashes anything: it is a label: what it is worth is what the hold of that sum in a sandbox is worth. -/
noncomputable def Tryd.pinned : Pinned := { name := "ythmkfbabacehnaadoor", sum := "fa40c089fe71010a5cba14b023443624b5f3ab5d300c289ebda8995f02a6ccc9", checked := Tryd.checked }
namespace Rows
def none {H : Type} : Left H := { results := [], args := [] }

/- WHAT THE LISTED PACKAGE-LEVEL VARIABLES READ AS WHEN THE CALL BEGINS. Each datum BY PROGRAM (the guide's laid-datum.mjs) off the statement by which the dump's own 'gosem.cut.vars' lays the variable. In a bare row this is a premise. The card (YthmkfbabacehnaaDoorCards.lean) ties it to the program's text. -/
def laid_unicode_utf8_acceptRanges {H : Type} : DataW H := .agg [.agg [.lit (.int .u8 128), .lit (.int .u8 191)], .agg [.lit (.int .u8 160), .lit (.int .u8 191)], .agg [.lit (.int .u8 128), .lit (.int .u8 159)], .agg [.lit (.int .u8 144), .lit (.int .u8 191)], .agg [.lit (.int .u8 128), .lit (.int .u8 143)], .agg [.lit (.int .u8 0), .lit (.int .u8 0)], .agg [.lit (.int .u8 0), .lit (.int .u8 0)], .agg [.lit (.int .u8 0), .lit (.int .u8 0)], .agg [.lit (.int .u8 0), .lit (.int .u8 0)], .agg [.lit (.int .u8 0), .lit (.int .u8 0)], .agg [.lit (.int .u8 0), .lit (.int .u8 0)], .agg [.lit (.int .u8 0), .lit (.int .u8 0)], .agg [.lit (.int .u8 0), .lit (.int .u8 0)], .agg [.lit (.int .u8 0), .lit (.int .u8 0)], .agg [.lit (.int .u8 0), .lit (.int .u8 0)], .agg [.lit (.int .u8 0), .lit (.int .u8 0)]]
def laid_skald_effects_adds {H : Type} : DataW H := .agg [.lit (.int .i64 0), .lit (.int .i64 1), .lit (.int .i64 (-1)), .lit (.int .i64 0)]
/-- One of Go's own tables, pinned by name: the form's constant. -/
def laid_unicode_utf8_first : DataW Unit := Go.Pinned.utf8First
def laid_skald_effects_holds {H : Type} : DataW H := .agg [.lit (.int .i64 0), .lit (.int .i64 1), .lit (.int .i64 (-1)), .lit (.int .i64 (-1))]

/-- 'skaldlaw30.EffectsAdd': WHATEVER THE INPUT: true; the input reads as it did. -/
def effectsAddSpec : ChangeSpec := { name := "effectsAdd", fn := fun _ => fun
  | [d1, d2, d3, d4] => { results := [.lit (.bool true)], args := [d1, d2, d3, d4] }
  | _ => none }
def effectsAddRow : OpenClaim := { program := "ythmkfbabacehnaadoor", sum := "fa40c089fe71010a5cba14b023443624b5f3ab5d300c289ebda8995f02a6ccc9", func := "skald/skaldlaw30.EffectsAdd", spec := "effectsAdd", inPlace := ["internal/bytealg.IndexByteString", "internal/bytealg.IndexString", "math/bits.Add64"], unfollowed := true, recurses := true, named := ["skald/effects.adds", "unicode/utf8.first", "unicode/utf8.acceptRanges", "internal/bytealg.MaxLen"], apart := false, laid := [("unicode/utf8.acceptRanges", laid_unicode_utf8_acceptRanges), ("skald/effects.adds", laid_skald_effects_adds), ("unicode/utf8.first", laid_unicode_utf8_first)] }
def EffectsAddSaid : Prop := effectsAddRow.holds Tryd.pinned (OpenSpec.ofChange effectsAddSpec)

/-- ITS FALSE NEIGHBOUR: 'it returns false'. Refute it at one input. -/
def effectsAddWrong : ChangeSpec := { name := "effectsAdd", fn := fun _ => fun
  | [d1, d2, d3, d4] => { results := [.lit (.bool false)], args := [d1, d2, d3, d4] }
  | _ => none }
def EffectsAddWrongFalsely : Prop := effectsAddRow.holds Tryd.pinned (OpenSpec.ofChange effectsAddWrong)

/-- 'skaldlaw30.EffectsSums': WHATEVER THE INPUT: true; the input reads as it did. -/
def effectsSumsSpec : ChangeSpec := { name := "effectsSums", fn := fun _ => fun
  | [d1, d2, d3] => { results := [.lit (.bool true)], args := [d1, d2, d3] }
  | _ => none }
def effectsSumsRow : OpenClaim := { program := "ythmkfbabacehnaadoor", sum := "fa40c089fe71010a5cba14b023443624b5f3ab5d300c289ebda8995f02a6ccc9", func := "skald/skaldlaw30.EffectsSums", spec := "effectsSums", inPlace := ["internal/bytealg.IndexByteString", "internal/bytealg.IndexString", "math/bits.Add64"], unfollowed := true, recurses := true, named := ["skald/effects.adds", "unicode/utf8.first", "unicode/utf8.acceptRanges", "skald/effects.holds", "internal/bytealg.MaxLen"], apart := false, laid := [("unicode/utf8.acceptRanges", laid_unicode_utf8_acceptRanges), ("skald/effects.adds", laid_skald_effects_adds), ("skald/effects.holds", laid_skald_effects_holds), ("unicode/utf8.first", laid_unicode_utf8_first)] }
def EffectsSumsSaid : Prop := effectsSumsRow.holds Tryd.pinned (OpenSpec.ofChange effectsSumsSpec)

/-- ITS FALSE NEIGHBOUR: 'it returns false'. Refute it at one input. -/
def effectsSumsWrong : ChangeSpec := { name := "effectsSums", fn := fun _ => fun
  | [d1, d2, d3] => { results := [.lit (.bool false)], args := [d1, d2, d3] }
  | _ => none }
def EffectsSumsWrongFalsely : Prop := effectsSumsRow.holds Tryd.pinned (OpenSpec.ofChange effectsSumsWrong)

/-- 'skaldlaw30.EffectsCounters': WHATEVER THE INPUT: true; the input reads as it did. -/
def effectsCountersSpec : ChangeSpec := { name := "effectsCounters", fn := fun _ => fun
  | [d1, d2, d3] => { results := [.lit (.bool true)], args := [d1, d2, d3] }
  | _ => none }
def effectsCountersRow : OpenClaim := { program := "ythmkfbabacehnaadoor", sum := "fa40c089fe71010a5cba14b023443624b5f3ab5d300c289ebda8995f02a6ccc9", func := "skald/skaldlaw30.EffectsCounters", spec := "effectsCounters", inPlace := ["internal/bytealg.IndexByteString", "internal/bytealg.IndexString", "math/bits.Add64"], unfollowed := true, recurses := true, named := ["skald/effects.adds", "unicode/utf8.first", "unicode/utf8.acceptRanges", "skald/effects.holds", "internal/bytealg.MaxLen"], apart := false, laid := [("unicode/utf8.acceptRanges", laid_unicode_utf8_acceptRanges), ("skald/effects.adds", laid_skald_effects_adds), ("skald/effects.holds", laid_skald_effects_holds), ("unicode/utf8.first", laid_unicode_utf8_first)] }
def EffectsCountersSaid : Prop := effectsCountersRow.holds Tryd.pinned (OpenSpec.ofChange effectsCountersSpec)

/-- ITS FALSE NEIGHBOUR: 'it returns false'. Refute it at one input. -/
def effectsCountersWrong : ChangeSpec := { name := "effectsCounters", fn := fun _ => fun
  | [d1, d2, d3] => { results := [.lit (.bool false)], args := [d1, d2, d3] }
  | _ => none }
def EffectsCountersWrongFalsely : Prop := effectsCountersRow.holds Tryd.pinned (OpenSpec.ofChange effectsCountersWrong)

/- THE SECOND FORM. 'bulk': how many values and letters a reading holds, each counted each time it is reached (what is shared counts as often as it is met; a slice's spare places count too). A statement '..UptoSaid' is the law's where the arguments, and the package variables that the reading takes, are together of bulk at most 1048576: NARROWER than '..Said'. Prove '..Said' where nothing that the law and all that it calls make is longer than what came in: it says more and counts as full. Else prove '..UptoSaid'. A law counts once. -/
mutual
def uptoBulk {H : Type} : DataW H → Nat
  | .lit (.string bytes) => bytes.length + 1
  | .lit _ => 1
  | .nil => 1
  | .ptr d => uptoBulk d + 1
  | .slice elems spare => uptoBulkAll elems + uptoBulkAll spare + 1
  | .agg parts => uptoBulkAll parts + 1
  | .iface _ d => uptoBulk d + 1
  | .map entries => uptoBulkEntries entries + 1
  | .held _ => 1
def uptoBulkAll {H : Type} : List (DataW H) → Nat
  | [] => 0
  | d :: r => uptoBulk d + uptoBulkAll r
def uptoBulkEntries {H : Type} : List (Lit × DataW H) → Nat
  | [] => 0
  | x :: r => uptoBulkEntry x + uptoBulkEntries r
def uptoBulkEntry {H : Type} : Lit × DataW H → Nat
  | (.string bytes, d) => bytes.length + uptoBulk d + 1
  | (_, d) => uptoBulk d + 1
 end
def uptoSmall : (H : Type) → List (DataW H) → Bool := fun _ ds => decide (uptoBulkAll ds ≤ 1048576)
def OpenSpec.upto (s : _root_.Go.ChangeSpec) : _root_.Go.OpenSpec := { _root_.Go.OpenSpec.ofChange s with cond := some uptoSmall }

/-- 'skaldlaw30.EffectsAdd', WHERE WHAT IT READS IS OF BULK AT MOST 1048576: true; the input reads as it did. -/
def effectsAddUptoRow : OpenClaim := { program := "ythmkfbabacehnaadoor", sum := "fa40c089fe71010a5cba14b023443624b5f3ab5d300c289ebda8995f02a6ccc9", func := "skald/skaldlaw30.EffectsAdd", spec := "effectsAdd", inPlace := ["internal/bytealg.IndexByteString", "internal/bytealg.IndexString", "math/bits.Add64"], unfollowed := true, recurses := true, named := ["skald/effects.adds", "unicode/utf8.first", "unicode/utf8.acceptRanges", "internal/bytealg.MaxLen"], apart := false, laid := [("unicode/utf8.acceptRanges", laid_unicode_utf8_acceptRanges), ("skald/effects.adds", laid_skald_effects_adds), ("unicode/utf8.first", laid_unicode_utf8_first)], narrowed := true }
def EffectsAddUptoSaid : Prop := effectsAddUptoRow.holds Tryd.pinned (OpenSpec.upto effectsAddSpec)

/-- 'skaldlaw30.EffectsSums', WHERE WHAT IT READS IS OF BULK AT MOST 1048576: true; the input reads as it did. -/
def effectsSumsUptoRow : OpenClaim := { program := "ythmkfbabacehnaadoor", sum := "fa40c089fe71010a5cba14b023443624b5f3ab5d300c289ebda8995f02a6ccc9", func := "skald/skaldlaw30.EffectsSums", spec := "effectsSums", inPlace := ["internal/bytealg.IndexByteString", "internal/bytealg.IndexString", "math/bits.Add64"], unfollowed := true, recurses := true, named := ["skald/effects.adds", "unicode/utf8.first", "unicode/utf8.acceptRanges", "skald/effects.holds", "internal/bytealg.MaxLen"], apart := false, laid := [("unicode/utf8.acceptRanges", laid_unicode_utf8_acceptRanges), ("skald/effects.adds", laid_skald_effects_adds), ("skald/effects.holds", laid_skald_effects_holds), ("unicode/utf8.first", laid_unicode_utf8_first)], narrowed := true }
def EffectsSumsUptoSaid : Prop := effectsSumsUptoRow.holds Tryd.pinned (OpenSpec.upto effectsSumsSpec)

/-- 'skaldlaw30.EffectsCounters', WHERE WHAT IT READS IS OF BULK AT MOST 1048576: true; the input reads as it did. -/
def effectsCountersUptoRow : OpenClaim := { program := "ythmkfbabacehnaadoor", sum := "fa40c089fe71010a5cba14b023443624b5f3ab5d300c289ebda8995f02a6ccc9", func := "skald/skaldlaw30.EffectsCounters", spec := "effectsCounters", inPlace := ["internal/bytealg.IndexByteString", "internal/bytealg.IndexString", "math/bits.Add64"], unfollowed := true, recurses := true, named := ["skald/effects.adds", "unicode/utf8.first", "unicode/utf8.acceptRanges", "skald/effects.holds", "internal/bytealg.MaxLen"], apart := false, laid := [("unicode/utf8.acceptRanges", laid_unicode_utf8_acceptRanges), ("skald/effects.adds", laid_skald_effects_adds), ("skald/effects.holds", laid_skald_effects_holds), ("unicode/utf8.first", laid_unicode_utf8_first)], narrowed := true }
def EffectsCountersUptoSaid : Prop := effectsCountersUptoRow.holds Tryd.pinned (OpenSpec.upto effectsCountersSpec)

end Rows
end Go.Proofs.YthmkfbabacehnaaDoor
