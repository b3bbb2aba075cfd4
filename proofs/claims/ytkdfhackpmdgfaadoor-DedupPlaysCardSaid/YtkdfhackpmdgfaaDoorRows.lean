/-
  NARROWER THAN 'FOR EVERY INPUT', by the rows' own cells (each row's printed sentence says how): DedupSizes: laid · DedupPlays: laid · DedupNil: laid · DedupRefuses: laid · DedupLong: laid · DedupOnce: laid · DedupTakes: laid.
  DERIVED. THE GIVEN ROWS OF THIS SEAT. 7 by the template 'for every input the law returns true; each argument reads behind the call as it read before'; 0 by the template 'total and deterministic' (their statements: YtkdfhackpmdgfaaDoorTotals.lean).
  GIVEN WITH THE SEED: the statements are not yours to turn. If you find one false, say at which input.
  Laid BY PROGRAM, IN A SANDBOX (cutbox-rows.mjs): the forced cells as the released guide's own fill.sh prints them over the translation 61a1c2b12a306f28… (all of the seat's roots in one cut). By AI agents, Wed Nov 11 2026. No macro, syntax, notation, axiom, sorry.
-/
import Derived.Test.YtkdfhackpmdgfaaDoorChecked
import GoSem.PinnedTables
import GoSem.Claim
import GoSem.ClaimJoined
import GoSem.ClaimMapViews
import Derived.JoinedTies
import Derived.KernelRfl
namespace Go.Proofs.YtkdfhackpmdgfaaDoor
/- THE CELL 'sum', in the pinned program and in every row, IS THE sha256 OF THE DUMP (.gsa) THAT YtkdfhackpmdgfaaDoorProg.lean LOADS. Nothing in Lean hashes anything: it is a label: what it is worth is what the hold of that sum in a sandbox is worth. -/
noncomputable def Tryd.pinned : Pinned := { name := "ytkdfhackpmdgfaadoor", sum := "61a1c2b12a306f2815a9e548c069f5b14280433662651d0301cd5b3d4eefea6a", checked := Tryd.checked }
namespace Rows
def none {H : Type} : Left H := { results := [], args := [] }

/- WHAT THE LISTED PACKAGE-LEVEL VARIABLES READ AS WHEN THE CALL BEGINS. Each datum BY PROGRAM (the guide's laid-datum.mjs) off the statement by which the dump's own 'gosem.cut.vars' lays the variable. In a bare row this is a premise. The card (YtkdfhackpmdgfaaDoorCards.lean) ties it to the program's text. -/
def laid_unicode_utf8_acceptRanges {H : Type} : DataW H := .agg [.agg [.lit (.int .u8 128), .lit (.int .u8 191)], .agg [.lit (.int .u8 160), .lit (.int .u8 191)], .agg [.lit (.int .u8 128), .lit (.int .u8 159)], .agg [.lit (.int .u8 144), .lit (.int .u8 191)], .agg [.lit (.int .u8 128), .lit (.int .u8 143)], .agg [.lit (.int .u8 0), .lit (.int .u8 0)], .agg [.lit (.int .u8 0), .lit (.int .u8 0)], .agg [.lit (.int .u8 0), .lit (.int .u8 0)], .agg [.lit (.int .u8 0), .lit (.int .u8 0)], .agg [.lit (.int .u8 0), .lit (.int .u8 0)], .agg [.lit (.int .u8 0), .lit (.int .u8 0)], .agg [.lit (.int .u8 0), .lit (.int .u8 0)], .agg [.lit (.int .u8 0), .lit (.int .u8 0)], .agg [.lit (.int .u8 0), .lit (.int .u8 0)], .agg [.lit (.int .u8 0), .lit (.int .u8 0)], .agg [.lit (.int .u8 0), .lit (.int .u8 0)]]
/-- One of Go's own tables, pinned by name: the form's constant. -/
def laid_unicode_utf8_first : DataW Unit := Go.Pinned.utf8First

/-- 'skaldlaw09.DedupSizes': WHATEVER THE INPUT: true; the input reads as it did. -/
def dedupSizesSpec : ChangeSpec := { name := "dedupSizes", fn := fun _ => fun
  | [d1, d2, d3] => { results := [.lit (.bool true)], args := [d1, d2, d3] }
  | _ => none }
def dedupSizesRow : OpenClaim := { program := "ytkdfhackpmdgfaadoor", sum := "61a1c2b12a306f2815a9e548c069f5b14280433662651d0301cd5b3d4eefea6a", func := "skald/skaldlaw09.DedupSizes", spec := "dedupSizes", inPlace := ["internal/bytealg.IndexByteString", "internal/bytealg.IndexString", "slices.overlaps[skald/dedup.entry]"], unfollowed := true, recurses := true, named := ["unicode/utf8.first", "unicode/utf8.acceptRanges", "internal/bytealg.MaxLen"], plainKeys := false, apart := false, laid := [("unicode/utf8.acceptRanges", laid_unicode_utf8_acceptRanges), ("unicode/utf8.first", laid_unicode_utf8_first)] }
def DedupSizesSaid : Prop := dedupSizesRow.holds Tryd.pinned (OpenSpec.ofChange dedupSizesSpec)

/-- ITS FALSE NEIGHBOUR: 'it returns false'. Refute it at one input. -/
def dedupSizesWrong : ChangeSpec := { name := "dedupSizes", fn := fun _ => fun
  | [d1, d2, d3] => { results := [.lit (.bool false)], args := [d1, d2, d3] }
  | _ => none }
def DedupSizesWrongFalsely : Prop := dedupSizesRow.holds Tryd.pinned (OpenSpec.ofChange dedupSizesWrong)

/-- 'skaldlaw09.DedupPlays': WHATEVER THE INPUT: true; the input reads as it did. -/
def dedupPlaysSpec : ChangeSpec := { name := "dedupPlays", fn := fun _ => fun
  | [d1, d2, d3] => { results := [.lit (.bool true)], args := [d1, d2, d3] }
  | _ => none }
def dedupPlaysRow : OpenClaim := { program := "ytkdfhackpmdgfaadoor", sum := "61a1c2b12a306f2815a9e548c069f5b14280433662651d0301cd5b3d4eefea6a", func := "skald/skaldlaw09.DedupPlays", spec := "dedupPlays", inPlace := ["internal/bytealg.IndexByteString", "internal/bytealg.IndexString", "slices.overlaps[skald/dedup.entry]"], unfollowed := true, recurses := true, named := ["unicode/utf8.first", "unicode/utf8.acceptRanges", "internal/bytealg.MaxLen"], plainKeys := false, apart := false, laid := [("unicode/utf8.acceptRanges", laid_unicode_utf8_acceptRanges), ("unicode/utf8.first", laid_unicode_utf8_first)] }
def DedupPlaysSaid : Prop := dedupPlaysRow.holds Tryd.pinned (OpenSpec.ofChange dedupPlaysSpec)

/-- ITS FALSE NEIGHBOUR: 'it returns false'. Refute it at one input. -/
def dedupPlaysWrong : ChangeSpec := { name := "dedupPlays", fn := fun _ => fun
  | [d1, d2, d3] => { results := [.lit (.bool false)], args := [d1, d2, d3] }
  | _ => none }
def DedupPlaysWrongFalsely : Prop := dedupPlaysRow.holds Tryd.pinned (OpenSpec.ofChange dedupPlaysWrong)

/-- 'skaldlaw09.DedupNil': WHATEVER THE INPUT: true; the input reads as it did. -/
def dedupNilSpec : ChangeSpec := { name := "dedupNil", fn := fun _ => fun
  | [d1, d2] => { results := [.lit (.bool true)], args := [d1, d2] }
  | _ => none }
def dedupNilRow : OpenClaim := { program := "ytkdfhackpmdgfaadoor", sum := "61a1c2b12a306f2815a9e548c069f5b14280433662651d0301cd5b3d4eefea6a", func := "skald/skaldlaw09.DedupNil", spec := "dedupNil", inPlace := ["internal/bytealg.IndexByteString", "internal/bytealg.IndexString", "slices.overlaps[skald/dedup.entry]"], unfollowed := true, recurses := true, named := ["unicode/utf8.first", "unicode/utf8.acceptRanges", "internal/bytealg.MaxLen"], plainKeys := false, apart := false, laid := [("unicode/utf8.acceptRanges", laid_unicode_utf8_acceptRanges), ("unicode/utf8.first", laid_unicode_utf8_first)] }
def DedupNilSaid : Prop := dedupNilRow.holds Tryd.pinned (OpenSpec.ofChange dedupNilSpec)

/-- ITS FALSE NEIGHBOUR: 'it returns false'. Refute it at one input. -/
def dedupNilWrong : ChangeSpec := { name := "dedupNil", fn := fun _ => fun
  | [d1, d2] => { results := [.lit (.bool false)], args := [d1, d2] }
  | _ => none }
def DedupNilWrongFalsely : Prop := dedupNilRow.holds Tryd.pinned (OpenSpec.ofChange dedupNilWrong)

/-- 'skaldlaw09.DedupRefuses': WHATEVER THE INPUT: true; the input reads as it did. -/
def dedupRefusesSpec : ChangeSpec := { name := "dedupRefuses", fn := fun _ => fun
  | [d1, d2, d3] => { results := [.lit (.bool true)], args := [d1, d2, d3] }
  | _ => none }
def dedupRefusesRow : OpenClaim := { program := "ytkdfhackpmdgfaadoor", sum := "61a1c2b12a306f2815a9e548c069f5b14280433662651d0301cd5b3d4eefea6a", func := "skald/skaldlaw09.DedupRefuses", spec := "dedupRefuses", inPlace := ["internal/abi.NoEscape", "internal/bytealg.MakeNoZero", "internal/bytealg.IndexByteString", "internal/bytealg.IndexString", "slices.overlaps[skald/dedup.entry]"], unfollowed := true, recurses := true, named := ["unicode/utf8.first", "unicode/utf8.acceptRanges", "internal/bytealg.MaxLen"], plainKeys := false, apart := false, laid := [("unicode/utf8.acceptRanges", laid_unicode_utf8_acceptRanges), ("unicode/utf8.first", laid_unicode_utf8_first)] }
def DedupRefusesSaid : Prop := dedupRefusesRow.holds Tryd.pinned (OpenSpec.ofChange dedupRefusesSpec)

/-- ITS FALSE NEIGHBOUR: 'it returns false'. Refute it at one input. -/
def dedupRefusesWrong : ChangeSpec := { name := "dedupRefuses", fn := fun _ => fun
  | [d1, d2, d3] => { results := [.lit (.bool false)], args := [d1, d2, d3] }
  | _ => none }
def DedupRefusesWrongFalsely : Prop := dedupRefusesRow.holds Tryd.pinned (OpenSpec.ofChange dedupRefusesWrong)

/-- 'skaldlaw09.DedupLong': WHATEVER THE INPUT: true; the input reads as it did. -/
def dedupLongSpec : ChangeSpec := { name := "dedupLong", fn := fun _ => fun
  | [d] => { results := [.lit (.bool true)], args := [d] }
  | _ => none }
def dedupLongRow : OpenClaim := { program := "ytkdfhackpmdgfaadoor", sum := "61a1c2b12a306f2815a9e548c069f5b14280433662651d0301cd5b3d4eefea6a", func := "skald/skaldlaw09.DedupLong", spec := "dedupLong", inPlace := ["internal/abi.NoEscape", "internal/bytealg.MakeNoZero", "internal/bytealg.IndexByteString", "internal/bytealg.IndexString", "slices.overlaps[skald/dedup.entry]"], unfollowed := true, recurses := true, named := ["unicode/utf8.first", "unicode/utf8.acceptRanges", "internal/bytealg.MaxLen"], plainKeys := false, apart := false, laid := [("unicode/utf8.acceptRanges", laid_unicode_utf8_acceptRanges), ("unicode/utf8.first", laid_unicode_utf8_first)] }
def DedupLongSaid : Prop := dedupLongRow.holds Tryd.pinned (OpenSpec.ofChange dedupLongSpec)

/-- ITS FALSE NEIGHBOUR: 'it returns false'. Refute it at one input. -/
def dedupLongWrong : ChangeSpec := { name := "dedupLong", fn := fun _ => fun
  | [d] => { results := [.lit (.bool false)], args := [d] }
  | _ => none }
def DedupLongWrongFalsely : Prop := dedupLongRow.holds Tryd.pinned (OpenSpec.ofChange dedupLongWrong)

/-- 'skaldlaw09.DedupOnce': WHATEVER THE INPUT: true; the input reads as it did. -/
def dedupOnceSpec : ChangeSpec := { name := "dedupOnce", fn := fun _ => fun
  | [d1, d2] => { results := [.lit (.bool true)], args := [d1, d2] }
  | _ => none }
def dedupOnceRow : OpenClaim := { program := "ytkdfhackpmdgfaadoor", sum := "61a1c2b12a306f2815a9e548c069f5b14280433662651d0301cd5b3d4eefea6a", func := "skald/skaldlaw09.DedupOnce", spec := "dedupOnce", inPlace := ["internal/abi.NoEscape", "internal/bytealg.MakeNoZero", "internal/bytealg.IndexByteString", "internal/bytealg.IndexString", "slices.overlaps[skald/dedup.entry]"], unfollowed := true, recurses := true, named := ["unicode/utf8.first", "unicode/utf8.acceptRanges", "internal/bytealg.MaxLen"], plainKeys := false, apart := false, laid := [("unicode/utf8.acceptRanges", laid_unicode_utf8_acceptRanges), ("unicode/utf8.first", laid_unicode_utf8_first)] }
def DedupOnceSaid : Prop := dedupOnceRow.holds Tryd.pinned (OpenSpec.ofChange dedupOnceSpec)

/-- ITS FALSE NEIGHBOUR: 'it returns false'. Refute it at one input. -/
def dedupOnceWrong : ChangeSpec := { name := "dedupOnce", fn := fun _ => fun
  | [d1, d2] => { results := [.lit (.bool false)], args := [d1, d2] }
  | _ => none }
def DedupOnceWrongFalsely : Prop := dedupOnceRow.holds Tryd.pinned (OpenSpec.ofChange dedupOnceWrong)

/-- 'skaldlaw09.DedupTakes': WHATEVER THE INPUT: true; the input reads as it did. -/
def dedupTakesSpec : ChangeSpec := { name := "dedupTakes", fn := fun _ => fun
  | [d1, d2, d3] => { results := [.lit (.bool true)], args := [d1, d2, d3] }
  | _ => none }
def dedupTakesRow : OpenClaim := { program := "ytkdfhackpmdgfaadoor", sum := "61a1c2b12a306f2815a9e548c069f5b14280433662651d0301cd5b3d4eefea6a", func := "skald/skaldlaw09.DedupTakes", spec := "dedupTakes", inPlace := ["internal/abi.NoEscape", "internal/bytealg.MakeNoZero", "internal/bytealg.IndexByteString", "internal/bytealg.IndexString", "slices.overlaps[skald/dedup.entry]"], unfollowed := true, recurses := true, named := ["unicode/utf8.first", "unicode/utf8.acceptRanges", "internal/bytealg.MaxLen"], plainKeys := false, apart := false, laid := [("unicode/utf8.acceptRanges", laid_unicode_utf8_acceptRanges), ("unicode/utf8.first", laid_unicode_utf8_first)] }
def DedupTakesSaid : Prop := dedupTakesRow.holds Tryd.pinned (OpenSpec.ofChange dedupTakesSpec)

/-- ITS FALSE NEIGHBOUR: 'it returns false'. Refute it at one input. -/
def dedupTakesWrong : ChangeSpec := { name := "dedupTakes", fn := fun _ => fun
  | [d1, d2, d3] => { results := [.lit (.bool false)], args := [d1, d2, d3] }
  | _ => none }
def DedupTakesWrongFalsely : Prop := dedupTakesRow.holds Tryd.pinned (OpenSpec.ofChange dedupTakesWrong)

/- THE SECOND FORM. 'bulk': how many values and letters a reading holds, each counted each time it is reached (what is shared counts as often as it is met; a slice's spare places count too). A statement '..UptoSaid' is the law's where the arguments, and the package variables that the reading takes, are together of bulk at most 1048576: NARROWER than '..Said'. Prove '..Said' where nothing that the law and all that it calls make is longer than what came in: it says more and counts as full. Else prove '..UptoSaid'. A law counts once. -/
mutual
def uptoBulk {H : Type} : DataW H → Nat
  | .lit (.string bytes) => bytes.length + 1
  | .lit _ => 1
  | .nil => 1
  | .ptr d => uptoBulk d + 1
  | .slice elems spare => uptoBulkAll elems + uptoBulkAll spare + 1
  | .agg parts => uptoBulkAll parts + 1
  | .iface _ d => uptoBulk d + 1
  | .map entries => uptoBulkEntries entries + 1
  | .held _ => 1
def uptoBulkAll {H : Type} : List (DataW H) → Nat
  | [] => 0
  | d :: r => uptoBulk d + uptoBulkAll r
def uptoBulkEntries {H : Type} : List (Lit × DataW H) → Nat
  | [] => 0
  | x :: r => uptoBulkEntry x + uptoBulkEntries r
def uptoBulkEntry {H : Type} : Lit × DataW H → Nat
  | (.string bytes, d) => bytes.length + uptoBulk d + 1
  | (_, d) => uptoBulk d + 1
 end
def uptoSmall : (H : Type) → List (DataW H) → Bool := fun _ ds => decide (uptoBulkAll ds ≤ 1048576)
def OpenSpec.upto (s : _root_.Go.ChangeSpec) : _root_.Go.OpenSpec := { _root_.Go.OpenSpec.ofChange s with cond := some uptoSmall }

/-- 'skaldlaw09.DedupSizes', WHERE WHAT IT READS IS OF BULK AT MOST 1048576: true; the input reads as it did. -/
def dedupSizesUptoRow : OpenClaim := { program := "ytkdfhackpmdgfaadoor", sum := "61a1c2b12a306f2815a9e548c069f5b14280433662651d0301cd5b3d4eefea6a", func := "skald/skaldlaw09.DedupSizes", spec := "dedupSizes", inPlace := ["internal/bytealg.IndexByteString", "internal/bytealg.IndexString", "slices.overlaps[skald/dedup.entry]"], unfollowed := true, recurses := true, named := ["unicode/utf8.first", "unicode/utf8.acceptRanges", "internal/bytealg.MaxLen"], plainKeys := false, apart := false, laid := [("unicode/utf8.acceptRanges", laid_unicode_utf8_acceptRanges), ("unicode/utf8.first", laid_unicode_utf8_first)], narrowed := true }
def DedupSizesUptoSaid : Prop := dedupSizesUptoRow.holds Tryd.pinned (OpenSpec.upto dedupSizesSpec)

/-- 'skaldlaw09.DedupPlays', WHERE WHAT IT READS IS OF BULK AT MOST 1048576: true; the input reads as it did. -/
def dedupPlaysUptoRow : OpenClaim := { program := "ytkdfhackpmdgfaadoor", sum := "61a1c2b12a306f2815a9e548c069f5b14280433662651d0301cd5b3d4eefea6a", func := "skald/skaldlaw09.DedupPlays", spec := "dedupPlays", inPlace := ["internal/bytealg.IndexByteString", "internal/bytealg.IndexString", "slices.overlaps[skald/dedup.entry]"], unfollowed := true, recurses := true, named := ["unicode/utf8.first", "unicode/utf8.acceptRanges", "internal/bytealg.MaxLen"], plainKeys := false, apart := false, laid := [("unicode/utf8.acceptRanges", laid_unicode_utf8_acceptRanges), ("unicode/utf8.first", laid_unicode_utf8_first)], narrowed := true }
def DedupPlaysUptoSaid : Prop := dedupPlaysUptoRow.holds Tryd.pinned (OpenSpec.upto dedupPlaysSpec)

/-- 'skaldlaw09.DedupNil', WHERE WHAT IT READS IS OF BULK AT MOST 1048576: true; the input reads as it did. -/
def dedupNilUptoRow : OpenClaim := { program := "ytkdfhackpmdgfaadoor", sum := "61a1c2b12a306f2815a9e548c069f5b14280433662651d0301cd5b3d4eefea6a", func := "skald/skaldlaw09.DedupNil", spec := "dedupNil", inPlace := ["internal/bytealg.IndexByteString", "internal/bytealg.IndexString", "slices.overlaps[skald/dedup.entry]"], unfollowed := true, recurses := true, named := ["unicode/utf8.first", "unicode/utf8.acceptRanges", "internal/bytealg.MaxLen"], plainKeys := false, apart := false, laid := [("unicode/utf8.acceptRanges", laid_unicode_utf8_acceptRanges), ("unicode/utf8.first", laid_unicode_utf8_first)], narrowed := true }
def DedupNilUptoSaid : Prop := dedupNilUptoRow.holds Tryd.pinned (OpenSpec.upto dedupNilSpec)

/-- 'skaldlaw09.DedupRefuses', WHERE WHAT IT READS IS OF BULK AT MOST 1048576: true; the input reads as it did. -/
def dedupRefusesUptoRow : OpenClaim := { program := "ytkdfhackpmdgfaadoor", sum := "61a1c2b12a306f2815a9e548c069f5b14280433662651d0301cd5b3d4eefea6a", func := "skald/skaldlaw09.DedupRefuses", spec := "dedupRefuses", inPlace := ["internal/abi.NoEscape", "internal/bytealg.MakeNoZero", "internal/bytealg.IndexByteString", "internal/bytealg.IndexString", "slices.overlaps[skald/dedup.entry]"], unfollowed := true, recurses := true, named := ["unicode/utf8.first", "unicode/utf8.acceptRanges", "internal/bytealg.MaxLen"], plainKeys := false, apart := false, laid := [("unicode/utf8.acceptRanges", laid_unicode_utf8_acceptRanges), ("unicode/utf8.first", laid_unicode_utf8_first)], narrowed := true }
def DedupRefusesUptoSaid : Prop := dedupRefusesUptoRow.holds Tryd.pinned (OpenSpec.upto dedupRefusesSpec)

/-- 'skaldlaw09.DedupLong', WHERE WHAT IT READS IS OF BULK AT MOST 1048576: true; the input reads as it did. -/
def dedupLongUptoRow : OpenClaim := { program := "ytkdfhackpmdgfaadoor", sum := "61a1c2b12a306f2815a9e548c069f5b14280433662651d0301cd5b3d4eefea6a", func := "skald/skaldlaw09.DedupLong", spec := "dedupLong", inPlace := ["internal/abi.NoEscape", "internal/bytealg.MakeNoZero", "internal/bytealg.IndexByteString", "internal/bytealg.IndexString", "slices.overlaps[skald/dedup.entry]"], unfollowed := true, recurses := true, named := ["unicode/utf8.first", "unicode/utf8.acceptRanges", "internal/bytealg.MaxLen"], plainKeys := false, apart := false, laid := [("unicode/utf8.acceptRanges", laid_unicode_utf8_acceptRanges), ("unicode/utf8.first", laid_unicode_utf8_first)], narrowed := true }
def DedupLongUptoSaid : Prop := dedupLongUptoRow.holds Tryd.pinned (OpenSpec.upto dedupLongSpec)

/-- 'skaldlaw09.DedupOnce', WHERE WHAT IT READS IS OF BULK AT MOST 1048576: true; the input reads as it did. -/
def dedupOnceUptoRow : OpenClaim := { program := "ytkdfhackpmdgfaadoor", sum := "61a1c2b12a306f2815a9e548c069f5b14280433662651d0301cd5b3d4eefea6a", func := "skald/skaldlaw09.DedupOnce", spec := "dedupOnce", inPlace := ["internal/abi.NoEscape", "internal/bytealg.MakeNoZero", "internal/bytealg.IndexByteString", "internal/bytealg.IndexString", "slices.overlaps[skald/dedup.entry]"], unfollowed := true, recurses := true, named := ["unicode/utf8.first", "unicode/utf8.acceptRanges", "internal/bytealg.MaxLen"], plainKeys := false, apart := false, laid := [("unicode/utf8.acceptRanges", laid_unicode_utf8_acceptRanges), ("unicode/utf8.first", laid_unicode_utf8_first)], narrowed := true }
def DedupOnceUptoSaid : Prop := dedupOnceUptoRow.holds Tryd.pinned (OpenSpec.upto dedupOnceSpec)

/-- 'skaldlaw09.DedupTakes', WHERE WHAT IT READS IS OF BULK AT MOST 1048576: true; the input reads as it did. -/
def dedupTakesUptoRow : OpenClaim := { program := "ytkdfhackpmdgfaadoor", sum := "61a1c2b12a306f2815a9e548c069f5b14280433662651d0301cd5b3d4eefea6a", func := "skald/skaldlaw09.DedupTakes", spec := "dedupTakes", inPlace := ["internal/abi.NoEscape", "internal/bytealg.MakeNoZero", "internal/bytealg.IndexByteString", "internal/bytealg.IndexString", "slices.overlaps[skald/dedup.entry]"], unfollowed := true, recurses := true, named := ["unicode/utf8.first", "unicode/utf8.acceptRanges", "internal/bytealg.MaxLen"], plainKeys := false, apart := false, laid := [("unicode/utf8.acceptRanges", laid_unicode_utf8_acceptRanges), ("unicode/utf8.first", laid_unicode_utf8_first)], narrowed := true }
def DedupTakesUptoSaid : Prop := dedupTakesUptoRow.holds Tryd.pinned (OpenSpec.upto dedupTakesSpec)

end Rows
end Go.Proofs.YtkdfhackpmdgfaaDoor
