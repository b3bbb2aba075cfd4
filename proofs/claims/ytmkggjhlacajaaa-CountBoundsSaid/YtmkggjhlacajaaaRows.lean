/-
  No cell of these rows narrows 'for every input' (looked for: loops, veiled, ifaces, maps, wideKeys, modest, calm, conditions, laid).
  DERIVED. THE GIVEN ROWS OF THIS SEAT. 9 by the template 'for every input the law returns true; each argument reads behind the call as it read before'; 0 by the template 'total and deterministic' (their statements: YtmkggjhlacajaaaTotals.lean).
  GIVEN WITH THE SEED: the statements are not yours to turn. If you find one false, say at which input.
  Laid BY PROGRAM, IN A SANDBOX (cutbox-rows.mjs): the forced cells as the released guide's own fill.sh prints them over the translation 427bcd893a65d457… (all of the seat's roots in one cut). By AI agents, Wed Nov 11 2026. No macro, syntax, notation, axiom, sorry.
-/
import Derived.Test.YtmkggjhlacajaaaChecked
import GoSem.Claim
import GoSem.ClaimJoined
import GoSem.ClaimMapViews
import Derived.JoinedTies
import Derived.KernelRfl
namespace Go.Proofs.Ytmkggjhlacajaaa
/- THE CELL 'sum', in the pinned program and in every row, IS THE sha256 OF THE DUMP (.gsa) THAT YtmkggjhlacajaaaProg.lean LOADS. Nothing in Lean hashes anything: it is a label: what it is worth is what the hold of that sum in a sandbox is worth. -/
noncomputable def Try.pinned : Pinned := { name := "ytmkggjhlacajaaa", sum := "427bcd893a65d457a1c53d355f3db39429b8161cdf1fef83b5acd4924197c4c7", checked := Try.checked }
namespace Rows
def none {H : Type} : Left H := { results := [], args := [] }

/-- 'skaldlaw07.CountNews': WHATEVER THE INPUT: true; the input reads as it did. -/
def countNewsSpec : ChangeSpec := { name := "countNews", fn := fun _ => fun
  | [d1, d2, d3] => { results := [.lit (.bool true)], args := [d1, d2, d3] }
  | _ => none }
def countNewsRow : OpenClaim := { program := "ytmkggjhlacajaaa", sum := "427bcd893a65d457a1c53d355f3db39429b8161cdf1fef83b5acd4924197c4c7", func := "skald/skaldlaw07.CountNews", spec := "countNews", apart := false }
def CountNewsSaid : Prop := countNewsRow.holds Try.pinned (OpenSpec.ofChange countNewsSpec)

/-- ITS FALSE NEIGHBOUR: 'it returns false'. Refute it at one input. -/
def countNewsWrong : ChangeSpec := { name := "countNews", fn := fun _ => fun
  | [d1, d2, d3] => { results := [.lit (.bool false)], args := [d1, d2, d3] }
  | _ => none }
def CountNewsWrongFalsely : Prop := countNewsRow.holds Try.pinned (OpenSpec.ofChange countNewsWrong)

/-- 'skaldlaw07.CountBack': WHATEVER THE INPUT: true; the input reads as it did. -/
def countBackSpec : ChangeSpec := { name := "countBack", fn := fun _ => fun
  | [d1, d2] => { results := [.lit (.bool true)], args := [d1, d2] }
  | _ => none }
def countBackRow : OpenClaim := { program := "ytmkggjhlacajaaa", sum := "427bcd893a65d457a1c53d355f3db39429b8161cdf1fef83b5acd4924197c4c7", func := "skald/skaldlaw07.CountBack", spec := "countBack", apart := false }
def CountBackSaid : Prop := countBackRow.holds Try.pinned (OpenSpec.ofChange countBackSpec)

/-- ITS FALSE NEIGHBOUR: 'it returns false'. Refute it at one input. -/
def countBackWrong : ChangeSpec := { name := "countBack", fn := fun _ => fun
  | [d1, d2] => { results := [.lit (.bool false)], args := [d1, d2] }
  | _ => none }
def CountBackWrongFalsely : Prop := countBackRow.holds Try.pinned (OpenSpec.ofChange countBackWrong)

/-- 'skaldlaw07.CountRoom': WHATEVER THE INPUT: true; the input reads as it did. -/
def countRoomSpec : ChangeSpec := { name := "countRoom", fn := fun _ => fun
  | [d1, d2] => { results := [.lit (.bool true)], args := [d1, d2] }
  | _ => none }
def countRoomRow : OpenClaim := { program := "ytmkggjhlacajaaa", sum := "427bcd893a65d457a1c53d355f3db39429b8161cdf1fef83b5acd4924197c4c7", func := "skald/skaldlaw07.CountRoom", spec := "countRoom", apart := false }
def CountRoomSaid : Prop := countRoomRow.holds Try.pinned (OpenSpec.ofChange countRoomSpec)

/-- ITS FALSE NEIGHBOUR: 'it returns false'. Refute it at one input. -/
def countRoomWrong : ChangeSpec := { name := "countRoom", fn := fun _ => fun
  | [d1, d2] => { results := [.lit (.bool false)], args := [d1, d2] }
  | _ => none }
def CountRoomWrongFalsely : Prop := countRoomRow.holds Try.pinned (OpenSpec.ofChange countRoomWrong)

/-- 'skaldlaw07.CountOrders': WHATEVER THE INPUT: true; the input reads as it did. -/
def countOrdersSpec : ChangeSpec := { name := "countOrders", fn := fun _ => fun
  | [d1, d2, d3, d4, d5] => { results := [.lit (.bool true)], args := [d1, d2, d3, d4, d5] }
  | _ => none }
def countOrdersRow : OpenClaim := { program := "ytmkggjhlacajaaa", sum := "427bcd893a65d457a1c53d355f3db39429b8161cdf1fef83b5acd4924197c4c7", func := "skald/skaldlaw07.CountOrders", spec := "countOrders", unfollowed := true, recurses := true, apart := false }
def CountOrdersSaid : Prop := countOrdersRow.holds Try.pinned (OpenSpec.ofChange countOrdersSpec)

/-- ITS FALSE NEIGHBOUR: 'it returns false'. Refute it at one input. -/
def countOrdersWrong : ChangeSpec := { name := "countOrders", fn := fun _ => fun
  | [d1, d2, d3, d4, d5] => { results := [.lit (.bool false)], args := [d1, d2, d3, d4, d5] }
  | _ => none }
def CountOrdersWrongFalsely : Prop := countOrdersRow.holds Try.pinned (OpenSpec.ofChange countOrdersWrong)

/-- 'skaldlaw07.CountFreed': WHATEVER THE INPUT: true; the input reads as it did. -/
def countFreedSpec : ChangeSpec := { name := "countFreed", fn := fun _ => fun
  | [d1, d2, d3] => { results := [.lit (.bool true)], args := [d1, d2, d3] }
  | _ => none }
def countFreedRow : OpenClaim := { program := "ytmkggjhlacajaaa", sum := "427bcd893a65d457a1c53d355f3db39429b8161cdf1fef83b5acd4924197c4c7", func := "skald/skaldlaw07.CountFreed", spec := "countFreed", apart := false }
def CountFreedSaid : Prop := countFreedRow.holds Try.pinned (OpenSpec.ofChange countFreedSpec)

/-- ITS FALSE NEIGHBOUR: 'it returns false'. Refute it at one input. -/
def countFreedWrong : ChangeSpec := { name := "countFreed", fn := fun _ => fun
  | [d1, d2, d3] => { results := [.lit (.bool false)], args := [d1, d2, d3] }
  | _ => none }
def CountFreedWrongFalsely : Prop := countFreedRow.holds Try.pinned (OpenSpec.ofChange countFreedWrong)

/-- 'skaldlaw07.CountShows': WHATEVER THE INPUT: true; the input reads as it did. -/
def countShowsSpec : ChangeSpec := { name := "countShows", fn := fun _ => fun
  | [d] => { results := [.lit (.bool true)], args := [d] }
  | _ => none }
def countShowsRow : OpenClaim := { program := "ytmkggjhlacajaaa", sum := "427bcd893a65d457a1c53d355f3db39429b8161cdf1fef83b5acd4924197c4c7", func := "skald/skaldlaw07.CountShows", spec := "countShows", apart := false }
def CountShowsSaid : Prop := countShowsRow.holds Try.pinned (OpenSpec.ofChange countShowsSpec)

/-- ITS FALSE NEIGHBOUR: 'it returns false'. Refute it at one input. -/
def countShowsWrong : ChangeSpec := { name := "countShows", fn := fun _ => fun
  | [d] => { results := [.lit (.bool false)], args := [d] }
  | _ => none }
def CountShowsWrongFalsely : Prop := countShowsRow.holds Try.pinned (OpenSpec.ofChange countShowsWrong)

/-- 'skaldlaw07.CountBounds': WHATEVER THE INPUT: true; the input reads as it did. -/
def countBoundsSpec : ChangeSpec := { name := "countBounds", fn := fun _ => fun
  | [d1, d2] => { results := [.lit (.bool true)], args := [d1, d2] }
  | _ => none }
def countBoundsRow : OpenClaim := { program := "ytmkggjhlacajaaa", sum := "427bcd893a65d457a1c53d355f3db39429b8161cdf1fef83b5acd4924197c4c7", func := "skald/skaldlaw07.CountBounds", spec := "countBounds", apart := false }
def CountBoundsSaid : Prop := countBoundsRow.holds Try.pinned (OpenSpec.ofChange countBoundsSpec)

/-- ITS FALSE NEIGHBOUR: 'it returns false'. Refute it at one input. -/
def countBoundsWrong : ChangeSpec := { name := "countBounds", fn := fun _ => fun
  | [d1, d2] => { results := [.lit (.bool false)], args := [d1, d2] }
  | _ => none }
def CountBoundsWrongFalsely : Prop := countBoundsRow.holds Try.pinned (OpenSpec.ofChange countBoundsWrong)

/-- 'skaldlaw07.CountChanges': WHATEVER THE INPUT: true; the input reads as it did. -/
def countChangesSpec : ChangeSpec := { name := "countChanges", fn := fun _ => fun
  | [d1, d2, d3] => { results := [.lit (.bool true)], args := [d1, d2, d3] }
  | _ => none }
def countChangesRow : OpenClaim := { program := "ytmkggjhlacajaaa", sum := "427bcd893a65d457a1c53d355f3db39429b8161cdf1fef83b5acd4924197c4c7", func := "skald/skaldlaw07.CountChanges", spec := "countChanges", unfollowed := true, recurses := true, apart := false }
def CountChangesSaid : Prop := countChangesRow.holds Try.pinned (OpenSpec.ofChange countChangesSpec)

/-- ITS FALSE NEIGHBOUR: 'it returns false'. Refute it at one input. -/
def countChangesWrong : ChangeSpec := { name := "countChanges", fn := fun _ => fun
  | [d1, d2, d3] => { results := [.lit (.bool false)], args := [d1, d2, d3] }
  | _ => none }
def CountChangesWrongFalsely : Prop := countChangesRow.holds Try.pinned (OpenSpec.ofChange countChangesWrong)

/-- 'skaldlaw07.CountEnds': WHATEVER THE INPUT: true; the input reads as it did. -/
def countEndsSpec : ChangeSpec := { name := "countEnds", fn := fun _ => fun
  | [] => { results := [.lit (.bool true)], args := [] }
  | _ => none }
def countEndsRow : OpenClaim := { program := "ytmkggjhlacajaaa", sum := "427bcd893a65d457a1c53d355f3db39429b8161cdf1fef83b5acd4924197c4c7", func := "skald/skaldlaw07.CountEnds", spec := "countEnds", unfollowed := true, recurses := true, apart := false }
def CountEndsSaid : Prop := countEndsRow.holds Try.pinned (OpenSpec.ofChange countEndsSpec)

/-- ITS FALSE NEIGHBOUR: 'it returns false'. Refute it at one input. -/
def countEndsWrong : ChangeSpec := { name := "countEnds", fn := fun _ => fun
  | [] => { results := [.lit (.bool false)], args := [] }
  | _ => none }
def CountEndsWrongFalsely : Prop := countEndsRow.holds Try.pinned (OpenSpec.ofChange countEndsWrong)

/- THE SECOND FORM. 'bulk': how many values and letters a reading holds, each counted each time it is reached (what is shared counts as often as it is met; a slice's spare places count too). A statement '..UptoSaid' is the law's where the arguments, and the package variables that the reading takes, are together of bulk at most 1048576: NARROWER than '..Said'. Prove '..Said' where nothing that the law and all that it calls make is longer than what came in: it says more and counts as full. Else prove '..UptoSaid'. A law counts once. -/
mutual
def uptoBulk {H : Type} : DataW H → Nat
  | .lit (.string bytes) => bytes.length + 1
  | .lit _ => 1
  | .nil => 1
  | .ptr d => uptoBulk d + 1
  | .slice elems spare => uptoBulkAll elems + uptoBulkAll spare + 1
  | .agg parts => uptoBulkAll parts + 1
  | .iface _ d => uptoBulk d + 1
  | .map entries => uptoBulkEntries entries + 1
  | .held _ => 1
def uptoBulkAll {H : Type} : List (DataW H) → Nat
  | [] => 0
  | d :: r => uptoBulk d + uptoBulkAll r
def uptoBulkEntries {H : Type} : List (Lit × DataW H) → Nat
  | [] => 0
  | x :: r => uptoBulkEntry x + uptoBulkEntries r
def uptoBulkEntry {H : Type} : Lit × DataW H → Nat
  | (.string bytes, d) => bytes.length + uptoBulk d + 1
  | (_, d) => uptoBulk d + 1
 end
def uptoSmall : (H : Type) → List (DataW H) → Bool := fun _ ds => decide (uptoBulkAll ds ≤ 1048576)
def OpenSpec.upto (s : _root_.Go.ChangeSpec) : _root_.Go.OpenSpec := { _root_.Go.OpenSpec.ofChange s with cond := some uptoSmall }

/-- 'skaldlaw07.CountNews', WHERE WHAT IT READS IS OF BULK AT MOST 1048576: true; the input reads as it did. -/
def countNewsUptoRow : OpenClaim := { program := "ytmkggjhlacajaaa", sum := "427bcd893a65d457a1c53d355f3db39429b8161cdf1fef83b5acd4924197c4c7", func := "skald/skaldlaw07.CountNews", spec := "countNews", apart := false, narrowed := true }
def CountNewsUptoSaid : Prop := countNewsUptoRow.holds Try.pinned (OpenSpec.upto countNewsSpec)

/-- 'skaldlaw07.CountBack', WHERE WHAT IT READS IS OF BULK AT MOST 1048576: true; the input reads as it did. -/
def countBackUptoRow : OpenClaim := { program := "ytmkggjhlacajaaa", sum := "427bcd893a65d457a1c53d355f3db39429b8161cdf1fef83b5acd4924197c4c7", func := "skald/skaldlaw07.CountBack", spec := "countBack", apart := false, narrowed := true }
def CountBackUptoSaid : Prop := countBackUptoRow.holds Try.pinned (OpenSpec.upto countBackSpec)

/-- 'skaldlaw07.CountRoom', WHERE WHAT IT READS IS OF BULK AT MOST 1048576: true; the input reads as it did. -/
def countRoomUptoRow : OpenClaim := { program := "ytmkggjhlacajaaa", sum := "427bcd893a65d457a1c53d355f3db39429b8161cdf1fef83b5acd4924197c4c7", func := "skald/skaldlaw07.CountRoom", spec := "countRoom", apart := false, narrowed := true }
def CountRoomUptoSaid : Prop := countRoomUptoRow.holds Try.pinned (OpenSpec.upto countRoomSpec)

/-- 'skaldlaw07.CountOrders', WHERE WHAT IT READS IS OF BULK AT MOST 1048576: true; the input reads as it did. -/
def countOrdersUptoRow : OpenClaim := { program := "ytmkggjhlacajaaa", sum := "427bcd893a65d457a1c53d355f3db39429b8161cdf1fef83b5acd4924197c4c7", func := "skald/skaldlaw07.CountOrders", spec := "countOrders", unfollowed := true, recurses := true, apart := false, narrowed := true }
def CountOrdersUptoSaid : Prop := countOrdersUptoRow.holds Try.pinned (OpenSpec.upto countOrdersSpec)

/-- 'skaldlaw07.CountFreed', WHERE WHAT IT READS IS OF BULK AT MOST 1048576: true; the input reads as it did. -/
def countFreedUptoRow : OpenClaim := { program := "ytmkggjhlacajaaa", sum := "427bcd893a65d457a1c53d355f3db39429b8161cdf1fef83b5acd4924197c4c7", func := "skald/skaldlaw07.CountFreed", spec := "countFreed", apart := false, narrowed := true }
def CountFreedUptoSaid : Prop := countFreedUptoRow.holds Try.pinned (OpenSpec.upto countFreedSpec)

/-- 'skaldlaw07.CountShows', WHERE WHAT IT READS IS OF BULK AT MOST 1048576: true; the input reads as it did. -/
def countShowsUptoRow : OpenClaim := { program := "ytmkggjhlacajaaa", sum := "427bcd893a65d457a1c53d355f3db39429b8161cdf1fef83b5acd4924197c4c7", func := "skald/skaldlaw07.CountShows", spec := "countShows", apart := false, narrowed := true }
def CountShowsUptoSaid : Prop := countShowsUptoRow.holds Try.pinned (OpenSpec.upto countShowsSpec)

/-- 'skaldlaw07.CountBounds', WHERE WHAT IT READS IS OF BULK AT MOST 1048576: true; the input reads as it did. -/
def countBoundsUptoRow : OpenClaim := { program := "ytmkggjhlacajaaa", sum := "427bcd893a65d457a1c53d355f3db39429b8161cdf1fef83b5acd4924197c4c7", func := "skald/skaldlaw07.CountBounds", spec := "countBounds", apart := false, narrowed := true }
def CountBoundsUptoSaid : Prop := countBoundsUptoRow.holds Try.pinned (OpenSpec.upto countBoundsSpec)

/-- 'skaldlaw07.CountChanges', WHERE WHAT IT READS IS OF BULK AT MOST 1048576: true; the input reads as it did. -/
def countChangesUptoRow : OpenClaim := { program := "ytmkggjhlacajaaa", sum := "427bcd893a65d457a1c53d355f3db39429b8161cdf1fef83b5acd4924197c4c7", func := "skald/skaldlaw07.CountChanges", spec := "countChanges", unfollowed := true, recurses := true, apart := false, narrowed := true }
def CountChangesUptoSaid : Prop := countChangesUptoRow.holds Try.pinned (OpenSpec.upto countChangesSpec)

/-- 'skaldlaw07.CountEnds', WHERE WHAT IT READS IS OF BULK AT MOST 1048576: true; the input reads as it did. -/
def countEndsUptoRow : OpenClaim := { program := "ytmkggjhlacajaaa", sum := "427bcd893a65d457a1c53d355f3db39429b8161cdf1fef83b5acd4924197c4c7", func := "skald/skaldlaw07.CountEnds", spec := "countEnds", unfollowed := true, recurses := true, apart := false, narrowed := true }
def CountEndsUptoSaid : Prop := countEndsUptoRow.holds Try.pinned (OpenSpec.upto countEndsSpec)

end Rows
end Go.Proofs.Ytmkggjhlacajaaa
