/-
  NARROWER THAN 'FOR EVERY INPUT', by the rows' own cells (each row's printed sentence says how): MsgReads: laid · MsgBack: laid · MsgCuts: laid · MsgOnes: laid · MsgSizes: laid · MsgWrites: laid · MsgKnown: laid · MsgSames: laid · MsgFields: laid.
  DERIVED. THE GIVEN ROWS OF THIS SEAT. 9 by the template 'for every input the law returns true; each argument reads behind the call as it read before'; 0 by the template 'total and deterministic' (their statements: YtlinjanflenljaaGreatDoorTotals.lean).
  GIVEN WITH THE SEED: the statements are not yours to turn. If you find one false, say at which input.
  Laid BY PROGRAM, IN A SANDBOX (cutbox-rows.mjs): the forced cells as the released guide's own fill.sh prints them over the translation 764ed39db94cfdb5… (all of the seat's roots in one cut). By AI agents, Wed Nov 11 2026. No macro, syntax, notation, axiom, sorry.
-/
import Derived.Test.YtlinjanflenljaaGreatDoorChecked
import GoSem.Claim
import GoSem.ClaimJoined
import GoSem.ClaimMapViews
import Derived.JoinedTies
import Derived.KernelRfl
namespace Go.Proofs.YtlinjanflenljaaGreatDoor
/- THE CELL 'sum', in the pinned program and in every row, IS THE sha256 OF THE DUMP (.gsa) THAT YtlinjanflenljaaGreatDoorProg.lean LOADS. Nothing in Lean hashes anything: it is a label: what it is worth is what the hold of that sum in a sandbox is worth. -/
noncomputable def Tryz.pinned : Pinned := { name := "ytlinjanflenljaagreatdoor", sum := "764ed39db94cfdb55271248d2d075d05ff472e0b6d578dadfbda6175eba9116d", checked := Tryz.checked }
namespace Rows
def none {H : Type} : Left H := { results := [], args := [] }

/- WHAT THE LISTED PACKAGE-LEVEL VARIABLES READ AS WHEN THE CALL BEGINS. Each datum BY PROGRAM (the guide's laid-datum.mjs) off the statement by which the dump's own 'gosem.cut.vars' lays the variable. In a bare row this is a premise. The card (YtlinjanflenljaaGreatDoorCards.lean) ties it to the program's text. -/
def laid_math_bits_deBruijn32tab {H : Type} : DataW H := .agg [.lit (.int .u8 0), .lit (.int .u8 1), .lit (.int .u8 28), .lit (.int .u8 2), .lit (.int .u8 29), .lit (.int .u8 14), .lit (.int .u8 24), .lit (.int .u8 3), .lit (.int .u8 30), .lit (.int .u8 22), .lit (.int .u8 20), .lit (.int .u8 15), .lit (.int .u8 25), .lit (.int .u8 17), .lit (.int .u8 4), .lit (.int .u8 8), .lit (.int .u8 31), .lit (.int .u8 27), .lit (.int .u8 13), .lit (.int .u8 23), .lit (.int .u8 21), .lit (.int .u8 19), .lit (.int .u8 16), .lit (.int .u8 7), .lit (.int .u8 26), .lit (.int .u8 12), .lit (.int .u8 18), .lit (.int .u8 6), .lit (.int .u8 11), .lit (.int .u8 5), .lit (.int .u8 10), .lit (.int .u8 9)]
def laid_math_bits_deBruijn64tab {H : Type} : DataW H := .agg [.lit (.int .u8 0), .lit (.int .u8 1), .lit (.int .u8 56), .lit (.int .u8 2), .lit (.int .u8 57), .lit (.int .u8 49), .lit (.int .u8 28), .lit (.int .u8 3), .lit (.int .u8 61), .lit (.int .u8 58), .lit (.int .u8 42), .lit (.int .u8 50), .lit (.int .u8 38), .lit (.int .u8 29), .lit (.int .u8 17), .lit (.int .u8 4), .lit (.int .u8 62), .lit (.int .u8 47), .lit (.int .u8 59), .lit (.int .u8 36), .lit (.int .u8 45), .lit (.int .u8 43), .lit (.int .u8 51), .lit (.int .u8 22), .lit (.int .u8 53), .lit (.int .u8 39), .lit (.int .u8 33), .lit (.int .u8 30), .lit (.int .u8 24), .lit (.int .u8 18), .lit (.int .u8 12), .lit (.int .u8 5), .lit (.int .u8 63), .lit (.int .u8 55), .lit (.int .u8 48), .lit (.int .u8 27), .lit (.int .u8 60), .lit (.int .u8 41), .lit (.int .u8 37), .lit (.int .u8 16), .lit (.int .u8 46), .lit (.int .u8 35), .lit (.int .u8 44), .lit (.int .u8 21), .lit (.int .u8 52), .lit (.int .u8 32), .lit (.int .u8 23), .lit (.int .u8 11), .lit (.int .u8 54), .lit (.int .u8 26), .lit (.int .u8 40), .lit (.int .u8 15), .lit (.int .u8 34), .lit (.int .u8 20), .lit (.int .u8 31), .lit (.int .u8 10), .lit (.int .u8 25), .lit (.int .u8 14), .lit (.int .u8 19), .lit (.int .u8 9), .lit (.int .u8 13), .lit (.int .u8 8), .lit (.int .u8 7), .lit (.int .u8 6)]
def laid_internal_strconv_uint64pow10 {H : Type} : DataW H := .agg [.lit (.int .u64 1), .lit (.int .u64 10), .lit (.int .u64 100), .lit (.int .u64 1000), .lit (.int .u64 10000), .lit (.int .u64 100000), .lit (.int .u64 1000000), .lit (.int .u64 10000000), .lit (.int .u64 100000000), .lit (.int .u64 1000000000), .lit (.int .u64 10000000000), .lit (.int .u64 100000000000), .lit (.int .u64 1000000000000), .lit (.int .u64 10000000000000), .lit (.int .u64 100000000000000), .lit (.int .u64 1000000000000000), .lit (.int .u64 10000000000000000), .lit (.int .u64 100000000000000000), .lit (.int .u64 1000000000000000000), .lit (.int .u64 10000000000000000000)]
def laid_skald_crc_fours {H : Type} : DataW H := .agg [.lit (.int .u32 0), .lit (.int .u32 498536548), .lit (.int .u32 997073096), .lit (.int .u32 651767980), .lit (.int .u32 1994146192), .lit (.int .u32 1802195444), .lit (.int .u32 1303535960), .lit (.int .u32 1342533948), .lit (.int .u32 3988292384), .lit (.int .u32 4027552580), .lit (.int .u32 3604390888), .lit (.int .u32 3412177804), .lit (.int .u32 2607071920), .lit (.int .u32 2262029012), .lit (.int .u32 2685067896), .lit (.int .u32 3183342108)]
def laid_skald_msg_kinds {H : Type} : DataW H := .agg [.agg [.lit (.string []), .lit (.int .i64 0), .lit (.int .i64 0), .lit (.int .i64 0), .lit (.int .i64 0)], .agg [.lit (.string [112, 114, 101, 112, 97, 114, 101]), .lit (.int .i64 3), .lit (.int .i64 4096), .lit (.int .i64 0), .lit (.int .i64 0)], .agg [.lit (.string [112, 114, 111, 109, 105, 115, 101]), .lit (.int .i64 21), .lit (.int .i64 0), .lit (.int .i64 0), .lit (.int .i64 4096)], .agg [.lit (.string [114, 101, 106, 101, 99, 116]), .lit (.int .i64 1), .lit (.int .i64 0), .lit (.int .i64 0), .lit (.int .i64 0)], .agg [.lit (.string [97, 99, 99, 101, 112, 116]), .lit (.int .i64 11), .lit (.int .i64 4095), .lit (.int .i64 0), .lit (.int .i64 0)], .agg [.lit (.string [97, 99, 99, 101, 112, 116, 101, 100]), .lit (.int .i64 3), .lit (.int .i64 4095), .lit (.int .i64 0), .lit (.int .i64 0)], .agg [.lit (.string [99, 104, 111, 115, 101, 110]), .lit (.int .i64 10), .lit (.int .i64 4095), .lit (.int .i64 0), .lit (.int .i64 0)], .agg [.lit (.string [98, 101, 97, 116]), .lit (.int .i64 5), .lit (.int .i64 0), .lit (.int .i64 0), .lit (.int .i64 4096)], .agg [.lit (.string [102, 101, 116, 99, 104]), .lit (.int .i64 2), .lit (.int .i64 4096), .lit (.int .i64 0), .lit (.int .i64 0)], .agg [.lit (.string [115, 110, 97, 112]), .lit (.int .i64 12), .lit (.int .i64 0), .lit (.int .i64 1), .lit (.int .i64 4096)], .agg [.lit (.string [97, 115, 107]), .lit (.int .i64 12), .lit (.int .i64 0), .lit (.int .i64 1), .lit (.int .i64 2147483647)], .agg [.lit (.string [97, 110, 115, 119, 101, 114]), .lit (.int .i64 12), .lit (.int .i64 0), .lit (.int .i64 1), .lit (.int .i64 2147483647)]]

/-- 'skaldlaw20.MsgReads': WHATEVER THE INPUT: true; the input reads as it did. -/
def msgReadsSpec : ChangeSpec := { name := "msgReads", fn := fun _ => fun
  | [d] => { results := [.lit (.bool true)], args := [d] }
  | _ => none }
def msgReadsRow : OpenClaim := { program := "ytlinjanflenljaagreatdoor", sum := "764ed39db94cfdb55271248d2d075d05ff472e0b6d578dadfbda6175eba9116d", func := "skald/skaldlaw20.MsgReads", spec := "msgReads", inPlace := ["internal/abi.NoEscape", "internal/bytealg.MakeNoZero"], unfollowed := true, recurses := true, named := ["skald/msg.kinds", "internal/strconv.uint64pow10", "math/bits.deBruijn32tab", "math/bits.deBruijn64tab", "skald/crc.fours"], apart := false, laid := [("math/bits.deBruijn32tab", laid_math_bits_deBruijn32tab), ("math/bits.deBruijn64tab", laid_math_bits_deBruijn64tab), ("internal/strconv.uint64pow10", laid_internal_strconv_uint64pow10), ("skald/crc.fours", laid_skald_crc_fours), ("skald/msg.kinds", laid_skald_msg_kinds)] }
def MsgReadsSaid : Prop := msgReadsRow.holds Tryz.pinned (OpenSpec.ofChange msgReadsSpec)

/-- ITS FALSE NEIGHBOUR: 'it returns false'. Refute it at one input. -/
def msgReadsWrong : ChangeSpec := { name := "msgReads", fn := fun _ => fun
  | [d] => { results := [.lit (.bool false)], args := [d] }
  | _ => none }
def MsgReadsWrongFalsely : Prop := msgReadsRow.holds Tryz.pinned (OpenSpec.ofChange msgReadsWrong)

/-- 'skaldlaw20.MsgBack': WHATEVER THE INPUT: true; the input reads as it did. -/
def msgBackSpec : ChangeSpec := { name := "msgBack", fn := fun _ => fun
  | [d1, d2] => { results := [.lit (.bool true)], args := [d1, d2] }
  | _ => none }
def msgBackRow : OpenClaim := { program := "ytlinjanflenljaagreatdoor", sum := "764ed39db94cfdb55271248d2d075d05ff472e0b6d578dadfbda6175eba9116d", func := "skald/skaldlaw20.MsgBack", spec := "msgBack", inPlace := ["internal/abi.NoEscape", "internal/bytealg.MakeNoZero"], unfollowed := true, recurses := true, named := ["skald/msg.kinds", "internal/strconv.uint64pow10", "math/bits.deBruijn32tab", "math/bits.deBruijn64tab", "skald/crc.fours"], apart := false, laid := [("math/bits.deBruijn32tab", laid_math_bits_deBruijn32tab), ("math/bits.deBruijn64tab", laid_math_bits_deBruijn64tab), ("internal/strconv.uint64pow10", laid_internal_strconv_uint64pow10), ("skald/crc.fours", laid_skald_crc_fours), ("skald/msg.kinds", laid_skald_msg_kinds)] }
def MsgBackSaid : Prop := msgBackRow.holds Tryz.pinned (OpenSpec.ofChange msgBackSpec)

/-- ITS FALSE NEIGHBOUR: 'it returns false'. Refute it at one input. -/
def msgBackWrong : ChangeSpec := { name := "msgBack", fn := fun _ => fun
  | [d1, d2] => { results := [.lit (.bool false)], args := [d1, d2] }
  | _ => none }
def MsgBackWrongFalsely : Prop := msgBackRow.holds Tryz.pinned (OpenSpec.ofChange msgBackWrong)

/-- 'skaldlaw20.MsgCuts': WHATEVER THE INPUT: true; the input reads as it did. -/
def msgCutsSpec : ChangeSpec := { name := "msgCuts", fn := fun _ => fun
  | [d1, d2, d3] => { results := [.lit (.bool true)], args := [d1, d2, d3] }
  | _ => none }
def msgCutsRow : OpenClaim := { program := "ytlinjanflenljaagreatdoor", sum := "764ed39db94cfdb55271248d2d075d05ff472e0b6d578dadfbda6175eba9116d", func := "skald/skaldlaw20.MsgCuts", spec := "msgCuts", inPlace := ["internal/abi.NoEscape", "internal/bytealg.MakeNoZero"], unfollowed := true, recurses := true, named := ["skald/msg.kinds", "internal/strconv.uint64pow10", "math/bits.deBruijn32tab", "math/bits.deBruijn64tab", "skald/crc.fours"], apart := false, laid := [("math/bits.deBruijn32tab", laid_math_bits_deBruijn32tab), ("math/bits.deBruijn64tab", laid_math_bits_deBruijn64tab), ("internal/strconv.uint64pow10", laid_internal_strconv_uint64pow10), ("skald/crc.fours", laid_skald_crc_fours), ("skald/msg.kinds", laid_skald_msg_kinds)] }
def MsgCutsSaid : Prop := msgCutsRow.holds Tryz.pinned (OpenSpec.ofChange msgCutsSpec)

/-- ITS FALSE NEIGHBOUR: 'it returns false'. Refute it at one input. -/
def msgCutsWrong : ChangeSpec := { name := "msgCuts", fn := fun _ => fun
  | [d1, d2, d3] => { results := [.lit (.bool false)], args := [d1, d2, d3] }
  | _ => none }
def MsgCutsWrongFalsely : Prop := msgCutsRow.holds Tryz.pinned (OpenSpec.ofChange msgCutsWrong)

/-- 'skaldlaw20.MsgOnes': WHATEVER THE INPUT: true; the input reads as it did. -/
def msgOnesSpec : ChangeSpec := { name := "msgOnes", fn := fun _ => fun
  | [d1, d2] => { results := [.lit (.bool true)], args := [d1, d2] }
  | _ => none }
def msgOnesRow : OpenClaim := { program := "ytlinjanflenljaagreatdoor", sum := "764ed39db94cfdb55271248d2d075d05ff472e0b6d578dadfbda6175eba9116d", func := "skald/skaldlaw20.MsgOnes", spec := "msgOnes", inPlace := ["internal/abi.NoEscape", "internal/bytealg.MakeNoZero"], unfollowed := true, recurses := true, named := ["skald/msg.kinds", "internal/strconv.uint64pow10", "math/bits.deBruijn32tab", "math/bits.deBruijn64tab", "skald/crc.fours"], apart := false, laid := [("math/bits.deBruijn32tab", laid_math_bits_deBruijn32tab), ("math/bits.deBruijn64tab", laid_math_bits_deBruijn64tab), ("internal/strconv.uint64pow10", laid_internal_strconv_uint64pow10), ("skald/crc.fours", laid_skald_crc_fours), ("skald/msg.kinds", laid_skald_msg_kinds)] }
def MsgOnesSaid : Prop := msgOnesRow.holds Tryz.pinned (OpenSpec.ofChange msgOnesSpec)

/-- ITS FALSE NEIGHBOUR: 'it returns false'. Refute it at one input. -/
def msgOnesWrong : ChangeSpec := { name := "msgOnes", fn := fun _ => fun
  | [d1, d2] => { results := [.lit (.bool false)], args := [d1, d2] }
  | _ => none }
def MsgOnesWrongFalsely : Prop := msgOnesRow.holds Tryz.pinned (OpenSpec.ofChange msgOnesWrong)

/-- 'skaldlaw20.MsgSizes': WHATEVER THE INPUT: true; the input reads as it did. -/
def msgSizesSpec : ChangeSpec := { name := "msgSizes", fn := fun _ => fun
  | [d1, d2] => { results := [.lit (.bool true)], args := [d1, d2] }
  | _ => none }
def msgSizesRow : OpenClaim := { program := "ytlinjanflenljaagreatdoor", sum := "764ed39db94cfdb55271248d2d075d05ff472e0b6d578dadfbda6175eba9116d", func := "skald/skaldlaw20.MsgSizes", spec := "msgSizes", inPlace := ["internal/abi.NoEscape", "internal/bytealg.MakeNoZero"], unfollowed := true, recurses := true, named := ["skald/msg.kinds", "internal/strconv.uint64pow10", "math/bits.deBruijn32tab", "math/bits.deBruijn64tab", "skald/crc.fours"], apart := false, laid := [("math/bits.deBruijn32tab", laid_math_bits_deBruijn32tab), ("math/bits.deBruijn64tab", laid_math_bits_deBruijn64tab), ("internal/strconv.uint64pow10", laid_internal_strconv_uint64pow10), ("skald/crc.fours", laid_skald_crc_fours), ("skald/msg.kinds", laid_skald_msg_kinds)] }
def MsgSizesSaid : Prop := msgSizesRow.holds Tryz.pinned (OpenSpec.ofChange msgSizesSpec)

/-- ITS FALSE NEIGHBOUR: 'it returns false'. Refute it at one input. -/
def msgSizesWrong : ChangeSpec := { name := "msgSizes", fn := fun _ => fun
  | [d1, d2] => { results := [.lit (.bool false)], args := [d1, d2] }
  | _ => none }
def MsgSizesWrongFalsely : Prop := msgSizesRow.holds Tryz.pinned (OpenSpec.ofChange msgSizesWrong)

/-- 'skaldlaw20.MsgWrites': WHATEVER THE INPUT: true; the input reads as it did. -/
def msgWritesSpec : ChangeSpec := { name := "msgWrites", fn := fun _ => fun
  | [d] => { results := [.lit (.bool true)], args := [d] }
  | _ => none }
def msgWritesRow : OpenClaim := { program := "ytlinjanflenljaagreatdoor", sum := "764ed39db94cfdb55271248d2d075d05ff472e0b6d578dadfbda6175eba9116d", func := "skald/skaldlaw20.MsgWrites", spec := "msgWrites", inPlace := ["internal/abi.NoEscape", "internal/bytealg.MakeNoZero"], unfollowed := true, recurses := true, named := ["skald/msg.kinds", "internal/strconv.uint64pow10", "math/bits.deBruijn32tab", "math/bits.deBruijn64tab", "skald/crc.fours"], apart := false, laid := [("math/bits.deBruijn32tab", laid_math_bits_deBruijn32tab), ("math/bits.deBruijn64tab", laid_math_bits_deBruijn64tab), ("internal/strconv.uint64pow10", laid_internal_strconv_uint64pow10), ("skald/crc.fours", laid_skald_crc_fours), ("skald/msg.kinds", laid_skald_msg_kinds)] }
def MsgWritesSaid : Prop := msgWritesRow.holds Tryz.pinned (OpenSpec.ofChange msgWritesSpec)

/-- ITS FALSE NEIGHBOUR: 'it returns false'. Refute it at one input. -/
def msgWritesWrong : ChangeSpec := { name := "msgWrites", fn := fun _ => fun
  | [d] => { results := [.lit (.bool false)], args := [d] }
  | _ => none }
def MsgWritesWrongFalsely : Prop := msgWritesRow.holds Tryz.pinned (OpenSpec.ofChange msgWritesWrong)

/-- 'skaldlaw20.MsgKnown': WHATEVER THE INPUT: true; the input reads as it did. -/
def msgKnownSpec : ChangeSpec := { name := "msgKnown", fn := fun _ => fun
  | [] => { results := [.lit (.bool true)], args := [] }
  | _ => none }
def msgKnownRow : OpenClaim := { program := "ytlinjanflenljaagreatdoor", sum := "764ed39db94cfdb55271248d2d075d05ff472e0b6d578dadfbda6175eba9116d", func := "skald/skaldlaw20.MsgKnown", spec := "msgKnown", inPlace := ["internal/abi.NoEscape", "internal/bytealg.MakeNoZero"], unfollowed := true, recurses := true, named := ["skald/msg.kinds", "internal/strconv.uint64pow10", "math/bits.deBruijn32tab", "math/bits.deBruijn64tab", "skald/crc.fours"], apart := false, laid := [("math/bits.deBruijn32tab", laid_math_bits_deBruijn32tab), ("math/bits.deBruijn64tab", laid_math_bits_deBruijn64tab), ("internal/strconv.uint64pow10", laid_internal_strconv_uint64pow10), ("skald/crc.fours", laid_skald_crc_fours), ("skald/msg.kinds", laid_skald_msg_kinds)] }
def MsgKnownSaid : Prop := msgKnownRow.holds Tryz.pinned (OpenSpec.ofChange msgKnownSpec)

/-- ITS FALSE NEIGHBOUR: 'it returns false'. Refute it at one input. -/
def msgKnownWrong : ChangeSpec := { name := "msgKnown", fn := fun _ => fun
  | [] => { results := [.lit (.bool false)], args := [] }
  | _ => none }
def MsgKnownWrongFalsely : Prop := msgKnownRow.holds Tryz.pinned (OpenSpec.ofChange msgKnownWrong)

/-- 'skaldlaw20.MsgSames': WHATEVER THE INPUT: true; the input reads as it did. -/
def msgSamesSpec : ChangeSpec := { name := "msgSames", fn := fun _ => fun
  | [d1, d2] => { results := [.lit (.bool true)], args := [d1, d2] }
  | _ => none }
def msgSamesRow : OpenClaim := { program := "ytlinjanflenljaagreatdoor", sum := "764ed39db94cfdb55271248d2d075d05ff472e0b6d578dadfbda6175eba9116d", func := "skald/skaldlaw20.MsgSames", spec := "msgSames", inPlace := ["internal/abi.NoEscape", "internal/bytealg.MakeNoZero"], unfollowed := true, recurses := true, named := ["skald/msg.kinds", "internal/strconv.uint64pow10", "math/bits.deBruijn32tab", "math/bits.deBruijn64tab", "skald/crc.fours"], apart := false, laid := [("math/bits.deBruijn32tab", laid_math_bits_deBruijn32tab), ("math/bits.deBruijn64tab", laid_math_bits_deBruijn64tab), ("internal/strconv.uint64pow10", laid_internal_strconv_uint64pow10), ("skald/crc.fours", laid_skald_crc_fours), ("skald/msg.kinds", laid_skald_msg_kinds)] }
def MsgSamesSaid : Prop := msgSamesRow.holds Tryz.pinned (OpenSpec.ofChange msgSamesSpec)

/-- ITS FALSE NEIGHBOUR: 'it returns false'. Refute it at one input. -/
def msgSamesWrong : ChangeSpec := { name := "msgSames", fn := fun _ => fun
  | [d1, d2] => { results := [.lit (.bool false)], args := [d1, d2] }
  | _ => none }
def MsgSamesWrongFalsely : Prop := msgSamesRow.holds Tryz.pinned (OpenSpec.ofChange msgSamesWrong)

/-- 'skaldlaw20.MsgFields': WHATEVER THE INPUT: true; the input reads as it did. -/
def msgFieldsSpec : ChangeSpec := { name := "msgFields", fn := fun _ => fun
  | [d1, d2] => { results := [.lit (.bool true)], args := [d1, d2] }
  | _ => none }
def msgFieldsRow : OpenClaim := { program := "ytlinjanflenljaagreatdoor", sum := "764ed39db94cfdb55271248d2d075d05ff472e0b6d578dadfbda6175eba9116d", func := "skald/skaldlaw20.MsgFields", spec := "msgFields", inPlace := ["internal/abi.NoEscape", "internal/bytealg.MakeNoZero"], unfollowed := true, recurses := true, named := ["skald/msg.kinds", "internal/strconv.uint64pow10", "math/bits.deBruijn32tab", "math/bits.deBruijn64tab", "skald/crc.fours"], apart := false, laid := [("math/bits.deBruijn32tab", laid_math_bits_deBruijn32tab), ("math/bits.deBruijn64tab", laid_math_bits_deBruijn64tab), ("internal/strconv.uint64pow10", laid_internal_strconv_uint64pow10), ("skald/crc.fours", laid_skald_crc_fours), ("skald/msg.kinds", laid_skald_msg_kinds)] }
def MsgFieldsSaid : Prop := msgFieldsRow.holds Tryz.pinned (OpenSpec.ofChange msgFieldsSpec)

/-- ITS FALSE NEIGHBOUR: 'it returns false'. Refute it at one input. -/
def msgFieldsWrong : ChangeSpec := { name := "msgFields", fn := fun _ => fun
  | [d1, d2] => { results := [.lit (.bool false)], args := [d1, d2] }
  | _ => none }
def MsgFieldsWrongFalsely : Prop := msgFieldsRow.holds Tryz.pinned (OpenSpec.ofChange msgFieldsWrong)

/- THE SECOND FORM. 'bulk': how many values and letters a reading holds, each counted each time it is reached (what is shared counts as often as it is met; a slice's spare places count too). A statement '..UptoSaid' is the law's where the arguments, and the package variables that the reading takes, are together of bulk at most 1048576: NARROWER than '..Said'. Prove '..Said' where nothing that the law and all that it calls make is longer than what came in: it says more and counts as full. Else prove '..UptoSaid'. A law counts once. -/
mutual
def uptoBulk {H : Type} : DataW H → Nat
  | .lit (.string bytes) => bytes.length + 1
  | .lit _ => 1
  | .nil => 1
  | .ptr d => uptoBulk d + 1
  | .slice elems spare => uptoBulkAll elems + uptoBulkAll spare + 1
  | .agg parts => uptoBulkAll parts + 1
  | .iface _ d => uptoBulk d + 1
  | .map entries => uptoBulkEntries entries + 1
  | .held _ => 1
def uptoBulkAll {H : Type} : List (DataW H) → Nat
  | [] => 0
  | d :: r => uptoBulk d + uptoBulkAll r
def uptoBulkEntries {H : Type} : List (Lit × DataW H) → Nat
  | [] => 0
  | x :: r => uptoBulkEntry x + uptoBulkEntries r
def uptoBulkEntry {H : Type} : Lit × DataW H → Nat
  | (.string bytes, d) => bytes.length + uptoBulk d + 1
  | (_, d) => uptoBulk d + 1
 end
def uptoSmall : (H : Type) → List (DataW H) → Bool := fun _ ds => decide (uptoBulkAll ds ≤ 1048576)
def OpenSpec.upto (s : _root_.Go.ChangeSpec) : _root_.Go.OpenSpec := { _root_.Go.OpenSpec.ofChange s with cond := some uptoSmall }

/-- 'skaldlaw20.MsgReads', WHERE WHAT IT READS IS OF BULK AT MOST 1048576: true; the input reads as it did. -/
def msgReadsUptoRow : OpenClaim := { program := "ytlinjanflenljaagreatdoor", sum := "764ed39db94cfdb55271248d2d075d05ff472e0b6d578dadfbda6175eba9116d", func := "skald/skaldlaw20.MsgReads", spec := "msgReads", inPlace := ["internal/abi.NoEscape", "internal/bytealg.MakeNoZero"], unfollowed := true, recurses := true, named := ["skald/msg.kinds", "internal/strconv.uint64pow10", "math/bits.deBruijn32tab", "math/bits.deBruijn64tab", "skald/crc.fours"], apart := false, laid := [("math/bits.deBruijn32tab", laid_math_bits_deBruijn32tab), ("math/bits.deBruijn64tab", laid_math_bits_deBruijn64tab), ("internal/strconv.uint64pow10", laid_internal_strconv_uint64pow10), ("skald/crc.fours", laid_skald_crc_fours), ("skald/msg.kinds", laid_skald_msg_kinds)], narrowed := true }
def MsgReadsUptoSaid : Prop := msgReadsUptoRow.holds Tryz.pinned (OpenSpec.upto msgReadsSpec)

/-- 'skaldlaw20.MsgBack', WHERE WHAT IT READS IS OF BULK AT MOST 1048576: true; the input reads as it did. -/
def msgBackUptoRow : OpenClaim := { program := "ytlinjanflenljaagreatdoor", sum := "764ed39db94cfdb55271248d2d075d05ff472e0b6d578dadfbda6175eba9116d", func := "skald/skaldlaw20.MsgBack", spec := "msgBack", inPlace := ["internal/abi.NoEscape", "internal/bytealg.MakeNoZero"], unfollowed := true, recurses := true, named := ["skald/msg.kinds", "internal/strconv.uint64pow10", "math/bits.deBruijn32tab", "math/bits.deBruijn64tab", "skald/crc.fours"], apart := false, laid := [("math/bits.deBruijn32tab", laid_math_bits_deBruijn32tab), ("math/bits.deBruijn64tab", laid_math_bits_deBruijn64tab), ("internal/strconv.uint64pow10", laid_internal_strconv_uint64pow10), ("skald/crc.fours", laid_skald_crc_fours), ("skald/msg.kinds", laid_skald_msg_kinds)], narrowed := true }
def MsgBackUptoSaid : Prop := msgBackUptoRow.holds Tryz.pinned (OpenSpec.upto msgBackSpec)

/-- 'skaldlaw20.MsgCuts', WHERE WHAT IT READS IS OF BULK AT MOST 1048576: true; the input reads as it did. -/
def msgCutsUptoRow : OpenClaim := { program := "ytlinjanflenljaagreatdoor", sum := "764ed39db94cfdb55271248d2d075d05ff472e0b6d578dadfbda6175eba9116d", func := "skald/skaldlaw20.MsgCuts", spec := "msgCuts", inPlace := ["internal/abi.NoEscape", "internal/bytealg.MakeNoZero"], unfollowed := true, recurses := true, named := ["skald/msg.kinds", "internal/strconv.uint64pow10", "math/bits.deBruijn32tab", "math/bits.deBruijn64tab", "skald/crc.fours"], apart := false, laid := [("math/bits.deBruijn32tab", laid_math_bits_deBruijn32tab), ("math/bits.deBruijn64tab", laid_math_bits_deBruijn64tab), ("internal/strconv.uint64pow10", laid_internal_strconv_uint64pow10), ("skald/crc.fours", laid_skald_crc_fours), ("skald/msg.kinds", laid_skald_msg_kinds)], narrowed := true }
def MsgCutsUptoSaid : Prop := msgCutsUptoRow.holds Tryz.pinned (OpenSpec.upto msgCutsSpec)

/-- 'skaldlaw20.MsgOnes', WHERE WHAT IT READS IS OF BULK AT MOST 1048576: true; the input reads as it did. -/
def msgOnesUptoRow : OpenClaim := { program := "ytlinjanflenljaagreatdoor", sum := "764ed39db94cfdb55271248d2d075d05ff472e0b6d578dadfbda6175eba9116d", func := "skald/skaldlaw20.MsgOnes", spec := "msgOnes", inPlace := ["internal/abi.NoEscape", "internal/bytealg.MakeNoZero"], unfollowed := true, recurses := true, named := ["skald/msg.kinds", "internal/strconv.uint64pow10", "math/bits.deBruijn32tab", "math/bits.deBruijn64tab", "skald/crc.fours"], apart := false, laid := [("math/bits.deBruijn32tab", laid_math_bits_deBruijn32tab), ("math/bits.deBruijn64tab", laid_math_bits_deBruijn64tab), ("internal/strconv.uint64pow10", laid_internal_strconv_uint64pow10), ("skald/crc.fours", laid_skald_crc_fours), ("skald/msg.kinds", laid_skald_msg_kinds)], narrowed := true }
def MsgOnesUptoSaid : Prop := msgOnesUptoRow.holds Tryz.pinned (OpenSpec.upto msgOnesSpec)

/-- 'skaldlaw20.MsgSizes', WHERE WHAT IT READS IS OF BULK AT MOST 1048576: true; the input reads as it did. -/
def msgSizesUptoRow : OpenClaim := { program := "ytlinjanflenljaagreatdoor", sum := "764ed39db94cfdb55271248d2d075d05ff472e0b6d578dadfbda6175eba9116d", func := "skald/skaldlaw20.MsgSizes", spec := "msgSizes", inPlace := ["internal/abi.NoEscape", "internal/bytealg.MakeNoZero"], unfollowed := true, recurses := true, named := ["skald/msg.kinds", "internal/strconv.uint64pow10", "math/bits.deBruijn32tab", "math/bits.deBruijn64tab", "skald/crc.fours"], apart := false, laid := [("math/bits.deBruijn32tab", laid_math_bits_deBruijn32tab), ("math/bits.deBruijn64tab", laid_math_bits_deBruijn64tab), ("internal/strconv.uint64pow10", laid_internal_strconv_uint64pow10), ("skald/crc.fours", laid_skald_crc_fours), ("skald/msg.kinds", laid_skald_msg_kinds)], narrowed := true }
def MsgSizesUptoSaid : Prop := msgSizesUptoRow.holds Tryz.pinned (OpenSpec.upto msgSizesSpec)

/-- 'skaldlaw20.MsgWrites', WHERE WHAT IT READS IS OF BULK AT MOST 1048576: true; the input reads as it did. -/
def msgWritesUptoRow : OpenClaim := { program := "ytlinjanflenljaagreatdoor", sum := "764ed39db94cfdb55271248d2d075d05ff472e0b6d578dadfbda6175eba9116d", func := "skald/skaldlaw20.MsgWrites", spec := "msgWrites", inPlace := ["internal/abi.NoEscape", "internal/bytealg.MakeNoZero"], unfollowed := true, recurses := true, named := ["skald/msg.kinds", "internal/strconv.uint64pow10", "math/bits.deBruijn32tab", "math/bits.deBruijn64tab", "skald/crc.fours"], apart := false, laid := [("math/bits.deBruijn32tab", laid_math_bits_deBruijn32tab), ("math/bits.deBruijn64tab", laid_math_bits_deBruijn64tab), ("internal/strconv.uint64pow10", laid_internal_strconv_uint64pow10), ("skald/crc.fours", laid_skald_crc_fours), ("skald/msg.kinds", laid_skald_msg_kinds)], narrowed := true }
def MsgWritesUptoSaid : Prop := msgWritesUptoRow.holds Tryz.pinned (OpenSpec.upto msgWritesSpec)

/-- 'skaldlaw20.MsgKnown', WHERE WHAT IT READS IS OF BULK AT MOST 1048576: true; the input reads as it did. -/
def msgKnownUptoRow : OpenClaim := { program := "ytlinjanflenljaagreatdoor", sum := "764ed39db94cfdb55271248d2d075d05ff472e0b6d578dadfbda6175eba9116d", func := "skald/skaldlaw20.MsgKnown", spec := "msgKnown", inPlace := ["internal/abi.NoEscape", "internal/bytealg.MakeNoZero"], unfollowed := true, recurses := true, named := ["skald/msg.kinds", "internal/strconv.uint64pow10", "math/bits.deBruijn32tab", "math/bits.deBruijn64tab", "skald/crc.fours"], apart := false, laid := [("math/bits.deBruijn32tab", laid_math_bits_deBruijn32tab), ("math/bits.deBruijn64tab", laid_math_bits_deBruijn64tab), ("internal/strconv.uint64pow10", laid_internal_strconv_uint64pow10), ("skald/crc.fours", laid_skald_crc_fours), ("skald/msg.kinds", laid_skald_msg_kinds)], narrowed := true }
def MsgKnownUptoSaid : Prop := msgKnownUptoRow.holds Tryz.pinned (OpenSpec.upto msgKnownSpec)

/-- 'skaldlaw20.MsgSames', WHERE WHAT IT READS IS OF BULK AT MOST 1048576: true; the input reads as it did. -/
def msgSamesUptoRow : OpenClaim := { program := "ytlinjanflenljaagreatdoor", sum := "764ed39db94cfdb55271248d2d075d05ff472e0b6d578dadfbda6175eba9116d", func := "skald/skaldlaw20.MsgSames", spec := "msgSames", inPlace := ["internal/abi.NoEscape", "internal/bytealg.MakeNoZero"], unfollowed := true, recurses := true, named := ["skald/msg.kinds", "internal/strconv.uint64pow10", "math/bits.deBruijn32tab", "math/bits.deBruijn64tab", "skald/crc.fours"], apart := false, laid := [("math/bits.deBruijn32tab", laid_math_bits_deBruijn32tab), ("math/bits.deBruijn64tab", laid_math_bits_deBruijn64tab), ("internal/strconv.uint64pow10", laid_internal_strconv_uint64pow10), ("skald/crc.fours", laid_skald_crc_fours), ("skald/msg.kinds", laid_skald_msg_kinds)], narrowed := true }
def MsgSamesUptoSaid : Prop := msgSamesUptoRow.holds Tryz.pinned (OpenSpec.upto msgSamesSpec)

/-- 'skaldlaw20.MsgFields', WHERE WHAT IT READS IS OF BULK AT MOST 1048576: true; the input reads as it did. -/
def msgFieldsUptoRow : OpenClaim := { program := "ytlinjanflenljaagreatdoor", sum := "764ed39db94cfdb55271248d2d075d05ff472e0b6d578dadfbda6175eba9116d", func := "skald/skaldlaw20.MsgFields", spec := "msgFields", inPlace := ["internal/abi.NoEscape", "internal/bytealg.MakeNoZero"], unfollowed := true, recurses := true, named := ["skald/msg.kinds", "internal/strconv.uint64pow10", "math/bits.deBruijn32tab", "math/bits.deBruijn64tab", "skald/crc.fours"], apart := false, laid := [("math/bits.deBruijn32tab", laid_math_bits_deBruijn32tab), ("math/bits.deBruijn64tab", laid_math_bits_deBruijn64tab), ("internal/strconv.uint64pow10", laid_internal_strconv_uint64pow10), ("skald/crc.fours", laid_skald_crc_fours), ("skald/msg.kinds", laid_skald_msg_kinds)], narrowed := true }
def MsgFieldsUptoSaid : Prop := msgFieldsUptoRow.holds Tryz.pinned (OpenSpec.upto msgFieldsSpec)

end Rows
end Go.Proofs.YtlinjanflenljaaGreatDoor
