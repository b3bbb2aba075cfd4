/- What the rows of the chapter list, and a start that fits. -/
import Derived.Test.YtlinjanflenljaaGreatDoorBLib
import Derived.Test.YtlinjanflenljaaGreatDoorRows
import Derived.Stop.LaidErr
import Derived.Lib.LaidTab
import Derived.Lib.LaidU8
import Derived.LaidLaws
import Derived.Deep.Slices
import Derived.Deep.Fields
namespace Go.Proofs.YtlinjanflenljaaGreatDoor
open Go.RowKit
set_option linter.unusedSimpArgs false
set_option linter.unusedVariables false
set_option linter.unusedSectionVars false
set_option maxRecDepth 10000
theorem gPT : Tryz.prog.globalNamed "internal/strconv.uint64pow10" = some 1 := by kernel_rfl
theorem gPTT : (Tryz.prog.globals[1]?).map (·.type) = some 155 := by kernel_rfl
theorem gFT : (Tryz.prog.globals[3]?).map (·.type) = some 162 := by kernel_rfl
theorem gBT : (Tryz.prog.globals[5]?).map (·.type) = some 165 := by kernel_rfl
theorem gKT : (Tryz.prog.globals[0]?).map (·.type) = some 82 := by kernel_rfl
theorem cells64 : Tryz.prog.cellsOf 71 = 1 := by kernel_rfl
theorem cells32 : Tryz.prog.cellsOf 117 = 1 := by kernel_rfl
theorem cells8 : Tryz.prog.cellsOf 5 = 1 := by kernel_rfl
theorem cellsA64 : Tryz.prog.cellsOf 155 = 20 := by kernel_rfl
theorem cellsA32 : Tryz.prog.cellsOf 162 = 16 := by kernel_rfl
theorem cellsA8 : Tryz.prog.cellsOf 165 = 64 := by kernel_rfl
theorem cellsKA : Tryz.prog.cellsOf 82 = 60 := by kernel_rfl
theorem cellsK : Tryz.prog.cellsOf 55 = 5 := by kernel_rfl
theorem cellsI : Tryz.prog.cellsOf 3 = 1 := by kernel_rfl
theorem cellsS : Tryz.prog.cellsOf 9 = 1 := by kernel_rfl
/-- What the rows of the chapter list. -/
def laidK : List (String × DataW Unit) := [("math/bits.deBruijn32tab", Rows.laid_math_bits_deBruijn32tab), ("math/bits.deBruijn64tab", Rows.laid_math_bits_deBruijn64tab), ("internal/strconv.uint64pow10", Rows.laid_internal_strconv_uint64pow10), ("skald/crc.fours", Rows.laid_skald_crc_fours), ("skald/msg.kinds", Rows.laid_skald_msg_kinds)]
theorem tabP : (Rows.laid_internal_strconv_uint64pow10 : DataW Unit) = Lib.tabData .u64 Lib.pow10Tab := by rfl
theorem tabF : (Rows.laid_skald_crc_fours : DataW Unit) = Lib.tabData .u32 fourT := by rfl
theorem tabB : (Rows.laid_math_bits_deBruijn64tab : DataW Unit) = Lib.tabData .u8 bruT := by rfl
def kindD (r : List UInt8 × Int × Int × Int × Int) : DataW Unit := .agg [.lit (.string r.1), .lit (.int .i64 r.2.1), .lit (.int .i64 r.2.2.1), .lit (.int .i64 r.2.2.2.1), .lit (.int .i64 r.2.2.2.2)]
theorem tabK : (Rows.laid_skald_msg_kinds : DataW Unit) = .agg (kindT.map kindD) := by rfl
open Go.ChangeShapes Go.WideShapes Go.Deep
theorem kind_row {W : World} {enc : TypeId × Value → Unit} {base : Nat} {sp : Nat → Bool} {held : Bool} {fuel : Nat} {cs : List Value} {r : List UInt8 × Int × Int × Int × Int} {q : List MemPlace} (h : DataW.trod enc Tryz.prog W base sp held fuel 55 cs = some (kindD r, q)) : cs = kindV r := by
  obtain ⟨xs, n, rfl, hx, hl, hlen, hf⟩ := DataW.trod_struct Tryz.underlying55 h
  rw [cellsK] at hl
  have hd := (Prod.mk.inj hx).1
  match cs, hl with
  | [v0, v1, v2, v3, v4], _ =>
    have h0 := hf 0 _ rfl; have h1 := hf 1 _ rfl; have h2 := hf 2 _ rfl; have h3 := hf 3 _ rfl; have h4 := hf 4 _ rfl
    match xs, hlen with
    | [x0, x1, x2, x3, x4], _ =>
      simp only [List.getElem?_cons_zero, List.getElem?_cons_succ, List.getElem_toArray, List.getElem_cons_zero, List.getElem_cons_succ] at h0 h1 h2 h3 h4
      rw [cellsS] at h0
      rw [cellsI] at h1 h2 h3 h4
      simp only [List.drop_zero, List.drop_succ_cons, List.take_succ_cons, List.take_zero] at h0 h1 h2 h3 h4
      obtain ⟨a0, q0, p0, -⟩ := DataW.trod_string Tryz.underlying9 h0
      obtain ⟨a1, q1, p1, -⟩ := DataW.trod_int Tryz.underlying3 h1
      obtain ⟨a2, q2, p2, -⟩ := DataW.trod_int Tryz.underlying3 h2
      obtain ⟨a3, q3, p3, -⟩ := DataW.trod_int Tryz.underlying3 h3
      obtain ⟨a4, q4, p4, -⟩ := DataW.trod_int Tryz.underlying3 h4
      simp only [List.cons.injEq, and_true] at q0 q1 q2 q3 q4
      subst q0 q1 q2 q3 q4
      obtain ⟨r0, r1, r2, r3, r4⟩ := r
      simp only [kindD, List.map_cons, List.map_nil, DataW.agg.injEq, List.cons.injEq, and_true] at hd
      obtain ⟨d0, d1, d2, d3, d4⟩ := hd
      rw [p0] at d0; rw [p1] at d1; rw [p2] at d2; rw [p3] at d3; rw [p4] at d4
      simp only [DataW.lit.injEq, Lit.string.injEq, Lit.int.injEq, true_and] at d0 d1 d2 d3 d4
      subst d0 d1 d2 d3 d4
      simp [kindV]
theorem kinds_flat (i k : Nat) (hi : i < 12) (hk : k < 5) : (kindT.flatMap kindV)[i * 5 + k]? = (kindV (kindT.getD i ([], 0, 0, 0, 0)))[k]? := by
  have h1 : i = 0 ∨ i = 1 ∨ i = 2 ∨ i = 3 ∨ i = 4 ∨ i = 5 ∨ i = 6 ∨ i = 7 ∨ i = 8 ∨ i = 9 ∨ i = 10 ∨ i = 11 := by omega
  have h2 : k = 0 ∨ k = 1 ∨ k = 2 ∨ k = 3 ∨ k = 4 := by omega
  rcases h1 with rfl | rfl | rfl | rfl | rfl | rfl | rfl | rfl | rfl | rfl | rfl | rfl <;> rcases h2 with rfl | rfl | rfl | rfl | rfl <;> rfl
theorem kinds_of {W : World} (h : Lib.VarReads Tryz.prog W "skald/msg.kinds" (.agg (kindT.map kindD))) : W.var? Tryz.prog "skald/msg.kinds" = some kindsArr := by
  obtain ⟨g, t, cs, fuel, p, hg, hty, hvar, hd⟩ := h
  obtain rfl := Option.some.inj (gKinds.symm.trans hg)
  obtain rfl := Option.some.inj (gKT.symm.trans hty)
  have hlen : cs.toList.length = 60 := by
    cases fuel with
    | zero => simp [DataW.trod] at hd
    | succ fuel =>
      simp only [DataW.trod, Tryz.underlying82, cellsKA] at hd
      split at hd
      · rename_i hl; exact hl
      · cases hd
  have hrow : ∀ i, i < 12 → (cs.toList.drop (i * 5)).take 5 = kindV (kindT.getD i ([], 0, 0, 0, 0)) := by
    intro i hi
    obtain ⟨f', d, q, hq, ht⟩ := Lib.array_elem Tryz.underlying82 hd i hi
    rw [cellsK] at ht
    have hi2 : i < kindT.length := by simpa [kindT] using hi
    rw [List.getElem?_map, List.getElem?_eq_getElem hi2] at hq
    simp only [Option.map_some, Option.some.injEq] at hq
    rw [← hq] at ht
    rw [kind_row ht, List.getD_eq_getElem?_getD, List.getElem?_eq_getElem hi2]; rfl
  rw [hvar]
  have hall : cs.toList = kindT.flatMap kindV := by
    apply List.ext_getElem?
    intro j
    by_cases hj : j < 60
    · have h1 := congrArg (·[j % 5]?) (hrow (j / 5) (by omega))
      simp only [List.getElem?_take, List.getElem?_drop] at h1
      rw [if_pos (by omega), show j / 5 * 5 + j % 5 = j from by omega] at h1
      rw [h1]
      have := kinds_flat (j / 5) (j % 5) (by omega) (by omega)
      rw [show j / 5 * 5 + j % 5 = j from by omega] at this
      exact this.symm
    · rw [List.getElem?_eq_none (by omega), List.getElem?_eq_none (by rw [show (kindT.flatMap kindV).length = 60 from rfl]; omega)]
  show some cs = some (kindT.flatMap kindV).toArray
  rw [← hall]
theorem ldr_of {W : World} (h : laidMet Tryz.prog laidK W) : Ldr W := by
  have hb : laidMet Tryz.prog (("math/bits.deBruijn64tab", Lib.tabData .u8 bruT) :: laidK.drop 2) W := by rw [← tabB]; exact h.tail
  have hp : laidMet Tryz.prog (("internal/strconv.uint64pow10", Lib.tabData .u64 Lib.pow10Tab) :: laidK.drop 3) W := by rw [← tabP]; exact h.tail.tail
  have hf : laidMet Tryz.prog (("skald/crc.fours", Lib.tabData .u32 fourT) :: laidK.drop 4) W := by rw [← tabF]; exact h.tail.tail.tail
  exact ⟨Lib.tabIs_of_head gPT gPTT Tryz.underlying155 Tryz.underlying71 cells64 cellsA64 hp, Lib.tabIs_of_head gFours gFT Tryz.underlying162 Tryz.underlying117 cells32 cellsA32 hf, Lib.tabIs_of_head gBru gBT Tryz.underlying165 Tryz.underlying5 cells8 cellsA8 hb, kinds_of (by rw [← tabK]; exact Lib.laidMet.reads h (by simp [laidK]))⟩
/-! ### One start that fits -/
def putCells (cs : Array Value) : Obj → Obj
  | .cells _ t frozen => .cells cs t frozen
  | o => o
def intsOf (d : DataW Unit) : Array Value := match d with
  | .agg l => (l.map fun x => match x with | .lit (.int k n) => Value.int k n | _ => .bool false).toArray
  | _ => #[]
noncomputable def laidWorld (os : Os) : World :=
  let w0 := World.holding Tryz.prog os ⟨#[], #[], []⟩
  { w0 with heap := ((((w0.heap.modify 1 (putCells (intsOf Rows.laid_internal_strconv_uint64pow10))).modify 4 (putCells (intsOf Rows.laid_math_bits_deBruijn32tab))).modify 5 (putCells (intsOf Rows.laid_math_bits_deBruijn64tab))).modify 3 (putCells (intsOf Rows.laid_skald_crc_fours))).modify 0 (putCells kindsArr) }
theorem laidWorld_metK (os : Os) (args : Array Value) : laidMet Tryz.prog laidK ((laidWorld os).forCall (fun _ _ => 0) ⟨#[], args, []⟩).memory :=
  laidMet_of_run' 8 (by kernel_rfl) (by kernel_rfl)
theorem own : ownKnob Tryz.prog.godebug = none := by kernel_rfl
theorem laidOut : laidOutB Tryz.prog = true := by kernel_rfl
end Go.Proofs.YtlinjanflenljaaGreatDoor
