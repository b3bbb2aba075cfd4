/- The listed variables, and the library's functions that ballots call. -/
import Derived.Test.YtlinjanflenljaaGreatDoorKit
import Derived.Test.YtlinjanflenljaaGreatDoorBPl
import Derived.Test.YtlinjanflenljaaGreatDoorShelf
import Derived.Lib.LaidTab
import Derived.Deep.QuietTactic
import Derived.BigQuiet
namespace Go.Proofs.YtlinjanflenljaaGreatDoor
open Go.RowKit
set_option linter.unusedSimpArgs false
set_option linter.unusedVariables false
set_option linter.unusedSectionVars false
set_option maxRecDepth 10000
/-- The kinds: word, uses, greatest slot, least and greatest number. -/
def kindT : List (List UInt8 × Int × Int × Int × Int) := [([], 0, 0, 0, 0), ([112, 114, 101, 112, 97, 114, 101], 3, 4096, 0, 0), ([112, 114, 111, 109, 105, 115, 101], 21, 0, 0, 4096), ([114, 101, 106, 101, 99, 116], 1, 0, 0, 0), ([97, 99, 99, 101, 112, 116], 11, 4095, 0, 0), ([97, 99, 99, 101, 112, 116, 101, 100], 3, 4095, 0, 0), ([99, 104, 111, 115, 101, 110], 10, 4095, 0, 0), ([98, 101, 97, 116], 5, 0, 0, 4096), ([102, 101, 116, 99, 104], 2, 4096, 0, 0), ([115, 110, 97, 112], 12, 0, 1, 4096), ([97, 115, 107], 12, 0, 1, 2147483647), ([97, 110, 115, 119, 101, 114], 12, 0, 1, 2147483647)]
def kindV (r : List UInt8 × Int × Int × Int × Int) : List Value := [.string ⟨r.1.toArray⟩, .int .i64 r.2.1, .int .i64 r.2.2.1, .int .i64 r.2.2.2.1, .int .i64 r.2.2.2.2]
def kindsArr : Array Value := (kindT.flatMap kindV).toArray
def fourT : List Int := [0, 498536548, 997073096, 651767980, 1994146192, 1802195444, 1303535960, 1342533948, 3988292384, 4027552580, 3604390888, 3412177804, 2607071920, 2262029012, 2685067896, 3183342108]
def bruT : List Int := [0, 1, 56, 2, 57, 49, 28, 3, 61, 58, 42, 50, 38, 29, 17, 4, 62, 47, 59, 36, 45, 43, 51, 22, 53, 39, 33, 30, 24, 18, 12, 5, 63, 55, 48, 27, 60, 41, 37, 16, 46, 35, 44, 21, 52, 32, 23, 11, 54, 26, 40, 15, 34, 20, 31, 10, 25, 14, 19, 9, 13, 8, 7, 6]
/-- What the listed variables hold. -/
structure Ldr (w : World) : Prop where
  tab : Lib.TabIs Tryz.prog w "internal/strconv.uint64pow10" .u64 Lib.pow10Tab
  fours : Lib.TabIs Tryz.prog w "skald/crc.fours" .u32 fourT
  bru : Lib.TabIs Tryz.prog w "math/bits.deBruijn64tab" .u8 bruT
  kinds : w.var? Tryz.prog "skald/msg.kinds" = some kindsArr
theorem var_keep {P : Program} {w w' : World} {n : String} {cs : Array Value} (h : w.var? P n = some cs) (hb : Below w.heap.size w w') : w'.var? P n = some cs := by
  unfold World.var? at h ⊢
  cases hg : P.globalNamed n with
  | none => simp [hg] at h
  | some g =>
    simp only [hg, Option.bind_some] at h ⊢
    have hlt : g < w.heap.size := by
      rcases Nat.lt_or_ge g w.heap.size with hlt | hge
      · exact hlt
      · rw [Array.getElem?_eq_none hge] at h; cases h
    rw [hb.block g hlt]; exact h
theorem Ldr.keep {w w' : World} (h : Ldr w) (hb : Below w.heap.size w w') : Ldr w' := ⟨var_keep h.tab hb, var_keep h.fours hb, var_keep h.bru hb, var_keep h.kinds hb⟩
theorem Ldr.drew {w : World} (h : Ldr w) : Ldr w.drew := h.keep (Below.refl _ w).drew
theorem below_grow {B : Nat} (w : World) (hB : B ≤ w.heap.size) (k : Nat) (os : Array Obj) : Below B w (Sort.grow (w.drewN k) os) :=
  ⟨rfl, rfl, rfl, by simp [Sort.grow, World.drewN], fun i hi => by
    show ((w.drewN k).heap ++ os)[i]? = w.heap[i]?
    rw [Array.getElem?_append_left (by simpa [World.drewN] using (show i < w.heap.size by omega))]; rfl⟩
theorem itoa_any (n : Int) (h0 : 0 ≤ n) (h1 : n ≤ 9223372036854775807) (w : World) (hL : Ldr w) : Calls Tryz.prog 45 #[.int .i64 n] w fun e w' => e = .returned (.string ⟨(Lib.decDigits n.toNat).toArray⟩) ∧ Below w.heap.size w w' := by
  refine (Tryz.strconv_Itoa n (by omega) h1 w hL.tab).mono ?_
  rintro e w' ⟨rfl, k, os, rfl⟩
  refine ⟨?_, below_grow w (Nat.le_refl _) k os⟩
  unfold Lib.itoa
  rw [if_neg (by omega)]
theorem gFours : Tryz.prog.globalNamed "skald/crc.fours" = some 3 := by kernel_rfl
theorem gKinds : Tryz.prog.globalNamed "skald/msg.kinds" = some 0 := by kernel_rfl
theorem gBru : Tryz.prog.globalNamed "math/bits.deBruijn64tab" = some 5 := by kernel_rfl
theorem Ldr.four {w : World} (h : Ldr w) (i : Nat) (hi : i < 16) : w.cell? ⟨3, i, none⟩ = some (.int .u32 (fourT.getD i 0)) := h.fours.cell gFours i hi
theorem Ldr.kind {w : World} (h : Ldr w) (i : Nat) : w.cell? ⟨0, i, none⟩ = kindsArr[i]? := World.var?_cell gKinds h.kinds i
theorem Ldr.bruAt {w : World} (h : Ldr w) (i : Nat) (hi : i < 64) : w.cell? ⟨5, i, none⟩ = some (.int .u8 (bruT.getD i 0)) := h.bru.cell gBru i hi
end Go.Proofs.YtlinjanflenljaaGreatDoor
