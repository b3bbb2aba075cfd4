/- Shards that are none. -/
import Derived.Test.YtkpfkabdodnooaaGreatDoorShE
namespace Go.Proofs.YtkpfkabdodnooaaGreatDoor
open Go.RowKit Go.Shelf
set_option linter.unusedSimpArgs false
set_option linter.unusedVariables false
set_option linter.unusedSectionVars false
set_option maxRecDepth 10000
def NoSh (s : Value) (w : World) : Prop := ∀ W, Below w.heap.size w W → Calls Tryz.prog 20 #[s] W fun e w' => e = .returned (.bool false) ∧ w' = W
theorem NoSh.below {s : Value} {w W : World} (h : NoSh s w) (hb : Below w.heap.size w W) : NoSh s W := fun W' hb' => h W' (hb.trans (hb'.mono hb.size))
set_option maxHeartbeats 4000000 in
theorem noSh_nil (w : World) : NoSh (.pointer none) w := fun W _ => by
  go_enter Tryz.func20, Tryz.ntmps20
  go_wp2_with (fail)
  go_ret
  exact ⟨rfl, rfl⟩
set_option maxHeartbeats 4000000 in
theorem noSh_zero {b : Nat} {w : World} (h : w.heap[b]? = some (.cells #[.int .i64 0, .int .i64 0, .slice none 0 0, .pointer none, .pointer none, .map none, .map none] 43 (0, 0))) : NoSh (.pointer (some ⟨b, 0, none⟩)) w := fun W hb => by
  have h2 := (hb.block _ (blkX h)).trans h
  have c3 : W.cell? ⟨b, 3, none⟩ = some (.pointer none) := blkC h2 3
  have hx := blkX h2
  replace h2 := Lib.hid h2
  clear h hb
  go_enter Tryz.func20, Tryz.ntmps20
  go_wp2_with (fail)
  go_ret
  exact ⟨rfl, rfl⟩
set_option maxHeartbeats 8000000 in
theorem noQuiet_any {s : Value} {w : World} (h : NoSh s w)  : Calls Tryz.prog 12 #[s] w fun e w' => e = .returned (.bool false) ∧ Below w.heap.size w w' := by
  have k1 := Lib.hid (Below.refl w.heap.size w)
  have hv := h _ k1.out
  replace h := Lib.hid h
  go_enter Tryz.func12, Tryz.ntmps12
  go_wp2_with (fail)
  refine hv.mono ?_
  rintro e W2 ⟨rfl, rfl⟩
  go_wp2_with (fail)
  go_ret
  exact ⟨rfl, k1.out⟩
set_option maxHeartbeats 8000000 in
theorem noOwns_any {s : Value} {w : World} (h : NoSh s w) (k : ByteArray) : Calls Tryz.prog 10 #[s, .string k] w fun e w' => e = .returned (.bool false) ∧ Below w.heap.size w w' := by
  have k1 : Below w.heap.size w (w.alloc (.cells #[.string k] 9)) := (Below.refl _ w).alloc (Nat.le_refl _) _
  have hv := h _ k1
  replace k1 := Lib.hid k1
  replace h := Lib.hid h
  go_enter Tryz.func10, Tryz.ntmps10
  go_wp2_with (fail)
  refine hv.mono ?_
  rintro e W2 ⟨rfl, rfl⟩
  go_wp2_with (fail)
  go_ret
  exact ⟨rfl, k1.out⟩
set_option maxHeartbeats 8000000 in
theorem noApplied_any {s : Value} {w : World} (h : NoSh s w)  : Calls Tryz.prog 13 #[s] w fun e w' => e = .returned (.int .i64 0) ∧ Below w.heap.size w w' := by
  have k1 := Lib.hid (Below.refl w.heap.size w)
  have hv := h _ k1.out
  replace h := Lib.hid h
  go_enter Tryz.func13, Tryz.ntmps13
  go_wp2_with (fail)
  refine hv.mono ?_
  rintro e W2 ⟨rfl, rfl⟩
  go_wp2_with (fail)
  go_ret
  exact ⟨rfl, k1.out⟩
set_option maxHeartbeats 8000000 in
theorem noRanges_any {s : Value} {w : World} (h : NoSh s w)  : Calls Tryz.prog 11 #[s] w fun e w' => e = .returned (.slice none 0 0) ∧ Below w.heap.size w w' := by
  have k1 := Lib.hid (Below.refl w.heap.size w)
  have hv := h _ k1.out
  replace h := Lib.hid h
  go_enter Tryz.func11, Tryz.ntmps11
  go_wp2_with (fail)
  refine hv.mono ?_
  rintro e W2 ⟨rfl, rfl⟩
  go_wp2_with (fail)
  go_ret
  exact ⟨rfl, k1.out⟩
set_option maxHeartbeats 8000000 in
theorem noCopy_any {s : Value} {w : World} (h : NoSh s w)  : Calls Tryz.prog 16 #[s] w fun e w' => e = .returned (.pointer none) ∧ Below w.heap.size w w' := by
  have k1 := Lib.hid (Below.refl w.heap.size w)
  have hv := h _ k1.out
  replace h := Lib.hid h
  go_enter Tryz.func16, Tryz.ntmps16
  go_wp2_with (fail)
  refine hv.mono ?_
  rintro e W2 ⟨rfl, rfl⟩
  go_wp2_with (fail)
  go_ret
  exact ⟨rfl, k1.out⟩
set_option maxHeartbeats 8000000 in
theorem noOwn_any {s : Value} {w : World} (h : NoSh s w) (a b : ByteArray) : Calls Tryz.prog 8 #[s, .agg #[.string a, .string b], .slice none 0 0, .slice none 0 0] w fun e w' => e = .returned (.int .i64 1) ∧ Below w.heap.size w w' := by
  have k1 : Below w.heap.size w (w.alloc (.cells #[.string a, .string b] 25)) := (Below.refl _ w).alloc (Nat.le_refl _) _
  have hv := h _ k1
  replace k1 := Lib.hid k1
  replace h := Lib.hid h
  go_enter Tryz.func8, Tryz.ntmps8
  go_wp2_with (fail)
  refine hv.mono ?_
  rintro e W2 ⟨rfl, rfl⟩
  go_wp2_with (fail)
  go_ret
  exact ⟨rfl, k1.out⟩
set_option maxHeartbeats 8000000 in
theorem noGet_any {s : Value} {w : World} (h : NoSh s w) (k : ByteArray) : Calls Tryz.prog 6 #[s, .string k] w fun e w' => e = .returned (.tuple #[.agg #[.int .i64 0, .int .i64 0, .int .i64 0, .int .i64 0, .int .i64 0], .int .i64 1]) ∧ Below w.heap.size w w' := by
  have k1 : Below w.heap.size w (w.alloc (.cells #[.int .i64 0, .int .i64 0, .int .i64 0, .int .i64 0, .int .i64 0] 46)) := (Below.refl _ w).alloc (Nat.le_refl _) _
  have hv := h _ k1
  replace k1 := Lib.hid k1
  replace h := Lib.hid h
  go_enter Tryz.func6, Tryz.ntmps6
  go_wp2_with (fail)
  refine hv.mono ?_
  rintro e W2 ⟨rfl, rfl⟩
  go_wp2_with (fail)
  refine bodyPost_ret (by simp [results, Tryz.results6, go_sem, *]; try with_reducible rfl) rfl ?_
  exact ⟨rfl, k1.out⟩
set_option maxHeartbeats 8000000 in
theorem noDone_any {s : Value} {w : World} (h : NoSh s w) (e1 e2 e3 : Int) : Calls Tryz.prog 7 #[s, .agg #[.int .i64 e1, .int .i64 e2, .int .i64 e3]] w fun e w' => e = .returned (.tuple #[.agg #[.int .i64 0, .int .i64 0, .string ⟨#[]⟩], .bool false]) ∧ Below w.heap.size w w' := by
  have k1 : Below w.heap.size w ((w.alloc (.cells #[.int .i64 e1, .int .i64 e2, .int .i64 e3] 23)).alloc (.cells #[.int .i64 0, .int .i64 0, .string ⟨#[]⟩] 50)) := ((Below.refl _ w).alloc (Nat.le_refl _) _).alloc (by simp <;> omega) _
  have hv := h _ k1
  replace k1 := Lib.hid k1
  replace h := Lib.hid h
  go_enter Tryz.func7, Tryz.ntmps7
  go_wp2_with (fail)
  refine hv.mono ?_
  rintro e W2 ⟨rfl, rfl⟩
  go_wp2_with (fail)
  refine bodyPost_ret (by simp [results, Tryz.results7, go_sem, *]; try with_reducible rfl) rfl ?_
  exact ⟨rfl, k1.out⟩
set_option maxHeartbeats 8000000 in
theorem noState_any {s : Value} {w : World} (h : NoSh s w)  : Calls Tryz.prog 15 #[s] w fun e w' => e = .returned (.agg #[.int .i64 0, .int .i64 0, .slice none 0 0, .slice none 0 0, .slice none 0 0, .slice none 0 0, .slice none 0 0, .slice none 0 0]) ∧ Below w.heap.size w w' := by
  have k1 : Below w.heap.size w (w.alloc (.cells #[.int .i64 0, .int .i64 0, .slice none 0 0, .slice none 0 0, .slice none 0 0, .slice none 0 0, .slice none 0 0, .slice none 0 0] 65)) := (Below.refl _ w).alloc (Nat.le_refl _) _
  have hv := h _ k1
  replace k1 := Lib.hid k1
  replace h := Lib.hid h
  go_enter Tryz.func15, Tryz.ntmps15
  go_wp2_with (fail)
  refine hv.mono ?_
  rintro e W2 ⟨rfl, rfl⟩
  go_wp2_with (fail)
  refine bodyPost_ret (by simp [results, Tryz.results15, go_sem, *]; try with_reducible rfl) rfl ?_
  exact ⟨rfl, k1.out⟩
set_option maxHeartbeats 8000000 in
theorem noApply_any {s : Value} {w : World} (h : NoSh s w) (c : Cd) : Calls Tryz.prog 9 #[s, .agg (cdV c)] w fun e w' => e = .returned (.agg #[.int .i64 1, .int .i64 0, .string ⟨#[]⟩]) ∧ Below w.heap.size w w' := by
  have k1 : Below w.heap.size w ((w.alloc (.cells (cdV c) 33)).alloc (.cells #[.int .i64 0, .int .i64 0, .string ⟨#[]⟩] 50)) := ((Below.refl _ w).alloc (Nat.le_refl _) _).alloc (by simp <;> omega) _
  have hv := h _ k1
  replace k1 := Lib.hid k1
  replace h := Lib.hid h
  go_enter Tryz.func9, Tryz.ntmps9
  go_wp2_with (fail)
  refine hv.mono ?_
  rintro e W2 ⟨rfl, rfl⟩
  go_wp2_with (fail)
  refine (refused_any 1 _).mono ?_
  rintro e W3 ⟨rfl, b3⟩
  have k3 := Lib.hid (k1.out.trans (b3.mono k1.out.size))
  have e1 : W3.heap[w.heap.size + 1]? = some (.cells #[.int .i64 0, .int .i64 0, .string ⟨#[]⟩] 50 (0, 0)) := (b3.block _ (by simp)).trans (hpNewAt _ (by simp))
  have s0 := blkC e1 0
  have s1 := blkC e1 1
  have s2 := blkC e1 2
  have sf := blkF e1; have sx := blkX e1
  simp only [List.getElem?_toArray, List.getElem?_cons_zero, List.getElem?_cons_succ] at s0 s1 s2
  replace e1 := Lib.hid e1
  clear b3
  go_wp2_with (fail)
  refine bodyPost_ret (by simp [results, Tryz.results9, go_sem, *]; try with_reducible rfl) rfl ?_
  exact ⟨rfl, ((k3.out.setCell (p := ⟨w.heap.size + 1, 0, none⟩) (by simp only; omega) _).setCell (p := ⟨w.heap.size + 1, 1, none⟩) (by simp only; omega) _).setCell (p := ⟨w.heap.size + 1, 2, none⟩) (by simp only; omega) _⟩
set_option maxHeartbeats 16000000 in
theorem same_zero (w : World) : Calls Tryz.prog 14 #[.agg #[.int .i64 0, .int .i64 0, .slice none 0 0, .slice none 0 0, .slice none 0 0, .slice none 0 0, .slice none 0 0, .slice none 0 0], .agg #[.int .i64 0, .int .i64 0, .slice none 0 0, .slice none 0 0, .slice none 0 0, .slice none 0 0, .slice none 0 0, .slice none 0 0]] w fun e w' => e = .returned (.bool true) ∧ Below w.heap.size w w' := by
  obtain ⟨W1, hW1⟩ : ∃ W, W = (w.alloc (.cells #[.int .i64 0, .int .i64 0, .slice none 0 0, .slice none 0 0, .slice none 0 0, .slice none 0 0, .slice none 0 0, .slice none 0 0] 65)).alloc (.cells #[.int .i64 0, .int .i64 0, .slice none 0 0, .slice none 0 0, .slice none 0 0, .slice none 0 0, .slice none 0 0, .slice none 0 0] 70) := ⟨_, rfl⟩
  have k1 : Below w.heap.size w W1 := by rw [hW1]; exact ((Below.refl _ w).alloc (Nat.le_refl _) _).alloc (by simp) _
  have b0 : W1.heap[w.heap.size]? = some (.cells #[.int .i64 0, .int .i64 0, .slice none 0 0, .slice none 0 0, .slice none 0 0, .slice none 0 0, .slice none 0 0, .slice none 0 0] 65 (0, 0)) := by rw [hW1]; exact (hpOld _ (by simp)).trans (hpNew _ _)
  have b1 : W1.heap[w.heap.size + 1]? = some (.cells #[.int .i64 0, .int .i64 0, .slice none 0 0, .slice none 0 0, .slice none 0 0, .slice none 0 0, .slice none 0 0, .slice none 0 0] 70 (0, 0)) := by rw [hW1]; exact hpNewAt _ (by simp)
  have s0 := blkC b0 0; have r0 := blkC b1 0
  have s1 := blkC b0 1; have r1 := blkC b1 1
  have s2 := blkC b0 2; have r2 := blkC b1 2
  have s3 := blkC b0 3; have r3 := blkC b1 3
  have s4 := blkC b0 4; have r4 := blkC b1 4
  have s5 := blkC b0 5; have r5 := blkC b1 5
  have s6 := blkC b0 6; have r6 := blkC b1 6
  have s7 := blkC b0 7; have r7 := blkC b1 7
  have sx := blkX b0; have rx := blkX b1
  simp only [List.getElem?_toArray, List.getElem?_cons_zero, List.getElem?_cons_succ] at s0 r0 s1 r1 s2 r2 s3 r3 s4 r4 s5 r5 s6 r6 s7 r7
  replace k1 := Lib.hid k1; replace b0 := Lib.hid b0; replace b1 := Lib.hid b1
  rw [hW1] at s0 r0 s1 r1 s2 r2 s3 r3 s4 r4 s5 r5 s6 r6 s7 r7 sx rx
  go_enter Tryz.func14, Tryz.ntmps14
  go_wp2_with (fail)
  go_loopw [5] (fun i wr => i = .int .i64 0 ∧ wr = (w.alloc (.cells #[.int .i64 0, .int .i64 0, .slice none 0 0, .slice none 0 0, .slice none 0 0, .slice none 0 0, .slice none 0 0, .slice none 0 0] 65)).alloc (.cells #[.int .i64 0, .int .i64 0, .slice none 0 0, .slice none 0 0, .slice none 0 0, .slice none 0 0, .slice none 0 0, .slice none 0 0] 70)) (fun _ _ => 0)
  case atStart => exact ⟨rfl, rfl⟩
  case round =>
    obtain ⟨rfl, rfl⟩ := hrel
    go_wp2_with (fail)
    go_loopw [6] (fun i wr => i = .int .i64 0 ∧ wr = (w.alloc (.cells #[.int .i64 0, .int .i64 0, .slice none 0 0, .slice none 0 0, .slice none 0 0, .slice none 0 0, .slice none 0 0, .slice none 0 0] 65)).alloc (.cells #[.int .i64 0, .int .i64 0, .slice none 0 0, .slice none 0 0, .slice none 0 0, .slice none 0 0, .slice none 0 0, .slice none 0 0] 70)) (fun _ _ => 0)
    case atStart => exact ⟨rfl, rfl⟩
    case round =>
      obtain ⟨rfl, rfl⟩ := hrel
      go_wp2_with (fail)
      go_loopw [7] (fun i wr => i = .int .i64 0 ∧ wr = (w.alloc (.cells #[.int .i64 0, .int .i64 0, .slice none 0 0, .slice none 0 0, .slice none 0 0, .slice none 0 0, .slice none 0 0, .slice none 0 0] 65)).alloc (.cells #[.int .i64 0, .int .i64 0, .slice none 0 0, .slice none 0 0, .slice none 0 0, .slice none 0 0, .slice none 0 0, .slice none 0 0] 70)) (fun _ _ => 0)
      case atStart => exact ⟨rfl, rfl⟩
      case round =>
        obtain ⟨rfl, rfl⟩ := hrel
        go_wp2_with (fail)
        go_loopw [8] (fun i wr => i = .int .i64 0 ∧ wr = (w.alloc (.cells #[.int .i64 0, .int .i64 0, .slice none 0 0, .slice none 0 0, .slice none 0 0, .slice none 0 0, .slice none 0 0, .slice none 0 0] 65)).alloc (.cells #[.int .i64 0, .int .i64 0, .slice none 0 0, .slice none 0 0, .slice none 0 0, .slice none 0 0, .slice none 0 0, .slice none 0 0] 70)) (fun _ _ => 0)
        case atStart => exact ⟨rfl, rfl⟩
        case round =>
          obtain ⟨rfl, rfl⟩ := hrel
          go_wp2_with (fail)
          go_loopw [9] (fun i wr => i = .int .i64 0 ∧ wr = (w.alloc (.cells #[.int .i64 0, .int .i64 0, .slice none 0 0, .slice none 0 0, .slice none 0 0, .slice none 0 0, .slice none 0 0, .slice none 0 0] 65)).alloc (.cells #[.int .i64 0, .int .i64 0, .slice none 0 0, .slice none 0 0, .slice none 0 0, .slice none 0 0, .slice none 0 0, .slice none 0 0] 70)) (fun _ _ => 0)
          case atStart => exact ⟨rfl, rfl⟩
          case round =>
            obtain ⟨rfl, rfl⟩ := hrel
            go_wp2_with (fail)
            go_ret
            exact ⟨rfl, by have q := k1.out; rw [hW1] at q; exact q⟩
end Go.Proofs.YtkpfkabdodnooaaGreatDoor
