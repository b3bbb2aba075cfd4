/- Tables that are none. -/
import Derived.Test.YtkdfhackpmdgfaaDoorWorks
namespace Go.Proofs.YtkdfhackpmdgfaaDoor
open Go.RowKit Go.Shelf
set_option linter.unusedSimpArgs false
set_option linter.unusedVariables false
set_option linter.unusedSectionVars false
set_option maxRecDepth 10000
/-- No table: the nil pointer, or one that New did not make. -/
def NoT (v : Value) (w : World) : Prop := v = .pointer none ∨ ∃ Z, v = .pointer (some ⟨Z, 0, none⟩) ∧ w.heap[Z]? = some (.cells #[.bool false, .int .i64 0, .slice none 0 0] 52 (0, 0))
theorem NoT.below {v : Value} {w w' : World} (h : NoT v w) (hb : Below w.heap.size w w') : NoT v w' := by
  rcases h with h | ⟨Z, h1, h2⟩
  · exact .inl h
  · exact .inr ⟨Z, h1, (hb.block Z (blkX h2)).trans h2⟩
theorem novalid {v : Value} {w : World} (h : NoT v w) : Calls Tryd.prog 33 #[v] w fun e w' => e = .returned (.bool false) ∧ Below w.heap.size w w' := by
  rcases h with rfl | ⟨Z, rfl, h2⟩
  · go_enter Tryd.func33, Tryd.ntmps33
    go_wp2
    go_ret
    exact ⟨rfl, Below.refl _ _⟩
  · have c0 := blkC h2 0
    simp only [List.getElem?_toArray, List.getElem?_cons_zero, List.getElem?_cons_succ] at c0
    replace h2 := Lib.hid h2
    go_enter Tryd.func33, Tryd.ntmps33
    go_wp2
    go_ret
    exact ⟨rfl, Below.refl _ _⟩
set_option maxHeartbeats 2000000 in
theorem nofind (y : Ef) {v : Value} {w : World} (h : NoT v w) : Calls Tryd.prog 48 #[v, .agg #[.int .i64 y.1, .int .i64 y.2.1, .int .i64 y.2.2]] w fun e w' => e = .returned (.tuple #[.int .i64 0, .bool false]) ∧ Below w.heap.size w w' := by
  have kb := (Below.refl w.heap.size w).alloc (Nat.le_refl _) (.cells #[.int .i64 y.1, .int .i64 y.2.1, .int .i64 y.2.2] 23)
  have hv := novalid (h.below kb)
  replace h := Lib.hid h
  replace kb := Lib.hid kb
  go_enter Tryd.func48, Tryd.ntmps48
  go_wp2_with (fail)
  refine hv.mono ?_
  rintro e w2 ⟨rfl, b2⟩
  have hk := Lib.hid (kb.out.trans (b2.mono kb.out.size))
  clear b2 hv
  go_wp2_with (fail)
  refine bodyPost_ret (results_tmp2 rfl _ _ _) rfl ?_
  exact ⟨rfl, hk.out⟩
set_option maxHeartbeats 2000000 in
theorem noLen  {v : Value} {w : World} (h : NoT v w) : Calls Tryd.prog 25 #[v] w fun e w' => e = .returned (.int .i64 0) ∧ Below w.heap.size w w' := by
  have kb := Below.refl w.heap.size w
  have hv := novalid (h.below kb)
  replace h := Lib.hid h
  replace kb := Lib.hid kb
  go_enter Tryd.func25, Tryd.ntmps25
  go_wp2_with (fail)
  refine hv.mono ?_
  rintro e w2 ⟨rfl, b2⟩
  have hk := Lib.hid (kb.out.trans (b2.mono kb.out.size))
  clear b2 hv
  go_wp2_with (fail)
  go_ret
  exact ⟨rfl, hk.out⟩
set_option maxHeartbeats 2000000 in
theorem noRoom  {v : Value} {w : World} (h : NoT v w) : Calls Tryd.prog 26 #[v] w fun e w' => e = .returned (.int .i64 0) ∧ Below w.heap.size w w' := by
  have kb := Below.refl w.heap.size w
  have hv := novalid (h.below kb)
  replace h := Lib.hid h
  replace kb := Lib.hid kb
  go_enter Tryd.func26, Tryd.ntmps26
  go_wp2_with (fail)
  refine hv.mono ?_
  rintro e w2 ⟨rfl, b2⟩
  have hk := Lib.hid (kb.out.trans (b2.mono kb.out.size))
  clear b2 hv
  go_wp2_with (fail)
  go_ret
  exact ⟨rfl, hk.out⟩
set_option maxHeartbeats 2000000 in
theorem noAll  {v : Value} {w : World} (h : NoT v w) : Calls Tryd.prog 24 #[v] w fun e w' => e = .returned (.slice none 0 0) ∧ Below w.heap.size w w' := by
  have kb := Below.refl w.heap.size w
  have hv := novalid (h.below kb)
  replace h := Lib.hid h
  replace kb := Lib.hid kb
  go_enter Tryd.func24, Tryd.ntmps24
  go_wp2_with (fail)
  refine hv.mono ?_
  rintro e w2 ⟨rfl, b2⟩
  have hk := Lib.hid (kb.out.trans (b2.mono kb.out.size))
  clear b2 hv
  go_wp2_with (fail)
  go_ret
  exact ⟨rfl, hk.out⟩
set_option maxHeartbeats 2000000 in
theorem noCopy  {v : Value} {w : World} (h : NoT v w) : Calls Tryd.prog 20 #[v] w fun e w' => e = .returned (.pointer none) ∧ Below w.heap.size w w' := by
  have kb := Below.refl w.heap.size w
  have hv := novalid (h.below kb)
  replace h := Lib.hid h
  replace kb := Lib.hid kb
  go_enter Tryd.func20, Tryd.ntmps20
  go_wp2_with (fail)
  refine hv.mono ?_
  rintro e w2 ⟨rfl, b2⟩
  have hk := Lib.hid (kb.out.trans (b2.mono kb.out.size))
  clear b2 hv
  go_wp2_with (fail)
  go_ret
  exact ⟨rfl, hk.out⟩
set_option maxHeartbeats 2000000 in
theorem noTake (a b : ByteArray) {v : Value} {w : World} (h : NoT v w) : Calls Tryd.prog 13 #[v, .agg #[.string a, .string b]] w fun e w' => e = .returned (.tuple #[.slice none 0 0, .int .i64 1]) ∧ Below w.heap.size w w' := by
  have kb := (Below.refl w.heap.size w).alloc (Nat.le_refl _) (.cells #[.string a, .string b] 25)
  have hv := novalid (h.below kb)
  replace h := Lib.hid h
  replace kb := Lib.hid kb
  go_enter Tryd.func13, Tryd.ntmps13
  go_wp2_with (fail)
  refine hv.mono ?_
  rintro e w2 ⟨rfl, b2⟩
  have hk := Lib.hid (kb.out.trans (b2.mono kb.out.size))
  clear b2 hv
  go_wp2_with (fail)
  refine bodyPost_ret (results_tmp2 rfl _ _ _) rfl ?_
  exact ⟨rfl, hk.out⟩
set_option maxHeartbeats 2000000 in
theorem noPut (y : Ef) (key : ByteArray) (r : Rp) {v : Value} {w : World} (h : NoT v w) : Calls Tryd.prog 18 #[v, .agg #[.int .i64 y.1, .int .i64 y.2.1, .int .i64 y.2.2], .string key, .agg #[.int .i64 r.1, .int .i64 r.2.1, .string r.2.2]] w fun e w' => e = .returned (.int .i64 1) ∧ Below w.heap.size w w' := by
  have kb := ((Below.refl w.heap.size w).alloc (Nat.le_refl _) (.cells #[.int .i64 y.1, .int .i64 y.2.1, .int .i64 y.2.2] 23)).alloc (by simp) (.cells #[.int .i64 r.1, .int .i64 r.2.1, .string r.2.2] 43)
  have hv := novalid (h.below kb)
  replace h := Lib.hid h
  replace kb := Lib.hid kb
  go_enter Tryd.func18, Tryd.ntmps18
  go_wp2_with (fail)
  refine hv.mono ?_
  rintro e w2 ⟨rfl, b2⟩
  have hk := Lib.hid (kb.out.trans (b2.mono kb.out.size))
  clear b2 hv
  go_wp2_with (fail)
  go_ret
  exact ⟨rfl, hk.out⟩
set_option maxHeartbeats 2000000 in
theorem noget (y : Ef) {v : Value} {w : World} (h : NoT v w) : Calls Tryd.prog 55 #[v, .agg #[.int .i64 y.1, .int .i64 y.2.1, .int .i64 y.2.2]] w fun e w' => e = .returned (.tuple #[.agg #[.int .i64 0, .int .i64 0, .string ⟨#[]⟩, .int .i64 0, .int .i64 0, .int .i64 0, .string ⟨#[]⟩], .bool false]) ∧ Below w.heap.size w w' := by
  have kb := ((Below.refl w.heap.size w).alloc (Nat.le_refl _) (.cells #[.int .i64 y.1, .int .i64 y.2.1, .int .i64 y.2.2] 23)).alloc (by simp) (.cells #[.int .i64 0, .int .i64 0, .string ⟨#[]⟩, .int .i64 0, .int .i64 0, .int .i64 0, .string ⟨#[]⟩] 89)
  have hZ : ((w.alloc (.cells #[.int .i64 y.1, .int .i64 y.2.1, .int .i64 y.2.2] 23)).alloc (.cells #[.int .i64 0, .int .i64 0, .string ⟨#[]⟩, .int .i64 0, .int .i64 0, .int .i64 0, .string ⟨#[]⟩] 89)).heap[w.heap.size + 1]? = some (.cells #[.int .i64 0, .int .i64 0, .string ⟨#[]⟩, .int .i64 0, .int .i64 0, .int .i64 0, .string ⟨#[]⟩] 89 (0, 0)) := by
    have := hpNew (w.alloc (.cells #[.int .i64 y.1, .int .i64 y.2.1, .int .i64 y.2.2] 23)) (.cells #[.int .i64 0, .int .i64 0, .string ⟨#[]⟩, .int .i64 0, .int .i64 0, .int .i64 0, .string ⟨#[]⟩] 89)
    rwa [show (w.alloc (.cells #[.int .i64 y.1, .int .i64 y.2.1, .int .i64 y.2.2] 23)).heap.size = w.heap.size + 1 from by simp] at this
  have hv := nofind y (h.below kb)
  replace h := Lib.hid h
  replace hZ := Lib.hid hZ
  replace kb := Lib.hid kb
  go_enter Tryd.func55, Tryd.ntmps55
  go_wp2_with (fail)
  refine hv.mono ?_
  rintro e w2 ⟨rfl, b2⟩
  have hk := Lib.hid (kb.out.trans (b2.mono kb.out.size))
  have hz := (b2.block _ (blkX hZ.out)).trans hZ.out
  have zl := blkX hz
  have z0 := blkC hz 0
  have z1 := blkC hz 1
  have z2 := blkC hz 2
  have z3 := blkC hz 3
  have z4 := blkC hz 4
  have z5 := blkC hz 5
  have z6 := blkC hz 6
  have zf := blkF hz
  simp only [List.getElem?_toArray, List.getElem?_cons_zero, List.getElem?_cons_succ] at z0 z1 z2 z3 z4 z5 z6
  replace hz := Lib.hid hz
  clear b2 hv
  go_wp2_with (fail)
  refine bodyPost_ret (by simp [results, Tryd.results55, go_sem, *]; try with_reducible rfl) rfl ?_
  have hb1 : w.heap.size ≤ w.heap.size + 1 := by omega
  have hb2 : w.heap.size ≤ w2.heap.size := hk.out.size
  have hb3 : w.heap.size ≤ w2.heap.size + 1 := by omega
  refine ⟨rfl, ?_⟩
  repeat (first | refine Below.setCell ?_ hb1 _ | refine Below.setCell ?_ hb2 _ | refine Below.setCell ?_ hb3 _ | refine Below.alloc ?_ hb2 _ | refine Below.alloc ?_ (by simp [World.setCell]; omega) _)
  exact hk.out
set_option maxHeartbeats 2000000 in
theorem noGet (y : Ef) {v : Value} {w : World} (h : NoT v w) : Calls Tryd.prog 22 #[v, .agg #[.int .i64 y.1, .int .i64 y.2.1, .int .i64 y.2.2]] w fun e w' => e = .returned (.tuple #[.agg #[.int .i64 0, .int .i64 0, .string ⟨#[]⟩], .bool false]) ∧ Below w.heap.size w w' := by
  have kb := ((Below.refl w.heap.size w).alloc (Nat.le_refl _) (.cells #[.int .i64 y.1, .int .i64 y.2.1, .int .i64 y.2.2] 23)).alloc (by simp) (.cells #[.int .i64 0, .int .i64 0, .string ⟨#[]⟩] 43)
  have hZ : ((w.alloc (.cells #[.int .i64 y.1, .int .i64 y.2.1, .int .i64 y.2.2] 23)).alloc (.cells #[.int .i64 0, .int .i64 0, .string ⟨#[]⟩] 43)).heap[w.heap.size + 1]? = some (.cells #[.int .i64 0, .int .i64 0, .string ⟨#[]⟩] 43 (0, 0)) := by
    have := hpNew (w.alloc (.cells #[.int .i64 y.1, .int .i64 y.2.1, .int .i64 y.2.2] 23)) (.cells #[.int .i64 0, .int .i64 0, .string ⟨#[]⟩] 43)
    rwa [show (w.alloc (.cells #[.int .i64 y.1, .int .i64 y.2.1, .int .i64 y.2.2] 23)).heap.size = w.heap.size + 1 from by simp] at this
  have hv := noget y (h.below kb)
  replace h := Lib.hid h
  replace hZ := Lib.hid hZ
  replace kb := Lib.hid kb
  go_enter Tryd.func22, Tryd.ntmps22
  go_wp2_with (fail)
  refine hv.mono ?_
  rintro e w2 ⟨rfl, b2⟩
  have hk := Lib.hid (kb.out.trans (b2.mono kb.out.size))
  have hz := (b2.block _ (blkX hZ.out)).trans hZ.out
  have zl := blkX hz
  have z0 := blkC hz 0
  have z1 := blkC hz 1
  have z2 := blkC hz 2
  have zf := blkF hz
  simp only [List.getElem?_toArray, List.getElem?_cons_zero, List.getElem?_cons_succ] at z0 z1 z2
  replace hz := Lib.hid hz
  clear b2 hv
  go_wp2_with (fail)
  refine bodyPost_ret (by simp [results, Tryd.results22, go_sem, *]; try with_reducible rfl) rfl ?_
  have hb1 : w.heap.size ≤ w.heap.size + 1 := by omega
  have hb2 : w.heap.size ≤ w2.heap.size := hk.out.size
  have hb3 : w.heap.size ≤ w2.heap.size + 1 := by omega
  refine ⟨rfl, ?_⟩
  repeat (first | refine Below.setCell ?_ hb1 _ | refine Below.setCell ?_ hb2 _ | refine Below.setCell ?_ hb3 _ | refine Below.alloc ?_ hb2 _ | refine Below.alloc ?_ (by simp [World.setCell]; omega) _)
  exact hk.out
set_option maxHeartbeats 2000000 in
theorem noKey (y : Ef) {v : Value} {w : World} (h : NoT v w) : Calls Tryd.prog 23 #[v, .agg #[.int .i64 y.1, .int .i64 y.2.1, .int .i64 y.2.2]] w fun e w' => e = .returned (.tuple #[.string ⟨#[]⟩, .bool false]) ∧ Below w.heap.size w w' := by
  have kb := (Below.refl w.heap.size w).alloc (Nat.le_refl _) (.cells #[.int .i64 y.1, .int .i64 y.2.1, .int .i64 y.2.2] 23)
  have hv := noget y (h.below kb)
  replace h := Lib.hid h
  replace kb := Lib.hid kb
  go_enter Tryd.func23, Tryd.ntmps23
  go_wp2_with (fail)
  refine hv.mono ?_
  rintro e w2 ⟨rfl, b2⟩
  have hk := Lib.hid (kb.out.trans (b2.mono kb.out.size))
  clear b2 hv
  go_wp2_with (fail)
  refine bodyPost_ret (results_tmp2 rfl _ _ _) rfl ?_
  have hb1 : w.heap.size ≤ w.heap.size + 1 := by omega
  have hb2 : w.heap.size ≤ w2.heap.size := hk.out.size
  have hb3 : w.heap.size ≤ w2.heap.size + 1 := by omega
  refine ⟨rfl, ?_⟩
  repeat (first | refine Below.setCell ?_ hb1 _ | refine Below.setCell ?_ hb2 _ | refine Below.setCell ?_ hb3 _ | refine Below.alloc ?_ hb2 _ | refine Below.alloc ?_ (by simp [World.setCell]; omega) _)
  exact hk.out
end Go.Proofs.YtkdfhackpmdgfaaDoor
