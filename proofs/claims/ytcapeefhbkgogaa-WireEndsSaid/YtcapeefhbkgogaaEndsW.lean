/- The longest values, and wrong ones: the walk. -/
import Derived.Test.YtcapeefhbkgogaaRep
import Derived.Test.YtcapeefhbkgogaaWorks
import Derived.Test.YtcapeefhbkgogaaWrite
import Derived.Test.YtcapeefhbkgogaaRd
import Derived.Test.YtcapeefhbkgogaaReader
import Derived.Test.YtcapeefhbkgogaaRefW
namespace Go.Proofs.Ytcapeefhbkgogaa
open Go.RowKit
set_option linter.unusedSimpArgs false
set_option linter.unusedVariables false
set_option linter.unusedSectionVars false
set_option maxRecDepth 10000
theorem rb_blk {W : World} {g : Nat} {xs : List UInt8} (h : W.heap[g]? = some (.cells (bvs xs).toArray 5 (0, 0))) : RB W (some ⟨g, 0, none⟩) xs.length xs := by
  refine ⟨rfl, fun _ => ⟨_, rfl, blkX h, fun j u hj => ?_⟩⟩
  rw [Addr.add_lit]
  refine (blkC h _).trans ?_
  rw [Nat.zero_add]; simpa using hj
theorem rep9 (x : UInt8) (b cp : Nat) (w : World) (hb : w.heap[b]? = some (.cells #[bv x] 5 (0, 0))) : Calls Try.prog 43 #[.slice (some ⟨b, 0, none⟩) 1 cp, .int .i64 9] w fun e w' => ∃ A, e = .returned (.slice A 9 9) ∧ RB w' A 9 (List.replicate 9 x) ∧ Below w.heap.size w w' := rep_any x 9 (by decide) (by decide) b cp w hb
theorem rep10 (x : UInt8) (b cp : Nat) (w : World) (hb : w.heap[b]? = some (.cells #[bv x] 5 (0, 0))) : Calls Try.prog 43 #[.slice (some ⟨b, 0, none⟩) 1 cp, .int .i64 10] w fun e w' => ∃ A, e = .returned (.slice A 10 10) ∧ RB w' A 10 (List.replicate 10 x) ∧ Below w.heap.size w w' := rep_any x 10 (by decide) (by decide) b cp w hb
theorem enc_of {l : List UInt8} {n k : Nat} (h : dec l = some (n, k)) (hk : l.length = k) : enc n = l := by
  have := (dec_sound h).2.1
  rw [this, ← hk, List.take_length]
theorem size_list (s : ByteArray) : s.size = s.data.toList.length := by rw [Array.length_toList]; rfl
theorem repeatL_one' (c : UInt8) : ∀ n, Lib.repeatL [c] n = List.replicate n c
  | 0 => rfl
  | n + 1 => by rw [Lib.repeatL, repeatL_one' c n, List.replicate_succ]; rfl
attribute [local go_sem ↓] hideAppend
attribute [-go_sem] run_string_add_if
theorem repX (n : Nat) : (⟨(Lib.repeatL (⟨#[120]⟩ : ByteArray).data.toList n).toArray⟩ : ByteArray).data.toList.length = n := by show (Lib.repeatL [120] n).toArray.toList.length = n; rw [repeatL_one', List.toList_toArray, List.length_replicate]
set_option maxHeartbeats 64000000 in
theorem ends_walk (w : World) : Calls Try.prog 11 #[] w fun e w' => e = .returned (.bool true) ∧ Below w.heap.size w w' := by
  have kx := Lib.hid (Below.refl w.heap.size w)
  have hwk := fun V => works_any V
  go_enter Try.func11, Try.ntmps11
  obtain ⟨W1, hW1⟩ : ∃ W, W = (((((w.alloc (.cells #[] 5)).alloc (.cells #[.int .u8 128] 5)).alloc (.cells #[.int .u8 128, .int .u8 0] 5)).alloc (.cells #[.int .u8 255, .int .u8 128, .int .u8 0] 5)).alloc (.cells #[.int .u8 255] 5)) := ⟨_, rfl⟩
  have bk : Below w.heap.size w W1 := by rw [hW1]; exact (((((Below.refl _ w).alloc (Nat.le_refl _) _).alloc (by simp <;> omega) _).alloc (by simp <;> omega) _).alloc (by simp <;> omega) _).alloc (by simp <;> omega) _
  have kx_ := Lib.hid (kx.out.trans (bk.mono kx.out.size))
  clear kx
  have kx := kx_
  clear kx_
  have qb0 := Lib.hid (show W1.heap[w.heap.size]? = some (.cells #[] 5 (0, 0)) from by rw [hW1]; repeat (first | exact hpNewAt _ (by simp) | exact hpNew _ _ | refine (hpOld _ (by simp <;> omega)).trans ?_))
  have b0 : Hid (RB W1 (some ⟨w.heap.size, 0, none⟩) 0 []) := Lib.hid (rb_blk (xs := []) qb0.out)
  have qb1 := Lib.hid (show W1.heap[w.heap.size + 1]? = some (.cells #[.int .u8 128] 5 (0, 0)) from by rw [hW1]; repeat (first | exact hpNewAt _ (by simp) | exact hpNew _ _ | refine (hpOld _ (by simp <;> omega)).trans ?_))
  have b1 : Hid (RB W1 (some ⟨w.heap.size + 1, 0, none⟩) 1 [128]) := Lib.hid (rb_blk (xs := [128]) qb1.out)
  have qb2 := Lib.hid (show W1.heap[w.heap.size + 1 + 1]? = some (.cells #[.int .u8 128, .int .u8 0] 5 (0, 0)) from by rw [hW1]; repeat (first | exact hpNewAt _ (by simp) | exact hpNew _ _ | refine (hpOld _ (by simp <;> omega)).trans ?_))
  have b2 : Hid (RB W1 (some ⟨w.heap.size + 1 + 1, 0, none⟩) 2 [128, 0]) := Lib.hid (rb_blk (xs := [128, 0]) qb2.out)
  have qb3 := Lib.hid (show W1.heap[w.heap.size + 1 + 1 + 1]? = some (.cells #[.int .u8 255, .int .u8 128, .int .u8 0] 5 (0, 0)) from by rw [hW1]; repeat (first | exact hpNewAt _ (by simp) | exact hpNew _ _ | refine (hpOld _ (by simp <;> omega)).trans ?_))
  have b3 : Hid (RB W1 (some ⟨w.heap.size + 1 + 1 + 1, 0, none⟩) 3 [255, 128, 0]) := Lib.hid (rb_blk (xs := [255, 128, 0]) qb3.out)
  have qt0 := Lib.hid (show W1.heap[w.heap.size + 1 + 1 + 1 + 1]? = some (.cells #[.int .u8 255] 5 (0, 0)) from by rw [hW1]; repeat (first | exact hpNewAt _ (by simp) | exact hpNew _ _ | refine (hpOld _ (by simp <;> omega)).trans ?_))
  have t0 : Hid (RB W1 (some ⟨w.heap.size + 1 + 1 + 1 + 1, 0, none⟩) 1 [255]) := Lib.hid (rb_blk (xs := [255]) qt0.out)
  clear bk
  go_wp2_with (fail)
  rw [← hW1]
  replace hW1 := Lib.hid hW1
  refine (rep10 255 _ 1 _ qt0.out).mono ?_
  rintro e W2 ⟨Ab4, rfl, hr, bk⟩
  have kx_ := Lib.hid (kx.out.trans (bk.mono kx.out.size))
  have b0_ := Lib.hid (b0.out.below bk)
  have b1_ := Lib.hid (b1.out.below bk)
  have b2_ := Lib.hid (b2.out.below bk)
  have b3_ := Lib.hid (b3.out.below bk)
  have t0_ := Lib.hid (t0.out.below bk)
  clear kx b0 b1 b2 b3 t0
  have kx := kx_; have b0 := b0_; have b1 := b1_; have b2 := b2_; have b3 := b3_; have t0 := t0_
  clear kx_ b0_ b1_ b2_ b3_ t0_
  have b4 := Lib.hid hr
  clear hr bk
  clear t0 qt0
  obtain ⟨W3, hW3⟩ : ∃ W, W = (W2.alloc (.cells #[.int .u8 255] 5)) := ⟨_, rfl⟩
  have bk : Below W2.heap.size W2 W3 := by rw [hW3]; exact (Below.refl _ W2).alloc (Nat.le_refl _) _
  have kx_ := Lib.hid (kx.out.trans (bk.mono kx.out.size))
  have b0_ := Lib.hid (b0.out.below bk)
  have b1_ := Lib.hid (b1.out.below bk)
  have b2_ := Lib.hid (b2.out.below bk)
  have b3_ := Lib.hid (b3.out.below bk)
  have b4_ := Lib.hid (b4.out.below bk)
  clear kx b0 b1 b2 b3 b4
  have kx := kx_; have b0 := b0_; have b1 := b1_; have b2 := b2_; have b3 := b3_; have b4 := b4_
  clear kx_ b0_ b1_ b2_ b3_ b4_
  have qt1 := Lib.hid (show W3.heap[W2.heap.size]? = some (.cells #[.int .u8 255] 5 (0, 0)) from by rw [hW3]; repeat (first | exact hpNewAt _ (by simp) | exact hpNew _ _ | refine (hpOld _ (by simp <;> omega)).trans ?_))
  have t1 : Hid (RB W3 (some ⟨W2.heap.size, 0, none⟩) 1 [255]) := Lib.hid (rb_blk (xs := [255]) qt1.out)
  clear bk
  go_wp2_with (fail)
  rw [← hW3]
  replace hW3 := Lib.hid hW3
  refine (rep9 255 _ 1 _ qt1.out).mono ?_
  rintro e W4 ⟨At2, rfl, hr, bk⟩
  have kx_ := Lib.hid (kx.out.trans (bk.mono kx.out.size))
  have b0_ := Lib.hid (b0.out.below bk)
  have b1_ := Lib.hid (b1.out.below bk)
  have b2_ := Lib.hid (b2.out.below bk)
  have b3_ := Lib.hid (b3.out.below bk)
  have b4_ := Lib.hid (b4.out.below bk)
  have t1_ := Lib.hid (t1.out.below bk)
  clear kx b0 b1 b2 b3 b4 t1
  have kx := kx_; have b0 := b0_; have b1 := b1_; have b2 := b2_; have b3 := b3_; have b4 := b4_; have t1 := t1_
  clear kx_ b0_ b1_ b2_ b3_ b4_ t1_
  have t2 := Lib.hid hr
  clear hr bk
  clear t1 qt1
  obtain ⟨W5, hW5⟩ : ∃ W, W = (W4.alloc (.cells #[.int .u8 2] 5)) := ⟨_, rfl⟩
  have bk : Below W4.heap.size W4 W5 := by rw [hW5]; exact (Below.refl _ W4).alloc (Nat.le_refl _) _
  have kx_ := Lib.hid (kx.out.trans (bk.mono kx.out.size))
  have b0_ := Lib.hid (b0.out.below bk)
  have b1_ := Lib.hid (b1.out.below bk)
  have b2_ := Lib.hid (b2.out.below bk)
  have b3_ := Lib.hid (b3.out.below bk)
  have b4_ := Lib.hid (b4.out.below bk)
  have t2_ := Lib.hid (t2.out.below bk)
  clear kx b0 b1 b2 b3 b4 t2
  have kx := kx_; have b0 := b0_; have b1 := b1_; have b2 := b2_; have b3 := b3_; have b4 := b4_; have t2 := t2_
  clear kx_ b0_ b1_ b2_ b3_ b4_ t2_
  have qt3 := Lib.hid (show W5.heap[W4.heap.size]? = some (.cells #[.int .u8 2] 5 (0, 0)) from by rw [hW5]; repeat (first | exact hpNewAt _ (by simp) | exact hpNew _ _ | refine (hpOld _ (by simp <;> omega)).trans ?_))
  have t3 : Hid (RB W5 (some ⟨W4.heap.size, 0, none⟩) 1 [2]) := Lib.hid (rb_blk (xs := [2]) qt3.out)
  clear bk
  obtain ⟨Ab5, cb5, W6, hrun, hr, hcb5, bk⟩ := append_full (d := 1) t2.out t3.out (by omega) (by omega) (by omega)
  replace hr := Lib.hid hr; replace hcb5 := Lib.hid hcb5
  rewrite [hW5] at hrun
  have bk' := Lib.hid bk
  clear bk
  have kx_ := Lib.hid (kx.out.trans (bk'.out.mono kx.out.size))
  have b0_ := Lib.hid (b0.out.below bk'.out)
  have b1_ := Lib.hid (b1.out.below bk'.out)
  have b2_ := Lib.hid (b2.out.below bk'.out)
  have b3_ := Lib.hid (b3.out.below bk'.out)
  have b4_ := Lib.hid (b4.out.below bk'.out)
  have t2_ := Lib.hid (t2.out.below bk'.out)
  have t3_ := Lib.hid (t3.out.below bk'.out)
  clear kx b0 b1 b2 b3 b4 t2 t3
  have kx := kx_; have b0 := b0_; have b1 := b1_; have b2 := b2_; have b3 := b3_; have b4 := b4_; have t2 := t2_; have t3 := t3_
  clear kx_ b0_ b1_ b2_ b3_ b4_ t2_ t3_
  have b5 := hr
  clear hr bk'
  clear t2
  clear t3
  obtain ⟨W7, hW7⟩ : ∃ W, W = (W6.alloc (.cells #[.int .u8 128] 5)) := ⟨_, rfl⟩
  have bk : Below W6.heap.size W6 W7 := by rw [hW7]; exact (Below.refl _ W6).alloc (Nat.le_refl _) _
  have kx_ := Lib.hid (kx.out.trans (bk.mono kx.out.size))
  have b0_ := Lib.hid (b0.out.below bk)
  have b1_ := Lib.hid (b1.out.below bk)
  have b2_ := Lib.hid (b2.out.below bk)
  have b3_ := Lib.hid (b3.out.below bk)
  have b4_ := Lib.hid (b4.out.below bk)
  have b5_ := Lib.hid (b5.out.below bk)
  clear kx b0 b1 b2 b3 b4 b5
  have kx := kx_; have b0 := b0_; have b1 := b1_; have b2 := b2_; have b3 := b3_; have b4 := b4_; have b5 := b5_
  clear kx_ b0_ b1_ b2_ b3_ b4_ b5_
  have qt4 := Lib.hid (show W7.heap[W6.heap.size]? = some (.cells #[.int .u8 128] 5 (0, 0)) from by rw [hW7]; repeat (first | exact hpNewAt _ (by simp) | exact hpNew _ _ | refine (hpOld _ (by simp <;> omega)).trans ?_))
  have t4 : Hid (RB W7 (some ⟨W6.heap.size, 0, none⟩) 1 [128]) := Lib.hid (rb_blk (xs := [128]) qt4.out)
  clear bk
  go_wp2_with (fail)
  rw [← hW7]
  clear hrun
  replace hW7 := Lib.hid hW7
  refine (rep9 128 _ 1 _ qt4.out).mono ?_
  rintro e W8 ⟨At5, rfl, hr, bk⟩
  have kx_ := Lib.hid (kx.out.trans (bk.mono kx.out.size))
  have b0_ := Lib.hid (b0.out.below bk)
  have b1_ := Lib.hid (b1.out.below bk)
  have b2_ := Lib.hid (b2.out.below bk)
  have b3_ := Lib.hid (b3.out.below bk)
  have b4_ := Lib.hid (b4.out.below bk)
  have b5_ := Lib.hid (b5.out.below bk)
  have t4_ := Lib.hid (t4.out.below bk)
  clear kx b0 b1 b2 b3 b4 b5 t4
  have kx := kx_; have b0 := b0_; have b1 := b1_; have b2 := b2_; have b3 := b3_; have b4 := b4_; have b5 := b5_; have t4 := t4_
  clear kx_ b0_ b1_ b2_ b3_ b4_ b5_ t4_
  have t5 := Lib.hid hr
  clear hr bk
  clear t4 qt4
  obtain ⟨W9, hW9⟩ : ∃ W, W = (W8.alloc (.cells #[.int .u8 0] 5)) := ⟨_, rfl⟩
  have bk : Below W8.heap.size W8 W9 := by rw [hW9]; exact (Below.refl _ W8).alloc (Nat.le_refl _) _
  have kx_ := Lib.hid (kx.out.trans (bk.mono kx.out.size))
  have b0_ := Lib.hid (b0.out.below bk)
  have b1_ := Lib.hid (b1.out.below bk)
  have b2_ := Lib.hid (b2.out.below bk)
  have b3_ := Lib.hid (b3.out.below bk)
  have b4_ := Lib.hid (b4.out.below bk)
  have b5_ := Lib.hid (b5.out.below bk)
  have t5_ := Lib.hid (t5.out.below bk)
  clear kx b0 b1 b2 b3 b4 b5 t5
  have kx := kx_; have b0 := b0_; have b1 := b1_; have b2 := b2_; have b3 := b3_; have b4 := b4_; have b5 := b5_; have t5 := t5_
  clear kx_ b0_ b1_ b2_ b3_ b4_ b5_ t5_
  have qt6 := Lib.hid (show W9.heap[W8.heap.size]? = some (.cells #[.int .u8 0] 5 (0, 0)) from by rw [hW9]; repeat (first | exact hpNewAt _ (by simp) | exact hpNew _ _ | refine (hpOld _ (by simp <;> omega)).trans ?_))
  have t6 : Hid (RB W9 (some ⟨W8.heap.size, 0, none⟩) 1 [0]) := Lib.hid (rb_blk (xs := [0]) qt6.out)
  clear bk
  obtain ⟨Ab6, cb6, W10, hrun, hr, hcb6, bk⟩ := append_full (d := 1) t5.out t6.out (by omega) (by omega) (by omega)
  replace hr := Lib.hid hr; replace hcb6 := Lib.hid hcb6
  rewrite [hW9] at hrun
  have bk' := Lib.hid bk
  clear bk
  have kx_ := Lib.hid (kx.out.trans (bk'.out.mono kx.out.size))
  have b0_ := Lib.hid (b0.out.below bk'.out)
  have b1_ := Lib.hid (b1.out.below bk'.out)
  have b2_ := Lib.hid (b2.out.below bk'.out)
  have b3_ := Lib.hid (b3.out.below bk'.out)
  have b4_ := Lib.hid (b4.out.below bk'.out)
  have b5_ := Lib.hid (b5.out.below bk'.out)
  have t5_ := Lib.hid (t5.out.below bk'.out)
  have t6_ := Lib.hid (t6.out.below bk'.out)
  clear kx b0 b1 b2 b3 b4 b5 t5 t6
  have kx := kx_; have b0 := b0_; have b1 := b1_; have b2 := b2_; have b3 := b3_; have b4 := b4_; have b5 := b5_; have t5 := t5_; have t6 := t6_
  clear kx_ b0_ b1_ b2_ b3_ b4_ b5_ t5_ t6_
  have b6 := hr
  clear hr bk'
  clear t5
  clear t6
  obtain ⟨W11, hW11⟩ : ∃ W, W = (W10.alloc (.cells #[.int .u8 128] 5)) := ⟨_, rfl⟩
  have bk : Below W10.heap.size W10 W11 := by rw [hW11]; exact (Below.refl _ W10).alloc (Nat.le_refl _) _
  have kx_ := Lib.hid (kx.out.trans (bk.mono kx.out.size))
  have b0_ := Lib.hid (b0.out.below bk)
  have b1_ := Lib.hid (b1.out.below bk)
  have b2_ := Lib.hid (b2.out.below bk)
  have b3_ := Lib.hid (b3.out.below bk)
  have b4_ := Lib.hid (b4.out.below bk)
  have b5_ := Lib.hid (b5.out.below bk)
  have b6_ := Lib.hid (b6.out.below bk)
  clear kx b0 b1 b2 b3 b4 b5 b6
  have kx := kx_; have b0 := b0_; have b1 := b1_; have b2 := b2_; have b3 := b3_; have b4 := b4_; have b5 := b5_; have b6 := b6_
  clear kx_ b0_ b1_ b2_ b3_ b4_ b5_ b6_
  have qt7 := Lib.hid (show W11.heap[W10.heap.size]? = some (.cells #[.int .u8 128] 5 (0, 0)) from by rw [hW11]; repeat (first | exact hpNewAt _ (by simp) | exact hpNew _ _ | refine (hpOld _ (by simp <;> omega)).trans ?_))
  have t7 : Hid (RB W11 (some ⟨W10.heap.size, 0, none⟩) 1 [128]) := Lib.hid (rb_blk (xs := [128]) qt7.out)
  clear bk
  go_wp2_with (fail)
  rw [← hW11]
  clear hrun
  replace hW11 := Lib.hid hW11
  refine (rep10 128 _ 1 _ qt7.out).mono ?_
  rintro e W12 ⟨At8, rfl, hr, bk⟩
  have kx_ := Lib.hid (kx.out.trans (bk.mono kx.out.size))
  have b0_ := Lib.hid (b0.out.below bk)
  have b1_ := Lib.hid (b1.out.below bk)
  have b2_ := Lib.hid (b2.out.below bk)
  have b3_ := Lib.hid (b3.out.below bk)
  have b4_ := Lib.hid (b4.out.below bk)
  have b5_ := Lib.hid (b5.out.below bk)
  have b6_ := Lib.hid (b6.out.below bk)
  have t7_ := Lib.hid (t7.out.below bk)
  clear kx b0 b1 b2 b3 b4 b5 b6 t7
  have kx := kx_; have b0 := b0_; have b1 := b1_; have b2 := b2_; have b3 := b3_; have b4 := b4_; have b5 := b5_; have b6 := b6_; have t7 := t7_
  clear kx_ b0_ b1_ b2_ b3_ b4_ b5_ b6_ t7_
  have t8 := Lib.hid hr
  clear hr bk
  clear t7 qt7
  obtain ⟨W13, hW13⟩ : ∃ W, W = (W12.alloc (.cells #[.int .u8 1] 5)) := ⟨_, rfl⟩
  have bk : Below W12.heap.size W12 W13 := by rw [hW13]; exact (Below.refl _ W12).alloc (Nat.le_refl _) _
  have kx_ := Lib.hid (kx.out.trans (bk.mono kx.out.size))
  have b0_ := Lib.hid (b0.out.below bk)
  have b1_ := Lib.hid (b1.out.below bk)
  have b2_ := Lib.hid (b2.out.below bk)
  have b3_ := Lib.hid (b3.out.below bk)
  have b4_ := Lib.hid (b4.out.below bk)
  have b5_ := Lib.hid (b5.out.below bk)
  have b6_ := Lib.hid (b6.out.below bk)
  have t8_ := Lib.hid (t8.out.below bk)
  clear kx b0 b1 b2 b3 b4 b5 b6 t8
  have kx := kx_; have b0 := b0_; have b1 := b1_; have b2 := b2_; have b3 := b3_; have b4 := b4_; have b5 := b5_; have b6 := b6_; have t8 := t8_
  clear kx_ b0_ b1_ b2_ b3_ b4_ b5_ b6_ t8_
  have qt9 := Lib.hid (show W13.heap[W12.heap.size]? = some (.cells #[.int .u8 1] 5 (0, 0)) from by rw [hW13]; repeat (first | exact hpNewAt _ (by simp) | exact hpNew _ _ | refine (hpOld _ (by simp <;> omega)).trans ?_))
  have t9 : Hid (RB W13 (some ⟨W12.heap.size, 0, none⟩) 1 [1]) := Lib.hid (rb_blk (xs := [1]) qt9.out)
  clear bk
  obtain ⟨Ab7, cb7, W14, hrun, hr, hcb7, bk⟩ := append_full (d := 1) t8.out t9.out (by omega) (by omega) (by omega)
  replace hr := Lib.hid hr; replace hcb7 := Lib.hid hcb7
  rewrite [hW13] at hrun
  have bk' := Lib.hid bk
  clear bk
  have kx_ := Lib.hid (kx.out.trans (bk'.out.mono kx.out.size))
  have b0_ := Lib.hid (b0.out.below bk'.out)
  have b1_ := Lib.hid (b1.out.below bk'.out)
  have b2_ := Lib.hid (b2.out.below bk'.out)
  have b3_ := Lib.hid (b3.out.below bk'.out)
  have b4_ := Lib.hid (b4.out.below bk'.out)
  have b5_ := Lib.hid (b5.out.below bk'.out)
  have b6_ := Lib.hid (b6.out.below bk'.out)
  have t8_ := Lib.hid (t8.out.below bk'.out)
  have t9_ := Lib.hid (t9.out.below bk'.out)
  clear kx b0 b1 b2 b3 b4 b5 b6 t8 t9
  have kx := kx_; have b0 := b0_; have b1 := b1_; have b2 := b2_; have b3 := b3_; have b4 := b4_; have b5 := b5_; have b6 := b6_; have t8 := t8_; have t9 := t9_
  clear kx_ b0_ b1_ b2_ b3_ b4_ b5_ b6_ t8_ t9_
  have b7 := hr
  clear hr bk'
  clear t8
  clear t9
  obtain ⟨W15, hW15⟩ : ∃ W, W = W14.alloc (.cells #[.slice (some ⟨w.heap.size, 0, none⟩) 0 0, .slice (some ⟨w.heap.size + 1, 0, none⟩) 1 1, .slice (some ⟨w.heap.size + 1 + 1, 0, none⟩) 2 2, .slice (some ⟨w.heap.size + 1 + 1 + 1, 0, none⟩) 3 3, .slice Ab4 10 10, .slice Ab5 10 cb5, .slice Ab6 10 cb6, .slice Ab7 11 cb7] 35) := ⟨_, rfl⟩
  have bk : Below W14.heap.size W14 W15 := by rw [hW15]; exact (Below.refl _ _).alloc (Nat.le_refl _) _
  have kx_ := Lib.hid (kx.out.trans (bk.mono kx.out.size))
  have b0_ := Lib.hid (b0.out.below bk)
  have b1_ := Lib.hid (b1.out.below bk)
  have b2_ := Lib.hid (b2.out.below bk)
  have b3_ := Lib.hid (b3.out.below bk)
  have b4_ := Lib.hid (b4.out.below bk)
  have b5_ := Lib.hid (b5.out.below bk)
  have b6_ := Lib.hid (b6.out.below bk)
  have b7_ := Lib.hid (b7.out.below bk)
  clear kx b0 b1 b2 b3 b4 b5 b6 b7
  have kx := kx_; have b0 := b0_; have b1 := b1_; have b2 := b2_; have b3 := b3_; have b4 := b4_; have b5 := b5_; have b6 := b6_; have b7 := b7_
  clear kx_ b0_ b1_ b2_ b3_ b4_ b5_ b6_ b7_
  have qR := Lib.hid (show W15.heap[W14.heap.size]? = some (.cells #[.slice (some ⟨w.heap.size, 0, none⟩) 0 0, .slice (some ⟨w.heap.size + 1, 0, none⟩) 1 1, .slice (some ⟨w.heap.size + 1 + 1, 0, none⟩) 2 2, .slice (some ⟨w.heap.size + 1 + 1 + 1, 0, none⟩) 3 3, .slice Ab4 10 10, .slice Ab5 10 cb5, .slice Ab6 10 cb6, .slice Ab7 11 cb7] 35 (0, 0)) from by rw [hW15]; exact hpNew _ _)
  clear bk
  have hall : ∀ j : Nat, j < 8 → ∃ A n c xs, W15.cell? ⟨W14.heap.size, j, none⟩ = some (.slice A n c) ∧ RB W15 A n xs ∧ dec xs = none ∧ n ≤ 20 := by
    intro j hj
    have hj8 : j = 0 ∨ j = 1 ∨ j = 2 ∨ j = 3 ∨ j = 4 ∨ j = 5 ∨ j = 6 ∨ j = 7 := by omega
    rcases hj8 with rfl | rfl | rfl | rfl | rfl | rfl | rfl | rfl
    · exact ⟨_, _, _, _, blkC qR.out 0, b0.out, by decide +kernel, by omega⟩
    · exact ⟨_, _, _, _, blkC qR.out 1, b1.out, by decide +kernel, by omega⟩
    · exact ⟨_, _, _, _, blkC qR.out 2, b2.out, by decide +kernel, by omega⟩
    · exact ⟨_, _, _, _, blkC qR.out 3, b3.out, by decide +kernel, by omega⟩
    · exact ⟨_, _, _, _, blkC qR.out 4, b4.out, by decide +kernel, by omega⟩
    · exact ⟨_, _, _, _, blkC qR.out 5, b5.out, by decide +kernel, by omega⟩
    · exact ⟨_, _, _, _, blkC qR.out 6, b6.out, by decide +kernel, by omega⟩
    · exact ⟨_, _, _, _, blkC qR.out 7, b7.out, by decide +kernel, by omega⟩
  replace hall := Lib.hid hall
  have lR := Lib.hid (blkX qR.out)
  go_wp2_with (fail)
  rw [← hW15]
  clear hrun
  replace hW15 := Lib.hid hW15
  clear b0 b1 b2 b3 b4 b5 b6 b7 qR
  go_loopw [33] (fun i wr => ∃ j : Nat, j ≤ 8 ∧ i = .int .i64 j ∧ Below W15.heap.size W15 wr) (fun i _ => 8 - (intOf i).toNat)
  case atStart => exact ⟨0, by omega, rfl, Below.refl _ _⟩
  case round =>
    revert wr
    intro V hrel
    obtain ⟨j, hj, rfl, hbw⟩ := hrel
    by_cases hlt : j < 8
    · obtain ⟨A, n, c, xs, hc, hr, hdec, hn⟩ := hall.out j hlt
      have hc2 := (hbw.cell (p := ⟨W14.heap.size, j, none⟩) lR.out).trans hc
      have hr2 := hr.below hbw
      have hrd := read_any (c := c) hr2 (by omega)
      have hru := rdU_bad hdec
      have j0 : (0 : Int) ≤ (j : Int) := by omega
      have j1 : (j : Int) < 8 := by omega
      replace hbw := Lib.hid hbw; replace hc := Lib.hid hc; replace hr := Lib.hid hr; replace hr2 := Lib.hid hr2; replace hdec := Lib.hid hdec; replace hru := Lib.hid hru
      go_wp2_with (fail)
      refine hrd.mono ?_
      rintro e V1 ⟨g, A1, c1, rfl, hg, hi, -, b1⟩
      clear hrd
      have hu := rdUint_any _ hi
      rewrite [hru.out] at hu
      have b1' := Lib.hid b1
      clear b1
      go_wp2_with (fail)
      refine hu.mono ?_
      rintro e V2 ⟨rfl, A2, c2, hi2, ch2⟩
      have b2 := Lib.hid (ch2.belowAfter b1'.out b1'.out.size (fun k hk e => by omega))
      have hen := end_p hi2
      have hlf := left_p hi2
      clear hu ch2 b1' hi
      replace hi2 := Lib.hid hi2
      go_wp2_with (fail)
      refine hen.mono ?_
      rintro e V3 ⟨rfl, rfl⟩
      go_wp2_with (fail)
      refine hlf.mono ?_
      rintro e V3 ⟨rfl, rfl⟩
      have b3 := Lib.hid (hbw.out.trans (b2.out.mono hbw.out.size))
      clear hen hlf
      go_wp2_with (fail)
      exact ⟨⟨j + 1, by omega, by go_num, b3.out⟩, by simp [intOf]; omega⟩
    · obtain rfl : j = 8 := by omega
      have kx1 := Lib.hid (kx.out.trans (hbw.mono kx.out.size))
      clear kx hall lR hbw; have kx := kx1; clear kx1
      obtain ⟨W16, hW16⟩ : ∃ W, W = (V.alloc (.cells #[.int .u8 255] 5)) := ⟨_, rfl⟩
      have bk : Below V.heap.size V W16 := by rw [hW16]; exact (Below.refl _ V).alloc (Nat.le_refl _) _
      have kx_ := Lib.hid (kx.out.trans (bk.mono kx.out.size))
      clear kx
      have kx := kx_
      clear kx_
      have qu0 := Lib.hid (show W16.heap[V.heap.size]? = some (.cells #[.int .u8 255] 5 (0, 0)) from by rw [hW16]; repeat (first | exact hpNewAt _ (by simp) | exact hpNew _ _ | refine (hpOld _ (by simp <;> omega)).trans ?_))
      have u0 : Hid (RB W16 (some ⟨V.heap.size, 0, none⟩) 1 [255]) := Lib.hid (rb_blk (xs := [255]) qu0.out)
      clear bk
      go_wp2_with (fail)
      rw [← hW16]
      replace hW16 := Lib.hid hW16
      refine (rep9 255 _ 1 _ qu0.out).mono ?_
      rintro e W17 ⟨Au1, rfl, hr, bk⟩
      have kx_ := Lib.hid (kx.out.trans (bk.mono kx.out.size))
      have u0_ := Lib.hid (u0.out.below bk)
      clear kx u0
      have kx := kx_; have u0 := u0_
      clear kx_ u0_
      have u1 := Lib.hid hr
      clear hr bk
      clear u0 qu0
      obtain ⟨W18, hW18⟩ : ∃ W, W = (W17.alloc (.cells #[.int .u8 1, .int .u8 7] 5)) := ⟨_, rfl⟩
      have bk : Below W17.heap.size W17 W18 := by rw [hW18]; exact (Below.refl _ W17).alloc (Nat.le_refl _) _
      have kx_ := Lib.hid (kx.out.trans (bk.mono kx.out.size))
      have u1_ := Lib.hid (u1.out.below bk)
      clear kx u1
      have kx := kx_; have u1 := u1_
      clear kx_ u1_
      have qu2 := Lib.hid (show W18.heap[W17.heap.size]? = some (.cells #[.int .u8 1, .int .u8 7] 5 (0, 0)) from by rw [hW18]; repeat (first | exact hpNewAt _ (by simp) | exact hpNew _ _ | refine (hpOld _ (by simp <;> omega)).trans ?_))
      have u2 : Hid (RB W18 (some ⟨W17.heap.size, 0, none⟩) 2 [1, 7]) := Lib.hid (rb_blk (xs := [1, 7]) qu2.out)
      clear bk
      obtain ⟨Au3, cu3, W19, hrun, hr, hcu3, bk⟩ := append_full (d := 2) u1.out u2.out (by omega) (by omega) (by omega)
      replace hr := Lib.hid hr; replace hcu3 := Lib.hid hcu3
      rewrite [hW18] at hrun
      have bk' := Lib.hid bk
      clear bk
      have kx_ := Lib.hid (kx.out.trans (bk'.out.mono kx.out.size))
      have u1_ := Lib.hid (u1.out.below bk'.out)
      have u2_ := Lib.hid (u2.out.below bk'.out)
      clear kx u1 u2
      have kx := kx_; have u1 := u1_; have u2 := u2_
      clear kx_ u1_ u2_
      have u3 := hr
      clear hr bk'
      clear u1
      clear u2
      have hrd := read_any (c := cu3) u3.out (by omega)
      go_wp2_with (fail)
      refine hrd.mono ?_
      rintro e R1 ⟨g, A1, c1, rfl, hg, hi, -, b1⟩
      clear hrd hrun
      have hu := rdUint_any _ hi
      rewrite [show rdU (some (List.replicate 9 255 ++ [1, 7])) = (18446744073709551615, some [7]) from by decide +kernel] at hu
      have b1' := Lib.hid b1
      clear b1
      go_wp2_with (fail)
      refine hu.mono ?_
      rintro e R2 ⟨rfl, A2, c2, hi2, ch2⟩
      have b2 := Lib.hid (ch2.belowAfter b1'.out b1'.out.size (fun k hk e => by omega))
      have hlf := left_p hi2
      clear hu ch2 b1' hi
      replace hi2 := Lib.hid hi2
      go_wp2_with (fail)
      refine hlf.mono ?_
      rintro e V3 ⟨rfl, rfl⟩
      clear hlf hi2
      have kx_ := Lib.hid (kx.out.trans (b2.out.mono kx.out.size))
      have u3_ := Lib.hid (u3.out.below b2.out)
      clear kx u3
      have kx := kx_; have u3 := u3_
      clear kx_ u3_
      clear u3 b2
      have szR := Lib.hid kx.out.size
      go_wp2_with (fail)
      refine (wNew_any _).mono ?_
      rintro e N1 ⟨rfl, hN1⟩
      have hi := isWr_new 46 R2
      rewrite [← hN1] at hi
      have bk : Below R2.heap.size R2 N1 := by rw [hN1]; exact (Below.refl _ _).alloc (Nat.le_refl _) _
      have kx_ := Lib.hid (kx.out.trans (bk.mono kx.out.size))
      clear kx
      have kx := kx_
      clear kx_
      have hsz := Lib.hid bk.size
      clear bk
      replace hN1 := Lib.hid hN1
      have hw1 := wInt_any _ _ _ [] N1 hi (by decide) (-9223372036854775808) (by omega) (by omega)
      rewrite [show ([] : List UInt8) ++ enc (zig (-9223372036854775808)) = List.replicate 9 255 ++ [1] from by rw [show zig (-9223372036854775808) = 18446744073709551615 from by decide, List.nil_append]; exact enc_of (k := 10) (by decide +kernel) rfl] at hw1
      go_wp2_with (fail)
      refine hw1.mono ?_
      rintro e N2 ⟨rfl, A2, c2, hi2, hm2, ch2⟩
      have kx_ := Lib.hid (ch2.belowAfter kx.out kx.out.size (fun k hk q => by rcases q with q | q; (have := szR.out; omega); cases q))
      clear hw1 hi ch2 kx; have kx := kx_; clear kx_
      have hby := wBytes_any _ _ _ _ N2 hi2 (by decide)
      replace hi2 := Lib.hid hi2
      go_wp2_with (fail)
      refine hby.mono ?_
      rintro e N3 ⟨A3, c3, rfl, o3, b3⟩
      have lb := Lib.hid (RB.of_own o3)
      clear hby o3 hi2
      have lb : Hid (RB N3 A3 10 (List.replicate 9 255 ++ [1])) := lb
      have kx_ := Lib.hid (kx.out.trans (b3.mono kx.out.size))
      clear kx b3; have kx := kx_; clear kx_
      obtain ⟨W20, hW20⟩ : ∃ W, W = (N3.alloc (.cells #[.int .u8 255] 5)) := ⟨_, rfl⟩
      have bk : Below N3.heap.size N3 W20 := by rw [hW20]; exact (Below.refl _ N3).alloc (Nat.le_refl _) _
      have kx_ := Lib.hid (kx.out.trans (bk.mono kx.out.size))
      have lb_ := Lib.hid (lb.out.below bk)
      clear kx lb
      have kx := kx_; have lb := lb_
      clear kx_ lb_
      have qv0 := Lib.hid (show W20.heap[N3.heap.size]? = some (.cells #[.int .u8 255] 5 (0, 0)) from by rw [hW20]; repeat (first | exact hpNewAt _ (by simp) | exact hpNew _ _ | refine (hpOld _ (by simp <;> omega)).trans ?_))
      have v0 : Hid (RB W20 (some ⟨N3.heap.size, 0, none⟩) 1 [255]) := Lib.hid (rb_blk (xs := [255]) qv0.out)
      clear bk
      go_wp2_with (fail)
      rw [← hW20]
      replace hW20 := Lib.hid hW20
      refine (rep9 255 _ 1 _ qv0.out).mono ?_
      rintro e W21 ⟨Av1, rfl, hr, bk⟩
      have kx_ := Lib.hid (kx.out.trans (bk.mono kx.out.size))
      have lb_ := Lib.hid (lb.out.below bk)
      have v0_ := Lib.hid (v0.out.below bk)
      clear kx lb v0
      have kx := kx_; have lb := lb_; have v0 := v0_
      clear kx_ lb_ v0_
      have v1 := Lib.hid hr
      clear hr bk
      clear v0 qv0
      obtain ⟨W22, hW22⟩ : ∃ W, W = (W21.alloc (.cells #[.int .u8 1] 5)) := ⟨_, rfl⟩
      have bk : Below W21.heap.size W21 W22 := by rw [hW22]; exact (Below.refl _ W21).alloc (Nat.le_refl _) _
      have kx_ := Lib.hid (kx.out.trans (bk.mono kx.out.size))
      have lb_ := Lib.hid (lb.out.below bk)
      have v1_ := Lib.hid (v1.out.below bk)
      clear kx lb v1
      have kx := kx_; have lb := lb_; have v1 := v1_
      clear kx_ lb_ v1_
      have qv2 := Lib.hid (show W22.heap[W21.heap.size]? = some (.cells #[.int .u8 1] 5 (0, 0)) from by rw [hW22]; repeat (first | exact hpNewAt _ (by simp) | exact hpNew _ _ | refine (hpOld _ (by simp <;> omega)).trans ?_))
      have v2 : Hid (RB W22 (some ⟨W21.heap.size, 0, none⟩) 1 [1]) := Lib.hid (rb_blk (xs := [1]) qv2.out)
      clear bk
      obtain ⟨Av3, cv3, W23, hrun, hr, hcv3, bk⟩ := append_full (d := 1) v1.out v2.out (by omega) (by omega) (by omega)
      replace hr := Lib.hid hr; replace hcv3 := Lib.hid hcv3
      rewrite [hW22] at hrun
      have bk' := Lib.hid bk
      clear bk
      have kx_ := Lib.hid (kx.out.trans (bk'.out.mono kx.out.size))
      have lb_ := Lib.hid (lb.out.below bk'.out)
      have v1_ := Lib.hid (v1.out.below bk'.out)
      have v2_ := Lib.hid (v2.out.below bk'.out)
      clear kx lb v1 v2
      have kx := kx_; have lb := lb_; have v1 := v1_; have v2 := v2_
      clear kx_ lb_ v1_ v2_
      have v3 := hr
      clear hr bk'
      clear v1
      clear v2
      have heq := equal_any lb.out v3.out c3 cv3
      rewrite [show ((List.replicate 9 255 ++ [1] : List UInt8) == (List.replicate 9 255 ++ [1])) = true from beq_self_eq_true _] at heq
      go_wp2_with (fail)
      refine heq.mono ?_
      rintro e V3 ⟨rfl, rfl⟩
      clear heq hrun lb v3
      go_wp2_with (fail)
      refine (wNew_any _).mono ?_
      rintro e P1 ⟨rfl, hP1⟩
      have ha := isWr_new 46 W23
      rewrite [← hP1] at ha
      have bk : Below W23.heap.size W23 P1 := by rw [hP1]; exact (Below.refl _ _).alloc (Nat.le_refl _) _
      have szM := Lib.hid kx.out.size
      have kx_ := Lib.hid (kx.out.trans (bk.mono kx.out.size))
      clear kx
      have kx := kx_
      clear kx_
      have szP := Lib.hid ha.lt
      clear bk
      replace hP1 := Lib.hid hP1
      replace ha := Lib.hid ha
      go_wp2_with (fail)
      refine (wNew_any _).mono ?_
      rintro e P2 ⟨rfl, hP2⟩
      have hb := isWr_new 46 P1
      rewrite [← hP2] at hb
      have bk : Below P1.heap.size P1 P2 := by rw [hP2]; exact (Below.refl _ _).alloc (Nat.le_refl _) _
      have kx_ := Lib.hid (kx.out.trans (bk.mono kx.out.size))
      clear kx
      have kx := kx_
      clear kx_
      have ha2 := Lib.hid (ha.out.below bk)
      clear ha bk; have ha := ha2; clear ha2
      replace hP2 := Lib.hid hP2
      replace hb := Lib.hid hb
      obtain ⟨ga, hga⟩ : ∃ g, g = W23.heap.size := ⟨_, rfl⟩
      obtain ⟨gb, hgb⟩ : ∃ g, g = P1.heap.size := ⟨_, rfl⟩
      rewrite [← hga] at ha szP szM; rewrite [← hgb] at hb szP
      simp only [← hga, ← hgb]
      replace hga := Lib.hid hga; replace hgb := Lib.hid hgb
      have hrp := Try.strings_Repeat_main ⟨#[120]⟩ 65536 P2 (by decide) (by decide) (by decide) (by decide)
      obtain ⟨SX, hSX⟩ : ∃ S : ByteArray, S = ⟨(Lib.repeatL (⟨#[120]⟩ : ByteArray).data.toList 65536).toArray⟩ := ⟨_, rfl⟩
      rewrite [← hSX] at hrp
      have hsx : SX.data.toList.length = 65536 := by rw [hSX]; exact repX 65536
      have hsz := size_list SX
      have hsX : SX.size = 65536 := by omega
      obtain ⟨SY, hSY⟩ : ∃ S : ByteArray, S = SX ++ ⟨#[120]⟩ := ⟨_, rfl⟩
      have hsY : SY.size = 65537 := by rw [hSY, ByteArray.size_append, hsX]; rfl
      have hyy := size_list SY
      have had : ∀ W : World, (Op.stringOp .add SX ⟨#[120]⟩).run Try.prog W = .ok (.string SY) W := fun W => by rw [hSY]; exact run_string_add_sum W _ _ (by rw [hsX]; decide)
      have hSXs : strOf SX.data.toList = SX := by simp [strOf]
      have e1 : rdT (some (enc 65536 ++ SX.data.toList)) = (SX.data.toList, some []) := by
        have hd := dec_enc (n := 65536) (by decide) SX.data.toList
        rw [rdT_ok hd (by rw [List.length_append]; omega)]
        rw [List.drop_left, List.take_of_length_le (by omega), List.drop_eq_nil_of_le (by rw [List.length_append]; omega)]
      have e2 : rdT (some (enc 65537 ++ SY.data.toList)) = ([], none) := rdT_big (dec_enc (n := 65537) (by decide) SY.data.toList) (.inl (by decide))
      have hl1 : (enc 65536 ++ SX.data.toList).length ≤ 70000 := by have := enc_len (n := 65536) (by decide); rw [List.length_append]; omega
      have hl2 : (enc 65537 ++ SY.data.toList).length = 65540 := by rw [List.length_append, show enc 65537 = [129, 128, 4] from enc_of (k := 3) (by decide +kernel) rfl, ← hyy, hsY]; rfl
      obtain ⟨LA, hLA⟩ : ∃ l : List UInt8, l = enc 65536 ++ SX.data.toList := ⟨_, rfl⟩
      obtain ⟨LB, hLB⟩ : ∃ l : List UInt8, l = enc 65537 ++ SY.data.toList := ⟨_, rfl⟩
      rewrite [← hLA] at e1 hl1; rewrite [← hLB] at e2 hl2
      replace hLA := Lib.hid hLA
      replace hLB := Lib.hid hLB
      replace hSX := Lib.hid hSX
      replace hsx := Lib.hid hsx
      replace hsz := Lib.hid hsz
      replace hsX := Lib.hid hsX
      replace hSY := Lib.hid hSY
      replace hsY := Lib.hid hsY
      replace hyy := Lib.hid hyy
      replace hSXs := Lib.hid hSXs
      replace e1 := Lib.hid e1
      replace e2 := Lib.hid e2
      replace hl1 := Lib.hid hl1
      replace hl2 := Lib.hid hl2
      go_wp2_with (fail)
      refine hrp.mono ?_
      rintro e P3 ⟨rfl, bk⟩
      clear hrp
      have kx_ := Lib.hid (kx.out.trans (bk.mono kx.out.size))
      clear kx
      have kx := kx_
      clear kx_
      have ha2 := ha.out.below bk; have hb2 := Lib.hid (hb.out.below bk)
      clear ha hb bk; have hb := hb2; clear hb2
      have hta := wText_any _ _ _ [] P3 ha2 (by decide) SX (by rw [hsX.out]; decide)
      rewrite [List.nil_append, hsX.out, ← hLA.out] at hta
      replace ha2 := Lib.hid ha2
      go_wp2_with (fail)
      refine hta.mono ?_
      rintro e P4 ⟨rfl, Aa, ca, ha, hm, ch⟩
      clear hta ha2
      have hb2 := hb.out.keep ch (fun q => by rcases q with q | q; (have := szP.out; omega); cases q) (fun k hk => by cases hk)
      have kx_ := Lib.hid (ch.belowAfter kx.out kx.out.size (fun k hk q => by rcases q with q | q; (have := szM.out; omega); cases q))
      clear kx hb ch hm; have kx := kx_; clear kx_
      have htb := wText_any _ _ _ [] P4 hb2 (by decide) SY (by rw [hsY.out]; decide)
      rewrite [List.nil_append, hsY.out, ← hLB.out] at htb
      replace hb2 := Lib.hid hb2; replace ha := Lib.hid ha
      go_wp2_with (fail)
      refine htb.mono ?_
      rintro e P5 ⟨rfl, Ab, cb, hb, hm, ch⟩
      have hra : rowOf Aa ≠ some gb := ha.out.rowNe (by decide) hb2.out.blk (by decide)
      have ha2 := ha.out.keep ch (fun q => by rcases q with q | q; (have := szP.out; omega); cases q) (fun k hk q => by rcases q with q | q; (subst q; exact hra hk); cases q)
      have kx_ := Lib.hid (ch.belowAfter kx.out kx.out.size (fun k hk q => by rcases q with q | q; (have := szM.out; have := szP.out; omega); cases q))
      clear kx htb ch hm hra ha hb2; have kx := kx_; clear kx_
      have hya := wBytes_any _ _ _ _ P5 ha2 (by have := hl1.out; omega)
      replace hb := Lib.hid hb; replace ha2 := Lib.hid ha2
      go_wp2_with (fail)
      refine hya.mono ?_
      rintro e P6 ⟨A6, c6, rfl, o6, b6⟩
      clear hya
      have kx_ := Lib.hid (kx.out.trans (b6.mono kx.out.size))
      clear kx
      have kx := kx_
      clear kx_
      have hr6 := RB.of_own o6
      have hb2 := Lib.hid (hb.out.below b6)
      have hra := read_any (c := c6) hr6 (by have := hl1.out; omega)
      clear hb b6 o6 ha2; have hb := hb2; clear hb2
      replace hr6 := Lib.hid hr6
      go_wp2_with (fail)
      refine hra.mono ?_
      rintro e P7 ⟨gr, Ar, cr, rfl, hgr, hir, hrr, b7⟩
      clear hra
      have kx_ := Lib.hid (kx.out.trans (b7.mono kx.out.size))
      clear kx
      have kx := kx_
      clear kx_
      have hb2 := hb.out.below b7
      have szb := Lib.hid hb.out.lt
      clear hb b7 hr6
      have hyb := wBytes_any _ _ _ _ P7 hb2 (by have := hl2.out; omega)
      replace hir := Lib.hid hir; replace hrr := Lib.hid hrr; replace hb2 := Lib.hid hb2
      go_wp2_with (fail)
      refine hyb.mono ?_
      rintro e P8 ⟨A8, c8, rfl, o8, b8⟩
      clear hyb
      have kx_ := Lib.hid (kx.out.trans (b8.mono kx.out.size))
      clear kx
      have kx := kx_
      clear kx_
      have hr8 := RB.of_own o8
      have hb3 := Lib.hid (hb2.out.below b8); have hir2 := Lib.hid (hir.out.below b8)
      have hrb := read_any (c := c8) hr8 (by have := hl2.out; omega)
      clear hb2 b8 o8 hir; have hb := hb3; have hir := hir2; clear hb3 hir2
      replace hr8 := Lib.hid hr8
      go_wp2_with (fail)
      refine hrb.mono ?_
      rintro e P9 ⟨gq, Aq, cq, rfl, hgq, hiq, hrq, b9⟩
      clear hrb
      have kx_ := Lib.hid (kx.out.trans (b9.mono kx.out.size))
      clear kx
      have kx := kx_
      clear kx_
      have szr := Lib.hid hir.out.lt
      have hb2 := Lib.hid (hb.out.below b9); have hir2 := hir.out.below b9
      clear hb b9 hr8 hir; have hb := hb2; clear hb2
      have htr := rdText_any _ hir2
      rewrite [e1.out, hSXs.out] at htr
      replace hiq := Lib.hid hiq; replace hrq := Lib.hid hrq; replace hir2 := Lib.hid hir2
      go_wp2_with (fail)
      refine htr.mono ?_
      rintro e Q1 ⟨rfl, Ar2, cr2, hir, ch⟩
      clear htr
      have hiq2 := hiq.out.keep ch (fun q => by have := szr.out; omega) (fun k hk q => by have := hrq.out k hk; have := szr.out; omega)
      have hnb : rowOf Ab ≠ some gr := hb.out.rowNe (by decide) hir2.out.blk (by decide)
      have hb2 := Lib.hid (hb.out.keep ch (fun q => by have := szb.out; omega) (fun k hk q => by subst q; exact hnb hk))
      have kx_ := Lib.hid (ch.belowAfter kx.out kx.out.size (fun k hk q => by have := szb.out; have := szM.out; have := szP.out; omega))
      clear kx ch hnb hb hiq hir2; have kx := kx_; have hb := hb2; clear kx_ hb2
      have her := end_p hir
      replace hir := Lib.hid hir
      go_wp2_with (fail)
      refine her.mono ?_
      rintro e V3 ⟨rfl, rfl⟩
      clear her
      have htq := rdText_any _ hiq2
      rewrite [e2.out, show strOf [] = (⟨#[]⟩ : ByteArray) from rfl] at htq
      replace hiq2 := Lib.hid hiq2
      go_wp2_with (fail)
      refine htq.mono ?_
      rintro e Q2 ⟨rfl, Aq2, cq2, hiq, ch⟩
      clear htq
      have hnb : rowOf Ab ≠ some gq := hb.out.rowNe (by decide) hiq2.out.blk (by decide)
      have hb2 := hb.out.keep ch (fun q => by have := szb.out; have := szr.out; omega) (fun k hk q => by subst q; exact hnb hk)
      have kx_ := Lib.hid (ch.belowAfter kx.out kx.out.size (fun k hk q => by have := szr.out; have := szb.out; have := szM.out; have := szP.out; omega))
      clear kx ch hnb hb hiq2; have kx := kx_; clear kx_
      have heq := end_p hiq
      replace hiq := Lib.hid hiq
      go_wp2_with (fail)
      refine heq.mono ?_
      rintro e V3 ⟨rfl, rfl⟩
      clear heq
      have hln := wLen_any _ _ _ _ Q2 hb2 (by have := hl2.out; omega)
      rewrite [hl2.out] at hln
      replace hb2 := Lib.hid hb2
      go_wp2_with (fail)
      refine hln.mono ?_
      rintro e V3 ⟨rfl, rfl⟩
      clear hln hb2 hiq hir
      obtain ⟨W24, hW24⟩ : ∃ W, W = (Q2.alloc (.cells #[.int .u8 2] 5)) := ⟨_, rfl⟩
      have bk : Below Q2.heap.size Q2 W24 := by rw [hW24]; exact (Below.refl _ Q2).alloc (Nat.le_refl _) _
      have kx_ := Lib.hid (kx.out.trans (bk.mono kx.out.size))
      clear kx
      have kx := kx_
      clear kx_
      have qx0 := Lib.hid (show W24.heap[Q2.heap.size]? = some (.cells #[.int .u8 2] 5 (0, 0)) from by rw [hW24]; repeat (first | exact hpNewAt _ (by simp) | exact hpNew _ _ | refine (hpOld _ (by simp <;> omega)).trans ?_))
      have x0 : Hid (RB W24 (some ⟨Q2.heap.size, 0, none⟩) 1 [2]) := Lib.hid (rb_blk (xs := [2]) qx0.out)
      clear bk
      have hr0 := read_any (c := 1) x0.out (by omega)
      go_wp2_with (fail)
      rw [← hW24]
      replace hW24 := Lib.hid hW24
      refine hr0.mono ?_
      rintro e T1 ⟨gt, At, ct, rfl, hgt, hit, hrt, b1⟩
      clear hr0
      have szt := Lib.hid kx.out.size
      have kx_ := Lib.hid (kx.out.trans (b1.mono kx.out.size))
      have x0_ := Lib.hid (x0.out.below b1)
      clear kx x0
      have kx := kx_; have x0 := x0_
      clear kx_ x0_
      replace hit := Lib.hid hit; replace hrt := Lib.hid hrt
      clear b1 x0 qx0
      obtain ⟨W25, hW25⟩ : ∃ W, W = (T1.alloc (.cells #[.int .u8 3, .int .u8 97, .int .u8 98] 5)) := ⟨_, rfl⟩
      have bk : Below T1.heap.size T1 W25 := by rw [hW25]; exact (Below.refl _ T1).alloc (Nat.le_refl _) _
      have kx_ := Lib.hid (kx.out.trans (bk.mono kx.out.size))
      clear kx
      have kx := kx_
      clear kx_
      have qx1 := Lib.hid (show W25.heap[T1.heap.size]? = some (.cells #[.int .u8 3, .int .u8 97, .int .u8 98] 5 (0, 0)) from by rw [hW25]; repeat (first | exact hpNewAt _ (by simp) | exact hpNew _ _ | refine (hpOld _ (by simp <;> omega)).trans ?_))
      have x1 : Hid (RB W25 (some ⟨T1.heap.size, 0, none⟩) 3 [3, 97, 98]) := Lib.hid (rb_blk (xs := [3, 97, 98]) qx1.out)
      clear bk
      have bk := (Below.refl _ T1).alloc (Nat.le_refl _) (.cells #[.int .u8 3, .int .u8 97, .int .u8 98] 5)
      rewrite [← hW25] at bk
      have hit2 := Lib.hid (hit.out.below bk)
      have szg := Lib.hid (Nat.lt_of_lt_of_le hit.out.lt bk.size)
      clear hit bk
      have hr0 := read_any (c := 3) x1.out (by omega)
      go_wp2_with (fail)
      rw [← hW25]
      replace hW25 := Lib.hid hW25
      refine hr0.mono ?_
      rintro e T2 ⟨gm, Am, cm, rfl, hgm, him, hrm, b1⟩
      clear hr0
      have kx_ := Lib.hid (kx.out.trans (b1.mono kx.out.size))
      have x1_ := Lib.hid (x1.out.below b1)
      clear kx x1
      have kx := kx_; have x1 := x1_
      clear kx_ x1_
      have hit := hit2.out.below b1
      clear hit2 b1 x1 qx1
      have hbo := rdBool_any _ hit
      rewrite [show rdB (some [2]) = (false, none) from by decide +kernel] at hbo
      replace hit := Lib.hid hit; replace him := Lib.hid him; replace hrm := Lib.hid hrm
      go_wp2_with (fail)
      refine hbo.mono ?_
      rintro e T3 ⟨rfl, At2, ct2, hit3, ch⟩
      clear hbo hit
      have him2 := him.out.keep ch (fun q => by have := szg.out; omega) (fun k hk q => by have := hrm.out k hk; have := szg.out; omega)
      have kx_ := Lib.hid (ch.belowAfter kx.out kx.out.size (fun k hk q => by have := szt.out; omega))
      clear kx ch him; have kx := kx_; clear kx_
      have het := end_p hit3
      replace hit3 := Lib.hid hit3
      go_wp2_with (fail)
      refine het.mono ?_
      rintro e V3 ⟨rfl, rfl⟩
      clear het hit3
      have htm := rdText_any _ him2
      rewrite [show rdT (some [3, 97, 98]) = ([], none) from by decide +kernel, show strOf [] = (⟨#[]⟩ : ByteArray) from rfl] at htm
      replace him2 := Lib.hid him2
      go_wp2_with (fail)
      refine htm.mono ?_
      rintro e T4 ⟨rfl, Am2, cm2, him3, ch⟩
      have kx_ := Lib.hid (ch.belowAfter kx.out kx.out.size (fun k hk q => by have := szt.out; have := szg.out; omega))
      clear kx ch him2 htm; have kx := kx_; clear kx_
      have hem := end_p him3
      replace him3 := Lib.hid him3
      go_wp2_with (fail)
      refine hem.mono ?_
      rintro e V3 ⟨rfl, rfl⟩
      clear hem him3
      have hr0 := read_any (A := none) (n := 0) (c := 0) (xs := []) (w := T4) ⟨rfl, fun h => absurd h (by omega)⟩ (by omega)
      go_wp2_with (fail)
      refine hr0.mono ?_
      rintro e T5 ⟨gn, An, cn, rfl, hgn, hin, hrn, b1⟩
      clear hr0
      have kx_ := Lib.hid (kx.out.trans (b1.mono kx.out.size))
      clear kx
      have kx := kx_
      clear kx_
      clear b1
      have hen := end_p hin
      replace hin := Lib.hid hin
      go_wp2_with (fail)
      refine hen.mono ?_
      rintro e V3 ⟨rfl, rfl⟩
      clear hen hin
      go_wp2_with (fail)
      refine (hwk _).mono ?_
      rintro e T6 ⟨rfl, b1⟩
      have kf := Lib.hid (kx.out.trans (b1.mono kx.out.size))
      clear b1
      go_wp2_with (fail)
      go_ret
      exact ⟨rfl, kf.out⟩
end Go.Proofs.Ytcapeefhbkgogaa
