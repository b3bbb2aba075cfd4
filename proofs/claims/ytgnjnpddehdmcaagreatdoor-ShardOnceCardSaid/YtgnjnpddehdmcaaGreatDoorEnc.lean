/- parcel.encode. -/
import Derived.Test.YtgnjnpddehdmcaaGreatDoorRangeG
namespace Go.Proofs.YtgnjnpddehdmcaaGreatDoor
open Go.RowKit Go.Shelf
set_option linter.unusedSimpArgs false
set_option linter.unusedVariables false
set_option linter.unusedSectionVars false
set_option maxRecDepth 10000
set_option maxHeartbeats 16000000 in
theorem encode_any (A1 : Option Addr) (c1 : Nat) (A2 : Option Addr) (c2 : Nat) (A3 : Option Addr) (c3 n m : Nat) (kv : Ct) (ds : List En) (v : World) (h1 : KS v A1 n (kv.map (·.1))) (h2 : CS v A2 n (kv.map (·.2))) (h3 : MS v A3 m ds) (hn : n ≤ 64) (hm : m ≤ 2048) (hkv : ∀ y ∈ kv, fitKv y) (hds : ∀ y ∈ ds, fitEn y) : Calls Tryz.prog 75 #[.agg #[.slice A1 n c1, .slice A2 n c2, .slice A3 m c3]] v fun e w' => e = .returned (.string ⟨(bPar kv ds).toArray⟩) ∧ Below v.heap.size v w' := by
 obtain ⟨W1, hW1⟩ : ∃ W1, W1 = v.alloc (.cells #[.slice A1 n c1, .slice A2 n c2, .slice A3 m c3] 81) := ⟨_, rfl⟩
 have k1 : Below v.heap.size v W1 := by rw [hW1]; exact (Below.refl _ v).alloc (Nat.le_refl _) _
 have b1 : W1.heap[v.heap.size]? = some (.cells #[.slice A1 n c1, .slice A2 n c2, .slice A3 m c3] 81 (0, 0)) := by rw [hW1]; exact hpNew _ _
 have hz1 : W1.heap.size = v.heap.size + 1 := by rw [hW1]; simp
 have hkn : kv.length = n := by have := h1.1; simpa using this
 have hdm : ds.length = m := h3.1
 have e0 := EW.start k1
 have q0 := (hpOld (o := .cells #[.bool true, .slice none 0 0] 237) (blkX b1)).trans b1
 have lK : ∀ j, ((kv.take j).flatMap bKv).length ≤ 200 * kv.length := fun j => flat_leT bKv (fun x hx => bKv_len (hkv x hx)) j
 have lD : ∀ j, ((ds.take j).flatMap bEn).length ≤ 66000 * ds.length := fun j => flat_leT bEn (fun x hx => bEn_len (hds x hx)) j
 have ln := Wi.enc_len (n := n) (by omega)
 have lm := Wi.enc_len (n := m) (by omega)
 rw [hkn] at lK; rw [hdm] at lD
 replace h1 := Lh h1; replace h2 := Lh h2; replace h3 := Lh h3; replace k1 := Lh k1; replace b1 := Lh b1; replace hz1 := Lh hz1; replace hkn := Lh hkn; replace hdm := Lh hdm; replace e0 := Lh e0; replace q0 := Lh q0; replace hkv := Lh hkv; replace hds := Lh hds; replace lK := Lh lK; replace lD := Lh lD; replace ln := Lh ln; replace lm := Lh lm; replace hW1 := Lh hW1
 go_enter Tryz.func75, Tryz.ntmps75
 go_wp2_with (fail)
 rw [← hW1.out]
 refine (Wi.wNew_any _).mono ?_
 rintro e W2 ⟨rfl, hW2⟩
 have e2 := e0.out; have q2 := q0.out
 rw [← hW2] at e2 q2
 clear hW2 e0 q0
 replace e2 := Lh e2; replace q2 := Lh q2
 have s0 : W2.cell? ⟨v.heap.size, 0, none⟩ = some (.slice A1 n c1) := blkC q2.out 0
 go_wp2_with (fail)
 clear s0
 refine (e2.out.uint n (by omega) (by simp)).mono ?_
 rintro e W3 ⟨rfl, t3⟩
 have e3 := Lh t3.ew
 have q3 := Lh (t3.keep _ _ _ q2.out (by decide) (by decide))
 clear t3
 rw [List.nil_append] at e3
 have s0 : W3.cell? ⟨v.heap.size, 0, none⟩ = some (.slice A1 n c1) := blkC q3.out 0
 go_wp2_with (fail)
 clear s0
 go_loopw [23] (fun i wr => ∃ j : Nat, j ≤ n ∧ i = .int .i64 j ∧ EW v W1.heap.size (Wi.enc n ++ (kv.take j).flatMap bKv) wr ∧ wr.heap[v.heap.size]? = some (.cells #[.slice A1 n c1, .slice A2 n c2, .slice A3 m c3] 81 (0, 0))) (fun i _ => n - (intOf i).toNat)
 case atStart => exact ⟨0, by omega, rfl, by have := e3.out; simpa using this, q3.out⟩
 case round =>
  clear e2 q2 e3 q3
  revert wr
  intro X hrel
  obtain ⟨j, hj, rfl, hE, hq⟩ := hrel
  by_cases hlt : j < n
  ·
   obtain ⟨b, o, k, rfl, hbl, hx, hc⟩ := SL.at_ h1.out hlt
   obtain ⟨b2, o2, cc, rfl, hbl2, hx2, hc2⟩ := SL.at_ h2.out hlt
   obtain ⟨y, hy, rfl⟩ : ∃ y, kv[j]? = some y ∧ y.1 = k := by rw [List.getElem?_map] at hx; simpa [Option.map_eq_some_iff] using hx
   obtain rfl : y.2 = cc := by rw [List.getElem?_map, hy] at hx2; simpa using hx2
   clear hx hx2
   obtain ⟨k, y1, y2, y3, y4, y5⟩ := y
   have hfy := hkv.out _ (List.mem_of_getElem? hy)
   have s9 := (hE.bel.cell (p := ⟨b, _, none⟩) hbl).trans (hc 0 _ rfl)
   rw [Nat.mul_one, Nat.add_zero] at s9
   simp only at s9
   clear hc
   have j0 : (0 : Int) ≤ j := by omega
   have j1 : (j : Int) < (n : Int) := by omega
   have hs1 := hfy.1
   have ly : (Wi.enc n ++ (kv.take j).flatMap bKv).length ≤ 20000 := by rw [List.length_append]; have := lK.out j; have := ln.out; omega
   simp only at hs1
   replace hE := Lh hE; replace hq := Lh hq; replace hc2 := Lh hc2; replace hfy := Lh hfy; replace hy := Lh hy; replace ly := Lh ly
   have s0 : X.cell? ⟨v.heap.size, 0, none⟩ = some (.slice (some ⟨b, o, none⟩) n c1) := blkC hq.out 0
   go_wp2_with (fail)
   clear s0 s9
   replace hs1 := Lh hs1
   refine (hE.out.text k (by have := hs1.out; omega) (by have := ly.out; omega)).mono ?_
   rintro e W4 ⟨rfl, t4⟩
   have e4 := Lh t4.ew
   have q4 := Lh (t4.keep _ _ _ hq.out (by decide) (by decide))
   clear t4
   have s1 : W4.cell? ⟨v.heap.size, 1, none⟩ = some (.slice (some ⟨b2, o2, none⟩) n c2) := blkC q4.out 1
   have u0 := (e4.out.bel.cell (p := ⟨b2, _, none⟩) hbl2).trans (hc2.out 0 _ rfl)
   have u1 := (e4.out.bel.cell (p := ⟨b2, _, none⟩) hbl2).trans (hc2.out 1 _ rfl)
   have u2 := (e4.out.bel.cell (p := ⟨b2, _, none⟩) hbl2).trans (hc2.out 2 _ rfl)
   have u3 := (e4.out.bel.cell (p := ⟨b2, _, none⟩) hbl2).trans (hc2.out 3 _ rfl)
   have u4 := (e4.out.bel.cell (p := ⟨b2, _, none⟩) hbl2).trans (hc2.out 4 _ rfl)
   rw [Nat.add_zero] at u0
   simp only at u0 u1 u2 u3 u4
   obtain ⟨W5, hW5⟩ : ∃ W, W = W4.alloc (.cells #[.int .i64 y1, .int .i64 y2, .int .i64 y3, .int .i64 y4, .int .i64 y5] 58) := ⟨_, rfl⟩
   have k5 : Below W4.heap.size W4 W5 := by rw [hW5]; exact (Below.refl _ _).alloc (Nat.le_refl _) _
   have e5 := Lh (e4.out.below k5)
   have q5 := Lh ((k5.block _ (blkX q4.out)).trans q4.out)
   obtain ⟨W6, hW6⟩ : ∃ W, W = W5.alloc (.cells #[.int .i64 y1, .int .i64 y2, .int .i64 y3, .int .i64 y4, .int .i64 y5] 2) := ⟨_, rfl⟩
   have k6 : Below W5.heap.size W5 W6 := by rw [hW6]; exact (Below.refl _ _).alloc (Nat.le_refl _) _
   have e6 := Lh (e5.out.below k6)
   have q6 := Lh ((k6.block _ (blkX q5.out)).trans q5.out)
   have r6 : W6.heap[W4.heap.size + 1]? = some (.cells ((cnN (y1, y2, y3, y4, y5)).map (Value.int .i64)).toArray 2 (0, 0)) := by
    have hz : W5.heap.size = W4.heap.size + 1 := by rw [hW5]; simp
    rw [hW6, ← hz]; exact hpNew _ _
   replace r6 := Lh r6; replace hW6 := Lh hW6; replace hW5 := Lh hW5
   clear k5 k6
   go_wp2_with (fail)
   rw [← hW5.out, ← hW6.out]
   clear u0 u1 u2 u3 u4 s1 e4 q4 e5 q5 hW5 hW6 hE hq
   have lz : (bTx k).length ≤ 200 ∧ ∀ i2, (bNs ((cnN (y1, y2, y3, y4, y5)).take i2)).length ≤ 50 := ⟨by have := bTx_len (s := k) (n := 100) hs1.out (by omega); omega, fun i2 => by unfold bNs; have := flat_leT (fun a => Wi.enc (Wi.zig a)) (l := cnN (y1, y2, y3, y4, y5)) (B := 10) (fun a ha => Wi.enc_len (Wi.zig_lt (hfy.out.2 a ha).1 (hfy.out.2 a ha).2)) i2; simpa [cnN] using this⟩
   replace lz := Lh lz
   go_loopw [48] (fun i wr => ∃ i2 : Nat, i2 ≤ 5 ∧ i = .int .i64 i2 ∧ EW v W1.heap.size (Wi.enc n ++ (kv.take j).flatMap bKv ++ bTx k ++ (bNs) ((cnN (y1, y2, y3, y4, y5)).take i2)) wr ∧ wr.heap[v.heap.size]? = some (.cells #[.slice (some ⟨b, o, none⟩) n c1, .slice (some ⟨b2, o2, none⟩) n c2, .slice A3 m c3] 81 (0, 0)) ∧ wr.heap[W4.heap.size + 1]? = some (.cells ((cnN (y1, y2, y3, y4, y5)).map (Value.int .i64)).toArray 2 (0, 0))) (fun i _ => 5 - (intOf i).toNat)
   case atStart => exact ⟨0, by omega, rfl, by have := e6.out; simpa [bNs, bUs] using this, q6.out, r6.out⟩
   case round =>
    clear e6 q6 r6
    revert wr
    intro Z hrel
    obtain ⟨i2, hi2, rfl, hE, hq, hr⟩ := hrel
    by_cases hlt2 : i2 < 5
    ·
     obtain ⟨a, ha⟩ : ∃ a, (cnN (y1, y2, y3, y4, y5))[i2]? = some a := ⟨_, List.getElem?_eq_getElem (by simp [cnN]; omega)⟩
     have sa : Z.cell? ⟨W4.heap.size + 1, i2, none⟩ = some (.int .i64 a) := by have q := blkC hr i2; rw [q, List.getElem?_toArray, List.getElem?_map, ha]; rfl
     have hIa : I64 a := hfy.out.2 a (List.mem_of_getElem? ha)
     have lw : (Wi.enc n ++ (kv.take j).flatMap bKv ++ bTx k ++ bNs ((cnN (y1, y2, y3, y4, y5)).take i2)).length ≤ 100000 := by rw [List.length_append, List.length_append]; have := ly.out; have := lz.out.1; have := lz.out.2 i2; omega
     have hnx : bNs ((cnN (y1, y2, y3, y4, y5)).take (i2 + 1)) = bNs ((cnN (y1, y2, y3, y4, y5)).take i2) ++ Wi.enc (Wi.zig a) := flat_next _ ha
     have x0 := blkX hr
     have i0 : (0 : Int) ≤ i2 := by omega
     have i1 : (i2 : Int) < 5 := by omega
     replace hE := Lh hE; replace hq := Lh hq; replace hr := Lh hr; replace ha := Lh ha; replace hIa := Lh hIa; replace lw := Lh lw; replace hnx := Lh hnx
     go_wp2_with (fail)
     clear sa
     refine (hE.out.int a hIa.out (by have := lw.out; omega)).mono ?_
     rintro e W7 ⟨rfl, t7⟩
     have e7 := Lh t7.ew
     have q7 := Lh (t7.keep _ _ _ hq.out (by decide) (by decide))
     have r7 := Lh (t7.keep _ _ _ hr.out (by decide) (by decide))
     clear t7
     go_wp2_with (fail)
     exact ⟨⟨i2 + 1, by omega, by go_num, by rw [hnx.out, ← List.append_assoc]; exact e7.out, q7.out, r7.out⟩, by simp [intOf]; omega⟩
    ·
     obtain rfl : i2 = 5 := by omega
     have hE2 : EW v W1.heap.size (Wi.enc n ++ (kv.take (j + 1)).flatMap bKv) Z := by
      rw [flat_next bKv hy.out]
      have q := hE
      rw [show (cnN (y1, y2, y3, y4, y5)).take 5 = cnN (y1, y2, y3, y4, y5) from rfl] at q
      rw [show bKv (k, y1, y2, y3, y4, y5) = bTx k ++ bNs (cnN (y1, y2, y3, y4, y5)) from rfl]
      simpa only [List.append_assoc] using q
     replace hE2 := Lh hE2; replace hq := Lh hq
     clear hE hr
     go_wp2_with (fail)
     exact ⟨⟨j + 1, by omega, by go_num, hE2.out, hq.out⟩, by simp [intOf]; omega⟩
  ·
   obtain rfl : j = n := by omega
   have hE2 : EW v W1.heap.size (Wi.enc j ++ kv.flatMap bKv) X := by rw [List.take_of_length_le (by rw [hkn.out]; omega)] at hE; exact hE
   have lk2 : (Wi.enc j ++ kv.flatMap bKv).length ≤ 20000 := by have q := lK.out j; rw [List.take_of_length_le (by rw [hkn.out]; omega)] at q; rw [List.length_append]; have := ln.out; omega
   clear hE
   replace hE2 := Lh hE2; replace hq := Lh hq; replace lk2 := Lh lk2
   have s2 : X.cell? ⟨v.heap.size, 2, none⟩ = some (.slice A3 m c3) := blkC hq.out 2
   go_wp2_with (fail)
   clear s2
   refine (hE2.out.uint m (by omega) (by have := lk2.out; omega)).mono ?_
   rintro e W4 ⟨rfl, t4⟩
   have e4 := Lh t4.ew
   have q4 := Lh (t4.keep _ _ _ hq.out (by decide) (by decide))
   clear t4
   have s2 : W4.cell? ⟨v.heap.size, 2, none⟩ = some (.slice A3 m c3) := blkC q4.out 2
   go_wp2_with (fail)
   clear s2 hE2 hq
   obtain ⟨B0, hB0⟩ : ∃ l, l = Wi.enc j ++ kv.flatMap bKv ++ Wi.enc m := ⟨_, rfl⟩
   have lB : B0.length ≤ 30000 := by rw [hB0, List.length_append]; have := lk2.out; have := lm.out; omega
   rw [← hB0] at e4
   replace hB0 := Lh hB0; replace lB := Lh lB
   go_loopw [66] (fun i wr => ∃ l : Nat, l ≤ m ∧ i = .int .i64 l ∧ EW v W1.heap.size (B0 ++ (ds.take l).flatMap bEn) wr ∧ wr.heap[v.heap.size]? = some (.cells #[.slice A1 j c1, .slice A2 j c2, .slice A3 m c3] 81 (0, 0))) (fun i _ => m - (intOf i).toNat)
   case atStart => exact ⟨0, by omega, rfl, by have := e4.out; simpa using this, q4.out⟩
   case round =>
    clear e4 q4
    revert wr
    intro X hrel
    obtain ⟨l, hl, rfl, hE, hq⟩ := hrel
    by_cases hlt3 : l < m
    ·
     obtain ⟨b3, o3, y, rfl, hbl3, hx3, hc3⟩ := SL.at_ h3.out hlt3
     have hfy := hds.out _ (List.mem_of_getElem? hx3)
     obtain ⟨⟨e1, e2, e3⟩, kk, r1, r2, r3⟩ := y
     have u0 := (hE.bel.cell (p := ⟨b3, _, none⟩) hbl3).trans (hc3 0 _ rfl)
     have u1 := (hE.bel.cell (p := ⟨b3, _, none⟩) hbl3).trans (hc3 1 _ rfl)
     have u2 := (hE.bel.cell (p := ⟨b3, _, none⟩) hbl3).trans (hc3 2 _ rfl)
     have u3 := (hE.bel.cell (p := ⟨b3, _, none⟩) hbl3).trans (hc3 3 _ rfl)
     have u4 := (hE.bel.cell (p := ⟨b3, _, none⟩) hbl3).trans (hc3 4 _ rfl)
     have u5 := (hE.bel.cell (p := ⟨b3, _, none⟩) hbl3).trans (hc3 5 _ rfl)
     have u6 := (hE.bel.cell (p := ⟨b3, _, none⟩) hbl3).trans (hc3 6 _ rfl)
     rw [Nat.add_zero] at u0
     simp only at u0 u1 u2 u3 u4 u5 u6
     clear hc3
     have j0 : (0 : Int) ≤ l := by omega
     have j1 : (l : Int) < (m : Int) := by omega
     have ly : (B0 ++ (ds.take l).flatMap bEn).length ≤ 135250000 := by rw [List.length_append]; have := lD.out l; have := lB.out; omega
     have hW5' : ∃ W, W = X.alloc (.cells #[.int .i64 e1, .int .i64 e2, .int .i64 e3, .string kk, .int .i64 r1, .int .i64 r2, .string r3] 101) := ⟨_, rfl⟩
     obtain ⟨W5, hW5⟩ := hW5'
     have k5 : Below X.heap.size X W5 := by rw [hW5]; exact (Below.refl _ _).alloc (Nat.le_refl _) _
     have e5 := Lh (hE.below k5)
     have q5 := Lh ((k5.block _ (blkX hq)).trans hq)
     have m5 : W5.heap[X.heap.size]? = some (.cells #[.int .i64 e1, .int .i64 e2, .int .i64 e3, .string kk, .int .i64 r1, .int .i64 r2, .string r3] 101 (0, 0)) := by rw [hW5]; exact hpNew _ _
     replace m5 := Lh m5
     obtain ⟨W6, hW6⟩ : ∃ W, W = W5.alloc (.cells #[.int .i64 e1, .int .i64 e2, .int .i64 e3] 3) := ⟨_, rfl⟩
     have k6 : Below W5.heap.size W5 W6 := by rw [hW6]; exact (Below.refl _ _).alloc (Nat.le_refl _) _
     have e6 := Lh (e5.out.below k6)
     have q6 := Lh ((k6.block _ (blkX q5.out)).trans q5.out)
     have m6 := Lh ((k6.block _ (blkX m5.out)).trans m5.out)
     have r6 : W6.heap[X.heap.size + 1]? = some (.cells ((efN (e1, e2, e3)).map (Value.int .i64)).toArray 3 (0, 0)) := by
      have hz : W5.heap.size = X.heap.size + 1 := by rw [hW5]; simp
      rw [hW6, ← hz]; exact hpNew _ _
     replace r6 := Lh r6; replace hW6 := Lh hW6; replace hW5 := Lh hW5; replace hE := Lh hE; replace hq := Lh hq; replace hfy := Lh hfy; replace hx3 := Lh hx3; replace ly := Lh ly
     clear k5 k6
     have s2 : X.cell? ⟨v.heap.size, 2, none⟩ = some (.slice (some ⟨b3, o3, none⟩) m c3) := blkC hq.out 2
     go_wp2_with (fail)
     rw [← hW5.out, ← hW6.out]
     clear u0 u1 u2 u3 u4 u5 u6 s2 e5 q5 m5 hW5 hW6 hE hq
     have lz : ∀ i2, (bUs ((efN (e1, e2, e3)).take i2)).length ≤ 30 := fun i2 => by unfold bUs; have := flat_leT (fun a => Wi.enc a.toNat) (l := efN (e1, e2, e3)) (B := 10) (fun a ha => Wi.enc_len (by have := hfy.out.e a ha; unfold U63 at this; omega)) i2; simpa [efN] using this
     replace lz := Lh lz
     go_loopw [81] (fun i wr => ∃ i2 : Nat, i2 ≤ 3 ∧ i = .int .i64 i2 ∧ EW v W1.heap.size (B0 ++ (ds.take l).flatMap bEn ++ (bUs) ((efN (e1, e2, e3)).take i2)) wr ∧ wr.heap[v.heap.size]? = some (.cells #[.slice A1 j c1, .slice A2 j c2, .slice (some ⟨b3, o3, none⟩) m c3] 81 (0, 0)) ∧ wr.heap[X.heap.size + 1]? = some (.cells ((efN (e1, e2, e3)).map (Value.int .i64)).toArray 3 (0, 0)) ∧ wr.heap[X.heap.size]? = some (.cells #[.int .i64 e1, .int .i64 e2, .int .i64 e3, .string kk, .int .i64 r1, .int .i64 r2, .string r3] 101 (0, 0))) (fun i _ => 3 - (intOf i).toNat)
     case atStart => exact ⟨0, by omega, rfl, by have := e6.out; simpa [bNs, bUs] using this, q6.out, r6.out, m6.out⟩
     case round =>
      clear e6 q6 r6 m6
      revert wr
      intro Z hrel
      obtain ⟨i2, hi2, rfl, hE, hq, hr, hmb⟩ := hrel
      by_cases hlt2 : i2 < 3
      ·
       obtain ⟨a, ha⟩ : ∃ a, (efN (e1, e2, e3))[i2]? = some a := ⟨_, List.getElem?_eq_getElem (by simp [efN]; omega)⟩
       have sa : Z.cell? ⟨X.heap.size + 1, i2, none⟩ = some (.int .i64 a) := by have q := blkC hr i2; rw [q, List.getElem?_toArray, List.getElem?_map, ha]; rfl
       have hIa : U63 a := hfy.out.e a (List.mem_of_getElem? ha)
       have lw : (B0 ++ (ds.take l).flatMap bEn ++ bUs ((efN (e1, e2, e3)).take i2)).length ≤ 200000000 := by rw [List.length_append]; have := ly.out; have := lz.out i2; omega
       have hnx : bUs ((efN (e1, e2, e3)).take (i2 + 1)) = bUs ((efN (e1, e2, e3)).take i2) ++ Wi.enc a.toNat := flat_next _ ha
       have x0 := blkX hr
       have i0 : (0 : Int) ≤ i2 := by omega
       have i1 : (i2 : Int) < 3 := by omega
       have hwr : IntKind.u64.wrap a = a := by unfold U63 at hIa; simp [IntKind.wrap, IntKind.signed, IntKind.bits]; omega
       replace hE := Lh hE; replace hq := Lh hq; replace hr := Lh hr; replace ha := Lh ha; replace hIa := Lh hIa; replace lw := Lh lw; replace hnx := Lh hnx; replace hmb := Lh hmb
       go_wp2_with (fail)
       clear sa
       refine (hE.out.uintI a hIa.out (by have := lw.out; omega)).mono ?_
       rintro e W7 ⟨rfl, t7⟩
       have e7 := Lh t7.ew
       have q7 := Lh (t7.keep _ _ _ hq.out (by decide) (by decide))
       have r7 := Lh (t7.keep _ _ _ hr.out (by decide) (by decide))
       have m7 := Lh (t7.keep _ _ _ hmb.out (by decide) (by decide))
       clear t7
       go_wp2_with (fail)
       exact ⟨⟨i2 + 1, by omega, by go_num, by rw [hnx.out, ← List.append_assoc]; exact e7.out, q7.out, r7.out, m7.out⟩, by simp [intOf]; omega⟩
      ·
       obtain rfl : i2 = 3 := by omega
       have hE2 : EW v W1.heap.size (B0 ++ (ds.take l).flatMap bEn ++ bUs (efN (e1, e2, e3))) Z := hE
       have hU1 := hfy.out.r; have hI2 := hfy.out.n; have hkk := hfy.out.k; have hdd := hfy.out.d
       simp only at hU1 hI2 hkk hdd
       have lv : (B0 ++ (ds.take l).flatMap bEn ++ bUs (efN (e1, e2, e3))).length ≤ 200000000 := by rw [List.length_append]; have := ly.out; have q3 : (bUs (efN (e1, e2, e3))).length ≤ 30 := lz.out 3; omega
       have lt1 : (bTx kk).length ≤ 200 := by have := bTx_len hkk (by omega); omega
       have lt2 := Wi.enc_len (n := r1.toNat) (by unfold U63 at hU1; omega)
       have lt3 := Wi.enc_len (Wi.zig_lt hI2.1 hI2.2)
       have hwr : IntKind.u64.wrap r1 = r1 := by unfold U63 at hU1; simp [IntKind.wrap, IntKind.signed, IntKind.bits]; omega
       have y3 := blkC hmb 3; have y4 := blkC hmb 4
       have xx := blkX hmb
       simp only [List.getElem?_toArray, List.getElem?_cons_zero, List.getElem?_cons_succ] at y3 y4
       replace hE2 := Lh hE2; replace hq := Lh hq; replace hmb := Lh hmb; replace hU1 := Lh hU1; replace hI2 := Lh hI2; replace hkk := Lh hkk; replace hdd := Lh hdd; replace lv := Lh lv; replace lt1 := Lh lt1; replace lt2 := Lh lt2; replace lt3 := Lh lt3
       clear hE hr
       go_wp2_with (fail)
       clear y3 y4
       refine (hE2.out.text kk (by have := hkk.out; omega) (by have := lv.out; have := lt1.out; have := lt2.out; have := lt3.out; simp only [List.length_append] at *; omega)).mono ?_
       rintro e V1 ⟨rfl, t8⟩
       have e8 := Lh t8.ew
       have q8 := Lh (t8.keep _ _ _ hq.out (by decide) (by decide))
       have m8 := Lh (t8.keep _ _ _ hmb.out (by decide) (by decide))
       clear t8
       have y4 : V1.cell? ⟨X.heap.size, 4, none⟩ = some (.int .i64 r1) := blkC m8.out 4
       have xx := blkX m8.out
       go_wp2_with (fail)
       clear y4 xx
       refine (e8.out.uintI r1 hU1.out (by have := lv.out; have := lt1.out; have := lt2.out; have := lt3.out; simp only [List.length_append] at *; omega)).mono ?_
       rintro e V2 ⟨rfl, t9⟩
       have e9 := Lh t9.ew
       have q9 := Lh (t9.keep _ _ _ q8.out (by decide) (by decide))
       have m9 := Lh (t9.keep _ _ _ m8.out (by decide) (by decide))
       clear t9
       have y4 : V2.cell? ⟨X.heap.size, 5, none⟩ = some (.int .i64 r2) := blkC m9.out 5
       have xx := blkX m9.out
       go_wp2_with (fail)
       clear y4 xx
       refine (e9.out.int r2 hI2.out (by have := lv.out; have := lt1.out; have := lt2.out; have := lt3.out; simp only [List.length_append] at *; omega)).mono ?_
       rintro e V3 ⟨rfl, t10⟩
       have e10 := Lh t10.ew
       have q10 := Lh (t10.keep _ _ _ q9.out (by decide) (by decide))
       have m10 := Lh (t10.keep _ _ _ m9.out (by decide) (by decide))
       clear t10
       have y4 : V3.cell? ⟨X.heap.size, 6, none⟩ = some (.string r3) := blkC m10.out 6
       have xx := blkX m10.out
       go_wp2_with (fail)
       clear y4 xx
       refine (e10.out.text r3 (by have := hdd.out; omega) (by have := lv.out; have := lt1.out; have := lt2.out; have := lt3.out; simp only [List.length_append] at *; omega)).mono ?_
       rintro e V4 ⟨rfl, t11⟩
       have e11 := Lh t11.ew
       have q11 := Lh (t11.keep _ _ _ q10.out (by decide) (by decide))
       clear t11
       have hE5 : EW v W1.heap.size (B0 ++ (ds.take (l + 1)).flatMap bEn) V4 := by
        rw [flat_next bEn hx3.out]
        have q := e11.out
        rw [show bEn ⟨(e1, e2, e3), kk, r1, r2, r3⟩ = bUs (efN (e1, e2, e3)) ++ bTx kk ++ Wi.enc r1.toNat ++ Wi.enc (Wi.zig r2) ++ bTx r3 from rfl]
        simpa only [List.append_assoc] using q
       replace hE5 := Lh hE5
       clear e11
       go_wp2_with (fail)
       exact ⟨⟨l + 1, by omega, by go_num, hE5.out, q11.out⟩, by simp [intOf]; omega⟩
    ·
     obtain rfl : l = m := by omega
     have hE5 : EW v W1.heap.size (bPar kv ds) X := by
      rw [List.take_of_length_le (by rw [hdm.out]; omega), hB0.out] at hE
      unfold bPar
      rw [hkn.out, hdm.out]
      exact hE
     have lq : (bPar kv ds).length ≤ 200000000 := by
      unfold bPar
      rw [hkn.out, hdm.out, ← hB0.out, List.length_append]
      have q := lD.out l
      rw [List.take_of_length_le (by rw [hdm.out]; omega)] at q
      have := lB.out
      omega
     obtain ⟨ys, hys⟩ : ∃ l, l = bPar kv ds := ⟨_, rfl⟩
     rw [← hys] at hE5 lq
     replace hys := Lh hys
     replace hE5 := Lh hE5; replace lq := Lh lq
     clear hE hq
     go_wp2_with (fail)
     refine (hE5.out.bytes (by have := lq.out; omega)).mono ?_
     rintro e V ⟨A9, c9, rfl, hrb, hb9⟩
     have hst := Wi.RB.str hrb c9
     have k9 := Lh (hE5.out.below hb9).bel
     clear hrb hb9
     go_wp2_with (fail)
     go_ret
     exact ⟨by rw [← hys.out]; rfl, k9.out⟩
end Go.Proofs.YtgnjnpddehdmcaaGreatDoor
