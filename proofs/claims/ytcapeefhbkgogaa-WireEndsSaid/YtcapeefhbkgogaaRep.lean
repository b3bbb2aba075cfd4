/- bytes.Repeat of one byte; append onto a full row. -/
import Derived.Test.YtcapeefhbkgogaaRead
import Derived.Test.YtcapeefhbkgogaaRowC
import Derived.Test.YtcapeefhbkgogaaClone
import Derived.Test.YtcapeefhbkgogaaShelf
import Derived.Lib.MakeNoZero
import Derived.Deep.AppendSrc
import Derived.Laws.Externs
namespace Go.Proofs.Ytcapeefhbkgogaa
open Go.RowKit
set_option linter.unusedSimpArgs false
set_option linter.unusedVariables false
set_option linter.unusedSectionVars false
set_option maxRecDepth 10000
theorem elemU : Elem Try.prog 35 5 1 1 := elem_of (z := .int .u8 0) Try.underlying35 (by kernel_rfl) rfl (by omega)
theorem goInt_eq (n : Nat) : goInt n = .int .i64 (n : Int) := rfl
theorem append_full {W : World} {A B : Option Addr} {n m d : Nat} {xs ys : List UInt8} (h1 : RB W A n xs) (h2 : RB W B m ys) (hn : 0 < n) (hm : 0 < m) (hl : n + m ≤ 100000) :
    ∃ A' c' W2, (appSem #[35, 35] 35 #[.slice A n n, .slice B m d]).run Try.prog W = .ok (.slice A' (n + m) c') W2 ∧ RB W2 A' (n + m) (xs ++ ys) ∧ n + m ≤ c' ∧ Below W.heap.size W W2 := by
  obtain ⟨hx, hc1⟩ := h1
  obtain ⟨hy, hc2⟩ := h2
  obtain ⟨ad, rfl, hb1, hc1⟩ := hc1 hn
  obtain ⟨ad2, rfl, hb2, hc2⟩ := hc2 hm
  obtain ⟨hu, ⟨i0, z, hi0, hz0, hz1, hz2, hzc⟩, hp⟩ := elemU
  have hold : (Builtin.firstCells i0.size n (.slice (some ad) n n)).run Try.prog W.drew = .ok (bvs xs).toArray W.drew := by
    rw [hz1]
    exact run_firstCells_some W.drew 1 n ad n n _ (by rw [bvs_length]; omega) (fun j v hj => hc1 j v hj)
  have hs : Src Try.prog i0.size 35 (.slice (some ad2) m d) m (bvs ys) W := by
    rw [hz1]
    exact Src.ofSlice W (by exact hu) ad2 m d (bvs ys) (by rw [bvs_length]; omega) (fun j u hj => hc2 j u hj) (bvs_one ys)
  have hr := run_append_grow_src W 35 35 35 5 i0 z hu hi0 hz0 (some ad) n n _ hold (.slice (some ad2) m d) m _ hs (by omega) (by omega) (by rw [hz2]; exact growslice_fits (by omega) (by omega))
  have hcge := grownCap_ge W (n + m) n 5
  refine ⟨_, _, _, hr, ⟨by rw [List.length_append]; omega, fun _ => ⟨_, rfl, by simp, ?_⟩⟩, hcge, ((Below.refl W.heap.size W).drew).alloc (Nat.le_refl _) _⟩
  intro j u hj
  have hjl := (List.getElem?_eq_some_iff.1 hj).1
  rw [bvs_length, List.length_append] at hjl
  rw [Addr.add_lit]
  refine (blkC (hpNew W.drew _) _).trans ?_
  rw [bvs_append] at hj
  rw [Nat.zero_add, Array.getElem?_append_left (by simp [bvs_length]; omega)]
  simpa using hj

attribute [-go_sem] sliced
attribute [local go_sem ↓] hideCopy
set_option maxHeartbeats 8000000 in
theorem rep_any (x : UInt8) (N : Nat) (hN : 1 ≤ N) (hN2 : N ≤ 1000) (b cp : Nat) (w : World) (hb : w.heap[b]? = some (.cells #[bv x] 5 (0, 0))) :
    Calls Try.prog 43 #[.slice (some ⟨b, 0, none⟩) 1 cp, .int .i64 N] w fun e w' => ∃ A, e = .returned (.slice A N N) ∧ RB w' A N (List.replicate N x) ∧ Below w.heap.size w w' := by
  have hmul := Try.bits_Mul 1 N (by omega) (by omega) w
  rw [Nat.one_mul, Nat.div_eq_of_lt (by omega), Nat.mod_eq_of_lt (by omega)] at hmul
  obtain ⟨cs, hrunM, hle, hmx⟩ := Lib.run_makeNoZero (P := Try.prog) w #[3] 35 5 Try.underlying35 N (by omega)
  obtain ⟨W1, hW1⟩ : ∃ W1, W1 = w.drew.drew.alloc (.cells cs 5) := ⟨_, rfl⟩
  rw [← hW1] at hrunM
  obtain ⟨g, hg⟩ : ∃ g, g = w.heap.size := ⟨_, rfl⟩
  rw [← hg] at hrunM
  have hcall : (callFunc 68 #[.int .i64 (N : Int)]).run Try.prog w = .ok (.value (.slice (some ⟨g, 0, none⟩) N cs.size)) W1 := by
    rw [run_callFunc_extern Try.func68 (by kernel_rfl) (by kernel_rfl) (by kernel_rfl) (e := Extern.BytealgMakeNoZero.makeNoZero #[3] #[35]) (by kernel_rfl), hrunM]
    rfl
  have hgb : W1.heap[g]? = some (.cells cs 5 (0, 0)) := by rw [hW1, hg]; exact hpNew w.drew.drew _
  have hbe : Below w.heap.size w W1 := by rw [hW1]; exact (((Below.refl w.heap.size w).drew).drew).alloc (Nat.le_refl _) _
  have hbl := blkX hb
  have hb1 := (hbe.block b hbl).trans hb
  have hs1 : sliced (some ⟨g, 0, none⟩) 0 N N 1 = .slice (some ⟨g, 0, none⟩) N N := sliced_low _ _ _ _ (fun a e => by injection e with e; rw [← e])
  -- the first copy
  have hcp := copy_cells elemU (W := W1) (ty := 3) (g := g) (o := 0) (dLen := N) (dCap := N) (sLen := 1) (sCap := cp) (a := ⟨b, 0, none⟩) (cs := [bv x]) hgb (by show 1 = min 1 N * 1; omega) (fun j v hj => by
    have hj0 : j = 0 := by have := (List.getElem?_eq_some_iff.1 hj).1; simp at this; omega
    subst hj0
    simp at hj
    subst hj
    exact blkC hb1 0) (by simp; omega) (by intro v hv; simp at hv; subst hv; rfl)
  rw [show Nat.min 1 N = 1 from by show min 1 N = 1; omega, goInt_eq] at hcp
  obtain ⟨W2, hW2⟩ : ∃ W2, W2 = W1.setRow g (cs.toList.take 0 ++ [bv x] ++ cs.toList.drop (0 + [bv x].length)).toArray := ⟨_, rfl⟩
  rw [← hW2] at hcp
  have hg2 : W2.heap[g]? = some (.cells (cs.toList.take 0 ++ [bv x] ++ cs.toList.drop (0 + [bv x].length)).toArray 5 (0, 0)) := by rw [hW2]; exact setRow_heap W1 g _ _ _ _ hgb
  have hbe2 : Below w.heap.size w W2 := ⟨by rw [hW2]; exact hbe.os, by rw [hW2]; exact hbe.tape, by rw [hW2]; exact hbe.output, by rw [hW2, setRow_size]; exact hbe.size, fun k hk => by
    rw [hW2, setRow_other _ _ _ _ (by omega)]; exact hbe.block k hk⟩
  obtain ⟨c1, hc1⟩ : ∃ c, c = (cs.toList.take 0 ++ [bv x] ++ cs.toList.drop (0 + [bv x].length)).toArray := ⟨_, rfl⟩
  rw [← hc1] at hg2
  have hz1 : c1.size = cs.size := by rw [hc1]; simp; omega
  have ht1 : c1.toList.take 1 = List.replicate 1 (bv x) := by rw [hc1]; simp
  have q1 : ¬ (N : Int) = 0 := by omega
  have q2 : ¬ (N : Int) < 0 := by omega
  have q3 : ¬ (9223372036854775807 : Int) < (N : Int) := by omega
  have q4 : ¬ (8192 : Int) < (N : Int) := by omega
  have q5 : (N : Int) ≤ (cs.size : Int) := by omega
  have q6 : (0 : Int) ≤ (N : Int) := by omega
  have q7 : N ≤ cs.size := hle
  have q8 : ¬ N = 0 := by omega
  have q9 : ¬ 8192 < N := by omega
  replace hb := Lib.hid hb; replace hb1 := Lib.hid hb1; replace hgb := Lib.hid hgb; replace hbe := Lib.hid hbe; replace hbe2 := Lib.hid hbe2; replace hg2 := Lib.hid hg2; replace hW1 := Lib.hid hW1; replace hW2 := Lib.hid hW2; replace hc1 := Lib.hid hc1; replace hz1 := Lib.hid hz1; replace ht1 := Lib.hid ht1; replace hg := Lib.hid hg; replace hrunM := Lib.hid hrunM; replace hmx := Lib.hid hmx
  go_enter Try.func43, Try.ntmps43
  go_wp2_with (fail)
  refine hmul.mono ?_
  rintro e w0 ⟨rfl, rfl⟩
  go_wp2_with (fail)
  go_loopw [10] (fun p wr => ∃ k : Nat, 1 ≤ k ∧ k ≤ N ∧ p = .int .i64 k ∧ ∃ cur : Array Value, wr.heap[g]? = some (.cells cur 5 (0, 0)) ∧ cur.size = cs.size ∧ cur.toList.take k = List.replicate k (bv x) ∧ Below w0.heap.size w0 wr) (fun p _ => N - (intOf p).toNat)
  case atStart => exact ⟨1, by omega, by omega, rfl, c1, hg2.out, hz1.out, ht1.out, hbe2.out⟩
  case round =>
    clear hmul hcall hcp
    obtain ⟨k, hk1, hk, rfl, cur, hgc, hsz, htk, hbw⟩ := hrel
    by_cases hlt : k < N
    · obtain ⟨m, hm⟩ : ∃ m, m = Nat.min k (N - k) := ⟨_, rfl⟩
      have hm1 : m ≤ k ∧ m ≤ N - k ∧ 1 ≤ m := by rw [hm]; show min k (N - k) ≤ k ∧ min k (N - k) ≤ N - k ∧ 1 ≤ min k (N - k); omega
      have hgD : wr.drew.heap[g]? = some (.cells cur 5 (0, 0)) := hgc
      have hcp := copy_cells elemU (W := wr.drew) (ty := 3) (g := g) (o := k * 1) (dLen := N - k) (dCap := N - k) (sLen := k) (sCap := N) (a := ⟨g, 0, none⟩) (cs := List.replicate m (bv x)) hgD (by rw [List.length_replicate, hm]; simp) (fun j v hj => by
        have hj0 : j < m := by have := (List.getElem?_eq_some_iff.1 hj).1; simpa using this
        have hv : v = bv x := by rw [List.getElem?_replicate, if_pos hj0] at hj; exact (Option.some.inj hj).symm
        subst hv
        have h3 : (cur.toList.take k)[j]? = some (bv x) := by rw [htk, List.getElem?_replicate, if_pos (by omega)]
        rw [List.getElem?_take, if_pos (by omega)] at h3
        rw [Addr.add_lit]
        refine (blkC hgD _).trans ?_
        rw [Nat.zero_add]; simpa using h3) (by rw [List.length_replicate]; omega) (by intro v hv; rw [List.mem_replicate] at hv; rw [hv.2]; rfl)
      rw [← hm, goInt_eq] at hcp
      obtain ⟨cur2, hcur2⟩ : ∃ c, c = (cur.toList.take (k * 1) ++ List.replicate m (bv x) ++ cur.toList.drop (k * 1 + (List.replicate m (bv x)).length)).toArray := ⟨_, rfl⟩
      rw [← hcur2] at hcp
      have hg2' : (wr.drew.setRow g cur2).heap[g]? = some (.cells cur2 5 (0, 0)) := setRow_heap wr.drew g _ _ _ _ hgD
      have hbD := hbw.drew
      have hbe2' : Below w0.heap.size w0 (wr.drew.setRow g cur2) := ⟨hbD.os, hbD.tape, hbD.output, by rw [setRow_size]; exact hbD.size, fun j hj => by
        rw [setRow_other _ _ _ _ (by have := hg.out; omega)]; exact hbD.block j hj⟩
      have hsz2 : cur2.size = cs.size := by rw [hcur2]; simp; omega
      have htk2 : cur2.toList.take (k + m) = List.replicate (k + m) (bv x) := by
        rw [hcur2, Nat.mul_one]
        have h4 : (cur.toList.take k).length = k := by rw [htk, List.length_replicate]
        rw [List.toList_toArray, htk, List.replicate_append_replicate]
        rw [List.take_append_of_le_length (by simp), List.take_of_length_le (by simp)]
      have hs2 := sliced_at0 g k N N 1 (by omega)
      have hs3 : sliced (some ⟨g, 0, none⟩) 0 k N 1 = .slice (some ⟨g, 0, none⟩) k N := sliced_low _ _ _ _ (fun a e => by injection e with e; rw [← e])
      have r1 : (k : Int) < (N : Int) := by omega
      have r2 : (0 : Int) ≤ (k : Int) := by omega
      have r3 : (k : Int) ≤ (N : Int) := by omega
      have r4 : k ≤ N := by omega
      have r8 : IntKind.i64.wrap ((k : Int) + (m : Int)) = (k : Int) + (m : Int) := by simp [IntKind.wrap, IntKind.signed, IntKind.bits]; omega
      have r5 : min (k : Int) (N : Int) = (k : Int) := by omega
      have r6 : min k N = k := by omega
      have r7 : min (k : Int) 8192 = (k : Int) := by omega
      replace hg2 := Lib.hid hg2'; replace hbe2 := Lib.hid hbe2'; replace hsz2 := Lib.hid hsz2; replace htk2 := Lib.hid htk2; replace hm := Lib.hid hm; replace hcur2 := Lib.hid hcur2; replace hgc := Lib.hid hgc; replace hsz := Lib.hid hsz; replace htk := Lib.hid htk; replace hbw := Lib.hid hbw; replace hgD := Lib.hid hgD; replace hbD := Lib.hid hbD
      clear hg2' hbe2'
      have hrunC : (copySem #[35, 35] 3 #[.slice (some ⟨g, k, none⟩) (N - k) (N - k), .slice (some ⟨g, 0, none⟩) k N]).run Try.prog wr.drew = .ok (.int .i64 (m : Int)) (wr.drew.setRow g cur2) := by rw [Nat.mul_one] at hcp; exact hcp
      clear hcp
      go_wp2_with (fail)
      refine wp_region_any (by kernel_rfl) ?_
      try (change wpAny _ _ _ _ _ _ _ (World.drew _))
      generalize wr.drew = V at *
      refine wpAny_take (i := 0) (v := ?_) rfl (by kernel_rfl) (by kernel_rfl) (by kernel_rfl) (fun _ _ _ h => h) (Or.inl ⟨by rfl, by intro w; go_simp; first | done | with_reducible rfl⟩) ?_
      simp only [List.getElem_toArray, List.getElem_cons_succ, List.getElem_cons_zero, Act.put, List.setIfInBounds_toArray, List.set_cons_zero, List.set_cons_succ]
      refine wpAny_take (i := 1) (v := ?_) rfl (by kernel_rfl) (by kernel_rfl) (by kernel_rfl) (fun _ _ _ h => h) (Or.inl ⟨by rfl, by intro w; go_simp; first | done | with_reducible rfl⟩) ?_
      simp only [List.getElem_toArray, List.getElem_cons_succ, List.getElem_cons_zero, Act.put, List.setIfInBounds_toArray, List.set_cons_zero, List.set_cons_succ]
      refine wpAny_take (i := 2) (v := ?_) rfl (by kernel_rfl) (by kernel_rfl) (by kernel_rfl) (fun _ _ _ h => h) (Or.inl ⟨by rfl, by intro w; go_simp; first | done | with_reducible rfl⟩) ?_
      simp only [List.getElem_toArray, List.getElem_cons_succ, List.getElem_cons_zero, Act.put, List.setIfInBounds_toArray, List.set_cons_zero, List.set_cons_succ]
      refine wpAny_take (i := 3) (v := ?_) rfl (by kernel_rfl) (by kernel_rfl) (by kernel_rfl) (fun _ _ _ h => h) (Or.inl ⟨by rfl, by intro w; go_simp; first | done | with_reducible rfl⟩) ?_
      simp only [List.getElem_toArray, List.getElem_cons_succ, List.getElem_cons_zero, Act.put, List.setIfInBounds_toArray, List.set_cons_zero, List.set_cons_succ]
      refine wpAny_take (i := 4) (v := ?_) rfl (by kernel_rfl) (by kernel_rfl) (by kernel_rfl) (fun _ _ _ h => h) (Or.inl ⟨by rfl, by intro w; go_simp; first | done | with_reducible rfl⟩) ?_
      simp only [List.getElem_toArray, List.getElem_cons_succ, List.getElem_cons_zero, Act.put, List.setIfInBounds_toArray, List.set_cons_zero, List.set_cons_succ]
      refine wpAny_take (i := 5) (v := ?_) rfl (by kernel_rfl) (by kernel_rfl) (by kernel_rfl) (fun _ _ _ h => h) (Or.inl ⟨by rfl, by intro w; go_simp; first | done | with_reducible rfl⟩) ?_
      simp only [List.getElem_toArray, List.getElem_cons_succ, List.getElem_cons_zero, Act.put, List.setIfInBounds_toArray, List.set_cons_zero, List.set_cons_succ]
      refine wpAny_take (i := 6) (v := ?_) rfl (by kernel_rfl) (by kernel_rfl) (by kernel_rfl) (fun _ _ _ h => h) (Or.inl ⟨by rfl, by intro w; go_simp; first | done | with_reducible rfl⟩) ?_
      simp only [List.getElem_toArray, List.getElem_cons_succ, List.getElem_cons_zero, Act.put, List.setIfInBounds_toArray, List.set_cons_zero, List.set_cons_succ]
      refine wpAny_ready (rs := [7]) (by kernel_rfl) (by simp) ?_
      refine AllReady.cons rfl (fun K hK => ?_) ?_
      · have hK' := hK; clear hK; have hK := hK'; clear hK'
        go_simp
        refine hK _ _ ?_
        clear hK K
        refine wpAny_take (i := 8) (v := ?_) rfl (by kernel_rfl) (by kernel_rfl) (by kernel_rfl) (fun _ _ _ h => h) (Or.inl ⟨by rfl, by intro w; go_simp; first | done | with_reducible rfl⟩) ?_
        simp only [List.getElem_toArray, List.getElem_cons_succ, List.getElem_cons_zero, Act.put, List.setIfInBounds_toArray, List.set_cons_zero, List.set_cons_succ]
        refine wpAny_take (i := 9) (v := ?_) rfl (by kernel_rfl) (by kernel_rfl) (by kernel_rfl) (fun _ _ _ h => h) (Or.inl ⟨by rfl, by intro w; go_simp; first | done | with_reducible rfl⟩) ?_
        simp only [List.getElem_toArray, List.getElem_cons_succ, List.getElem_cons_zero, Act.put, List.setIfInBounds_toArray, List.set_cons_zero, List.set_cons_succ]
        refine wpAny_done (by kernel_rfl) ?_ _
        go_wp2_with (fail)
        refine ⟨⟨k + m, by omega, by omega, by go_num, cur2, hg2.out, hsz2.out, htk2.out, hbe2.out⟩, by simp [intOf]; omega⟩
      exact AllReady.nil
    · obtain rfl : k = N := by omega
      have hfin : RB wr (some ⟨g, 0, none⟩) k (List.replicate k x) := by
        refine ⟨by simp, fun _ => ⟨_, rfl, blkX hgc, fun j u hj => ?_⟩⟩
        have hjl : j < k := by have := (List.getElem?_eq_some_iff.1 hj).1; simpa [bvs] using this
        have hv : u = bv x := by simp [bvs, List.getElem?_replicate, hjl] at hj; exact hj.symm
        subst hv
        have h3 : (cur.toList.take k)[j]? = some (bv x) := by rw [htk, List.getElem?_replicate, if_pos hjl]
        rw [List.getElem?_take, if_pos hjl] at h3
        rw [Addr.add_lit]
        refine (blkC hgc _).trans ?_
        rw [Nat.zero_add]; simpa using h3
      replace hfin := Lib.hid hfin; replace hgc := Lib.hid hgc; replace hsz := Lib.hid hsz; replace htk := Lib.hid htk; replace hbw := Lib.hid hbw
      have r1 : ¬ (k : Int) < (k : Int) := by omega
      go_wp2_with (fail)
      go_ret
      exact ⟨_, rfl, hfin.out, hbw.out⟩
end Go.Proofs.Ytcapeefhbkgogaa
