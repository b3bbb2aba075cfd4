/- EffectsAll's walk. -/
import Derived.Test.YthmkfbabacehnaaWorks
namespace Go.Proofs.Ythmkfbabacehnaa
open Go.RowKit Go.Shelf
set_option linter.unusedSimpArgs false
set_option linter.unusedVariables false
set_option linter.unusedSectionVars false
set_option maxRecDepth 10000
set_option maxHeartbeats 8000000 in
theorem all_walk (N : Int) (w : World) : Calls Try.prog 4 #[.int .i64 N] w fun e w' => e = .returned (.bool true) ∧ Below w.heap.size w w' := by
  go_enter Try.func4, Try.ntmps4
  go_wp2_with (fail)
  refine (all_any N w).mono ?_
  rintro e w1 ⟨A1, n1, c1, xs, rfl, o1⟩
  generalize hz : (allS N).2 = z
  replace o1 := Lib.hid o1
  go_wp2_with (fail)
  refine (rall_any N w1).mono ?_
  rintro e w2 ⟨A2, n2, c2, ys, rfl, o2⟩
  rw [hz]
  have o12 := o1.out.keep o2.bel
  have k2 := o1.out.bel.trans (o2.bel.mono o1.out.bel.size)
  have hn : n2 = n1 := by rw [← o12.two, ← o2.two]
  subst hn
  have hlen : ∀ (i : Nat) (l : List Ef), (allS N).1[i]? = some l → l.length ≤ 16 := fun i l hl => by
    unfold allS at hl
    split at hl
    · rename_i h8
      simp only [okN, Bool.and_eq_true, decide_eq_true_eq] at h8
      rw [List.getElem?_map] at hl
      obtain ⟨m, hm, rfl⟩ := Option.map_eq_some_iff.1 hl
      have := seqs_len (List.mem_of_getElem? hm)
      omega
    · simp at hl
  have hn10 : n2 ≤ 10 := by
    have h2 := o2.two
    rw [← h2]
    unfold allS
    split
    · rename_i h8
      simp only [okN, Bool.and_eq_true, decide_eq_true_eq] at h8
      simp [seqs]; omega
    · simp
  replace o2 := Lib.hid o2; replace o12 := Lib.hid o12; replace k2 := Lib.hid k2; replace hlen := Lib.hid hlen; replace hz := Lib.hid hz
  clear o1
  go_wp2_with (fail)
  go_loopw [7] (fun i wr => ∃ k : Nat, k ≤ n2 ∧ i = .int .i64 k ∧ Below w2.heap.size w2 wr) (fun i _ => n2 - (intOf i).toNat)
  case atStart => exact ⟨0, by omega, rfl, Below.refl _ _⟩
  case round =>
    obtain ⟨k, hk, rfl, hb⟩ := hrel
    by_cases hlt : k < n2
    · obtain ⟨b1, p1, B1, m1, d1, l1, rfl, hbl1, f1, g1, q1⟩ := (o12.out.keep hb).at_ hlt
      obtain ⟨b2, p2, B2, m2, d2, l2, rfl, hbl2, f2, g2, q2⟩ := (o2.out.keep hb).at_ hlt
      rw [g1] at g2
      injection g2 with g2
      subst g2
      have hl16 := hlen.out k _ g1
      have hs := same_any B1 B2 m1 d1 m2 d2 l1 l1 wr.drew (SL.keep q1.es (Below.refl _ _).drew) (SL.keep q2.es (Below.refl _ _).drew) (by have := q1.len; omega) (by have := q2.len; omega)
      rw [show decide (l1 = l1) = true from by simp] at hs
      have j0 : (0 : Int) ≤ k := by omega
      have j1 : (k : Int) < n2 := by omega
      replace hb := Lib.hid hb; replace q1 := Lib.hid q1; replace q2 := Lib.hid q2
      clear g1 hl16
      go_wp2_with (fail)
      refine wp_region_any (by kernel_rfl) ?_
      try (change wpAny _ _ _ _ _ _ _ (World.drew _))
      refine wpAny_take (i := 0) (v := ?_) rfl (by kernel_rfl) (by kernel_rfl) (by kernel_rfl) (fun _ _ _ h => h) (Or.inl ⟨by rfl, by intro w; go_simp; first | done | with_reducible rfl⟩) ?_
      simp only [List.getElem_toArray, List.getElem_cons_succ, List.getElem_cons_zero, Act.put, List.setIfInBounds_toArray, List.set_cons_zero, List.set_cons_succ]
      refine wpAny_take (i := 1) (v := ?_) rfl (by kernel_rfl) (by kernel_rfl) (by kernel_rfl) (fun _ _ _ h => h) (Or.inl ⟨by rfl, by intro w; go_simp; first | done | with_reducible rfl⟩) ?_
      simp only [List.getElem_toArray, List.getElem_cons_succ, List.getElem_cons_zero, Act.put, List.setIfInBounds_toArray, List.set_cons_zero, List.set_cons_succ]
      refine wpAny_take (i := 2) (v := ?_) rfl (by kernel_rfl) (by kernel_rfl) (by kernel_rfl) (fun _ _ _ h => h) (Or.inl ⟨by rfl, by intro w; go_simp; first | done | with_reducible rfl⟩) ?_
      simp only [List.getElem_toArray, List.getElem_cons_succ, List.getElem_cons_zero, Act.put, List.setIfInBounds_toArray, List.set_cons_zero, List.set_cons_succ]
      refine wpAny_take (i := 4) (v := ?_) rfl (by kernel_rfl) (by kernel_rfl) (by kernel_rfl) (fun _ _ _ h => h) (Or.inl ⟨by rfl, by intro w; go_simp; first | done | with_reducible rfl⟩) ?_
      simp only [List.getElem_toArray, List.getElem_cons_succ, List.getElem_cons_zero, Act.put, List.setIfInBounds_toArray, List.set_cons_zero, List.set_cons_succ]
      refine wpAny_take (i := 5) (v := ?_) rfl (by kernel_rfl) (by kernel_rfl) (by kernel_rfl) (fun _ _ _ h => h) (Or.inl ⟨by rfl, by intro w; go_simp; first | done | with_reducible rfl⟩) ?_
      simp only [List.getElem_toArray, List.getElem_cons_succ, List.getElem_cons_zero, Act.put, List.setIfInBounds_toArray, List.set_cons_zero, List.set_cons_succ]
      refine wpAny_take (i := 6) (v := ?_) rfl (by kernel_rfl) (by kernel_rfl) (by kernel_rfl) (fun _ _ _ h => h) (Or.inl ⟨by rfl, by intro w; go_simp; first | done | with_reducible rfl⟩) ?_
      simp only [List.getElem_toArray, List.getElem_cons_succ, List.getElem_cons_zero, Act.put, List.setIfInBounds_toArray, List.set_cons_zero, List.set_cons_succ]
      refine wpAny_ready (rs := [3, 7]) (by kernel_rfl) (by simp) ?_
      refine AllReady.cons rfl (fun K hK => ?_) ?_
      · have hK' := hK; clear hK; have hK := hK'; clear hK'
        go_simp
        refine hK _ _ ?_
        clear hK K
        refine wpAny_ready (rs := [7]) (by kernel_rfl) (by simp) ?_
        refine AllReady.cons rfl (fun K hK => ?_) ?_
        · have hK' := hK; clear hK; have hK := hK'; clear hK'
          go_simp
          refine hK _ _ ?_
          clear hK K
          refine wpAny_ready (rs := [8]) (by kernel_rfl) (by simp) ?_
          refine AllReady.cons rfl (fun K hK => ?_) ?_
          · have hK' := hK; clear hK; have hK := hK'; clear hK'
            go_simp
            go_wp2_with (go_at_call 16; refine hs.mono ?_; rintro e w6 ⟨rfl, b6⟩; have hb6 := Lib.hid (hb.out.trans (((Below.refl _ _).drew.trans b6).mono hb.out.size)))
            first | (refine hK _ _ ?_; clear hK K) | skip
            refine wpAny_take (i := 9) (v := ?_) rfl (by kernel_rfl) (by kernel_rfl) (by kernel_rfl) (fun _ _ _ h => h) (Or.inl ⟨by rfl, by intro w; go_simp; first | done | with_reducible rfl⟩) ?_
            simp only [List.getElem_toArray, List.getElem_cons_succ, List.getElem_cons_zero, Act.put, List.setIfInBounds_toArray, List.set_cons_zero, List.set_cons_succ]
            refine wpAny_done (by kernel_rfl) ?_ _
            go_wp2_with (fail)
            exact ⟨⟨k + 1, by omega, by go_num, hb6.out⟩, by simp [intOf]; omega⟩
          exact AllReady.nil
        exact AllReady.nil
      refine AllReady.cons rfl (fun K hK => ?_) ?_
      · have hK' := hK; clear hK; have hK := hK'; clear hK'
        go_simp
        refine hK _ _ ?_
        clear hK K
        refine wpAny_ready (rs := [3]) (by kernel_rfl) (by simp) ?_
        refine AllReady.cons rfl (fun K hK => ?_) ?_
        · have hK' := hK; clear hK; have hK := hK'; clear hK'
          go_simp
          refine hK _ _ ?_
          clear hK K
          refine wpAny_ready (rs := [8]) (by kernel_rfl) (by simp) ?_
          refine AllReady.cons rfl (fun K hK => ?_) ?_
          · have hK' := hK; clear hK; have hK := hK'; clear hK'
            go_simp
            go_wp2_with (go_at_call 16; refine hs.mono ?_; rintro e w6 ⟨rfl, b6⟩; have hb6 := Lib.hid (hb.out.trans (((Below.refl _ _).drew.trans b6).mono hb.out.size)))
            first | (refine hK _ _ ?_; clear hK K) | skip
            refine wpAny_take (i := 9) (v := ?_) rfl (by kernel_rfl) (by kernel_rfl) (by kernel_rfl) (fun _ _ _ h => h) (Or.inl ⟨by rfl, by intro w; go_simp; first | done | with_reducible rfl⟩) ?_
            simp only [List.getElem_toArray, List.getElem_cons_succ, List.getElem_cons_zero, Act.put, List.setIfInBounds_toArray, List.set_cons_zero, List.set_cons_succ]
            refine wpAny_done (by kernel_rfl) ?_ _
            go_wp2_with (fail)
            exact ⟨⟨k + 1, by omega, by go_num, hb6.out⟩, by simp [intOf]; omega⟩
          exact AllReady.nil
        exact AllReady.nil
      exact AllReady.nil
    · obtain rfl : k = n2 := by omega
      have hb' := Lib.hid (k2.out.trans (hb.mono k2.out.size))
      replace hb := Lib.hid hb
      go_wp2_with (fail)
      refine (works_any wr).mono ?_
      rintro e w3 ⟨rfl, b3⟩
      have hb3 := Lib.hid (hb'.out.trans (b3.mono hb'.out.size))
      clear b3 hb'
      go_wp2_with (fail)
      go_ret
      exact ⟨rfl, hb3.out⟩
end Go.Proofs.Ythmkfbabacehnaa
