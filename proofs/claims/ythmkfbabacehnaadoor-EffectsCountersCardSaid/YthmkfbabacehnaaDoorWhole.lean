/- The iterator over the whole sequences of a saga: its contract. -/
import Derived.Test.YthmkfbabacehnaaDoorDown
import Derived.Test.YthmkfbabacehnaaDoorRangeM
import Derived.Shelf.Abstract
import Derived.Shelf.RegionOpen
import Derived.WalkKit
import Derived.OwnWalkIn
import Derived.TacticsInMore
import Derived.LoopNIn
import Derived.LoopIn
import Derived.Outline
namespace Go.Proofs.YthmkfbabacehnaaDoor
open Go.RowKit Go.Shelf
set_option linter.unusedSimpArgs false
set_option linter.unusedVariables false
set_option linter.unusedSectionVars false
set_option maxRecDepth 10000
attribute [local go_sem] Oper.semAt_some
attribute [local go_sem ↓] hideAppend
theorem ownsRow_re {w : World} {base base' n c : Nat} {e : TypeId} {sz : Nat} {A : Option Addr} {xs : List Value} (h : w.ownsRow base e sz (.slice A n c) n xs) (hb : base' ≤ base) : w.ownsRow base' e sz (.slice A n c) n xs := by
  rcases h.2 with ⟨e1, e2⟩ | ⟨g, cp, cur, e1, e2, r⟩
  · exact ⟨h.1, .inl ⟨e1, e2⟩⟩
  · exact ⟨h.1, .inr ⟨g, cp, cur, e1, Nat.le_trans hb e2, r⟩⟩
theorem OwnE.re {w w0 W : World} {A : Option Addr} {n c : Nat} {l : List Ef} (h : OwnE w A n c l W) (hb : Below w0.heap.size w0 w) : OwnE w0 A n c l W := ⟨hb.trans (h.bel.mono hb.size), ownsRow_re h.own hb.size, h.len, h.cap⟩
theorem cat_any {w W : World} {A B : Option Addr} {n c m d : Nat} {l r : List Ef} (h : OwnE w A n c l W) (h2 : ES W B m r) (hn : n ≤ 100000) (hm : m ≤ 100000) :
    ∃ A' c' W', (appSem #[25, 25] 25 #[.slice A n c, .slice B m d]).run Tryd.prog W = .ok (.slice A' (n + m) c') W' ∧ OwnE w A' (n + m) c' (l ++ r) W' := by
  obtain ⟨A', c', w1, hrun, hcap, hown, hgr, hat⟩ := append_sl elemE encE_len encE_one (ty := 25) (d := d) h.own h.bel.size h2 (by omega) (by omega)
  exact ⟨A', c', w1, hrun, h.bel.trans (below_of_grown hgr h.bel.size fun g hg => (own_row h.own g hg).1), hown, by simp [h.len, h2.1], hcap⟩
/-- What the values of a round read as. -/
def RS (x : Int × List Ef) (vs : Array Value) (W0 W1 : World) : Prop :=
  ∃ A n c, vs = #[.int .i64 x.1, .slice A n c] ∧ x.2.length = n ∧ n ≤ c ∧ W1.ownsRow W0.heap.size 56 3 (.slice A n c) n (flat encE x.2)
/-- What the iterator keeps in a round. -/
structure IS (w : World) (bn bs : Nat) (k s : Int) (W : World) : Prop where
  bel : Below w.heap.size w W
  bn : Boxed W bn 3 (.int .i64 k)
  bs : Boxed W bs 3 (.int .i64 s)
theorem IS.keep {w W W' : World} {bn bs : Nat} {k s : Int} (h : IS w bn bs k s W) (hb : Below W.heap.size W W') : IS w bn bs k s W' :=
  ⟨h.bel.trans (hb.mono h.bel.size), (hb.block _ h.bn.lt).trans h.bn, (hb.block _ h.bs.lt).trans h.bs⟩
theorem IS.drew {w W : World} {bn bs : Nat} {k s : Int} (h : IS w bn bs k s W) : IS w bn bs k s W.drew := ⟨h.bel.drew, h.bn, h.bs⟩
theorem grown_of {w W : World} (h : Below w.heap.size w W) : w.grownBy W none := ⟨h.os, h.tape, h.output, h.size, fun k hk _ => h.block k hk⟩
theorem seqs_at {s : Int} {k j : Nat} (hj : j < k + 1) : ∃ rest, seqs s k = (seqs s k).take j ++ (5, seqA s j) :: rest := by
  refine ⟨(seqs s k).drop (j + 1), ?_⟩
  have h : (seqs s k)[j]? = some (5, seqA s j) := by
    unfold seqs
    rw [List.getElem?_append_left (by simpa using hj)]
    simp [hj]
  have hl := (List.getElem?_eq_some_iff.1 h).1
  have he := (List.getElem?_eq_some_iff.1 h).2
  conv => lhs; rw [← List.take_append_drop j (seqs s k), List.drop_eq_getElem_cons hl, he]
theorem seqs_take {s : Int} {k j : Nat} (hj : j < k + 1) : (seqs s k).take j ++ [(5, seqA s j)] = (seqs s k).take (j + 1) := by
  have h : (seqs s k)[j]? = some (5, seqA s j) := by
    unfold seqs
    rw [List.getElem?_append_left (by simpa using hj)]
    simp [hj]
  rw [List.take_add_one, h]; rfl
theorem seqs_last {s : Int} {k : Nat} : seqs s k = (seqs s k).take (k + 1) ++ [(4, seqD s k)] := by
  unfold seqs
  rw [List.take_append_of_le_length (by simp), List.take_of_length_le (by simp)]
/-- How the iterator ends. -/
def SeqEnd (J Jx : List (Int × List Ef) → World → Prop) (xs : List (Int × List Ef)) (W : World) : Prop := J xs W ∨ ∃ pre x rest, xs = pre ++ x :: rest ∧ Jx (pre ++ [x]) W
theorem yld {e : Ending} {A B : Prop} (h : (e = .returned (.bool true) ∧ A) ∨ (e = .returned (.bool false) ∧ B)) : ∃ b : Bool, e = .returned (.bool b) ∧ (b = true → A) ∧ (b = false → B) := by
  rcases h with ⟨h, a⟩ | ⟨h, b⟩
  · exact ⟨true, h, fun _ => a, fun h => by cases h⟩
  · exact ⟨false, h, fun h => (by cases h), fun _ => b⟩
set_option maxRecDepth 100000 in
set_option maxHeartbeats 8000000 in
theorem whole1_in (n l bn bs : Nat) (s : Int) (k : Nat) (hk : k ≤ 8) (hn : 1 ≤ n) (J Jx : List (Int × List Ef) → World → Prop)
    (hY : ∀ pre x rest vs W0 W1, seqs s k = pre ++ x :: rest → J pre W0 → W0.grownBy W1 none → RS x vs W0 W1 → YieldAt Fence.wide (n - 1) Tryd.prog l vs W1 fun e W' =>
      (e = .returned (.bool true) ∧ J (pre ++ [x]) W' ∧ (W'.heap[bn]? = W1.heap[bn]? ∧ W'.heap[bs]? = W1.heap[bs]?)) ∨ (e = .returned (.bool false) ∧ Jx (pre ++ [x]) W'))
    (W : World) (hB : Boxed W bn 3 (.int .i64 k)) (hS : Boxed W bs 3 (.int .i64 s)) (h0 : J [] W) :
    CallsIn Fence.wide n Tryd.prog 39 #[.func (.yield l) #[] #[], .pointer (some ⟨bn, 0, none⟩), .pointer (some ⟨bs, 0, none⟩)] W fun e W' => (∃ v, e = .returned v) ∧ SeqEnd J Jx (seqs s k) W' := by
  have hF1 : Fence.wide.fn 40 := trivial
  have hF2 : Fence.wide.fn 41 := trivial
  have hmx : Tryd.prog.follows .mixedOrders = true := by kernel_rfl
  refine callsIn_of_wp Tryd.func39 rfl trivial ?_ rfl
  simp only [Tryd.ntmps39, List.size_toArray, List.length_cons, List.length_nil, Nat.reduceAdd, Nat.reduceSub, Array.replicate_succ, Array.replicate_zero, List.push_toArray, List.append_toArray, List.nil_append, List.cons_append]
  have cn := hB.cell
  have cs := hS.cell
  have fn0 := hB.frozen
  have fs0 := hS.frozen
  gi_wp2
  gi_loopw [7] (fun p wr => ∃ j : Nat, j ≤ k + 1 ∧ p = .int .i64 j ∧ J ((seqs s k).take j) wr ∧ Boxed wr bn 3 (.int .i64 k) ∧ Boxed wr bs 3 (.int .i64 s)) (fun p _ => k + 1 - (intOf p).toNat)
  case atStart => exact ⟨0, by omega, rfl, h0, hB, hS⟩
  case round =>
    clear cn cs fn0 fs0 hB hS h0
    obtain ⟨j, hj, rfl, hJ, hB, hS⟩ := hrel
    by_cases hlt : j < k + 1
    · obtain ⟨rest, hxs⟩ := seqs_at (s := s) hlt
      have hQ : IS wr bn bs k s wr.drew := ⟨(Below.refl _ _).drew, hB, hS⟩
      have cn := hB.cell
      have cs := hS.cell
      replace hxs := Lib.hid hxs
      gi_wp2
      refine wpIn_region_any hmx ?_
      change wpAnyIn _ _ _ _ _ _ _ _ _ (World.drew _)
      refine wpAnyIn_take (i := 0) (v := ?_) rfl rfl (by kernel_rfl) (by kernel_rfl) (by kernel_rfl) (fun _ _ _ h => h) ⟨Or.inl ⟨by rfl, by intro w; go_simp; first | done | with_reducible rfl⟩, fun _ => rfl⟩ ?_
      refine wpAnyIn_take (i := 2) (v := ?_) rfl rfl (by kernel_rfl) (by kernel_rfl) (by kernel_rfl) (fun _ _ _ h => h) ⟨Or.inl ⟨by rfl, by intro w; go_simp; first | done | with_reducible rfl⟩, fun _ => rfl⟩ ?_
      refine wpAnyIn_take (i := 5) (v := ?_) rfl rfl (by kernel_rfl) (by kernel_rfl) (by kernel_rfl) (fun _ _ _ h => h) ⟨Or.inl ⟨by rfl, by intro w; go_simp; first | done | with_reducible rfl⟩, fun _ => rfl⟩ ?_
      refine wpAnyIn_ready (rs := [1, 4]) (by kernel_rfl) (by simp) ?_
      refine AllReadyIn.cons rfl (fun K hK => ?_) ?_
      · have hK' := hK; clear hK; have hK := hK'; clear hK'
        go_simp
        refine hK _ _ ?_
        clear hK K
        refine wpAnyIn_ready (rs := [3, 4]) (by kernel_rfl) (by simp) ?_
        refine AllReadyIn.cons rfl (fun K hK => ?_) ?_
        · have hK' := hK; clear hK; have hK := hK'; clear hK'
          go_simp
          gi_wp2_with (gi_at_call 40; refine (callsIn_wide.2 (up_any s 1 j (by omega) _)).mono ?_; rintro e w1 ⟨A1, c1, rfl, o1⟩)
          have hb1 := o1.bel
          replace o1 := o1.re hQ.bel
          replace hQ := hQ.keep hb1
          have cn1 := hQ.bn.cell
          have cs1 := hQ.bs.cell
          refine wpAnyIn_ready (rs := [4]) (by kernel_rfl) (by simp) ?_
          refine AllReadyIn.cons rfl (fun K hK => ?_) ?_
          · have hK' := hK; clear hK; have hK := hK'; clear hK'
            go_simp
            refine hK _ _ ?_
            clear hK K
            refine wpAnyIn_ready (rs := [6]) (by kernel_rfl) (by simp) ?_
            refine AllReadyIn.cons rfl (fun K hK => ?_) ?_
            · have hK' := hK; clear hK; have hK := hK'; clear hK'
              go_simp
              gi_wp2_with (gi_at_call 41; refine (callsIn_wide.2 (down_any s 2 j (by omega) _)).mono ?_; rintro e w2 ⟨A2, c2, rfl, o2⟩)
              have hb2 := o2.bel
              replace o2 := o2.re hQ.bel
              replace hQ := hQ.keep hb2
              replace o1 := o1.keep hb2
              have cn2 := hQ.bn.cell
              have cs2 := hQ.bs.cell
              refine wpAnyIn_ready (rs := [7]) (by kernel_rfl) (by simp) ?_
              refine AllReadyIn.cons rfl (fun K hK => ?_) ?_
              · have hK' := hK; clear hK; have hK := hK'; clear hK'
                obtain ⟨A3, c3, W3, hrun, o3⟩ := cat_any o1 o2.es (by omega) (by omega)
                obtain ⟨fn, tmps, assign, body, hy, hR⟩ := hY _ _ _ _ _ _ hxs.out hJ (grown_of o3.bel) ⟨A3, _, c3, rfl, o3.len, o3.cap, o3.own⟩
                go_simp
                rw [hrun]
                go_simp
                refine hK _ _ ?_
                clear hK K
                refine wpAnyIn_ready (rs := [8]) (by kernel_rfl) (by simp) ?_
                refine AllReadyIn.cons rfl (fun K hK => ?_) ?_
                · have hK' := hK; clear hK; have hK := hK'; clear hK'
                  go_simp
                  refine hR.mono ?_
                  rintro e W9 hp9
                  obtain ⟨b9, rfl, hb9⟩ := yld hp9
                  refine hK _ _ ?_
                  clear hK K hp9
                  refine wpAnyIn_ready (rs := [9]) (by kernel_rfl) (by simp) ?_
                  refine AllReadyIn.cons rfl (fun K hK => ?_) ?_
                  · have hK' := hK; clear hK; have hK := hK'; clear hK'
                    go_simp
                    refine hK _ _ ?_
                    clear hK K
                    refine wpAnyIn_done (by kernel_rfl) ?_ _
                    have B1 := (o3.bel.block bn hB.lt).trans hB
                    have B2 := (o3.bel.block bs hS.lt).trans hS
                    replace hb9 := Lib.hid hb9
                    clear cn cs cn1 cs1 cn2 cs2 hy hR hrun
                    cases b9
                    · gi_wp2
                      refine bodyPost_ret (results_none rfl _ _ _) rfl ?_
                      exact ⟨⟨_, rfl⟩, .inr ⟨_, _, _, hxs.out, hb9.out.2 (by trivial)⟩⟩
                    · gi_wp2
                      have h9 := hb9.out.1 (by trivial)
                      exact ⟨⟨j + 1, by omega, by go_num, by rw [← seqs_take hlt]; exact h9.1, h9.2.1.trans B1, h9.2.2.trans B2⟩, by simp [intOf]; omega⟩
                  exact AllReadyIn.nil
                exact AllReadyIn.nil
              exact AllReadyIn.nil
            exact AllReadyIn.nil
          exact AllReadyIn.nil
        refine AllReadyIn.cons rfl (fun K hK => ?_) ?_
        · have hK' := hK; clear hK; have hK := hK'; clear hK'
          go_simp
          refine hK _ _ ?_
          clear hK K
          refine wpAnyIn_ready (rs := [3]) (by kernel_rfl) (by simp) ?_
          refine AllReadyIn.cons rfl (fun K hK => ?_) ?_
          · have hK' := hK; clear hK; have hK := hK'; clear hK'
            go_simp
            gi_wp2_with (gi_at_call 40; refine (callsIn_wide.2 (up_any s 1 j (by omega) _)).mono ?_; rintro e w1 ⟨A1, c1, rfl, o1⟩)
            have hb1 := o1.bel
            replace o1 := o1.re hQ.bel
            replace hQ := hQ.keep hb1
            have cn1 := hQ.bn.cell
            have cs1 := hQ.bs.cell
            refine wpAnyIn_ready (rs := [6]) (by kernel_rfl) (by simp) ?_
            refine AllReadyIn.cons rfl (fun K hK => ?_) ?_
            · have hK' := hK; clear hK; have hK := hK'; clear hK'
              go_simp
              gi_wp2_with (gi_at_call 41; refine (callsIn_wide.2 (down_any s 2 j (by omega) _)).mono ?_; rintro e w2 ⟨A2, c2, rfl, o2⟩)
              have hb2 := o2.bel
              replace o2 := o2.re hQ.bel
              replace hQ := hQ.keep hb2
              replace o1 := o1.keep hb2
              have cn2 := hQ.bn.cell
              have cs2 := hQ.bs.cell
              refine wpAnyIn_ready (rs := [7]) (by kernel_rfl) (by simp) ?_
              refine AllReadyIn.cons rfl (fun K hK => ?_) ?_
              · have hK' := hK; clear hK; have hK := hK'; clear hK'
                obtain ⟨A3, c3, W3, hrun, o3⟩ := cat_any o1 o2.es (by omega) (by omega)
                obtain ⟨fn, tmps, assign, body, hy, hR⟩ := hY _ _ _ _ _ _ hxs.out hJ (grown_of o3.bel) ⟨A3, _, c3, rfl, o3.len, o3.cap, o3.own⟩
                go_simp
                rw [hrun]
                go_simp
                refine hK _ _ ?_
                clear hK K
                refine wpAnyIn_ready (rs := [8]) (by kernel_rfl) (by simp) ?_
                refine AllReadyIn.cons rfl (fun K hK => ?_) ?_
                · have hK' := hK; clear hK; have hK := hK'; clear hK'
                  go_simp
                  refine hR.mono ?_
                  rintro e W9 hp9
                  obtain ⟨b9, rfl, hb9⟩ := yld hp9
                  refine hK _ _ ?_
                  clear hK K hp9
                  refine wpAnyIn_ready (rs := [9]) (by kernel_rfl) (by simp) ?_
                  refine AllReadyIn.cons rfl (fun K hK => ?_) ?_
                  · have hK' := hK; clear hK; have hK := hK'; clear hK'
                    go_simp
                    refine hK _ _ ?_
                    clear hK K
                    refine wpAnyIn_done (by kernel_rfl) ?_ _
                    have B1 := (o3.bel.block bn hB.lt).trans hB
                    have B2 := (o3.bel.block bs hS.lt).trans hS
                    replace hb9 := Lib.hid hb9
                    clear cn cs cn1 cs1 cn2 cs2 hy hR hrun
                    cases b9
                    · gi_wp2
                      refine bodyPost_ret (results_none rfl _ _ _) rfl ?_
                      exact ⟨⟨_, rfl⟩, .inr ⟨_, _, _, hxs.out, hb9.out.2 (by trivial)⟩⟩
                    · gi_wp2
                      have h9 := hb9.out.1 (by trivial)
                      exact ⟨⟨j + 1, by omega, by go_num, by rw [← seqs_take hlt]; exact h9.1, h9.2.1.trans B1, h9.2.2.trans B2⟩, by simp [intOf]; omega⟩
                  exact AllReadyIn.nil
                exact AllReadyIn.nil
              exact AllReadyIn.nil
            exact AllReadyIn.nil
          exact AllReadyIn.nil
        exact AllReadyIn.nil
      refine AllReadyIn.cons rfl (fun K hK => ?_) ?_
      · have hK' := hK; clear hK; have hK := hK'; clear hK'
        go_simp
        refine hK _ _ ?_
        clear hK K
        refine wpAnyIn_ready (rs := [1]) (by kernel_rfl) (by simp) ?_
        refine AllReadyIn.cons rfl (fun K hK => ?_) ?_
        · have hK' := hK; clear hK; have hK := hK'; clear hK'
          go_simp
          refine hK _ _ ?_
          clear hK K
          refine wpAnyIn_ready (rs := [3]) (by kernel_rfl) (by simp) ?_
          refine AllReadyIn.cons rfl (fun K hK => ?_) ?_
          · have hK' := hK; clear hK; have hK := hK'; clear hK'
            go_simp
            gi_wp2_with (gi_at_call 40; refine (callsIn_wide.2 (up_any s 1 j (by omega) _)).mono ?_; rintro e w1 ⟨A1, c1, rfl, o1⟩)
            have hb1 := o1.bel
            replace o1 := o1.re hQ.bel
            replace hQ := hQ.keep hb1
            have cn1 := hQ.bn.cell
            have cs1 := hQ.bs.cell
            refine wpAnyIn_ready (rs := [6]) (by kernel_rfl) (by simp) ?_
            refine AllReadyIn.cons rfl (fun K hK => ?_) ?_
            · have hK' := hK; clear hK; have hK := hK'; clear hK'
              go_simp
              gi_wp2_with (gi_at_call 41; refine (callsIn_wide.2 (down_any s 2 j (by omega) _)).mono ?_; rintro e w2 ⟨A2, c2, rfl, o2⟩)
              have hb2 := o2.bel
              replace o2 := o2.re hQ.bel
              replace hQ := hQ.keep hb2
              replace o1 := o1.keep hb2
              have cn2 := hQ.bn.cell
              have cs2 := hQ.bs.cell
              refine wpAnyIn_ready (rs := [7]) (by kernel_rfl) (by simp) ?_
              refine AllReadyIn.cons rfl (fun K hK => ?_) ?_
              · have hK' := hK; clear hK; have hK := hK'; clear hK'
                obtain ⟨A3, c3, W3, hrun, o3⟩ := cat_any o1 o2.es (by omega) (by omega)
                obtain ⟨fn, tmps, assign, body, hy, hR⟩ := hY _ _ _ _ _ _ hxs.out hJ (grown_of o3.bel) ⟨A3, _, c3, rfl, o3.len, o3.cap, o3.own⟩
                go_simp
                rw [hrun]
                go_simp
                refine hK _ _ ?_
                clear hK K
                refine wpAnyIn_ready (rs := [8]) (by kernel_rfl) (by simp) ?_
                refine AllReadyIn.cons rfl (fun K hK => ?_) ?_
                · have hK' := hK; clear hK; have hK := hK'; clear hK'
                  go_simp
                  refine hR.mono ?_
                  rintro e W9 hp9
                  obtain ⟨b9, rfl, hb9⟩ := yld hp9
                  refine hK _ _ ?_
                  clear hK K hp9
                  refine wpAnyIn_ready (rs := [9]) (by kernel_rfl) (by simp) ?_
                  refine AllReadyIn.cons rfl (fun K hK => ?_) ?_
                  · have hK' := hK; clear hK; have hK := hK'; clear hK'
                    go_simp
                    refine hK _ _ ?_
                    clear hK K
                    refine wpAnyIn_done (by kernel_rfl) ?_ _
                    have B1 := (o3.bel.block bn hB.lt).trans hB
                    have B2 := (o3.bel.block bs hS.lt).trans hS
                    replace hb9 := Lib.hid hb9
                    clear cn cs cn1 cs1 cn2 cs2 hy hR hrun
                    cases b9
                    · gi_wp2
                      refine bodyPost_ret (results_none rfl _ _ _) rfl ?_
                      exact ⟨⟨_, rfl⟩, .inr ⟨_, _, _, hxs.out, hb9.out.2 (by trivial)⟩⟩
                    · gi_wp2
                      have h9 := hb9.out.1 (by trivial)
                      exact ⟨⟨j + 1, by omega, by go_num, by rw [← seqs_take hlt]; exact h9.1, h9.2.1.trans B1, h9.2.2.trans B2⟩, by simp [intOf]; omega⟩
                  exact AllReadyIn.nil
                exact AllReadyIn.nil
              exact AllReadyIn.nil
            exact AllReadyIn.nil
          exact AllReadyIn.nil
        exact AllReadyIn.nil
      exact AllReadyIn.nil
    · obtain rfl : j = k + 1 := by omega
      have hxs : seqs s k = (seqs s k).take (k + 1) ++ (4, seqD s k) :: [] := seqs_last
      have hQ : IS wr bn bs k s wr.drew := ⟨(Below.refl _ _).drew, hB, hS⟩
      have cn := hB.cell
      have cs := hS.cell
      replace hxs := Lib.hid hxs
      gi_wp2
      refine wpIn_region_any hmx ?_
      change wpAnyIn _ _ _ _ _ _ _ _ _ (World.drew _)
      refine wpAnyIn_take (i := 0) (v := ?_) rfl rfl (by kernel_rfl) (by kernel_rfl) (by kernel_rfl) (fun _ _ _ h => h) ⟨Or.inl ⟨by rfl, by intro w; go_simp; first | done | with_reducible rfl⟩, fun _ => rfl⟩ ?_
      refine wpAnyIn_ready (rs := [1, 2, 4, 5]) (by kernel_rfl) (by simp) ?_
      refine AllReadyIn.cons rfl (fun K hK => ?_) ?_
      · have hK' := hK; clear hK; have hK := hK'; clear hK'
        go_simp
        refine hK _ _ ?_
        clear hK K
        refine wpAnyIn_ready (rs := [2, 4, 5]) (by kernel_rfl) (by simp) ?_
        refine AllReadyIn.cons rfl (fun K hK => ?_) ?_
        · have hK' := hK; clear hK; have hK := hK'; clear hK'
          go_simp
          refine hK _ _ ?_
          clear hK K
          refine wpAnyIn_ready (rs := [3, 4, 5]) (by kernel_rfl) (by simp) ?_
          refine AllReadyIn.cons rfl (fun K hK => ?_) ?_
          · have hK' := hK; clear hK; have hK := hK'; clear hK'
            go_simp
            gi_wp2_with (gi_at_call 40; refine (callsIn_wide.2 (up_any s 1 k (by omega) _)).mono ?_; rintro e w1 ⟨A1, c1, rfl, o1⟩)
            have hb1 := o1.bel
            replace o1 := o1.re hQ.bel
            replace hQ := hQ.keep hb1
            have cn1 := hQ.bn.cell
            have cs1 := hQ.bs.cell
            refine wpAnyIn_ready (rs := [4, 5]) (by kernel_rfl) (by simp) ?_
            refine AllReadyIn.cons rfl (fun K hK => ?_) ?_
            · have hK' := hK; clear hK; have hK := hK'; clear hK'
              go_simp
              refine hK _ _ ?_
              clear hK K
              refine wpAnyIn_ready (rs := [5]) (by kernel_rfl) (by simp) ?_
              refine AllReadyIn.cons rfl (fun K hK => ?_) ?_
              · have hK' := hK; clear hK; have hK := hK'; clear hK'
                go_simp
                refine hK _ _ ?_
                clear hK K
                refine wpAnyIn_ready (rs := [6]) (by kernel_rfl) (by simp) ?_
                refine AllReadyIn.cons rfl (fun K hK => ?_) ?_
                · have hK' := hK; clear hK; have hK := hK'; clear hK'
                  go_simp
                  gi_wp2_with (gi_at_call 40; refine (callsIn_wide.2 (up_any s 3 k (by omega) _)).mono ?_; rintro e w2 ⟨A2, c2, rfl, o2⟩)
                  have hb2 := o2.bel
                  replace o2 := o2.re hQ.bel
                  replace hQ := hQ.keep hb2
                  replace o1 := o1.keep hb2
                  have cn2 := hQ.bn.cell
                  have cs2 := hQ.bs.cell
                  refine wpAnyIn_ready (rs := [7]) (by kernel_rfl) (by simp) ?_
                  refine AllReadyIn.cons rfl (fun K hK => ?_) ?_
                  · have hK' := hK; clear hK; have hK := hK'; clear hK'
                    obtain ⟨A3, c3, W3, hrun, o3⟩ := cat_any o1 o2.es (by omega) (by omega)
                    obtain ⟨fn, tmps, assign, body, hy, hR⟩ := hY _ _ _ _ _ _ hxs.out hJ (grown_of o3.bel) ⟨A3, _, c3, rfl, o3.len, o3.cap, o3.own⟩
                    go_simp
                    rw [hrun]
                    go_simp
                    refine hK _ _ ?_
                    clear hK K
                    refine wpAnyIn_ready (rs := [8]) (by kernel_rfl) (by simp) ?_
                    refine AllReadyIn.cons rfl (fun K hK => ?_) ?_
                    · have hK' := hK; clear hK; have hK := hK'; clear hK'
                      go_simp
                      refine hR.mono ?_
                      rintro e W9 hp9
                      obtain ⟨b9, rfl, hb9⟩ := yld hp9
                      refine hK _ _ ?_
                      clear hK K hp9
                      refine wpAnyIn_done (by kernel_rfl) ?_ _
                      replace hb9 := Lib.hid hb9
                      clear cn cs cn1 cs1 cn2 cs2 hy hR hrun
                      cases b9
                      · gi_wp2
                        go_end0
                        exact ⟨⟨_, rfl⟩, .inr ⟨_, _, _, hxs.out, hb9.out.2 (by trivial)⟩⟩
                      · gi_wp2
                        go_end0
                        exact ⟨⟨_, rfl⟩, .inl (by rw [hxs.out]; exact (hb9.out.1 (by trivial)).1)⟩
                    exact AllReadyIn.nil
                  exact AllReadyIn.nil
                exact AllReadyIn.nil
              exact AllReadyIn.nil
            refine AllReadyIn.cons rfl (fun K hK => ?_) ?_
            · have hK' := hK; clear hK; have hK := hK'; clear hK'
              go_simp
              refine hK _ _ ?_
              clear hK K
              refine wpAnyIn_ready (rs := [4]) (by kernel_rfl) (by simp) ?_
              refine AllReadyIn.cons rfl (fun K hK => ?_) ?_
              · have hK' := hK; clear hK; have hK := hK'; clear hK'
                go_simp
                refine hK _ _ ?_
                clear hK K
                refine wpAnyIn_ready (rs := [6]) (by kernel_rfl) (by simp) ?_
                refine AllReadyIn.cons rfl (fun K hK => ?_) ?_
                · have hK' := hK; clear hK; have hK := hK'; clear hK'
                  go_simp
                  gi_wp2_with (gi_at_call 40; refine (callsIn_wide.2 (up_any s 3 k (by omega) _)).mono ?_; rintro e w2 ⟨A2, c2, rfl, o2⟩)
                  have hb2 := o2.bel
                  replace o2 := o2.re hQ.bel
                  replace hQ := hQ.keep hb2
                  replace o1 := o1.keep hb2
                  have cn2 := hQ.bn.cell
                  have cs2 := hQ.bs.cell
                  refine wpAnyIn_ready (rs := [7]) (by kernel_rfl) (by simp) ?_
                  refine AllReadyIn.cons rfl (fun K hK => ?_) ?_
                  · have hK' := hK; clear hK; have hK := hK'; clear hK'
                    obtain ⟨A3, c3, W3, hrun, o3⟩ := cat_any o1 o2.es (by omega) (by omega)
                    obtain ⟨fn, tmps, assign, body, hy, hR⟩ := hY _ _ _ _ _ _ hxs.out hJ (grown_of o3.bel) ⟨A3, _, c3, rfl, o3.len, o3.cap, o3.own⟩
                    go_simp
                    rw [hrun]
                    go_simp
                    refine hK _ _ ?_
                    clear hK K
                    refine wpAnyIn_ready (rs := [8]) (by kernel_rfl) (by simp) ?_
                    refine AllReadyIn.cons rfl (fun K hK => ?_) ?_
                    · have hK' := hK; clear hK; have hK := hK'; clear hK'
                      go_simp
                      refine hR.mono ?_
                      rintro e W9 hp9
                      obtain ⟨b9, rfl, hb9⟩ := yld hp9
                      refine hK _ _ ?_
                      clear hK K hp9
                      refine wpAnyIn_done (by kernel_rfl) ?_ _
                      replace hb9 := Lib.hid hb9
                      clear cn cs cn1 cs1 cn2 cs2 hy hR hrun
                      cases b9
                      · gi_wp2
                        go_end0
                        exact ⟨⟨_, rfl⟩, .inr ⟨_, _, _, hxs.out, hb9.out.2 (by trivial)⟩⟩
                      · gi_wp2
                        go_end0
                        exact ⟨⟨_, rfl⟩, .inl (by rw [hxs.out]; exact (hb9.out.1 (by trivial)).1)⟩
                    exact AllReadyIn.nil
                  exact AllReadyIn.nil
                exact AllReadyIn.nil
              exact AllReadyIn.nil
            exact AllReadyIn.nil
          refine AllReadyIn.cons rfl (fun K hK => ?_) ?_
          · have hK' := hK; clear hK; have hK := hK'; clear hK'
            go_simp
            refine hK _ _ ?_
            clear hK K
            refine wpAnyIn_ready (rs := [3, 5]) (by kernel_rfl) (by simp) ?_
            refine AllReadyIn.cons rfl (fun K hK => ?_) ?_
            · have hK' := hK; clear hK; have hK := hK'; clear hK'
              go_simp
              gi_wp2_with (gi_at_call 40; refine (callsIn_wide.2 (up_any s 1 k (by omega) _)).mono ?_; rintro e w1 ⟨A1, c1, rfl, o1⟩)
              have hb1 := o1.bel
              replace o1 := o1.re hQ.bel
              replace hQ := hQ.keep hb1
              have cn1 := hQ.bn.cell
              have cs1 := hQ.bs.cell
              refine wpAnyIn_ready (rs := [5]) (by kernel_rfl) (by simp) ?_
              refine AllReadyIn.cons rfl (fun K hK => ?_) ?_
              · have hK' := hK; clear hK; have hK := hK'; clear hK'
                go_simp
                refine hK _ _ ?_
                clear hK K
                refine wpAnyIn_ready (rs := [6]) (by kernel_rfl) (by simp) ?_
                refine AllReadyIn.cons rfl (fun K hK => ?_) ?_
                · have hK' := hK; clear hK; have hK := hK'; clear hK'
                  go_simp
                  gi_wp2_with (gi_at_call 40; refine (callsIn_wide.2 (up_any s 3 k (by omega) _)).mono ?_; rintro e w2 ⟨A2, c2, rfl, o2⟩)
                  have hb2 := o2.bel
                  replace o2 := o2.re hQ.bel
                  replace hQ := hQ.keep hb2
                  replace o1 := o1.keep hb2
                  have cn2 := hQ.bn.cell
                  have cs2 := hQ.bs.cell
                  refine wpAnyIn_ready (rs := [7]) (by kernel_rfl) (by simp) ?_
                  refine AllReadyIn.cons rfl (fun K hK => ?_) ?_
                  · have hK' := hK; clear hK; have hK := hK'; clear hK'
                    obtain ⟨A3, c3, W3, hrun, o3⟩ := cat_any o1 o2.es (by omega) (by omega)
                    obtain ⟨fn, tmps, assign, body, hy, hR⟩ := hY _ _ _ _ _ _ hxs.out hJ (grown_of o3.bel) ⟨A3, _, c3, rfl, o3.len, o3.cap, o3.own⟩
                    go_simp
                    rw [hrun]
                    go_simp
                    refine hK _ _ ?_
                    clear hK K
                    refine wpAnyIn_ready (rs := [8]) (by kernel_rfl) (by simp) ?_
                    refine AllReadyIn.cons rfl (fun K hK => ?_) ?_
                    · have hK' := hK; clear hK; have hK := hK'; clear hK'
                      go_simp
                      refine hR.mono ?_
                      rintro e W9 hp9
                      obtain ⟨b9, rfl, hb9⟩ := yld hp9
                      refine hK _ _ ?_
                      clear hK K hp9
                      refine wpAnyIn_done (by kernel_rfl) ?_ _
                      replace hb9 := Lib.hid hb9
                      clear cn cs cn1 cs1 cn2 cs2 hy hR hrun
                      cases b9
                      · gi_wp2
                        go_end0
                        exact ⟨⟨_, rfl⟩, .inr ⟨_, _, _, hxs.out, hb9.out.2 (by trivial)⟩⟩
                      · gi_wp2
                        go_end0
                        exact ⟨⟨_, rfl⟩, .inl (by rw [hxs.out]; exact (hb9.out.1 (by trivial)).1)⟩
                    exact AllReadyIn.nil
                  exact AllReadyIn.nil
                exact AllReadyIn.nil
              exact AllReadyIn.nil
            refine AllReadyIn.cons rfl (fun K hK => ?_) ?_
            · have hK' := hK; clear hK; have hK := hK'; clear hK'
              go_simp
              refine hK _ _ ?_
              clear hK K
              refine wpAnyIn_ready (rs := [3]) (by kernel_rfl) (by simp) ?_
              refine AllReadyIn.cons rfl (fun K hK => ?_) ?_
              · have hK' := hK; clear hK; have hK := hK'; clear hK'
                go_simp
                gi_wp2_with (gi_at_call 40; refine (callsIn_wide.2 (up_any s 1 k (by omega) _)).mono ?_; rintro e w1 ⟨A1, c1, rfl, o1⟩)
                have hb1 := o1.bel
                replace o1 := o1.re hQ.bel
                replace hQ := hQ.keep hb1
                have cn1 := hQ.bn.cell
                have cs1 := hQ.bs.cell
                refine wpAnyIn_ready (rs := [6]) (by kernel_rfl) (by simp) ?_
                refine AllReadyIn.cons rfl (fun K hK => ?_) ?_
                · have hK' := hK; clear hK; have hK := hK'; clear hK'
                  go_simp
                  gi_wp2_with (gi_at_call 40; refine (callsIn_wide.2 (up_any s 3 k (by omega) _)).mono ?_; rintro e w2 ⟨A2, c2, rfl, o2⟩)
                  have hb2 := o2.bel
                  replace o2 := o2.re hQ.bel
                  replace hQ := hQ.keep hb2
                  replace o1 := o1.keep hb2
                  have cn2 := hQ.bn.cell
                  have cs2 := hQ.bs.cell
                  refine wpAnyIn_ready (rs := [7]) (by kernel_rfl) (by simp) ?_
                  refine AllReadyIn.cons rfl (fun K hK => ?_) ?_
                  · have hK' := hK; clear hK; have hK := hK'; clear hK'
                    obtain ⟨A3, c3, W3, hrun, o3⟩ := cat_any o1 o2.es (by omega) (by omega)
                    obtain ⟨fn, tmps, assign, body, hy, hR⟩ := hY _ _ _ _ _ _ hxs.out hJ (grown_of o3.bel) ⟨A3, _, c3, rfl, o3.len, o3.cap, o3.own⟩
                    go_simp
                    rw [hrun]
                    go_simp
                    refine hK _ _ ?_
                    clear hK K
                    refine wpAnyIn_ready (rs := [8]) (by kernel_rfl) (by simp) ?_
                    refine AllReadyIn.cons rfl (fun K hK => ?_) ?_
                    · have hK' := hK; clear hK; have hK := hK'; clear hK'
                      go_simp
                      refine hR.mono ?_
                      rintro e W9 hp9
                      obtain ⟨b9, rfl, hb9⟩ := yld hp9
                      refine hK _ _ ?_
                      clear hK K hp9
                      refine wpAnyIn_done (by kernel_rfl) ?_ _
                      replace hb9 := Lib.hid hb9
                      clear cn cs cn1 cs1 cn2 cs2 hy hR hrun
                      cases b9
                      · gi_wp2
                        go_end0
                        exact ⟨⟨_, rfl⟩, .inr ⟨_, _, _, hxs.out, hb9.out.2 (by trivial)⟩⟩
                      · gi_wp2
                        go_end0
                        exact ⟨⟨_, rfl⟩, .inl (by rw [hxs.out]; exact (hb9.out.1 (by trivial)).1)⟩
                    exact AllReadyIn.nil
                  exact AllReadyIn.nil
                exact AllReadyIn.nil
              exact AllReadyIn.nil
            exact AllReadyIn.nil
          refine AllReadyIn.cons rfl (fun K hK => ?_) ?_
          · have hK' := hK; clear hK; have hK := hK'; clear hK'
            go_simp
            refine hK _ _ ?_
            clear hK K
            refine wpAnyIn_ready (rs := [3, 4]) (by kernel_rfl) (by simp) ?_
            refine AllReadyIn.cons rfl (fun K hK => ?_) ?_
            · have hK' := hK; clear hK; have hK := hK'; clear hK'
              go_simp
              gi_wp2_with (gi_at_call 40; refine (callsIn_wide.2 (up_any s 1 k (by omega) _)).mono ?_; rintro e w1 ⟨A1, c1, rfl, o1⟩)
              have hb1 := o1.bel
              replace o1 := o1.re hQ.bel
              replace hQ := hQ.keep hb1
              have cn1 := hQ.bn.cell
              have cs1 := hQ.bs.cell
              refine wpAnyIn_ready (rs := [4]) (by kernel_rfl) (by simp) ?_
              refine AllReadyIn.cons rfl (fun K hK => ?_) ?_
              · have hK' := hK; clear hK; have hK := hK'; clear hK'
                go_simp
                refine hK _ _ ?_
                clear hK K
                refine wpAnyIn_ready (rs := [6]) (by kernel_rfl) (by simp) ?_
                refine AllReadyIn.cons rfl (fun K hK => ?_) ?_
                · have hK' := hK; clear hK; have hK := hK'; clear hK'
                  go_simp
                  gi_wp2_with (gi_at_call 40; refine (callsIn_wide.2 (up_any s 3 k (by omega) _)).mono ?_; rintro e w2 ⟨A2, c2, rfl, o2⟩)
                  have hb2 := o2.bel
                  replace o2 := o2.re hQ.bel
                  replace hQ := hQ.keep hb2
                  replace o1 := o1.keep hb2
                  have cn2 := hQ.bn.cell
                  have cs2 := hQ.bs.cell
                  refine wpAnyIn_ready (rs := [7]) (by kernel_rfl) (by simp) ?_
                  refine AllReadyIn.cons rfl (fun K hK => ?_) ?_
                  · have hK' := hK; clear hK; have hK := hK'; clear hK'
                    obtain ⟨A3, c3, W3, hrun, o3⟩ := cat_any o1 o2.es (by omega) (by omega)
                    obtain ⟨fn, tmps, assign, body, hy, hR⟩ := hY _ _ _ _ _ _ hxs.out hJ (grown_of o3.bel) ⟨A3, _, c3, rfl, o3.len, o3.cap, o3.own⟩
                    go_simp
                    rw [hrun]
                    go_simp
                    refine hK _ _ ?_
                    clear hK K
                    refine wpAnyIn_ready (rs := [8]) (by kernel_rfl) (by simp) ?_
                    refine AllReadyIn.cons rfl (fun K hK => ?_) ?_
                    · have hK' := hK; clear hK; have hK := hK'; clear hK'
                      go_simp
                      refine hR.mono ?_
                      rintro e W9 hp9
                      obtain ⟨b9, rfl, hb9⟩ := yld hp9
                      refine hK _ _ ?_
                      clear hK K hp9
                      refine wpAnyIn_done (by kernel_rfl) ?_ _
                      replace hb9 := Lib.hid hb9
                      clear cn cs cn1 cs1 cn2 cs2 hy hR hrun
                      cases b9
                      · gi_wp2
                        go_end0
                        exact ⟨⟨_, rfl⟩, .inr ⟨_, _, _, hxs.out, hb9.out.2 (by trivial)⟩⟩
                      · gi_wp2
                        go_end0
                        exact ⟨⟨_, rfl⟩, .inl (by rw [hxs.out]; exact (hb9.out.1 (by trivial)).1)⟩
                    exact AllReadyIn.nil
                  exact AllReadyIn.nil
                exact AllReadyIn.nil
              exact AllReadyIn.nil
            refine AllReadyIn.cons rfl (fun K hK => ?_) ?_
            · have hK' := hK; clear hK; have hK := hK'; clear hK'
              go_simp
              refine hK _ _ ?_
              clear hK K
              refine wpAnyIn_ready (rs := [3]) (by kernel_rfl) (by simp) ?_
              refine AllReadyIn.cons rfl (fun K hK => ?_) ?_
              · have hK' := hK; clear hK; have hK := hK'; clear hK'
                go_simp
                gi_wp2_with (gi_at_call 40; refine (callsIn_wide.2 (up_any s 1 k (by omega) _)).mono ?_; rintro e w1 ⟨A1, c1, rfl, o1⟩)
                have hb1 := o1.bel
                replace o1 := o1.re hQ.bel
                replace hQ := hQ.keep hb1
                have cn1 := hQ.bn.cell
                have cs1 := hQ.bs.cell
                refine wpAnyIn_ready (rs := [6]) (by kernel_rfl) (by simp) ?_
                refine AllReadyIn.cons rfl (fun K hK => ?_) ?_
                · have hK' := hK; clear hK; have hK := hK'; clear hK'
                  go_simp
                  gi_wp2_with (gi_at_call 40; refine (callsIn_wide.2 (up_any s 3 k (by omega) _)).mono ?_; rintro e w2 ⟨A2, c2, rfl, o2⟩)
                  have hb2 := o2.bel
                  replace o2 := o2.re hQ.bel
                  replace hQ := hQ.keep hb2
                  replace o1 := o1.keep hb2
                  have cn2 := hQ.bn.cell
                  have cs2 := hQ.bs.cell
                  refine wpAnyIn_ready (rs := [7]) (by kernel_rfl) (by simp) ?_
                  refine AllReadyIn.cons rfl (fun K hK => ?_) ?_
                  · have hK' := hK; clear hK; have hK := hK'; clear hK'
                    obtain ⟨A3, c3, W3, hrun, o3⟩ := cat_any o1 o2.es (by omega) (by omega)
                    obtain ⟨fn, tmps, assign, body, hy, hR⟩ := hY _ _ _ _ _ _ hxs.out hJ (grown_of o3.bel) ⟨A3, _, c3, rfl, o3.len, o3.cap, o3.own⟩
                    go_simp
                    rw [hrun]
                    go_simp
                    refine hK _ _ ?_
                    clear hK K
                    refine wpAnyIn_ready (rs := [8]) (by kernel_rfl) (by simp) ?_
                    refine AllReadyIn.cons rfl (fun K hK => ?_) ?_
                    · have hK' := hK; clear hK; have hK := hK'; clear hK'
                      go_simp
                      refine hR.mono ?_
                      rintro e W9 hp9
                      obtain ⟨b9, rfl, hb9⟩ := yld hp9
                      refine hK _ _ ?_
                      clear hK K hp9
                      refine wpAnyIn_done (by kernel_rfl) ?_ _
                      replace hb9 := Lib.hid hb9
                      clear cn cs cn1 cs1 cn2 cs2 hy hR hrun
                      cases b9
                      · gi_wp2
                        go_end0
                        exact ⟨⟨_, rfl⟩, .inr ⟨_, _, _, hxs.out, hb9.out.2 (by trivial)⟩⟩
                      · gi_wp2
                        go_end0
                        exact ⟨⟨_, rfl⟩, .inl (by rw [hxs.out]; exact (hb9.out.1 (by trivial)).1)⟩
                    exact AllReadyIn.nil
                  exact AllReadyIn.nil
                exact AllReadyIn.nil
              exact AllReadyIn.nil
            exact AllReadyIn.nil
          exact AllReadyIn.nil
        refine AllReadyIn.cons rfl (fun K hK => ?_) ?_
        · have hK' := hK; clear hK; have hK := hK'; clear hK'
          go_simp
          refine hK _ _ ?_
          clear hK K
          refine wpAnyIn_ready (rs := [2, 5]) (by kernel_rfl) (by simp) ?_
          refine AllReadyIn.cons rfl (fun K hK => ?_) ?_
          · have hK' := hK; clear hK; have hK := hK'; clear hK'
            go_simp
            refine hK _ _ ?_
            clear hK K
            refine wpAnyIn_ready (rs := [3, 5]) (by kernel_rfl) (by simp) ?_
            refine AllReadyIn.cons rfl (fun K hK => ?_) ?_
            · have hK' := hK; clear hK; have hK := hK'; clear hK'
              go_simp
              gi_wp2_with (gi_at_call 40; refine (callsIn_wide.2 (up_any s 1 k (by omega) _)).mono ?_; rintro e w1 ⟨A1, c1, rfl, o1⟩)
              have hb1 := o1.bel
              replace o1 := o1.re hQ.bel
              replace hQ := hQ.keep hb1
              have cn1 := hQ.bn.cell
              have cs1 := hQ.bs.cell
              refine wpAnyIn_ready (rs := [5]) (by kernel_rfl) (by simp) ?_
              refine AllReadyIn.cons rfl (fun K hK => ?_) ?_
              · have hK' := hK; clear hK; have hK := hK'; clear hK'
                go_simp
                refine hK _ _ ?_
                clear hK K
                refine wpAnyIn_ready (rs := [6]) (by kernel_rfl) (by simp) ?_
                refine AllReadyIn.cons rfl (fun K hK => ?_) ?_
                · have hK' := hK; clear hK; have hK := hK'; clear hK'
                  go_simp
                  gi_wp2_with (gi_at_call 40; refine (callsIn_wide.2 (up_any s 3 k (by omega) _)).mono ?_; rintro e w2 ⟨A2, c2, rfl, o2⟩)
                  have hb2 := o2.bel
                  replace o2 := o2.re hQ.bel
                  replace hQ := hQ.keep hb2
                  replace o1 := o1.keep hb2
                  have cn2 := hQ.bn.cell
                  have cs2 := hQ.bs.cell
                  refine wpAnyIn_ready (rs := [7]) (by kernel_rfl) (by simp) ?_
                  refine AllReadyIn.cons rfl (fun K hK => ?_) ?_
                  · have hK' := hK; clear hK; have hK := hK'; clear hK'
                    obtain ⟨A3, c3, W3, hrun, o3⟩ := cat_any o1 o2.es (by omega) (by omega)
                    obtain ⟨fn, tmps, assign, body, hy, hR⟩ := hY _ _ _ _ _ _ hxs.out hJ (grown_of o3.bel) ⟨A3, _, c3, rfl, o3.len, o3.cap, o3.own⟩
                    go_simp
                    rw [hrun]
                    go_simp
                    refine hK _ _ ?_
                    clear hK K
                    refine wpAnyIn_ready (rs := [8]) (by kernel_rfl) (by simp) ?_
                    refine AllReadyIn.cons rfl (fun K hK => ?_) ?_
                    · have hK' := hK; clear hK; have hK := hK'; clear hK'
                      go_simp
                      refine hR.mono ?_
                      rintro e W9 hp9
                      obtain ⟨b9, rfl, hb9⟩ := yld hp9
                      refine hK _ _ ?_
                      clear hK K hp9
                      refine wpAnyIn_done (by kernel_rfl) ?_ _
                      replace hb9 := Lib.hid hb9
                      clear cn cs cn1 cs1 cn2 cs2 hy hR hrun
                      cases b9
                      · gi_wp2
                        go_end0
                        exact ⟨⟨_, rfl⟩, .inr ⟨_, _, _, hxs.out, hb9.out.2 (by trivial)⟩⟩
                      · gi_wp2
                        go_end0
                        exact ⟨⟨_, rfl⟩, .inl (by rw [hxs.out]; exact (hb9.out.1 (by trivial)).1)⟩
                    exact AllReadyIn.nil
                  exact AllReadyIn.nil
                exact AllReadyIn.nil
              exact AllReadyIn.nil
            refine AllReadyIn.cons rfl (fun K hK => ?_) ?_
            · have hK' := hK; clear hK; have hK := hK'; clear hK'
              go_simp
              refine hK _ _ ?_
              clear hK K
              refine wpAnyIn_ready (rs := [3]) (by kernel_rfl) (by simp) ?_
              refine AllReadyIn.cons rfl (fun K hK => ?_) ?_
              · have hK' := hK; clear hK; have hK := hK'; clear hK'
                go_simp
                gi_wp2_with (gi_at_call 40; refine (callsIn_wide.2 (up_any s 1 k (by omega) _)).mono ?_; rintro e w1 ⟨A1, c1, rfl, o1⟩)
                have hb1 := o1.bel
                replace o1 := o1.re hQ.bel
                replace hQ := hQ.keep hb1
                have cn1 := hQ.bn.cell
                have cs1 := hQ.bs.cell
                refine wpAnyIn_ready (rs := [6]) (by kernel_rfl) (by simp) ?_
                refine AllReadyIn.cons rfl (fun K hK => ?_) ?_
                · have hK' := hK; clear hK; have hK := hK'; clear hK'
                  go_simp
                  gi_wp2_with (gi_at_call 40; refine (callsIn_wide.2 (up_any s 3 k (by omega) _)).mono ?_; rintro e w2 ⟨A2, c2, rfl, o2⟩)
                  have hb2 := o2.bel
                  replace o2 := o2.re hQ.bel
                  replace hQ := hQ.keep hb2
                  replace o1 := o1.keep hb2
                  have cn2 := hQ.bn.cell
                  have cs2 := hQ.bs.cell
                  refine wpAnyIn_ready (rs := [7]) (by kernel_rfl) (by simp) ?_
                  refine AllReadyIn.cons rfl (fun K hK => ?_) ?_
                  · have hK' := hK; clear hK; have hK := hK'; clear hK'
                    obtain ⟨A3, c3, W3, hrun, o3⟩ := cat_any o1 o2.es (by omega) (by omega)
                    obtain ⟨fn, tmps, assign, body, hy, hR⟩ := hY _ _ _ _ _ _ hxs.out hJ (grown_of o3.bel) ⟨A3, _, c3, rfl, o3.len, o3.cap, o3.own⟩
                    go_simp
                    rw [hrun]
                    go_simp
                    refine hK _ _ ?_
                    clear hK K
                    refine wpAnyIn_ready (rs := [8]) (by kernel_rfl) (by simp) ?_
                    refine AllReadyIn.cons rfl (fun K hK => ?_) ?_
                    · have hK' := hK; clear hK; have hK := hK'; clear hK'
                      go_simp
                      refine hR.mono ?_
                      rintro e W9 hp9
                      obtain ⟨b9, rfl, hb9⟩ := yld hp9
                      refine hK _ _ ?_
                      clear hK K hp9
                      refine wpAnyIn_done (by kernel_rfl) ?_ _
                      replace hb9 := Lib.hid hb9
                      clear cn cs cn1 cs1 cn2 cs2 hy hR hrun
                      cases b9
                      · gi_wp2
                        go_end0
                        exact ⟨⟨_, rfl⟩, .inr ⟨_, _, _, hxs.out, hb9.out.2 (by trivial)⟩⟩
                      · gi_wp2
                        go_end0
                        exact ⟨⟨_, rfl⟩, .inl (by rw [hxs.out]; exact (hb9.out.1 (by trivial)).1)⟩
                    exact AllReadyIn.nil
                  exact AllReadyIn.nil
                exact AllReadyIn.nil
              exact AllReadyIn.nil
            exact AllReadyIn.nil
          refine AllReadyIn.cons rfl (fun K hK => ?_) ?_
          · have hK' := hK; clear hK; have hK := hK'; clear hK'
            go_simp
            refine hK _ _ ?_
            clear hK K
            refine wpAnyIn_ready (rs := [2]) (by kernel_rfl) (by simp) ?_
            refine AllReadyIn.cons rfl (fun K hK => ?_) ?_
            · have hK' := hK; clear hK; have hK := hK'; clear hK'
              go_simp
              refine hK _ _ ?_
              clear hK K
              refine wpAnyIn_ready (rs := [3]) (by kernel_rfl) (by simp) ?_
              refine AllReadyIn.cons rfl (fun K hK => ?_) ?_
              · have hK' := hK; clear hK; have hK := hK'; clear hK'
                go_simp
                gi_wp2_with (gi_at_call 40; refine (callsIn_wide.2 (up_any s 1 k (by omega) _)).mono ?_; rintro e w1 ⟨A1, c1, rfl, o1⟩)
                have hb1 := o1.bel
                replace o1 := o1.re hQ.bel
                replace hQ := hQ.keep hb1
                have cn1 := hQ.bn.cell
                have cs1 := hQ.bs.cell
                refine wpAnyIn_ready (rs := [6]) (by kernel_rfl) (by simp) ?_
                refine AllReadyIn.cons rfl (fun K hK => ?_) ?_
                · have hK' := hK; clear hK; have hK := hK'; clear hK'
                  go_simp
                  gi_wp2_with (gi_at_call 40; refine (callsIn_wide.2 (up_any s 3 k (by omega) _)).mono ?_; rintro e w2 ⟨A2, c2, rfl, o2⟩)
                  have hb2 := o2.bel
                  replace o2 := o2.re hQ.bel
                  replace hQ := hQ.keep hb2
                  replace o1 := o1.keep hb2
                  have cn2 := hQ.bn.cell
                  have cs2 := hQ.bs.cell
                  refine wpAnyIn_ready (rs := [7]) (by kernel_rfl) (by simp) ?_
                  refine AllReadyIn.cons rfl (fun K hK => ?_) ?_
                  · have hK' := hK; clear hK; have hK := hK'; clear hK'
                    obtain ⟨A3, c3, W3, hrun, o3⟩ := cat_any o1 o2.es (by omega) (by omega)
                    obtain ⟨fn, tmps, assign, body, hy, hR⟩ := hY _ _ _ _ _ _ hxs.out hJ (grown_of o3.bel) ⟨A3, _, c3, rfl, o3.len, o3.cap, o3.own⟩
                    go_simp
                    rw [hrun]
                    go_simp
                    refine hK _ _ ?_
                    clear hK K
                    refine wpAnyIn_ready (rs := [8]) (by kernel_rfl) (by simp) ?_
                    refine AllReadyIn.cons rfl (fun K hK => ?_) ?_
                    · have hK' := hK; clear hK; have hK := hK'; clear hK'
                      go_simp
                      refine hR.mono ?_
                      rintro e W9 hp9
                      obtain ⟨b9, rfl, hb9⟩ := yld hp9
                      refine hK _ _ ?_
                      clear hK K hp9
                      refine wpAnyIn_done (by kernel_rfl) ?_ _
                      replace hb9 := Lib.hid hb9
                      clear cn cs cn1 cs1 cn2 cs2 hy hR hrun
                      cases b9
                      · gi_wp2
                        go_end0
                        exact ⟨⟨_, rfl⟩, .inr ⟨_, _, _, hxs.out, hb9.out.2 (by trivial)⟩⟩
                      · gi_wp2
                        go_end0
                        exact ⟨⟨_, rfl⟩, .inl (by rw [hxs.out]; exact (hb9.out.1 (by trivial)).1)⟩
                    exact AllReadyIn.nil
                  exact AllReadyIn.nil
                exact AllReadyIn.nil
              exact AllReadyIn.nil
            exact AllReadyIn.nil
          exact AllReadyIn.nil
        refine AllReadyIn.cons rfl (fun K hK => ?_) ?_
        · have hK' := hK; clear hK; have hK := hK'; clear hK'
          go_simp
          refine hK _ _ ?_
          clear hK K
          refine wpAnyIn_ready (rs := [2, 4]) (by kernel_rfl) (by simp) ?_
          refine AllReadyIn.cons rfl (fun K hK => ?_) ?_
          · have hK' := hK; clear hK; have hK := hK'; clear hK'
            go_simp
            refine hK _ _ ?_
            clear hK K
            refine wpAnyIn_ready (rs := [3, 4]) (by kernel_rfl) (by simp) ?_
            refine AllReadyIn.cons rfl (fun K hK => ?_) ?_
            · have hK' := hK; clear hK; have hK := hK'; clear hK'
              go_simp
              gi_wp2_with (gi_at_call 40; refine (callsIn_wide.2 (up_any s 1 k (by omega) _)).mono ?_; rintro e w1 ⟨A1, c1, rfl, o1⟩)
              have hb1 := o1.bel
              replace o1 := o1.re hQ.bel
              replace hQ := hQ.keep hb1
              have cn1 := hQ.bn.cell
              have cs1 := hQ.bs.cell
              refine wpAnyIn_ready (rs := [4]) (by kernel_rfl) (by simp) ?_
              refine AllReadyIn.cons rfl (fun K hK => ?_) ?_
              · have hK' := hK; clear hK; have hK := hK'; clear hK'
                go_simp
                refine hK _ _ ?_
                clear hK K
                refine wpAnyIn_ready (rs := [6]) (by kernel_rfl) (by simp) ?_
                refine AllReadyIn.cons rfl (fun K hK => ?_) ?_
                · have hK' := hK; clear hK; have hK := hK'; clear hK'
                  go_simp
                  gi_wp2_with (gi_at_call 40; refine (callsIn_wide.2 (up_any s 3 k (by omega) _)).mono ?_; rintro e w2 ⟨A2, c2, rfl, o2⟩)
                  have hb2 := o2.bel
                  replace o2 := o2.re hQ.bel
                  replace hQ := hQ.keep hb2
                  replace o1 := o1.keep hb2
                  have cn2 := hQ.bn.cell
                  have cs2 := hQ.bs.cell
                  refine wpAnyIn_ready (rs := [7]) (by kernel_rfl) (by simp) ?_
                  refine AllReadyIn.cons rfl (fun K hK => ?_) ?_
                  · have hK' := hK; clear hK; have hK := hK'; clear hK'
                    obtain ⟨A3, c3, W3, hrun, o3⟩ := cat_any o1 o2.es (by omega) (by omega)
                    obtain ⟨fn, tmps, assign, body, hy, hR⟩ := hY _ _ _ _ _ _ hxs.out hJ (grown_of o3.bel) ⟨A3, _, c3, rfl, o3.len, o3.cap, o3.own⟩
                    go_simp
                    rw [hrun]
                    go_simp
                    refine hK _ _ ?_
                    clear hK K
                    refine wpAnyIn_ready (rs := [8]) (by kernel_rfl) (by simp) ?_
                    refine AllReadyIn.cons rfl (fun K hK => ?_) ?_
                    · have hK' := hK; clear hK; have hK := hK'; clear hK'
                      go_simp
                      refine hR.mono ?_
                      rintro e W9 hp9
                      obtain ⟨b9, rfl, hb9⟩ := yld hp9
                      refine hK _ _ ?_
                      clear hK K hp9
                      refine wpAnyIn_done (by kernel_rfl) ?_ _
                      replace hb9 := Lib.hid hb9
                      clear cn cs cn1 cs1 cn2 cs2 hy hR hrun
                      cases b9
                      · gi_wp2
                        go_end0
                        exact ⟨⟨_, rfl⟩, .inr ⟨_, _, _, hxs.out, hb9.out.2 (by trivial)⟩⟩
                      · gi_wp2
                        go_end0
                        exact ⟨⟨_, rfl⟩, .inl (by rw [hxs.out]; exact (hb9.out.1 (by trivial)).1)⟩
                    exact AllReadyIn.nil
                  exact AllReadyIn.nil
                exact AllReadyIn.nil
              exact AllReadyIn.nil
            refine AllReadyIn.cons rfl (fun K hK => ?_) ?_
            · have hK' := hK; clear hK; have hK := hK'; clear hK'
              go_simp
              refine hK _ _ ?_
              clear hK K
              refine wpAnyIn_ready (rs := [3]) (by kernel_rfl) (by simp) ?_
              refine AllReadyIn.cons rfl (fun K hK => ?_) ?_
              · have hK' := hK; clear hK; have hK := hK'; clear hK'
                go_simp
                gi_wp2_with (gi_at_call 40; refine (callsIn_wide.2 (up_any s 1 k (by omega) _)).mono ?_; rintro e w1 ⟨A1, c1, rfl, o1⟩)
                have hb1 := o1.bel
                replace o1 := o1.re hQ.bel
                replace hQ := hQ.keep hb1
                have cn1 := hQ.bn.cell
                have cs1 := hQ.bs.cell
                refine wpAnyIn_ready (rs := [6]) (by kernel_rfl) (by simp) ?_
                refine AllReadyIn.cons rfl (fun K hK => ?_) ?_
                · have hK' := hK; clear hK; have hK := hK'; clear hK'
                  go_simp
                  gi_wp2_with (gi_at_call 40; refine (callsIn_wide.2 (up_any s 3 k (by omega) _)).mono ?_; rintro e w2 ⟨A2, c2, rfl, o2⟩)
                  have hb2 := o2.bel
                  replace o2 := o2.re hQ.bel
                  replace hQ := hQ.keep hb2
                  replace o1 := o1.keep hb2
                  have cn2 := hQ.bn.cell
                  have cs2 := hQ.bs.cell
                  refine wpAnyIn_ready (rs := [7]) (by kernel_rfl) (by simp) ?_
                  refine AllReadyIn.cons rfl (fun K hK => ?_) ?_
                  · have hK' := hK; clear hK; have hK := hK'; clear hK'
                    obtain ⟨A3, c3, W3, hrun, o3⟩ := cat_any o1 o2.es (by omega) (by omega)
                    obtain ⟨fn, tmps, assign, body, hy, hR⟩ := hY _ _ _ _ _ _ hxs.out hJ (grown_of o3.bel) ⟨A3, _, c3, rfl, o3.len, o3.cap, o3.own⟩
                    go_simp
                    rw [hrun]
                    go_simp
                    refine hK _ _ ?_
                    clear hK K
                    refine wpAnyIn_ready (rs := [8]) (by kernel_rfl) (by simp) ?_
                    refine AllReadyIn.cons rfl (fun K hK => ?_) ?_
                    · have hK' := hK; clear hK; have hK := hK'; clear hK'
                      go_simp
                      refine hR.mono ?_
                      rintro e W9 hp9
                      obtain ⟨b9, rfl, hb9⟩ := yld hp9
                      refine hK _ _ ?_
                      clear hK K hp9
                      refine wpAnyIn_done (by kernel_rfl) ?_ _
                      replace hb9 := Lib.hid hb9
                      clear cn cs cn1 cs1 cn2 cs2 hy hR hrun
                      cases b9
                      · gi_wp2
                        go_end0
                        exact ⟨⟨_, rfl⟩, .inr ⟨_, _, _, hxs.out, hb9.out.2 (by trivial)⟩⟩
                      · gi_wp2
                        go_end0
                        exact ⟨⟨_, rfl⟩, .inl (by rw [hxs.out]; exact (hb9.out.1 (by trivial)).1)⟩
                    exact AllReadyIn.nil
                  exact AllReadyIn.nil
                exact AllReadyIn.nil
              exact AllReadyIn.nil
            exact AllReadyIn.nil
          refine AllReadyIn.cons rfl (fun K hK => ?_) ?_
          · have hK' := hK; clear hK; have hK := hK'; clear hK'
            go_simp
            refine hK _ _ ?_
            clear hK K
            refine wpAnyIn_ready (rs := [2]) (by kernel_rfl) (by simp) ?_
            refine AllReadyIn.cons rfl (fun K hK => ?_) ?_
            · have hK' := hK; clear hK; have hK := hK'; clear hK'
              go_simp
              refine hK _ _ ?_
              clear hK K
              refine wpAnyIn_ready (rs := [3]) (by kernel_rfl) (by simp) ?_
              refine AllReadyIn.cons rfl (fun K hK => ?_) ?_
              · have hK' := hK; clear hK; have hK := hK'; clear hK'
                go_simp
                gi_wp2_with (gi_at_call 40; refine (callsIn_wide.2 (up_any s 1 k (by omega) _)).mono ?_; rintro e w1 ⟨A1, c1, rfl, o1⟩)
                have hb1 := o1.bel
                replace o1 := o1.re hQ.bel
                replace hQ := hQ.keep hb1
                have cn1 := hQ.bn.cell
                have cs1 := hQ.bs.cell
                refine wpAnyIn_ready (rs := [6]) (by kernel_rfl) (by simp) ?_
                refine AllReadyIn.cons rfl (fun K hK => ?_) ?_
                · have hK' := hK; clear hK; have hK := hK'; clear hK'
                  go_simp
                  gi_wp2_with (gi_at_call 40; refine (callsIn_wide.2 (up_any s 3 k (by omega) _)).mono ?_; rintro e w2 ⟨A2, c2, rfl, o2⟩)
                  have hb2 := o2.bel
                  replace o2 := o2.re hQ.bel
                  replace hQ := hQ.keep hb2
                  replace o1 := o1.keep hb2
                  have cn2 := hQ.bn.cell
                  have cs2 := hQ.bs.cell
                  refine wpAnyIn_ready (rs := [7]) (by kernel_rfl) (by simp) ?_
                  refine AllReadyIn.cons rfl (fun K hK => ?_) ?_
                  · have hK' := hK; clear hK; have hK := hK'; clear hK'
                    obtain ⟨A3, c3, W3, hrun, o3⟩ := cat_any o1 o2.es (by omega) (by omega)
                    obtain ⟨fn, tmps, assign, body, hy, hR⟩ := hY _ _ _ _ _ _ hxs.out hJ (grown_of o3.bel) ⟨A3, _, c3, rfl, o3.len, o3.cap, o3.own⟩
                    go_simp
                    rw [hrun]
                    go_simp
                    refine hK _ _ ?_
                    clear hK K
                    refine wpAnyIn_ready (rs := [8]) (by kernel_rfl) (by simp) ?_
                    refine AllReadyIn.cons rfl (fun K hK => ?_) ?_
                    · have hK' := hK; clear hK; have hK := hK'; clear hK'
                      go_simp
                      refine hR.mono ?_
                      rintro e W9 hp9
                      obtain ⟨b9, rfl, hb9⟩ := yld hp9
                      refine hK _ _ ?_
                      clear hK K hp9
                      refine wpAnyIn_done (by kernel_rfl) ?_ _
                      replace hb9 := Lib.hid hb9
                      clear cn cs cn1 cs1 cn2 cs2 hy hR hrun
                      cases b9
                      · gi_wp2
                        go_end0
                        exact ⟨⟨_, rfl⟩, .inr ⟨_, _, _, hxs.out, hb9.out.2 (by trivial)⟩⟩
                      · gi_wp2
                        go_end0
                        exact ⟨⟨_, rfl⟩, .inl (by rw [hxs.out]; exact (hb9.out.1 (by trivial)).1)⟩
                    exact AllReadyIn.nil
                  exact AllReadyIn.nil
                exact AllReadyIn.nil
              exact AllReadyIn.nil
            exact AllReadyIn.nil
          exact AllReadyIn.nil
        exact AllReadyIn.nil
      refine AllReadyIn.cons rfl (fun K hK => ?_) ?_
      · have hK' := hK; clear hK; have hK := hK'; clear hK'
        go_simp
        refine hK _ _ ?_
        clear hK K
        refine wpAnyIn_ready (rs := [1, 4, 5]) (by kernel_rfl) (by simp) ?_
        refine AllReadyIn.cons rfl (fun K hK => ?_) ?_
        · have hK' := hK; clear hK; have hK := hK'; clear hK'
          go_simp
          refine hK _ _ ?_
          clear hK K
          refine wpAnyIn_ready (rs := [3, 4, 5]) (by kernel_rfl) (by simp) ?_
          refine AllReadyIn.cons rfl (fun K hK => ?_) ?_
          · have hK' := hK; clear hK; have hK := hK'; clear hK'
            go_simp
            gi_wp2_with (gi_at_call 40; refine (callsIn_wide.2 (up_any s 1 k (by omega) _)).mono ?_; rintro e w1 ⟨A1, c1, rfl, o1⟩)
            have hb1 := o1.bel
            replace o1 := o1.re hQ.bel
            replace hQ := hQ.keep hb1
            have cn1 := hQ.bn.cell
            have cs1 := hQ.bs.cell
            refine wpAnyIn_ready (rs := [4, 5]) (by kernel_rfl) (by simp) ?_
            refine AllReadyIn.cons rfl (fun K hK => ?_) ?_
            · have hK' := hK; clear hK; have hK := hK'; clear hK'
              go_simp
              refine hK _ _ ?_
              clear hK K
              refine wpAnyIn_ready (rs := [5]) (by kernel_rfl) (by simp) ?_
              refine AllReadyIn.cons rfl (fun K hK => ?_) ?_
              · have hK' := hK; clear hK; have hK := hK'; clear hK'
                go_simp
                refine hK _ _ ?_
                clear hK K
                refine wpAnyIn_ready (rs := [6]) (by kernel_rfl) (by simp) ?_
                refine AllReadyIn.cons rfl (fun K hK => ?_) ?_
                · have hK' := hK; clear hK; have hK := hK'; clear hK'
                  go_simp
                  gi_wp2_with (gi_at_call 40; refine (callsIn_wide.2 (up_any s 3 k (by omega) _)).mono ?_; rintro e w2 ⟨A2, c2, rfl, o2⟩)
                  have hb2 := o2.bel
                  replace o2 := o2.re hQ.bel
                  replace hQ := hQ.keep hb2
                  replace o1 := o1.keep hb2
                  have cn2 := hQ.bn.cell
                  have cs2 := hQ.bs.cell
                  refine wpAnyIn_ready (rs := [7]) (by kernel_rfl) (by simp) ?_
                  refine AllReadyIn.cons rfl (fun K hK => ?_) ?_
                  · have hK' := hK; clear hK; have hK := hK'; clear hK'
                    obtain ⟨A3, c3, W3, hrun, o3⟩ := cat_any o1 o2.es (by omega) (by omega)
                    obtain ⟨fn, tmps, assign, body, hy, hR⟩ := hY _ _ _ _ _ _ hxs.out hJ (grown_of o3.bel) ⟨A3, _, c3, rfl, o3.len, o3.cap, o3.own⟩
                    go_simp
                    rw [hrun]
                    go_simp
                    refine hK _ _ ?_
                    clear hK K
                    refine wpAnyIn_ready (rs := [8]) (by kernel_rfl) (by simp) ?_
                    refine AllReadyIn.cons rfl (fun K hK => ?_) ?_
                    · have hK' := hK; clear hK; have hK := hK'; clear hK'
                      go_simp
                      refine hR.mono ?_
                      rintro e W9 hp9
                      obtain ⟨b9, rfl, hb9⟩ := yld hp9
                      refine hK _ _ ?_
                      clear hK K hp9
                      refine wpAnyIn_done (by kernel_rfl) ?_ _
                      replace hb9 := Lib.hid hb9
                      clear cn cs cn1 cs1 cn2 cs2 hy hR hrun
                      cases b9
                      · gi_wp2
                        go_end0
                        exact ⟨⟨_, rfl⟩, .inr ⟨_, _, _, hxs.out, hb9.out.2 (by trivial)⟩⟩
                      · gi_wp2
                        go_end0
                        exact ⟨⟨_, rfl⟩, .inl (by rw [hxs.out]; exact (hb9.out.1 (by trivial)).1)⟩
                    exact AllReadyIn.nil
                  exact AllReadyIn.nil
                exact AllReadyIn.nil
              exact AllReadyIn.nil
            refine AllReadyIn.cons rfl (fun K hK => ?_) ?_
            · have hK' := hK; clear hK; have hK := hK'; clear hK'
              go_simp
              refine hK _ _ ?_
              clear hK K
              refine wpAnyIn_ready (rs := [4]) (by kernel_rfl) (by simp) ?_
              refine AllReadyIn.cons rfl (fun K hK => ?_) ?_
              · have hK' := hK; clear hK; have hK := hK'; clear hK'
                go_simp
                refine hK _ _ ?_
                clear hK K
                refine wpAnyIn_ready (rs := [6]) (by kernel_rfl) (by simp) ?_
                refine AllReadyIn.cons rfl (fun K hK => ?_) ?_
                · have hK' := hK; clear hK; have hK := hK'; clear hK'
                  go_simp
                  gi_wp2_with (gi_at_call 40; refine (callsIn_wide.2 (up_any s 3 k (by omega) _)).mono ?_; rintro e w2 ⟨A2, c2, rfl, o2⟩)
                  have hb2 := o2.bel
                  replace o2 := o2.re hQ.bel
                  replace hQ := hQ.keep hb2
                  replace o1 := o1.keep hb2
                  have cn2 := hQ.bn.cell
                  have cs2 := hQ.bs.cell
                  refine wpAnyIn_ready (rs := [7]) (by kernel_rfl) (by simp) ?_
                  refine AllReadyIn.cons rfl (fun K hK => ?_) ?_
                  · have hK' := hK; clear hK; have hK := hK'; clear hK'
                    obtain ⟨A3, c3, W3, hrun, o3⟩ := cat_any o1 o2.es (by omega) (by omega)
                    obtain ⟨fn, tmps, assign, body, hy, hR⟩ := hY _ _ _ _ _ _ hxs.out hJ (grown_of o3.bel) ⟨A3, _, c3, rfl, o3.len, o3.cap, o3.own⟩
                    go_simp
                    rw [hrun]
                    go_simp
                    refine hK _ _ ?_
                    clear hK K
                    refine wpAnyIn_ready (rs := [8]) (by kernel_rfl) (by simp) ?_
                    refine AllReadyIn.cons rfl (fun K hK => ?_) ?_
                    · have hK' := hK; clear hK; have hK := hK'; clear hK'
                      go_simp
                      refine hR.mono ?_
                      rintro e W9 hp9
                      obtain ⟨b9, rfl, hb9⟩ := yld hp9
                      refine hK _ _ ?_
                      clear hK K hp9
                      refine wpAnyIn_done (by kernel_rfl) ?_ _
                      replace hb9 := Lib.hid hb9
                      clear cn cs cn1 cs1 cn2 cs2 hy hR hrun
                      cases b9
                      · gi_wp2
                        go_end0
                        exact ⟨⟨_, rfl⟩, .inr ⟨_, _, _, hxs.out, hb9.out.2 (by trivial)⟩⟩
                      · gi_wp2
                        go_end0
                        exact ⟨⟨_, rfl⟩, .inl (by rw [hxs.out]; exact (hb9.out.1 (by trivial)).1)⟩
                    exact AllReadyIn.nil
                  exact AllReadyIn.nil
                exact AllReadyIn.nil
              exact AllReadyIn.nil
            exact AllReadyIn.nil
          refine AllReadyIn.cons rfl (fun K hK => ?_) ?_
          · have hK' := hK; clear hK; have hK := hK'; clear hK'
            go_simp
            refine hK _ _ ?_
            clear hK K
            refine wpAnyIn_ready (rs := [3, 5]) (by kernel_rfl) (by simp) ?_
            refine AllReadyIn.cons rfl (fun K hK => ?_) ?_
            · have hK' := hK; clear hK; have hK := hK'; clear hK'
              go_simp
              gi_wp2_with (gi_at_call 40; refine (callsIn_wide.2 (up_any s 1 k (by omega) _)).mono ?_; rintro e w1 ⟨A1, c1, rfl, o1⟩)
              have hb1 := o1.bel
              replace o1 := o1.re hQ.bel
              replace hQ := hQ.keep hb1
              have cn1 := hQ.bn.cell
              have cs1 := hQ.bs.cell
              refine wpAnyIn_ready (rs := [5]) (by kernel_rfl) (by simp) ?_
              refine AllReadyIn.cons rfl (fun K hK => ?_) ?_
              · have hK' := hK; clear hK; have hK := hK'; clear hK'
                go_simp
                refine hK _ _ ?_
                clear hK K
                refine wpAnyIn_ready (rs := [6]) (by kernel_rfl) (by simp) ?_
                refine AllReadyIn.cons rfl (fun K hK => ?_) ?_
                · have hK' := hK; clear hK; have hK := hK'; clear hK'
                  go_simp
                  gi_wp2_with (gi_at_call 40; refine (callsIn_wide.2 (up_any s 3 k (by omega) _)).mono ?_; rintro e w2 ⟨A2, c2, rfl, o2⟩)
                  have hb2 := o2.bel
                  replace o2 := o2.re hQ.bel
                  replace hQ := hQ.keep hb2
                  replace o1 := o1.keep hb2
                  have cn2 := hQ.bn.cell
                  have cs2 := hQ.bs.cell
                  refine wpAnyIn_ready (rs := [7]) (by kernel_rfl) (by simp) ?_
                  refine AllReadyIn.cons rfl (fun K hK => ?_) ?_
                  · have hK' := hK; clear hK; have hK := hK'; clear hK'
                    obtain ⟨A3, c3, W3, hrun, o3⟩ := cat_any o1 o2.es (by omega) (by omega)
                    obtain ⟨fn, tmps, assign, body, hy, hR⟩ := hY _ _ _ _ _ _ hxs.out hJ (grown_of o3.bel) ⟨A3, _, c3, rfl, o3.len, o3.cap, o3.own⟩
                    go_simp
                    rw [hrun]
                    go_simp
                    refine hK _ _ ?_
                    clear hK K
                    refine wpAnyIn_ready (rs := [8]) (by kernel_rfl) (by simp) ?_
                    refine AllReadyIn.cons rfl (fun K hK => ?_) ?_
                    · have hK' := hK; clear hK; have hK := hK'; clear hK'
                      go_simp
                      refine hR.mono ?_
                      rintro e W9 hp9
                      obtain ⟨b9, rfl, hb9⟩ := yld hp9
                      refine hK _ _ ?_
                      clear hK K hp9
                      refine wpAnyIn_done (by kernel_rfl) ?_ _
                      replace hb9 := Lib.hid hb9
                      clear cn cs cn1 cs1 cn2 cs2 hy hR hrun
                      cases b9
                      · gi_wp2
                        go_end0
                        exact ⟨⟨_, rfl⟩, .inr ⟨_, _, _, hxs.out, hb9.out.2 (by trivial)⟩⟩
                      · gi_wp2
                        go_end0
                        exact ⟨⟨_, rfl⟩, .inl (by rw [hxs.out]; exact (hb9.out.1 (by trivial)).1)⟩
                    exact AllReadyIn.nil
                  exact AllReadyIn.nil
                exact AllReadyIn.nil
              exact AllReadyIn.nil
            refine AllReadyIn.cons rfl (fun K hK => ?_) ?_
            · have hK' := hK; clear hK; have hK := hK'; clear hK'
              go_simp
              refine hK _ _ ?_
              clear hK K
              refine wpAnyIn_ready (rs := [3]) (by kernel_rfl) (by simp) ?_
              refine AllReadyIn.cons rfl (fun K hK => ?_) ?_
              · have hK' := hK; clear hK; have hK := hK'; clear hK'
                go_simp
                gi_wp2_with (gi_at_call 40; refine (callsIn_wide.2 (up_any s 1 k (by omega) _)).mono ?_; rintro e w1 ⟨A1, c1, rfl, o1⟩)
                have hb1 := o1.bel
                replace o1 := o1.re hQ.bel
                replace hQ := hQ.keep hb1
                have cn1 := hQ.bn.cell
                have cs1 := hQ.bs.cell
                refine wpAnyIn_ready (rs := [6]) (by kernel_rfl) (by simp) ?_
                refine AllReadyIn.cons rfl (fun K hK => ?_) ?_
                · have hK' := hK; clear hK; have hK := hK'; clear hK'
                  go_simp
                  gi_wp2_with (gi_at_call 40; refine (callsIn_wide.2 (up_any s 3 k (by omega) _)).mono ?_; rintro e w2 ⟨A2, c2, rfl, o2⟩)
                  have hb2 := o2.bel
                  replace o2 := o2.re hQ.bel
                  replace hQ := hQ.keep hb2
                  replace o1 := o1.keep hb2
                  have cn2 := hQ.bn.cell
                  have cs2 := hQ.bs.cell
                  refine wpAnyIn_ready (rs := [7]) (by kernel_rfl) (by simp) ?_
                  refine AllReadyIn.cons rfl (fun K hK => ?_) ?_
                  · have hK' := hK; clear hK; have hK := hK'; clear hK'
                    obtain ⟨A3, c3, W3, hrun, o3⟩ := cat_any o1 o2.es (by omega) (by omega)
                    obtain ⟨fn, tmps, assign, body, hy, hR⟩ := hY _ _ _ _ _ _ hxs.out hJ (grown_of o3.bel) ⟨A3, _, c3, rfl, o3.len, o3.cap, o3.own⟩
                    go_simp
                    rw [hrun]
                    go_simp
                    refine hK _ _ ?_
                    clear hK K
                    refine wpAnyIn_ready (rs := [8]) (by kernel_rfl) (by simp) ?_
                    refine AllReadyIn.cons rfl (fun K hK => ?_) ?_
                    · have hK' := hK; clear hK; have hK := hK'; clear hK'
                      go_simp
                      refine hR.mono ?_
                      rintro e W9 hp9
                      obtain ⟨b9, rfl, hb9⟩ := yld hp9
                      refine hK _ _ ?_
                      clear hK K hp9
                      refine wpAnyIn_done (by kernel_rfl) ?_ _
                      replace hb9 := Lib.hid hb9
                      clear cn cs cn1 cs1 cn2 cs2 hy hR hrun
                      cases b9
                      · gi_wp2
                        go_end0
                        exact ⟨⟨_, rfl⟩, .inr ⟨_, _, _, hxs.out, hb9.out.2 (by trivial)⟩⟩
                      · gi_wp2
                        go_end0
                        exact ⟨⟨_, rfl⟩, .inl (by rw [hxs.out]; exact (hb9.out.1 (by trivial)).1)⟩
                    exact AllReadyIn.nil
                  exact AllReadyIn.nil
                exact AllReadyIn.nil
              exact AllReadyIn.nil
            exact AllReadyIn.nil
          refine AllReadyIn.cons rfl (fun K hK => ?_) ?_
          · have hK' := hK; clear hK; have hK := hK'; clear hK'
            go_simp
            refine hK _ _ ?_
            clear hK K
            refine wpAnyIn_ready (rs := [3, 4]) (by kernel_rfl) (by simp) ?_
            refine AllReadyIn.cons rfl (fun K hK => ?_) ?_
            · have hK' := hK; clear hK; have hK := hK'; clear hK'
              go_simp
              gi_wp2_with (gi_at_call 40; refine (callsIn_wide.2 (up_any s 1 k (by omega) _)).mono ?_; rintro e w1 ⟨A1, c1, rfl, o1⟩)
              have hb1 := o1.bel
              replace o1 := o1.re hQ.bel
              replace hQ := hQ.keep hb1
              have cn1 := hQ.bn.cell
              have cs1 := hQ.bs.cell
              refine wpAnyIn_ready (rs := [4]) (by kernel_rfl) (by simp) ?_
              refine AllReadyIn.cons rfl (fun K hK => ?_) ?_
              · have hK' := hK; clear hK; have hK := hK'; clear hK'
                go_simp
                refine hK _ _ ?_
                clear hK K
                refine wpAnyIn_ready (rs := [6]) (by kernel_rfl) (by simp) ?_
                refine AllReadyIn.cons rfl (fun K hK => ?_) ?_
                · have hK' := hK; clear hK; have hK := hK'; clear hK'
                  go_simp
                  gi_wp2_with (gi_at_call 40; refine (callsIn_wide.2 (up_any s 3 k (by omega) _)).mono ?_; rintro e w2 ⟨A2, c2, rfl, o2⟩)
                  have hb2 := o2.bel
                  replace o2 := o2.re hQ.bel
                  replace hQ := hQ.keep hb2
                  replace o1 := o1.keep hb2
                  have cn2 := hQ.bn.cell
                  have cs2 := hQ.bs.cell
                  refine wpAnyIn_ready (rs := [7]) (by kernel_rfl) (by simp) ?_
                  refine AllReadyIn.cons rfl (fun K hK => ?_) ?_
                  · have hK' := hK; clear hK; have hK := hK'; clear hK'
                    obtain ⟨A3, c3, W3, hrun, o3⟩ := cat_any o1 o2.es (by omega) (by omega)
                    obtain ⟨fn, tmps, assign, body, hy, hR⟩ := hY _ _ _ _ _ _ hxs.out hJ (grown_of o3.bel) ⟨A3, _, c3, rfl, o3.len, o3.cap, o3.own⟩
                    go_simp
                    rw [hrun]
                    go_simp
                    refine hK _ _ ?_
                    clear hK K
                    refine wpAnyIn_ready (rs := [8]) (by kernel_rfl) (by simp) ?_
                    refine AllReadyIn.cons rfl (fun K hK => ?_) ?_
                    · have hK' := hK; clear hK; have hK := hK'; clear hK'
                      go_simp
                      refine hR.mono ?_
                      rintro e W9 hp9
                      obtain ⟨b9, rfl, hb9⟩ := yld hp9
                      refine hK _ _ ?_
                      clear hK K hp9
                      refine wpAnyIn_done (by kernel_rfl) ?_ _
                      replace hb9 := Lib.hid hb9
                      clear cn cs cn1 cs1 cn2 cs2 hy hR hrun
                      cases b9
                      · gi_wp2
                        go_end0
                        exact ⟨⟨_, rfl⟩, .inr ⟨_, _, _, hxs.out, hb9.out.2 (by trivial)⟩⟩
                      · gi_wp2
                        go_end0
                        exact ⟨⟨_, rfl⟩, .inl (by rw [hxs.out]; exact (hb9.out.1 (by trivial)).1)⟩
                    exact AllReadyIn.nil
                  exact AllReadyIn.nil
                exact AllReadyIn.nil
              exact AllReadyIn.nil
            refine AllReadyIn.cons rfl (fun K hK => ?_) ?_
            · have hK' := hK; clear hK; have hK := hK'; clear hK'
              go_simp
              refine hK _ _ ?_
              clear hK K
              refine wpAnyIn_ready (rs := [3]) (by kernel_rfl) (by simp) ?_
              refine AllReadyIn.cons rfl (fun K hK => ?_) ?_
              · have hK' := hK; clear hK; have hK := hK'; clear hK'
                go_simp
                gi_wp2_with (gi_at_call 40; refine (callsIn_wide.2 (up_any s 1 k (by omega) _)).mono ?_; rintro e w1 ⟨A1, c1, rfl, o1⟩)
                have hb1 := o1.bel
                replace o1 := o1.re hQ.bel
                replace hQ := hQ.keep hb1
                have cn1 := hQ.bn.cell
                have cs1 := hQ.bs.cell
                refine wpAnyIn_ready (rs := [6]) (by kernel_rfl) (by simp) ?_
                refine AllReadyIn.cons rfl (fun K hK => ?_) ?_
                · have hK' := hK; clear hK; have hK := hK'; clear hK'
                  go_simp
                  gi_wp2_with (gi_at_call 40; refine (callsIn_wide.2 (up_any s 3 k (by omega) _)).mono ?_; rintro e w2 ⟨A2, c2, rfl, o2⟩)
                  have hb2 := o2.bel
                  replace o2 := o2.re hQ.bel
                  replace hQ := hQ.keep hb2
                  replace o1 := o1.keep hb2
                  have cn2 := hQ.bn.cell
                  have cs2 := hQ.bs.cell
                  refine wpAnyIn_ready (rs := [7]) (by kernel_rfl) (by simp) ?_
                  refine AllReadyIn.cons rfl (fun K hK => ?_) ?_
                  · have hK' := hK; clear hK; have hK := hK'; clear hK'
                    obtain ⟨A3, c3, W3, hrun, o3⟩ := cat_any o1 o2.es (by omega) (by omega)
                    obtain ⟨fn, tmps, assign, body, hy, hR⟩ := hY _ _ _ _ _ _ hxs.out hJ (grown_of o3.bel) ⟨A3, _, c3, rfl, o3.len, o3.cap, o3.own⟩
                    go_simp
                    rw [hrun]
                    go_simp
                    refine hK _ _ ?_
                    clear hK K
                    refine wpAnyIn_ready (rs := [8]) (by kernel_rfl) (by simp) ?_
                    refine AllReadyIn.cons rfl (fun K hK => ?_) ?_
                    · have hK' := hK; clear hK; have hK := hK'; clear hK'
                      go_simp
                      refine hR.mono ?_
                      rintro e W9 hp9
                      obtain ⟨b9, rfl, hb9⟩ := yld hp9
                      refine hK _ _ ?_
                      clear hK K hp9
                      refine wpAnyIn_done (by kernel_rfl) ?_ _
                      replace hb9 := Lib.hid hb9
                      clear cn cs cn1 cs1 cn2 cs2 hy hR hrun
                      cases b9
                      · gi_wp2
                        go_end0
                        exact ⟨⟨_, rfl⟩, .inr ⟨_, _, _, hxs.out, hb9.out.2 (by trivial)⟩⟩
                      · gi_wp2
                        go_end0
                        exact ⟨⟨_, rfl⟩, .inl (by rw [hxs.out]; exact (hb9.out.1 (by trivial)).1)⟩
                    exact AllReadyIn.nil
                  exact AllReadyIn.nil
                exact AllReadyIn.nil
              exact AllReadyIn.nil
            exact AllReadyIn.nil
          exact AllReadyIn.nil
        refine AllReadyIn.cons rfl (fun K hK => ?_) ?_
        · have hK' := hK; clear hK; have hK := hK'; clear hK'
          go_simp
          refine hK _ _ ?_
          clear hK K
          refine wpAnyIn_ready (rs := [1, 5]) (by kernel_rfl) (by simp) ?_
          refine AllReadyIn.cons rfl (fun K hK => ?_) ?_
          · have hK' := hK; clear hK; have hK := hK'; clear hK'
            go_simp
            refine hK _ _ ?_
            clear hK K
            refine wpAnyIn_ready (rs := [3, 5]) (by kernel_rfl) (by simp) ?_
            refine AllReadyIn.cons rfl (fun K hK => ?_) ?_
            · have hK' := hK; clear hK; have hK := hK'; clear hK'
              go_simp
              gi_wp2_with (gi_at_call 40; refine (callsIn_wide.2 (up_any s 1 k (by omega) _)).mono ?_; rintro e w1 ⟨A1, c1, rfl, o1⟩)
              have hb1 := o1.bel
              replace o1 := o1.re hQ.bel
              replace hQ := hQ.keep hb1
              have cn1 := hQ.bn.cell
              have cs1 := hQ.bs.cell
              refine wpAnyIn_ready (rs := [5]) (by kernel_rfl) (by simp) ?_
              refine AllReadyIn.cons rfl (fun K hK => ?_) ?_
              · have hK' := hK; clear hK; have hK := hK'; clear hK'
                go_simp
                refine hK _ _ ?_
                clear hK K
                refine wpAnyIn_ready (rs := [6]) (by kernel_rfl) (by simp) ?_
                refine AllReadyIn.cons rfl (fun K hK => ?_) ?_
                · have hK' := hK; clear hK; have hK := hK'; clear hK'
                  go_simp
                  gi_wp2_with (gi_at_call 40; refine (callsIn_wide.2 (up_any s 3 k (by omega) _)).mono ?_; rintro e w2 ⟨A2, c2, rfl, o2⟩)
                  have hb2 := o2.bel
                  replace o2 := o2.re hQ.bel
                  replace hQ := hQ.keep hb2
                  replace o1 := o1.keep hb2
                  have cn2 := hQ.bn.cell
                  have cs2 := hQ.bs.cell
                  refine wpAnyIn_ready (rs := [7]) (by kernel_rfl) (by simp) ?_
                  refine AllReadyIn.cons rfl (fun K hK => ?_) ?_
                  · have hK' := hK; clear hK; have hK := hK'; clear hK'
                    obtain ⟨A3, c3, W3, hrun, o3⟩ := cat_any o1 o2.es (by omega) (by omega)
                    obtain ⟨fn, tmps, assign, body, hy, hR⟩ := hY _ _ _ _ _ _ hxs.out hJ (grown_of o3.bel) ⟨A3, _, c3, rfl, o3.len, o3.cap, o3.own⟩
                    go_simp
                    rw [hrun]
                    go_simp
                    refine hK _ _ ?_
                    clear hK K
                    refine wpAnyIn_ready (rs := [8]) (by kernel_rfl) (by simp) ?_
                    refine AllReadyIn.cons rfl (fun K hK => ?_) ?_
                    · have hK' := hK; clear hK; have hK := hK'; clear hK'
                      go_simp
                      refine hR.mono ?_
                      rintro e W9 hp9
                      obtain ⟨b9, rfl, hb9⟩ := yld hp9
                      refine hK _ _ ?_
                      clear hK K hp9
                      refine wpAnyIn_done (by kernel_rfl) ?_ _
                      replace hb9 := Lib.hid hb9
                      clear cn cs cn1 cs1 cn2 cs2 hy hR hrun
                      cases b9
                      · gi_wp2
                        go_end0
                        exact ⟨⟨_, rfl⟩, .inr ⟨_, _, _, hxs.out, hb9.out.2 (by trivial)⟩⟩
                      · gi_wp2
                        go_end0
                        exact ⟨⟨_, rfl⟩, .inl (by rw [hxs.out]; exact (hb9.out.1 (by trivial)).1)⟩
                    exact AllReadyIn.nil
                  exact AllReadyIn.nil
                exact AllReadyIn.nil
              exact AllReadyIn.nil
            refine AllReadyIn.cons rfl (fun K hK => ?_) ?_
            · have hK' := hK; clear hK; have hK := hK'; clear hK'
              go_simp
              refine hK _ _ ?_
              clear hK K
              refine wpAnyIn_ready (rs := [3]) (by kernel_rfl) (by simp) ?_
              refine AllReadyIn.cons rfl (fun K hK => ?_) ?_
              · have hK' := hK; clear hK; have hK := hK'; clear hK'
                go_simp
                gi_wp2_with (gi_at_call 40; refine (callsIn_wide.2 (up_any s 1 k (by omega) _)).mono ?_; rintro e w1 ⟨A1, c1, rfl, o1⟩)
                have hb1 := o1.bel
                replace o1 := o1.re hQ.bel
                replace hQ := hQ.keep hb1
                have cn1 := hQ.bn.cell
                have cs1 := hQ.bs.cell
                refine wpAnyIn_ready (rs := [6]) (by kernel_rfl) (by simp) ?_
                refine AllReadyIn.cons rfl (fun K hK => ?_) ?_
                · have hK' := hK; clear hK; have hK := hK'; clear hK'
                  go_simp
                  gi_wp2_with (gi_at_call 40; refine (callsIn_wide.2 (up_any s 3 k (by omega) _)).mono ?_; rintro e w2 ⟨A2, c2, rfl, o2⟩)
                  have hb2 := o2.bel
                  replace o2 := o2.re hQ.bel
                  replace hQ := hQ.keep hb2
                  replace o1 := o1.keep hb2
                  have cn2 := hQ.bn.cell
                  have cs2 := hQ.bs.cell
                  refine wpAnyIn_ready (rs := [7]) (by kernel_rfl) (by simp) ?_
                  refine AllReadyIn.cons rfl (fun K hK => ?_) ?_
                  · have hK' := hK; clear hK; have hK := hK'; clear hK'
                    obtain ⟨A3, c3, W3, hrun, o3⟩ := cat_any o1 o2.es (by omega) (by omega)
                    obtain ⟨fn, tmps, assign, body, hy, hR⟩ := hY _ _ _ _ _ _ hxs.out hJ (grown_of o3.bel) ⟨A3, _, c3, rfl, o3.len, o3.cap, o3.own⟩
                    go_simp
                    rw [hrun]
                    go_simp
                    refine hK _ _ ?_
                    clear hK K
                    refine wpAnyIn_ready (rs := [8]) (by kernel_rfl) (by simp) ?_
                    refine AllReadyIn.cons rfl (fun K hK => ?_) ?_
                    · have hK' := hK; clear hK; have hK := hK'; clear hK'
                      go_simp
                      refine hR.mono ?_
                      rintro e W9 hp9
                      obtain ⟨b9, rfl, hb9⟩ := yld hp9
                      refine hK _ _ ?_
                      clear hK K hp9
                      refine wpAnyIn_done (by kernel_rfl) ?_ _
                      replace hb9 := Lib.hid hb9
                      clear cn cs cn1 cs1 cn2 cs2 hy hR hrun
                      cases b9
                      · gi_wp2
                        go_end0
                        exact ⟨⟨_, rfl⟩, .inr ⟨_, _, _, hxs.out, hb9.out.2 (by trivial)⟩⟩
                      · gi_wp2
                        go_end0
                        exact ⟨⟨_, rfl⟩, .inl (by rw [hxs.out]; exact (hb9.out.1 (by trivial)).1)⟩
                    exact AllReadyIn.nil
                  exact AllReadyIn.nil
                exact AllReadyIn.nil
              exact AllReadyIn.nil
            exact AllReadyIn.nil
          refine AllReadyIn.cons rfl (fun K hK => ?_) ?_
          · have hK' := hK; clear hK; have hK := hK'; clear hK'
            go_simp
            refine hK _ _ ?_
            clear hK K
            refine wpAnyIn_ready (rs := [1]) (by kernel_rfl) (by simp) ?_
            refine AllReadyIn.cons rfl (fun K hK => ?_) ?_
            · have hK' := hK; clear hK; have hK := hK'; clear hK'
              go_simp
              refine hK _ _ ?_
              clear hK K
              refine wpAnyIn_ready (rs := [3]) (by kernel_rfl) (by simp) ?_
              refine AllReadyIn.cons rfl (fun K hK => ?_) ?_
              · have hK' := hK; clear hK; have hK := hK'; clear hK'
                go_simp
                gi_wp2_with (gi_at_call 40; refine (callsIn_wide.2 (up_any s 1 k (by omega) _)).mono ?_; rintro e w1 ⟨A1, c1, rfl, o1⟩)
                have hb1 := o1.bel
                replace o1 := o1.re hQ.bel
                replace hQ := hQ.keep hb1
                have cn1 := hQ.bn.cell
                have cs1 := hQ.bs.cell
                refine wpAnyIn_ready (rs := [6]) (by kernel_rfl) (by simp) ?_
                refine AllReadyIn.cons rfl (fun K hK => ?_) ?_
                · have hK' := hK; clear hK; have hK := hK'; clear hK'
                  go_simp
                  gi_wp2_with (gi_at_call 40; refine (callsIn_wide.2 (up_any s 3 k (by omega) _)).mono ?_; rintro e w2 ⟨A2, c2, rfl, o2⟩)
                  have hb2 := o2.bel
                  replace o2 := o2.re hQ.bel
                  replace hQ := hQ.keep hb2
                  replace o1 := o1.keep hb2
                  have cn2 := hQ.bn.cell
                  have cs2 := hQ.bs.cell
                  refine wpAnyIn_ready (rs := [7]) (by kernel_rfl) (by simp) ?_
                  refine AllReadyIn.cons rfl (fun K hK => ?_) ?_
                  · have hK' := hK; clear hK; have hK := hK'; clear hK'
                    obtain ⟨A3, c3, W3, hrun, o3⟩ := cat_any o1 o2.es (by omega) (by omega)
                    obtain ⟨fn, tmps, assign, body, hy, hR⟩ := hY _ _ _ _ _ _ hxs.out hJ (grown_of o3.bel) ⟨A3, _, c3, rfl, o3.len, o3.cap, o3.own⟩
                    go_simp
                    rw [hrun]
                    go_simp
                    refine hK _ _ ?_
                    clear hK K
                    refine wpAnyIn_ready (rs := [8]) (by kernel_rfl) (by simp) ?_
                    refine AllReadyIn.cons rfl (fun K hK => ?_) ?_
                    · have hK' := hK; clear hK; have hK := hK'; clear hK'
                      go_simp
                      refine hR.mono ?_
                      rintro e W9 hp9
                      obtain ⟨b9, rfl, hb9⟩ := yld hp9
                      refine hK _ _ ?_
                      clear hK K hp9
                      refine wpAnyIn_done (by kernel_rfl) ?_ _
                      replace hb9 := Lib.hid hb9
                      clear cn cs cn1 cs1 cn2 cs2 hy hR hrun
                      cases b9
                      · gi_wp2
                        go_end0
                        exact ⟨⟨_, rfl⟩, .inr ⟨_, _, _, hxs.out, hb9.out.2 (by trivial)⟩⟩
                      · gi_wp2
                        go_end0
                        exact ⟨⟨_, rfl⟩, .inl (by rw [hxs.out]; exact (hb9.out.1 (by trivial)).1)⟩
                    exact AllReadyIn.nil
                  exact AllReadyIn.nil
                exact AllReadyIn.nil
              exact AllReadyIn.nil
            exact AllReadyIn.nil
          exact AllReadyIn.nil
        refine AllReadyIn.cons rfl (fun K hK => ?_) ?_
        · have hK' := hK; clear hK; have hK := hK'; clear hK'
          go_simp
          refine hK _ _ ?_
          clear hK K
          refine wpAnyIn_ready (rs := [1, 4]) (by kernel_rfl) (by simp) ?_
          refine AllReadyIn.cons rfl (fun K hK => ?_) ?_
          · have hK' := hK; clear hK; have hK := hK'; clear hK'
            go_simp
            refine hK _ _ ?_
            clear hK K
            refine wpAnyIn_ready (rs := [3, 4]) (by kernel_rfl) (by simp) ?_
            refine AllReadyIn.cons rfl (fun K hK => ?_) ?_
            · have hK' := hK; clear hK; have hK := hK'; clear hK'
              go_simp
              gi_wp2_with (gi_at_call 40; refine (callsIn_wide.2 (up_any s 1 k (by omega) _)).mono ?_; rintro e w1 ⟨A1, c1, rfl, o1⟩)
              have hb1 := o1.bel
              replace o1 := o1.re hQ.bel
              replace hQ := hQ.keep hb1
              have cn1 := hQ.bn.cell
              have cs1 := hQ.bs.cell
              refine wpAnyIn_ready (rs := [4]) (by kernel_rfl) (by simp) ?_
              refine AllReadyIn.cons rfl (fun K hK => ?_) ?_
              · have hK' := hK; clear hK; have hK := hK'; clear hK'
                go_simp
                refine hK _ _ ?_
                clear hK K
                refine wpAnyIn_ready (rs := [6]) (by kernel_rfl) (by simp) ?_
                refine AllReadyIn.cons rfl (fun K hK => ?_) ?_
                · have hK' := hK; clear hK; have hK := hK'; clear hK'
                  go_simp
                  gi_wp2_with (gi_at_call 40; refine (callsIn_wide.2 (up_any s 3 k (by omega) _)).mono ?_; rintro e w2 ⟨A2, c2, rfl, o2⟩)
                  have hb2 := o2.bel
                  replace o2 := o2.re hQ.bel
                  replace hQ := hQ.keep hb2
                  replace o1 := o1.keep hb2
                  have cn2 := hQ.bn.cell
                  have cs2 := hQ.bs.cell
                  refine wpAnyIn_ready (rs := [7]) (by kernel_rfl) (by simp) ?_
                  refine AllReadyIn.cons rfl (fun K hK => ?_) ?_
                  · have hK' := hK; clear hK; have hK := hK'; clear hK'
                    obtain ⟨A3, c3, W3, hrun, o3⟩ := cat_any o1 o2.es (by omega) (by omega)
                    obtain ⟨fn, tmps, assign, body, hy, hR⟩ := hY _ _ _ _ _ _ hxs.out hJ (grown_of o3.bel) ⟨A3, _, c3, rfl, o3.len, o3.cap, o3.own⟩
                    go_simp
                    rw [hrun]
                    go_simp
                    refine hK _ _ ?_
                    clear hK K
                    refine wpAnyIn_ready (rs := [8]) (by kernel_rfl) (by simp) ?_
                    refine AllReadyIn.cons rfl (fun K hK => ?_) ?_
                    · have hK' := hK; clear hK; have hK := hK'; clear hK'
                      go_simp
                      refine hR.mono ?_
                      rintro e W9 hp9
                      obtain ⟨b9, rfl, hb9⟩ := yld hp9
                      refine hK _ _ ?_
                      clear hK K hp9
                      refine wpAnyIn_done (by kernel_rfl) ?_ _
                      replace hb9 := Lib.hid hb9
                      clear cn cs cn1 cs1 cn2 cs2 hy hR hrun
                      cases b9
                      · gi_wp2
                        go_end0
                        exact ⟨⟨_, rfl⟩, .inr ⟨_, _, _, hxs.out, hb9.out.2 (by trivial)⟩⟩
                      · gi_wp2
                        go_end0
                        exact ⟨⟨_, rfl⟩, .inl (by rw [hxs.out]; exact (hb9.out.1 (by trivial)).1)⟩
                    exact AllReadyIn.nil
                  exact AllReadyIn.nil
                exact AllReadyIn.nil
              exact AllReadyIn.nil
            refine AllReadyIn.cons rfl (fun K hK => ?_) ?_
            · have hK' := hK; clear hK; have hK := hK'; clear hK'
              go_simp
              refine hK _ _ ?_
              clear hK K
              refine wpAnyIn_ready (rs := [3]) (by kernel_rfl) (by simp) ?_
              refine AllReadyIn.cons rfl (fun K hK => ?_) ?_
              · have hK' := hK; clear hK; have hK := hK'; clear hK'
                go_simp
                gi_wp2_with (gi_at_call 40; refine (callsIn_wide.2 (up_any s 1 k (by omega) _)).mono ?_; rintro e w1 ⟨A1, c1, rfl, o1⟩)
                have hb1 := o1.bel
                replace o1 := o1.re hQ.bel
                replace hQ := hQ.keep hb1
                have cn1 := hQ.bn.cell
                have cs1 := hQ.bs.cell
                refine wpAnyIn_ready (rs := [6]) (by kernel_rfl) (by simp) ?_
                refine AllReadyIn.cons rfl (fun K hK => ?_) ?_
                · have hK' := hK; clear hK; have hK := hK'; clear hK'
                  go_simp
                  gi_wp2_with (gi_at_call 40; refine (callsIn_wide.2 (up_any s 3 k (by omega) _)).mono ?_; rintro e w2 ⟨A2, c2, rfl, o2⟩)
                  have hb2 := o2.bel
                  replace o2 := o2.re hQ.bel
                  replace hQ := hQ.keep hb2
                  replace o1 := o1.keep hb2
                  have cn2 := hQ.bn.cell
                  have cs2 := hQ.bs.cell
                  refine wpAnyIn_ready (rs := [7]) (by kernel_rfl) (by simp) ?_
                  refine AllReadyIn.cons rfl (fun K hK => ?_) ?_
                  · have hK' := hK; clear hK; have hK := hK'; clear hK'
                    obtain ⟨A3, c3, W3, hrun, o3⟩ := cat_any o1 o2.es (by omega) (by omega)
                    obtain ⟨fn, tmps, assign, body, hy, hR⟩ := hY _ _ _ _ _ _ hxs.out hJ (grown_of o3.bel) ⟨A3, _, c3, rfl, o3.len, o3.cap, o3.own⟩
                    go_simp
                    rw [hrun]
                    go_simp
                    refine hK _ _ ?_
                    clear hK K
                    refine wpAnyIn_ready (rs := [8]) (by kernel_rfl) (by simp) ?_
                    refine AllReadyIn.cons rfl (fun K hK => ?_) ?_
                    · have hK' := hK; clear hK; have hK := hK'; clear hK'
                      go_simp
                      refine hR.mono ?_
                      rintro e W9 hp9
                      obtain ⟨b9, rfl, hb9⟩ := yld hp9
                      refine hK _ _ ?_
                      clear hK K hp9
                      refine wpAnyIn_done (by kernel_rfl) ?_ _
                      replace hb9 := Lib.hid hb9
                      clear cn cs cn1 cs1 cn2 cs2 hy hR hrun
                      cases b9
                      · gi_wp2
                        go_end0
                        exact ⟨⟨_, rfl⟩, .inr ⟨_, _, _, hxs.out, hb9.out.2 (by trivial)⟩⟩
                      · gi_wp2
                        go_end0
                        exact ⟨⟨_, rfl⟩, .inl (by rw [hxs.out]; exact (hb9.out.1 (by trivial)).1)⟩
                    exact AllReadyIn.nil
                  exact AllReadyIn.nil
                exact AllReadyIn.nil
              exact AllReadyIn.nil
            exact AllReadyIn.nil
          refine AllReadyIn.cons rfl (fun K hK => ?_) ?_
          · have hK' := hK; clear hK; have hK := hK'; clear hK'
            go_simp
            refine hK _ _ ?_
            clear hK K
            refine wpAnyIn_ready (rs := [1]) (by kernel_rfl) (by simp) ?_
            refine AllReadyIn.cons rfl (fun K hK => ?_) ?_
            · have hK' := hK; clear hK; have hK := hK'; clear hK'
              go_simp
              refine hK _ _ ?_
              clear hK K
              refine wpAnyIn_ready (rs := [3]) (by kernel_rfl) (by simp) ?_
              refine AllReadyIn.cons rfl (fun K hK => ?_) ?_
              · have hK' := hK; clear hK; have hK := hK'; clear hK'
                go_simp
                gi_wp2_with (gi_at_call 40; refine (callsIn_wide.2 (up_any s 1 k (by omega) _)).mono ?_; rintro e w1 ⟨A1, c1, rfl, o1⟩)
                have hb1 := o1.bel
                replace o1 := o1.re hQ.bel
                replace hQ := hQ.keep hb1
                have cn1 := hQ.bn.cell
                have cs1 := hQ.bs.cell
                refine wpAnyIn_ready (rs := [6]) (by kernel_rfl) (by simp) ?_
                refine AllReadyIn.cons rfl (fun K hK => ?_) ?_
                · have hK' := hK; clear hK; have hK := hK'; clear hK'
                  go_simp
                  gi_wp2_with (gi_at_call 40; refine (callsIn_wide.2 (up_any s 3 k (by omega) _)).mono ?_; rintro e w2 ⟨A2, c2, rfl, o2⟩)
                  have hb2 := o2.bel
                  replace o2 := o2.re hQ.bel
                  replace hQ := hQ.keep hb2
                  replace o1 := o1.keep hb2
                  have cn2 := hQ.bn.cell
                  have cs2 := hQ.bs.cell
                  refine wpAnyIn_ready (rs := [7]) (by kernel_rfl) (by simp) ?_
                  refine AllReadyIn.cons rfl (fun K hK => ?_) ?_
                  · have hK' := hK; clear hK; have hK := hK'; clear hK'
                    obtain ⟨A3, c3, W3, hrun, o3⟩ := cat_any o1 o2.es (by omega) (by omega)
                    obtain ⟨fn, tmps, assign, body, hy, hR⟩ := hY _ _ _ _ _ _ hxs.out hJ (grown_of o3.bel) ⟨A3, _, c3, rfl, o3.len, o3.cap, o3.own⟩
                    go_simp
                    rw [hrun]
                    go_simp
                    refine hK _ _ ?_
                    clear hK K
                    refine wpAnyIn_ready (rs := [8]) (by kernel_rfl) (by simp) ?_
                    refine AllReadyIn.cons rfl (fun K hK => ?_) ?_
                    · have hK' := hK; clear hK; have hK := hK'; clear hK'
                      go_simp
                      refine hR.mono ?_
                      rintro e W9 hp9
                      obtain ⟨b9, rfl, hb9⟩ := yld hp9
                      refine hK _ _ ?_
                      clear hK K hp9
                      refine wpAnyIn_done (by kernel_rfl) ?_ _
                      replace hb9 := Lib.hid hb9
                      clear cn cs cn1 cs1 cn2 cs2 hy hR hrun
                      cases b9
                      · gi_wp2
                        go_end0
                        exact ⟨⟨_, rfl⟩, .inr ⟨_, _, _, hxs.out, hb9.out.2 (by trivial)⟩⟩
                      · gi_wp2
                        go_end0
                        exact ⟨⟨_, rfl⟩, .inl (by rw [hxs.out]; exact (hb9.out.1 (by trivial)).1)⟩
                    exact AllReadyIn.nil
                  exact AllReadyIn.nil
                exact AllReadyIn.nil
              exact AllReadyIn.nil
            exact AllReadyIn.nil
          exact AllReadyIn.nil
        exact AllReadyIn.nil
      refine AllReadyIn.cons rfl (fun K hK => ?_) ?_
      · have hK' := hK; clear hK; have hK := hK'; clear hK'
        go_simp
        refine hK _ _ ?_
        clear hK K
        refine wpAnyIn_ready (rs := [1, 2, 5]) (by kernel_rfl) (by simp) ?_
        refine AllReadyIn.cons rfl (fun K hK => ?_) ?_
        · have hK' := hK; clear hK; have hK := hK'; clear hK'
          go_simp
          refine hK _ _ ?_
          clear hK K
          refine wpAnyIn_ready (rs := [2, 5]) (by kernel_rfl) (by simp) ?_
          refine AllReadyIn.cons rfl (fun K hK => ?_) ?_
          · have hK' := hK; clear hK; have hK := hK'; clear hK'
            go_simp
            refine hK _ _ ?_
            clear hK K
            refine wpAnyIn_ready (rs := [3, 5]) (by kernel_rfl) (by simp) ?_
            refine AllReadyIn.cons rfl (fun K hK => ?_) ?_
            · have hK' := hK; clear hK; have hK := hK'; clear hK'
              go_simp
              gi_wp2_with (gi_at_call 40; refine (callsIn_wide.2 (up_any s 1 k (by omega) _)).mono ?_; rintro e w1 ⟨A1, c1, rfl, o1⟩)
              have hb1 := o1.bel
              replace o1 := o1.re hQ.bel
              replace hQ := hQ.keep hb1
              have cn1 := hQ.bn.cell
              have cs1 := hQ.bs.cell
              refine wpAnyIn_ready (rs := [5]) (by kernel_rfl) (by simp) ?_
              refine AllReadyIn.cons rfl (fun K hK => ?_) ?_
              · have hK' := hK; clear hK; have hK := hK'; clear hK'
                go_simp
                refine hK _ _ ?_
                clear hK K
                refine wpAnyIn_ready (rs := [6]) (by kernel_rfl) (by simp) ?_
                refine AllReadyIn.cons rfl (fun K hK => ?_) ?_
                · have hK' := hK; clear hK; have hK := hK'; clear hK'
                  go_simp
                  gi_wp2_with (gi_at_call 40; refine (callsIn_wide.2 (up_any s 3 k (by omega) _)).mono ?_; rintro e w2 ⟨A2, c2, rfl, o2⟩)
                  have hb2 := o2.bel
                  replace o2 := o2.re hQ.bel
                  replace hQ := hQ.keep hb2
                  replace o1 := o1.keep hb2
                  have cn2 := hQ.bn.cell
                  have cs2 := hQ.bs.cell
                  refine wpAnyIn_ready (rs := [7]) (by kernel_rfl) (by simp) ?_
                  refine AllReadyIn.cons rfl (fun K hK => ?_) ?_
                  · have hK' := hK; clear hK; have hK := hK'; clear hK'
                    obtain ⟨A3, c3, W3, hrun, o3⟩ := cat_any o1 o2.es (by omega) (by omega)
                    obtain ⟨fn, tmps, assign, body, hy, hR⟩ := hY _ _ _ _ _ _ hxs.out hJ (grown_of o3.bel) ⟨A3, _, c3, rfl, o3.len, o3.cap, o3.own⟩
                    go_simp
                    rw [hrun]
                    go_simp
                    refine hK _ _ ?_
                    clear hK K
                    refine wpAnyIn_ready (rs := [8]) (by kernel_rfl) (by simp) ?_
                    refine AllReadyIn.cons rfl (fun K hK => ?_) ?_
                    · have hK' := hK; clear hK; have hK := hK'; clear hK'
                      go_simp
                      refine hR.mono ?_
                      rintro e W9 hp9
                      obtain ⟨b9, rfl, hb9⟩ := yld hp9
                      refine hK _ _ ?_
                      clear hK K hp9
                      refine wpAnyIn_done (by kernel_rfl) ?_ _
                      replace hb9 := Lib.hid hb9
                      clear cn cs cn1 cs1 cn2 cs2 hy hR hrun
                      cases b9
                      · gi_wp2
                        go_end0
                        exact ⟨⟨_, rfl⟩, .inr ⟨_, _, _, hxs.out, hb9.out.2 (by trivial)⟩⟩
                      · gi_wp2
                        go_end0
                        exact ⟨⟨_, rfl⟩, .inl (by rw [hxs.out]; exact (hb9.out.1 (by trivial)).1)⟩
                    exact AllReadyIn.nil
                  exact AllReadyIn.nil
                exact AllReadyIn.nil
              exact AllReadyIn.nil
            refine AllReadyIn.cons rfl (fun K hK => ?_) ?_
            · have hK' := hK; clear hK; have hK := hK'; clear hK'
              go_simp
              refine hK _ _ ?_
              clear hK K
              refine wpAnyIn_ready (rs := [3]) (by kernel_rfl) (by simp) ?_
              refine AllReadyIn.cons rfl (fun K hK => ?_) ?_
              · have hK' := hK; clear hK; have hK := hK'; clear hK'
                go_simp
                gi_wp2_with (gi_at_call 40; refine (callsIn_wide.2 (up_any s 1 k (by omega) _)).mono ?_; rintro e w1 ⟨A1, c1, rfl, o1⟩)
                have hb1 := o1.bel
                replace o1 := o1.re hQ.bel
                replace hQ := hQ.keep hb1
                have cn1 := hQ.bn.cell
                have cs1 := hQ.bs.cell
                refine wpAnyIn_ready (rs := [6]) (by kernel_rfl) (by simp) ?_
                refine AllReadyIn.cons rfl (fun K hK => ?_) ?_
                · have hK' := hK; clear hK; have hK := hK'; clear hK'
                  go_simp
                  gi_wp2_with (gi_at_call 40; refine (callsIn_wide.2 (up_any s 3 k (by omega) _)).mono ?_; rintro e w2 ⟨A2, c2, rfl, o2⟩)
                  have hb2 := o2.bel
                  replace o2 := o2.re hQ.bel
                  replace hQ := hQ.keep hb2
                  replace o1 := o1.keep hb2
                  have cn2 := hQ.bn.cell
                  have cs2 := hQ.bs.cell
                  refine wpAnyIn_ready (rs := [7]) (by kernel_rfl) (by simp) ?_
                  refine AllReadyIn.cons rfl (fun K hK => ?_) ?_
                  · have hK' := hK; clear hK; have hK := hK'; clear hK'
                    obtain ⟨A3, c3, W3, hrun, o3⟩ := cat_any o1 o2.es (by omega) (by omega)
                    obtain ⟨fn, tmps, assign, body, hy, hR⟩ := hY _ _ _ _ _ _ hxs.out hJ (grown_of o3.bel) ⟨A3, _, c3, rfl, o3.len, o3.cap, o3.own⟩
                    go_simp
                    rw [hrun]
                    go_simp
                    refine hK _ _ ?_
                    clear hK K
                    refine wpAnyIn_ready (rs := [8]) (by kernel_rfl) (by simp) ?_
                    refine AllReadyIn.cons rfl (fun K hK => ?_) ?_
                    · have hK' := hK; clear hK; have hK := hK'; clear hK'
                      go_simp
                      refine hR.mono ?_
                      rintro e W9 hp9
                      obtain ⟨b9, rfl, hb9⟩ := yld hp9
                      refine hK _ _ ?_
                      clear hK K hp9
                      refine wpAnyIn_done (by kernel_rfl) ?_ _
                      replace hb9 := Lib.hid hb9
                      clear cn cs cn1 cs1 cn2 cs2 hy hR hrun
                      cases b9
                      · gi_wp2
                        go_end0
                        exact ⟨⟨_, rfl⟩, .inr ⟨_, _, _, hxs.out, hb9.out.2 (by trivial)⟩⟩
                      · gi_wp2
                        go_end0
                        exact ⟨⟨_, rfl⟩, .inl (by rw [hxs.out]; exact (hb9.out.1 (by trivial)).1)⟩
                    exact AllReadyIn.nil
                  exact AllReadyIn.nil
                exact AllReadyIn.nil
              exact AllReadyIn.nil
            exact AllReadyIn.nil
          refine AllReadyIn.cons rfl (fun K hK => ?_) ?_
          · have hK' := hK; clear hK; have hK := hK'; clear hK'
            go_simp
            refine hK _ _ ?_
            clear hK K
            refine wpAnyIn_ready (rs := [2]) (by kernel_rfl) (by simp) ?_
            refine AllReadyIn.cons rfl (fun K hK => ?_) ?_
            · have hK' := hK; clear hK; have hK := hK'; clear hK'
              go_simp
              refine hK _ _ ?_
              clear hK K
              refine wpAnyIn_ready (rs := [3]) (by kernel_rfl) (by simp) ?_
              refine AllReadyIn.cons rfl (fun K hK => ?_) ?_
              · have hK' := hK; clear hK; have hK := hK'; clear hK'
                go_simp
                gi_wp2_with (gi_at_call 40; refine (callsIn_wide.2 (up_any s 1 k (by omega) _)).mono ?_; rintro e w1 ⟨A1, c1, rfl, o1⟩)
                have hb1 := o1.bel
                replace o1 := o1.re hQ.bel
                replace hQ := hQ.keep hb1
                have cn1 := hQ.bn.cell
                have cs1 := hQ.bs.cell
                refine wpAnyIn_ready (rs := [6]) (by kernel_rfl) (by simp) ?_
                refine AllReadyIn.cons rfl (fun K hK => ?_) ?_
                · have hK' := hK; clear hK; have hK := hK'; clear hK'
                  go_simp
                  gi_wp2_with (gi_at_call 40; refine (callsIn_wide.2 (up_any s 3 k (by omega) _)).mono ?_; rintro e w2 ⟨A2, c2, rfl, o2⟩)
                  have hb2 := o2.bel
                  replace o2 := o2.re hQ.bel
                  replace hQ := hQ.keep hb2
                  replace o1 := o1.keep hb2
                  have cn2 := hQ.bn.cell
                  have cs2 := hQ.bs.cell
                  refine wpAnyIn_ready (rs := [7]) (by kernel_rfl) (by simp) ?_
                  refine AllReadyIn.cons rfl (fun K hK => ?_) ?_
                  · have hK' := hK; clear hK; have hK := hK'; clear hK'
                    obtain ⟨A3, c3, W3, hrun, o3⟩ := cat_any o1 o2.es (by omega) (by omega)
                    obtain ⟨fn, tmps, assign, body, hy, hR⟩ := hY _ _ _ _ _ _ hxs.out hJ (grown_of o3.bel) ⟨A3, _, c3, rfl, o3.len, o3.cap, o3.own⟩
                    go_simp
                    rw [hrun]
                    go_simp
                    refine hK _ _ ?_
                    clear hK K
                    refine wpAnyIn_ready (rs := [8]) (by kernel_rfl) (by simp) ?_
                    refine AllReadyIn.cons rfl (fun K hK => ?_) ?_
                    · have hK' := hK; clear hK; have hK := hK'; clear hK'
                      go_simp
                      refine hR.mono ?_
                      rintro e W9 hp9
                      obtain ⟨b9, rfl, hb9⟩ := yld hp9
                      refine hK _ _ ?_
                      clear hK K hp9
                      refine wpAnyIn_done (by kernel_rfl) ?_ _
                      replace hb9 := Lib.hid hb9
                      clear cn cs cn1 cs1 cn2 cs2 hy hR hrun
                      cases b9
                      · gi_wp2
                        go_end0
                        exact ⟨⟨_, rfl⟩, .inr ⟨_, _, _, hxs.out, hb9.out.2 (by trivial)⟩⟩
                      · gi_wp2
                        go_end0
                        exact ⟨⟨_, rfl⟩, .inl (by rw [hxs.out]; exact (hb9.out.1 (by trivial)).1)⟩
                    exact AllReadyIn.nil
                  exact AllReadyIn.nil
                exact AllReadyIn.nil
              exact AllReadyIn.nil
            exact AllReadyIn.nil
          exact AllReadyIn.nil
        refine AllReadyIn.cons rfl (fun K hK => ?_) ?_
        · have hK' := hK; clear hK; have hK := hK'; clear hK'
          go_simp
          refine hK _ _ ?_
          clear hK K
          refine wpAnyIn_ready (rs := [1, 5]) (by kernel_rfl) (by simp) ?_
          refine AllReadyIn.cons rfl (fun K hK => ?_) ?_
          · have hK' := hK; clear hK; have hK := hK'; clear hK'
            go_simp
            refine hK _ _ ?_
            clear hK K
            refine wpAnyIn_ready (rs := [3, 5]) (by kernel_rfl) (by simp) ?_
            refine AllReadyIn.cons rfl (fun K hK => ?_) ?_
            · have hK' := hK; clear hK; have hK := hK'; clear hK'
              go_simp
              gi_wp2_with (gi_at_call 40; refine (callsIn_wide.2 (up_any s 1 k (by omega) _)).mono ?_; rintro e w1 ⟨A1, c1, rfl, o1⟩)
              have hb1 := o1.bel
              replace o1 := o1.re hQ.bel
              replace hQ := hQ.keep hb1
              have cn1 := hQ.bn.cell
              have cs1 := hQ.bs.cell
              refine wpAnyIn_ready (rs := [5]) (by kernel_rfl) (by simp) ?_
              refine AllReadyIn.cons rfl (fun K hK => ?_) ?_
              · have hK' := hK; clear hK; have hK := hK'; clear hK'
                go_simp
                refine hK _ _ ?_
                clear hK K
                refine wpAnyIn_ready (rs := [6]) (by kernel_rfl) (by simp) ?_
                refine AllReadyIn.cons rfl (fun K hK => ?_) ?_
                · have hK' := hK; clear hK; have hK := hK'; clear hK'
                  go_simp
                  gi_wp2_with (gi_at_call 40; refine (callsIn_wide.2 (up_any s 3 k (by omega) _)).mono ?_; rintro e w2 ⟨A2, c2, rfl, o2⟩)
                  have hb2 := o2.bel
                  replace o2 := o2.re hQ.bel
                  replace hQ := hQ.keep hb2
                  replace o1 := o1.keep hb2
                  have cn2 := hQ.bn.cell
                  have cs2 := hQ.bs.cell
                  refine wpAnyIn_ready (rs := [7]) (by kernel_rfl) (by simp) ?_
                  refine AllReadyIn.cons rfl (fun K hK => ?_) ?_
                  · have hK' := hK; clear hK; have hK := hK'; clear hK'
                    obtain ⟨A3, c3, W3, hrun, o3⟩ := cat_any o1 o2.es (by omega) (by omega)
                    obtain ⟨fn, tmps, assign, body, hy, hR⟩ := hY _ _ _ _ _ _ hxs.out hJ (grown_of o3.bel) ⟨A3, _, c3, rfl, o3.len, o3.cap, o3.own⟩
                    go_simp
                    rw [hrun]
                    go_simp
                    refine hK _ _ ?_
                    clear hK K
                    refine wpAnyIn_ready (rs := [8]) (by kernel_rfl) (by simp) ?_
                    refine AllReadyIn.cons rfl (fun K hK => ?_) ?_
                    · have hK' := hK; clear hK; have hK := hK'; clear hK'
                      go_simp
                      refine hR.mono ?_
                      rintro e W9 hp9
                      obtain ⟨b9, rfl, hb9⟩ := yld hp9
                      refine hK _ _ ?_
                      clear hK K hp9
                      refine wpAnyIn_done (by kernel_rfl) ?_ _
                      replace hb9 := Lib.hid hb9
                      clear cn cs cn1 cs1 cn2 cs2 hy hR hrun
                      cases b9
                      · gi_wp2
                        go_end0
                        exact ⟨⟨_, rfl⟩, .inr ⟨_, _, _, hxs.out, hb9.out.2 (by trivial)⟩⟩
                      · gi_wp2
                        go_end0
                        exact ⟨⟨_, rfl⟩, .inl (by rw [hxs.out]; exact (hb9.out.1 (by trivial)).1)⟩
                    exact AllReadyIn.nil
                  exact AllReadyIn.nil
                exact AllReadyIn.nil
              exact AllReadyIn.nil
            refine AllReadyIn.cons rfl (fun K hK => ?_) ?_
            · have hK' := hK; clear hK; have hK := hK'; clear hK'
              go_simp
              refine hK _ _ ?_
              clear hK K
              refine wpAnyIn_ready (rs := [3]) (by kernel_rfl) (by simp) ?_
              refine AllReadyIn.cons rfl (fun K hK => ?_) ?_
              · have hK' := hK; clear hK; have hK := hK'; clear hK'
                go_simp
                gi_wp2_with (gi_at_call 40; refine (callsIn_wide.2 (up_any s 1 k (by omega) _)).mono ?_; rintro e w1 ⟨A1, c1, rfl, o1⟩)
                have hb1 := o1.bel
                replace o1 := o1.re hQ.bel
                replace hQ := hQ.keep hb1
                have cn1 := hQ.bn.cell
                have cs1 := hQ.bs.cell
                refine wpAnyIn_ready (rs := [6]) (by kernel_rfl) (by simp) ?_
                refine AllReadyIn.cons rfl (fun K hK => ?_) ?_
                · have hK' := hK; clear hK; have hK := hK'; clear hK'
                  go_simp
                  gi_wp2_with (gi_at_call 40; refine (callsIn_wide.2 (up_any s 3 k (by omega) _)).mono ?_; rintro e w2 ⟨A2, c2, rfl, o2⟩)
                  have hb2 := o2.bel
                  replace o2 := o2.re hQ.bel
                  replace hQ := hQ.keep hb2
                  replace o1 := o1.keep hb2
                  have cn2 := hQ.bn.cell
                  have cs2 := hQ.bs.cell
                  refine wpAnyIn_ready (rs := [7]) (by kernel_rfl) (by simp) ?_
                  refine AllReadyIn.cons rfl (fun K hK => ?_) ?_
                  · have hK' := hK; clear hK; have hK := hK'; clear hK'
                    obtain ⟨A3, c3, W3, hrun, o3⟩ := cat_any o1 o2.es (by omega) (by omega)
                    obtain ⟨fn, tmps, assign, body, hy, hR⟩ := hY _ _ _ _ _ _ hxs.out hJ (grown_of o3.bel) ⟨A3, _, c3, rfl, o3.len, o3.cap, o3.own⟩
                    go_simp
                    rw [hrun]
                    go_simp
                    refine hK _ _ ?_
                    clear hK K
                    refine wpAnyIn_ready (rs := [8]) (by kernel_rfl) (by simp) ?_
                    refine AllReadyIn.cons rfl (fun K hK => ?_) ?_
                    · have hK' := hK; clear hK; have hK := hK'; clear hK'
                      go_simp
                      refine hR.mono ?_
                      rintro e W9 hp9
                      obtain ⟨b9, rfl, hb9⟩ := yld hp9
                      refine hK _ _ ?_
                      clear hK K hp9
                      refine wpAnyIn_done (by kernel_rfl) ?_ _
                      replace hb9 := Lib.hid hb9
                      clear cn cs cn1 cs1 cn2 cs2 hy hR hrun
                      cases b9
                      · gi_wp2
                        go_end0
                        exact ⟨⟨_, rfl⟩, .inr ⟨_, _, _, hxs.out, hb9.out.2 (by trivial)⟩⟩
                      · gi_wp2
                        go_end0
                        exact ⟨⟨_, rfl⟩, .inl (by rw [hxs.out]; exact (hb9.out.1 (by trivial)).1)⟩
                    exact AllReadyIn.nil
                  exact AllReadyIn.nil
                exact AllReadyIn.nil
              exact AllReadyIn.nil
            exact AllReadyIn.nil
          refine AllReadyIn.cons rfl (fun K hK => ?_) ?_
          · have hK' := hK; clear hK; have hK := hK'; clear hK'
            go_simp
            refine hK _ _ ?_
            clear hK K
            refine wpAnyIn_ready (rs := [1]) (by kernel_rfl) (by simp) ?_
            refine AllReadyIn.cons rfl (fun K hK => ?_) ?_
            · have hK' := hK; clear hK; have hK := hK'; clear hK'
              go_simp
              refine hK _ _ ?_
              clear hK K
              refine wpAnyIn_ready (rs := [3]) (by kernel_rfl) (by simp) ?_
              refine AllReadyIn.cons rfl (fun K hK => ?_) ?_
              · have hK' := hK; clear hK; have hK := hK'; clear hK'
                go_simp
                gi_wp2_with (gi_at_call 40; refine (callsIn_wide.2 (up_any s 1 k (by omega) _)).mono ?_; rintro e w1 ⟨A1, c1, rfl, o1⟩)
                have hb1 := o1.bel
                replace o1 := o1.re hQ.bel
                replace hQ := hQ.keep hb1
                have cn1 := hQ.bn.cell
                have cs1 := hQ.bs.cell
                refine wpAnyIn_ready (rs := [6]) (by kernel_rfl) (by simp) ?_
                refine AllReadyIn.cons rfl (fun K hK => ?_) ?_
                · have hK' := hK; clear hK; have hK := hK'; clear hK'
                  go_simp
                  gi_wp2_with (gi_at_call 40; refine (callsIn_wide.2 (up_any s 3 k (by omega) _)).mono ?_; rintro e w2 ⟨A2, c2, rfl, o2⟩)
                  have hb2 := o2.bel
                  replace o2 := o2.re hQ.bel
                  replace hQ := hQ.keep hb2
                  replace o1 := o1.keep hb2
                  have cn2 := hQ.bn.cell
                  have cs2 := hQ.bs.cell
                  refine wpAnyIn_ready (rs := [7]) (by kernel_rfl) (by simp) ?_
                  refine AllReadyIn.cons rfl (fun K hK => ?_) ?_
                  · have hK' := hK; clear hK; have hK := hK'; clear hK'
                    obtain ⟨A3, c3, W3, hrun, o3⟩ := cat_any o1 o2.es (by omega) (by omega)
                    obtain ⟨fn, tmps, assign, body, hy, hR⟩ := hY _ _ _ _ _ _ hxs.out hJ (grown_of o3.bel) ⟨A3, _, c3, rfl, o3.len, o3.cap, o3.own⟩
                    go_simp
                    rw [hrun]
                    go_simp
                    refine hK _ _ ?_
                    clear hK K
                    refine wpAnyIn_ready (rs := [8]) (by kernel_rfl) (by simp) ?_
                    refine AllReadyIn.cons rfl (fun K hK => ?_) ?_
                    · have hK' := hK; clear hK; have hK := hK'; clear hK'
                      go_simp
                      refine hR.mono ?_
                      rintro e W9 hp9
                      obtain ⟨b9, rfl, hb9⟩ := yld hp9
                      refine hK _ _ ?_
                      clear hK K hp9
                      refine wpAnyIn_done (by kernel_rfl) ?_ _
                      replace hb9 := Lib.hid hb9
                      clear cn cs cn1 cs1 cn2 cs2 hy hR hrun
                      cases b9
                      · gi_wp2
                        go_end0
                        exact ⟨⟨_, rfl⟩, .inr ⟨_, _, _, hxs.out, hb9.out.2 (by trivial)⟩⟩
                      · gi_wp2
                        go_end0
                        exact ⟨⟨_, rfl⟩, .inl (by rw [hxs.out]; exact (hb9.out.1 (by trivial)).1)⟩
                    exact AllReadyIn.nil
                  exact AllReadyIn.nil
                exact AllReadyIn.nil
              exact AllReadyIn.nil
            exact AllReadyIn.nil
          exact AllReadyIn.nil
        refine AllReadyIn.cons rfl (fun K hK => ?_) ?_
        · have hK' := hK; clear hK; have hK := hK'; clear hK'
          go_simp
          refine hK _ _ ?_
          clear hK K
          refine wpAnyIn_ready (rs := [1, 2]) (by kernel_rfl) (by simp) ?_
          refine AllReadyIn.cons rfl (fun K hK => ?_) ?_
          · have hK' := hK; clear hK; have hK := hK'; clear hK'
            go_simp
            refine hK _ _ ?_
            clear hK K
            refine wpAnyIn_ready (rs := [2]) (by kernel_rfl) (by simp) ?_
            refine AllReadyIn.cons rfl (fun K hK => ?_) ?_
            · have hK' := hK; clear hK; have hK := hK'; clear hK'
              go_simp
              refine hK _ _ ?_
              clear hK K
              refine wpAnyIn_ready (rs := [3]) (by kernel_rfl) (by simp) ?_
              refine AllReadyIn.cons rfl (fun K hK => ?_) ?_
              · have hK' := hK; clear hK; have hK := hK'; clear hK'
                go_simp
                gi_wp2_with (gi_at_call 40; refine (callsIn_wide.2 (up_any s 1 k (by omega) _)).mono ?_; rintro e w1 ⟨A1, c1, rfl, o1⟩)
                have hb1 := o1.bel
                replace o1 := o1.re hQ.bel
                replace hQ := hQ.keep hb1
                have cn1 := hQ.bn.cell
                have cs1 := hQ.bs.cell
                refine wpAnyIn_ready (rs := [6]) (by kernel_rfl) (by simp) ?_
                refine AllReadyIn.cons rfl (fun K hK => ?_) ?_
                · have hK' := hK; clear hK; have hK := hK'; clear hK'
                  go_simp
                  gi_wp2_with (gi_at_call 40; refine (callsIn_wide.2 (up_any s 3 k (by omega) _)).mono ?_; rintro e w2 ⟨A2, c2, rfl, o2⟩)
                  have hb2 := o2.bel
                  replace o2 := o2.re hQ.bel
                  replace hQ := hQ.keep hb2
                  replace o1 := o1.keep hb2
                  have cn2 := hQ.bn.cell
                  have cs2 := hQ.bs.cell
                  refine wpAnyIn_ready (rs := [7]) (by kernel_rfl) (by simp) ?_
                  refine AllReadyIn.cons rfl (fun K hK => ?_) ?_
                  · have hK' := hK; clear hK; have hK := hK'; clear hK'
                    obtain ⟨A3, c3, W3, hrun, o3⟩ := cat_any o1 o2.es (by omega) (by omega)
                    obtain ⟨fn, tmps, assign, body, hy, hR⟩ := hY _ _ _ _ _ _ hxs.out hJ (grown_of o3.bel) ⟨A3, _, c3, rfl, o3.len, o3.cap, o3.own⟩
                    go_simp
                    rw [hrun]
                    go_simp
                    refine hK _ _ ?_
                    clear hK K
                    refine wpAnyIn_ready (rs := [8]) (by kernel_rfl) (by simp) ?_
                    refine AllReadyIn.cons rfl (fun K hK => ?_) ?_
                    · have hK' := hK; clear hK; have hK := hK'; clear hK'
                      go_simp
                      refine hR.mono ?_
                      rintro e W9 hp9
                      obtain ⟨b9, rfl, hb9⟩ := yld hp9
                      refine hK _ _ ?_
                      clear hK K hp9
                      refine wpAnyIn_done (by kernel_rfl) ?_ _
                      replace hb9 := Lib.hid hb9
                      clear cn cs cn1 cs1 cn2 cs2 hy hR hrun
                      cases b9
                      · gi_wp2
                        go_end0
                        exact ⟨⟨_, rfl⟩, .inr ⟨_, _, _, hxs.out, hb9.out.2 (by trivial)⟩⟩
                      · gi_wp2
                        go_end0
                        exact ⟨⟨_, rfl⟩, .inl (by rw [hxs.out]; exact (hb9.out.1 (by trivial)).1)⟩
                    exact AllReadyIn.nil
                  exact AllReadyIn.nil
                exact AllReadyIn.nil
              exact AllReadyIn.nil
            exact AllReadyIn.nil
          refine AllReadyIn.cons rfl (fun K hK => ?_) ?_
          · have hK' := hK; clear hK; have hK := hK'; clear hK'
            go_simp
            refine hK _ _ ?_
            clear hK K
            refine wpAnyIn_ready (rs := [1]) (by kernel_rfl) (by simp) ?_
            refine AllReadyIn.cons rfl (fun K hK => ?_) ?_
            · have hK' := hK; clear hK; have hK := hK'; clear hK'
              go_simp
              refine hK _ _ ?_
              clear hK K
              refine wpAnyIn_ready (rs := [3]) (by kernel_rfl) (by simp) ?_
              refine AllReadyIn.cons rfl (fun K hK => ?_) ?_
              · have hK' := hK; clear hK; have hK := hK'; clear hK'
                go_simp
                gi_wp2_with (gi_at_call 40; refine (callsIn_wide.2 (up_any s 1 k (by omega) _)).mono ?_; rintro e w1 ⟨A1, c1, rfl, o1⟩)
                have hb1 := o1.bel
                replace o1 := o1.re hQ.bel
                replace hQ := hQ.keep hb1
                have cn1 := hQ.bn.cell
                have cs1 := hQ.bs.cell
                refine wpAnyIn_ready (rs := [6]) (by kernel_rfl) (by simp) ?_
                refine AllReadyIn.cons rfl (fun K hK => ?_) ?_
                · have hK' := hK; clear hK; have hK := hK'; clear hK'
                  go_simp
                  gi_wp2_with (gi_at_call 40; refine (callsIn_wide.2 (up_any s 3 k (by omega) _)).mono ?_; rintro e w2 ⟨A2, c2, rfl, o2⟩)
                  have hb2 := o2.bel
                  replace o2 := o2.re hQ.bel
                  replace hQ := hQ.keep hb2
                  replace o1 := o1.keep hb2
                  have cn2 := hQ.bn.cell
                  have cs2 := hQ.bs.cell
                  refine wpAnyIn_ready (rs := [7]) (by kernel_rfl) (by simp) ?_
                  refine AllReadyIn.cons rfl (fun K hK => ?_) ?_
                  · have hK' := hK; clear hK; have hK := hK'; clear hK'
                    obtain ⟨A3, c3, W3, hrun, o3⟩ := cat_any o1 o2.es (by omega) (by omega)
                    obtain ⟨fn, tmps, assign, body, hy, hR⟩ := hY _ _ _ _ _ _ hxs.out hJ (grown_of o3.bel) ⟨A3, _, c3, rfl, o3.len, o3.cap, o3.own⟩
                    go_simp
                    rw [hrun]
                    go_simp
                    refine hK _ _ ?_
                    clear hK K
                    refine wpAnyIn_ready (rs := [8]) (by kernel_rfl) (by simp) ?_
                    refine AllReadyIn.cons rfl (fun K hK => ?_) ?_
                    · have hK' := hK; clear hK; have hK := hK'; clear hK'
                      go_simp
                      refine hR.mono ?_
                      rintro e W9 hp9
                      obtain ⟨b9, rfl, hb9⟩ := yld hp9
                      refine hK _ _ ?_
                      clear hK K hp9
                      refine wpAnyIn_done (by kernel_rfl) ?_ _
                      replace hb9 := Lib.hid hb9
                      clear cn cs cn1 cs1 cn2 cs2 hy hR hrun
                      cases b9
                      · gi_wp2
                        go_end0
                        exact ⟨⟨_, rfl⟩, .inr ⟨_, _, _, hxs.out, hb9.out.2 (by trivial)⟩⟩
                      · gi_wp2
                        go_end0
                        exact ⟨⟨_, rfl⟩, .inl (by rw [hxs.out]; exact (hb9.out.1 (by trivial)).1)⟩
                    exact AllReadyIn.nil
                  exact AllReadyIn.nil
                exact AllReadyIn.nil
              exact AllReadyIn.nil
            exact AllReadyIn.nil
          exact AllReadyIn.nil
        exact AllReadyIn.nil
      refine AllReadyIn.cons rfl (fun K hK => ?_) ?_
      · have hK' := hK; clear hK; have hK := hK'; clear hK'
        go_simp
        refine hK _ _ ?_
        clear hK K
        refine wpAnyIn_ready (rs := [1, 2, 4]) (by kernel_rfl) (by simp) ?_
        refine AllReadyIn.cons rfl (fun K hK => ?_) ?_
        · have hK' := hK; clear hK; have hK := hK'; clear hK'
          go_simp
          refine hK _ _ ?_
          clear hK K
          refine wpAnyIn_ready (rs := [2, 4]) (by kernel_rfl) (by simp) ?_
          refine AllReadyIn.cons rfl (fun K hK => ?_) ?_
          · have hK' := hK; clear hK; have hK := hK'; clear hK'
            go_simp
            refine hK _ _ ?_
            clear hK K
            refine wpAnyIn_ready (rs := [3, 4]) (by kernel_rfl) (by simp) ?_
            refine AllReadyIn.cons rfl (fun K hK => ?_) ?_
            · have hK' := hK; clear hK; have hK := hK'; clear hK'
              go_simp
              gi_wp2_with (gi_at_call 40; refine (callsIn_wide.2 (up_any s 1 k (by omega) _)).mono ?_; rintro e w1 ⟨A1, c1, rfl, o1⟩)
              have hb1 := o1.bel
              replace o1 := o1.re hQ.bel
              replace hQ := hQ.keep hb1
              have cn1 := hQ.bn.cell
              have cs1 := hQ.bs.cell
              refine wpAnyIn_ready (rs := [4]) (by kernel_rfl) (by simp) ?_
              refine AllReadyIn.cons rfl (fun K hK => ?_) ?_
              · have hK' := hK; clear hK; have hK := hK'; clear hK'
                go_simp
                refine hK _ _ ?_
                clear hK K
                refine wpAnyIn_ready (rs := [6]) (by kernel_rfl) (by simp) ?_
                refine AllReadyIn.cons rfl (fun K hK => ?_) ?_
                · have hK' := hK; clear hK; have hK := hK'; clear hK'
                  go_simp
                  gi_wp2_with (gi_at_call 40; refine (callsIn_wide.2 (up_any s 3 k (by omega) _)).mono ?_; rintro e w2 ⟨A2, c2, rfl, o2⟩)
                  have hb2 := o2.bel
                  replace o2 := o2.re hQ.bel
                  replace hQ := hQ.keep hb2
                  replace o1 := o1.keep hb2
                  have cn2 := hQ.bn.cell
                  have cs2 := hQ.bs.cell
                  refine wpAnyIn_ready (rs := [7]) (by kernel_rfl) (by simp) ?_
                  refine AllReadyIn.cons rfl (fun K hK => ?_) ?_
                  · have hK' := hK; clear hK; have hK := hK'; clear hK'
                    obtain ⟨A3, c3, W3, hrun, o3⟩ := cat_any o1 o2.es (by omega) (by omega)
                    obtain ⟨fn, tmps, assign, body, hy, hR⟩ := hY _ _ _ _ _ _ hxs.out hJ (grown_of o3.bel) ⟨A3, _, c3, rfl, o3.len, o3.cap, o3.own⟩
                    go_simp
                    rw [hrun]
                    go_simp
                    refine hK _ _ ?_
                    clear hK K
                    refine wpAnyIn_ready (rs := [8]) (by kernel_rfl) (by simp) ?_
                    refine AllReadyIn.cons rfl (fun K hK => ?_) ?_
                    · have hK' := hK; clear hK; have hK := hK'; clear hK'
                      go_simp
                      refine hR.mono ?_
                      rintro e W9 hp9
                      obtain ⟨b9, rfl, hb9⟩ := yld hp9
                      refine hK _ _ ?_
                      clear hK K hp9
                      refine wpAnyIn_done (by kernel_rfl) ?_ _
                      replace hb9 := Lib.hid hb9
                      clear cn cs cn1 cs1 cn2 cs2 hy hR hrun
                      cases b9
                      · gi_wp2
                        go_end0
                        exact ⟨⟨_, rfl⟩, .inr ⟨_, _, _, hxs.out, hb9.out.2 (by trivial)⟩⟩
                      · gi_wp2
                        go_end0
                        exact ⟨⟨_, rfl⟩, .inl (by rw [hxs.out]; exact (hb9.out.1 (by trivial)).1)⟩
                    exact AllReadyIn.nil
                  exact AllReadyIn.nil
                exact AllReadyIn.nil
              exact AllReadyIn.nil
            refine AllReadyIn.cons rfl (fun K hK => ?_) ?_
            · have hK' := hK; clear hK; have hK := hK'; clear hK'
              go_simp
              refine hK _ _ ?_
              clear hK K
              refine wpAnyIn_ready (rs := [3]) (by kernel_rfl) (by simp) ?_
              refine AllReadyIn.cons rfl (fun K hK => ?_) ?_
              · have hK' := hK; clear hK; have hK := hK'; clear hK'
                go_simp
                gi_wp2_with (gi_at_call 40; refine (callsIn_wide.2 (up_any s 1 k (by omega) _)).mono ?_; rintro e w1 ⟨A1, c1, rfl, o1⟩)
                have hb1 := o1.bel
                replace o1 := o1.re hQ.bel
                replace hQ := hQ.keep hb1
                have cn1 := hQ.bn.cell
                have cs1 := hQ.bs.cell
                refine wpAnyIn_ready (rs := [6]) (by kernel_rfl) (by simp) ?_
                refine AllReadyIn.cons rfl (fun K hK => ?_) ?_
                · have hK' := hK; clear hK; have hK := hK'; clear hK'
                  go_simp
                  gi_wp2_with (gi_at_call 40; refine (callsIn_wide.2 (up_any s 3 k (by omega) _)).mono ?_; rintro e w2 ⟨A2, c2, rfl, o2⟩)
                  have hb2 := o2.bel
                  replace o2 := o2.re hQ.bel
                  replace hQ := hQ.keep hb2
                  replace o1 := o1.keep hb2
                  have cn2 := hQ.bn.cell
                  have cs2 := hQ.bs.cell
                  refine wpAnyIn_ready (rs := [7]) (by kernel_rfl) (by simp) ?_
                  refine AllReadyIn.cons rfl (fun K hK => ?_) ?_
                  · have hK' := hK; clear hK; have hK := hK'; clear hK'
                    obtain ⟨A3, c3, W3, hrun, o3⟩ := cat_any o1 o2.es (by omega) (by omega)
                    obtain ⟨fn, tmps, assign, body, hy, hR⟩ := hY _ _ _ _ _ _ hxs.out hJ (grown_of o3.bel) ⟨A3, _, c3, rfl, o3.len, o3.cap, o3.own⟩
                    go_simp
                    rw [hrun]
                    go_simp
                    refine hK _ _ ?_
                    clear hK K
                    refine wpAnyIn_ready (rs := [8]) (by kernel_rfl) (by simp) ?_
                    refine AllReadyIn.cons rfl (fun K hK => ?_) ?_
                    · have hK' := hK; clear hK; have hK := hK'; clear hK'
                      go_simp
                      refine hR.mono ?_
                      rintro e W9 hp9
                      obtain ⟨b9, rfl, hb9⟩ := yld hp9
                      refine hK _ _ ?_
                      clear hK K hp9
                      refine wpAnyIn_done (by kernel_rfl) ?_ _
                      replace hb9 := Lib.hid hb9
                      clear cn cs cn1 cs1 cn2 cs2 hy hR hrun
                      cases b9
                      · gi_wp2
                        go_end0
                        exact ⟨⟨_, rfl⟩, .inr ⟨_, _, _, hxs.out, hb9.out.2 (by trivial)⟩⟩
                      · gi_wp2
                        go_end0
                        exact ⟨⟨_, rfl⟩, .inl (by rw [hxs.out]; exact (hb9.out.1 (by trivial)).1)⟩
                    exact AllReadyIn.nil
                  exact AllReadyIn.nil
                exact AllReadyIn.nil
              exact AllReadyIn.nil
            exact AllReadyIn.nil
          refine AllReadyIn.cons rfl (fun K hK => ?_) ?_
          · have hK' := hK; clear hK; have hK := hK'; clear hK'
            go_simp
            refine hK _ _ ?_
            clear hK K
            refine wpAnyIn_ready (rs := [2]) (by kernel_rfl) (by simp) ?_
            refine AllReadyIn.cons rfl (fun K hK => ?_) ?_
            · have hK' := hK; clear hK; have hK := hK'; clear hK'
              go_simp
              refine hK _ _ ?_
              clear hK K
              refine wpAnyIn_ready (rs := [3]) (by kernel_rfl) (by simp) ?_
              refine AllReadyIn.cons rfl (fun K hK => ?_) ?_
              · have hK' := hK; clear hK; have hK := hK'; clear hK'
                go_simp
                gi_wp2_with (gi_at_call 40; refine (callsIn_wide.2 (up_any s 1 k (by omega) _)).mono ?_; rintro e w1 ⟨A1, c1, rfl, o1⟩)
                have hb1 := o1.bel
                replace o1 := o1.re hQ.bel
                replace hQ := hQ.keep hb1
                have cn1 := hQ.bn.cell
                have cs1 := hQ.bs.cell
                refine wpAnyIn_ready (rs := [6]) (by kernel_rfl) (by simp) ?_
                refine AllReadyIn.cons rfl (fun K hK => ?_) ?_
                · have hK' := hK; clear hK; have hK := hK'; clear hK'
                  go_simp
                  gi_wp2_with (gi_at_call 40; refine (callsIn_wide.2 (up_any s 3 k (by omega) _)).mono ?_; rintro e w2 ⟨A2, c2, rfl, o2⟩)
                  have hb2 := o2.bel
                  replace o2 := o2.re hQ.bel
                  replace hQ := hQ.keep hb2
                  replace o1 := o1.keep hb2
                  have cn2 := hQ.bn.cell
                  have cs2 := hQ.bs.cell
                  refine wpAnyIn_ready (rs := [7]) (by kernel_rfl) (by simp) ?_
                  refine AllReadyIn.cons rfl (fun K hK => ?_) ?_
                  · have hK' := hK; clear hK; have hK := hK'; clear hK'
                    obtain ⟨A3, c3, W3, hrun, o3⟩ := cat_any o1 o2.es (by omega) (by omega)
                    obtain ⟨fn, tmps, assign, body, hy, hR⟩ := hY _ _ _ _ _ _ hxs.out hJ (grown_of o3.bel) ⟨A3, _, c3, rfl, o3.len, o3.cap, o3.own⟩
                    go_simp
                    rw [hrun]
                    go_simp
                    refine hK _ _ ?_
                    clear hK K
                    refine wpAnyIn_ready (rs := [8]) (by kernel_rfl) (by simp) ?_
                    refine AllReadyIn.cons rfl (fun K hK => ?_) ?_
                    · have hK' := hK; clear hK; have hK := hK'; clear hK'
                      go_simp
                      refine hR.mono ?_
                      rintro e W9 hp9
                      obtain ⟨b9, rfl, hb9⟩ := yld hp9
                      refine hK _ _ ?_
                      clear hK K hp9
                      refine wpAnyIn_done (by kernel_rfl) ?_ _
                      replace hb9 := Lib.hid hb9
                      clear cn cs cn1 cs1 cn2 cs2 hy hR hrun
                      cases b9
                      · gi_wp2
                        go_end0
                        exact ⟨⟨_, rfl⟩, .inr ⟨_, _, _, hxs.out, hb9.out.2 (by trivial)⟩⟩
                      · gi_wp2
                        go_end0
                        exact ⟨⟨_, rfl⟩, .inl (by rw [hxs.out]; exact (hb9.out.1 (by trivial)).1)⟩
                    exact AllReadyIn.nil
                  exact AllReadyIn.nil
                exact AllReadyIn.nil
              exact AllReadyIn.nil
            exact AllReadyIn.nil
          exact AllReadyIn.nil
        refine AllReadyIn.cons rfl (fun K hK => ?_) ?_
        · have hK' := hK; clear hK; have hK := hK'; clear hK'
          go_simp
          refine hK _ _ ?_
          clear hK K
          refine wpAnyIn_ready (rs := [1, 4]) (by kernel_rfl) (by simp) ?_
          refine AllReadyIn.cons rfl (fun K hK => ?_) ?_
          · have hK' := hK; clear hK; have hK := hK'; clear hK'
            go_simp
            refine hK _ _ ?_
            clear hK K
            refine wpAnyIn_ready (rs := [3, 4]) (by kernel_rfl) (by simp) ?_
            refine AllReadyIn.cons rfl (fun K hK => ?_) ?_
            · have hK' := hK; clear hK; have hK := hK'; clear hK'
              go_simp
              gi_wp2_with (gi_at_call 40; refine (callsIn_wide.2 (up_any s 1 k (by omega) _)).mono ?_; rintro e w1 ⟨A1, c1, rfl, o1⟩)
              have hb1 := o1.bel
              replace o1 := o1.re hQ.bel
              replace hQ := hQ.keep hb1
              have cn1 := hQ.bn.cell
              have cs1 := hQ.bs.cell
              refine wpAnyIn_ready (rs := [4]) (by kernel_rfl) (by simp) ?_
              refine AllReadyIn.cons rfl (fun K hK => ?_) ?_
              · have hK' := hK; clear hK; have hK := hK'; clear hK'
                go_simp
                refine hK _ _ ?_
                clear hK K
                refine wpAnyIn_ready (rs := [6]) (by kernel_rfl) (by simp) ?_
                refine AllReadyIn.cons rfl (fun K hK => ?_) ?_
                · have hK' := hK; clear hK; have hK := hK'; clear hK'
                  go_simp
                  gi_wp2_with (gi_at_call 40; refine (callsIn_wide.2 (up_any s 3 k (by omega) _)).mono ?_; rintro e w2 ⟨A2, c2, rfl, o2⟩)
                  have hb2 := o2.bel
                  replace o2 := o2.re hQ.bel
                  replace hQ := hQ.keep hb2
                  replace o1 := o1.keep hb2
                  have cn2 := hQ.bn.cell
                  have cs2 := hQ.bs.cell
                  refine wpAnyIn_ready (rs := [7]) (by kernel_rfl) (by simp) ?_
                  refine AllReadyIn.cons rfl (fun K hK => ?_) ?_
                  · have hK' := hK; clear hK; have hK := hK'; clear hK'
                    obtain ⟨A3, c3, W3, hrun, o3⟩ := cat_any o1 o2.es (by omega) (by omega)
                    obtain ⟨fn, tmps, assign, body, hy, hR⟩ := hY _ _ _ _ _ _ hxs.out hJ (grown_of o3.bel) ⟨A3, _, c3, rfl, o3.len, o3.cap, o3.own⟩
                    go_simp
                    rw [hrun]
                    go_simp
                    refine hK _ _ ?_
                    clear hK K
                    refine wpAnyIn_ready (rs := [8]) (by kernel_rfl) (by simp) ?_
                    refine AllReadyIn.cons rfl (fun K hK => ?_) ?_
                    · have hK' := hK; clear hK; have hK := hK'; clear hK'
                      go_simp
                      refine hR.mono ?_
                      rintro e W9 hp9
                      obtain ⟨b9, rfl, hb9⟩ := yld hp9
                      refine hK _ _ ?_
                      clear hK K hp9
                      refine wpAnyIn_done (by kernel_rfl) ?_ _
                      replace hb9 := Lib.hid hb9
                      clear cn cs cn1 cs1 cn2 cs2 hy hR hrun
                      cases b9
                      · gi_wp2
                        go_end0
                        exact ⟨⟨_, rfl⟩, .inr ⟨_, _, _, hxs.out, hb9.out.2 (by trivial)⟩⟩
                      · gi_wp2
                        go_end0
                        exact ⟨⟨_, rfl⟩, .inl (by rw [hxs.out]; exact (hb9.out.1 (by trivial)).1)⟩
                    exact AllReadyIn.nil
                  exact AllReadyIn.nil
                exact AllReadyIn.nil
              exact AllReadyIn.nil
            refine AllReadyIn.cons rfl (fun K hK => ?_) ?_
            · have hK' := hK; clear hK; have hK := hK'; clear hK'
              go_simp
              refine hK _ _ ?_
              clear hK K
              refine wpAnyIn_ready (rs := [3]) (by kernel_rfl) (by simp) ?_
              refine AllReadyIn.cons rfl (fun K hK => ?_) ?_
              · have hK' := hK; clear hK; have hK := hK'; clear hK'
                go_simp
                gi_wp2_with (gi_at_call 40; refine (callsIn_wide.2 (up_any s 1 k (by omega) _)).mono ?_; rintro e w1 ⟨A1, c1, rfl, o1⟩)
                have hb1 := o1.bel
                replace o1 := o1.re hQ.bel
                replace hQ := hQ.keep hb1
                have cn1 := hQ.bn.cell
                have cs1 := hQ.bs.cell
                refine wpAnyIn_ready (rs := [6]) (by kernel_rfl) (by simp) ?_
                refine AllReadyIn.cons rfl (fun K hK => ?_) ?_
                · have hK' := hK; clear hK; have hK := hK'; clear hK'
                  go_simp
                  gi_wp2_with (gi_at_call 40; refine (callsIn_wide.2 (up_any s 3 k (by omega) _)).mono ?_; rintro e w2 ⟨A2, c2, rfl, o2⟩)
                  have hb2 := o2.bel
                  replace o2 := o2.re hQ.bel
                  replace hQ := hQ.keep hb2
                  replace o1 := o1.keep hb2
                  have cn2 := hQ.bn.cell
                  have cs2 := hQ.bs.cell
                  refine wpAnyIn_ready (rs := [7]) (by kernel_rfl) (by simp) ?_
                  refine AllReadyIn.cons rfl (fun K hK => ?_) ?_
                  · have hK' := hK; clear hK; have hK := hK'; clear hK'
                    obtain ⟨A3, c3, W3, hrun, o3⟩ := cat_any o1 o2.es (by omega) (by omega)
                    obtain ⟨fn, tmps, assign, body, hy, hR⟩ := hY _ _ _ _ _ _ hxs.out hJ (grown_of o3.bel) ⟨A3, _, c3, rfl, o3.len, o3.cap, o3.own⟩
                    go_simp
                    rw [hrun]
                    go_simp
                    refine hK _ _ ?_
                    clear hK K
                    refine wpAnyIn_ready (rs := [8]) (by kernel_rfl) (by simp) ?_
                    refine AllReadyIn.cons rfl (fun K hK => ?_) ?_
                    · have hK' := hK; clear hK; have hK := hK'; clear hK'
                      go_simp
                      refine hR.mono ?_
                      rintro e W9 hp9
                      obtain ⟨b9, rfl, hb9⟩ := yld hp9
                      refine hK _ _ ?_
                      clear hK K hp9
                      refine wpAnyIn_done (by kernel_rfl) ?_ _
                      replace hb9 := Lib.hid hb9
                      clear cn cs cn1 cs1 cn2 cs2 hy hR hrun
                      cases b9
                      · gi_wp2
                        go_end0
                        exact ⟨⟨_, rfl⟩, .inr ⟨_, _, _, hxs.out, hb9.out.2 (by trivial)⟩⟩
                      · gi_wp2
                        go_end0
                        exact ⟨⟨_, rfl⟩, .inl (by rw [hxs.out]; exact (hb9.out.1 (by trivial)).1)⟩
                    exact AllReadyIn.nil
                  exact AllReadyIn.nil
                exact AllReadyIn.nil
              exact AllReadyIn.nil
            exact AllReadyIn.nil
          refine AllReadyIn.cons rfl (fun K hK => ?_) ?_
          · have hK' := hK; clear hK; have hK := hK'; clear hK'
            go_simp
            refine hK _ _ ?_
            clear hK K
            refine wpAnyIn_ready (rs := [1]) (by kernel_rfl) (by simp) ?_
            refine AllReadyIn.cons rfl (fun K hK => ?_) ?_
            · have hK' := hK; clear hK; have hK := hK'; clear hK'
              go_simp
              refine hK _ _ ?_
              clear hK K
              refine wpAnyIn_ready (rs := [3]) (by kernel_rfl) (by simp) ?_
              refine AllReadyIn.cons rfl (fun K hK => ?_) ?_
              · have hK' := hK; clear hK; have hK := hK'; clear hK'
                go_simp
                gi_wp2_with (gi_at_call 40; refine (callsIn_wide.2 (up_any s 1 k (by omega) _)).mono ?_; rintro e w1 ⟨A1, c1, rfl, o1⟩)
                have hb1 := o1.bel
                replace o1 := o1.re hQ.bel
                replace hQ := hQ.keep hb1
                have cn1 := hQ.bn.cell
                have cs1 := hQ.bs.cell
                refine wpAnyIn_ready (rs := [6]) (by kernel_rfl) (by simp) ?_
                refine AllReadyIn.cons rfl (fun K hK => ?_) ?_
                · have hK' := hK; clear hK; have hK := hK'; clear hK'
                  go_simp
                  gi_wp2_with (gi_at_call 40; refine (callsIn_wide.2 (up_any s 3 k (by omega) _)).mono ?_; rintro e w2 ⟨A2, c2, rfl, o2⟩)
                  have hb2 := o2.bel
                  replace o2 := o2.re hQ.bel
                  replace hQ := hQ.keep hb2
                  replace o1 := o1.keep hb2
                  have cn2 := hQ.bn.cell
                  have cs2 := hQ.bs.cell
                  refine wpAnyIn_ready (rs := [7]) (by kernel_rfl) (by simp) ?_
                  refine AllReadyIn.cons rfl (fun K hK => ?_) ?_
                  · have hK' := hK; clear hK; have hK := hK'; clear hK'
                    obtain ⟨A3, c3, W3, hrun, o3⟩ := cat_any o1 o2.es (by omega) (by omega)
                    obtain ⟨fn, tmps, assign, body, hy, hR⟩ := hY _ _ _ _ _ _ hxs.out hJ (grown_of o3.bel) ⟨A3, _, c3, rfl, o3.len, o3.cap, o3.own⟩
                    go_simp
                    rw [hrun]
                    go_simp
                    refine hK _ _ ?_
                    clear hK K
                    refine wpAnyIn_ready (rs := [8]) (by kernel_rfl) (by simp) ?_
                    refine AllReadyIn.cons rfl (fun K hK => ?_) ?_
                    · have hK' := hK; clear hK; have hK := hK'; clear hK'
                      go_simp
                      refine hR.mono ?_
                      rintro e W9 hp9
                      obtain ⟨b9, rfl, hb9⟩ := yld hp9
                      refine hK _ _ ?_
                      clear hK K hp9
                      refine wpAnyIn_done (by kernel_rfl) ?_ _
                      replace hb9 := Lib.hid hb9
                      clear cn cs cn1 cs1 cn2 cs2 hy hR hrun
                      cases b9
                      · gi_wp2
                        go_end0
                        exact ⟨⟨_, rfl⟩, .inr ⟨_, _, _, hxs.out, hb9.out.2 (by trivial)⟩⟩
                      · gi_wp2
                        go_end0
                        exact ⟨⟨_, rfl⟩, .inl (by rw [hxs.out]; exact (hb9.out.1 (by trivial)).1)⟩
                    exact AllReadyIn.nil
                  exact AllReadyIn.nil
                exact AllReadyIn.nil
              exact AllReadyIn.nil
            exact AllReadyIn.nil
          exact AllReadyIn.nil
        refine AllReadyIn.cons rfl (fun K hK => ?_) ?_
        · have hK' := hK; clear hK; have hK := hK'; clear hK'
          go_simp
          refine hK _ _ ?_
          clear hK K
          refine wpAnyIn_ready (rs := [1, 2]) (by kernel_rfl) (by simp) ?_
          refine AllReadyIn.cons rfl (fun K hK => ?_) ?_
          · have hK' := hK; clear hK; have hK := hK'; clear hK'
            go_simp
            refine hK _ _ ?_
            clear hK K
            refine wpAnyIn_ready (rs := [2]) (by kernel_rfl) (by simp) ?_
            refine AllReadyIn.cons rfl (fun K hK => ?_) ?_
            · have hK' := hK; clear hK; have hK := hK'; clear hK'
              go_simp
              refine hK _ _ ?_
              clear hK K
              refine wpAnyIn_ready (rs := [3]) (by kernel_rfl) (by simp) ?_
              refine AllReadyIn.cons rfl (fun K hK => ?_) ?_
              · have hK' := hK; clear hK; have hK := hK'; clear hK'
                go_simp
                gi_wp2_with (gi_at_call 40; refine (callsIn_wide.2 (up_any s 1 k (by omega) _)).mono ?_; rintro e w1 ⟨A1, c1, rfl, o1⟩)
                have hb1 := o1.bel
                replace o1 := o1.re hQ.bel
                replace hQ := hQ.keep hb1
                have cn1 := hQ.bn.cell
                have cs1 := hQ.bs.cell
                refine wpAnyIn_ready (rs := [6]) (by kernel_rfl) (by simp) ?_
                refine AllReadyIn.cons rfl (fun K hK => ?_) ?_
                · have hK' := hK; clear hK; have hK := hK'; clear hK'
                  go_simp
                  gi_wp2_with (gi_at_call 40; refine (callsIn_wide.2 (up_any s 3 k (by omega) _)).mono ?_; rintro e w2 ⟨A2, c2, rfl, o2⟩)
                  have hb2 := o2.bel
                  replace o2 := o2.re hQ.bel
                  replace hQ := hQ.keep hb2
                  replace o1 := o1.keep hb2
                  have cn2 := hQ.bn.cell
                  have cs2 := hQ.bs.cell
                  refine wpAnyIn_ready (rs := [7]) (by kernel_rfl) (by simp) ?_
                  refine AllReadyIn.cons rfl (fun K hK => ?_) ?_
                  · have hK' := hK; clear hK; have hK := hK'; clear hK'
                    obtain ⟨A3, c3, W3, hrun, o3⟩ := cat_any o1 o2.es (by omega) (by omega)
                    obtain ⟨fn, tmps, assign, body, hy, hR⟩ := hY _ _ _ _ _ _ hxs.out hJ (grown_of o3.bel) ⟨A3, _, c3, rfl, o3.len, o3.cap, o3.own⟩
                    go_simp
                    rw [hrun]
                    go_simp
                    refine hK _ _ ?_
                    clear hK K
                    refine wpAnyIn_ready (rs := [8]) (by kernel_rfl) (by simp) ?_
                    refine AllReadyIn.cons rfl (fun K hK => ?_) ?_
                    · have hK' := hK; clear hK; have hK := hK'; clear hK'
                      go_simp
                      refine hR.mono ?_
                      rintro e W9 hp9
                      obtain ⟨b9, rfl, hb9⟩ := yld hp9
                      refine hK _ _ ?_
                      clear hK K hp9
                      refine wpAnyIn_done (by kernel_rfl) ?_ _
                      replace hb9 := Lib.hid hb9
                      clear cn cs cn1 cs1 cn2 cs2 hy hR hrun
                      cases b9
                      · gi_wp2
                        go_end0
                        exact ⟨⟨_, rfl⟩, .inr ⟨_, _, _, hxs.out, hb9.out.2 (by trivial)⟩⟩
                      · gi_wp2
                        go_end0
                        exact ⟨⟨_, rfl⟩, .inl (by rw [hxs.out]; exact (hb9.out.1 (by trivial)).1)⟩
                    exact AllReadyIn.nil
                  exact AllReadyIn.nil
                exact AllReadyIn.nil
              exact AllReadyIn.nil
            exact AllReadyIn.nil
          refine AllReadyIn.cons rfl (fun K hK => ?_) ?_
          · have hK' := hK; clear hK; have hK := hK'; clear hK'
            go_simp
            refine hK _ _ ?_
            clear hK K
            refine wpAnyIn_ready (rs := [1]) (by kernel_rfl) (by simp) ?_
            refine AllReadyIn.cons rfl (fun K hK => ?_) ?_
            · have hK' := hK; clear hK; have hK := hK'; clear hK'
              go_simp
              refine hK _ _ ?_
              clear hK K
              refine wpAnyIn_ready (rs := [3]) (by kernel_rfl) (by simp) ?_
              refine AllReadyIn.cons rfl (fun K hK => ?_) ?_
              · have hK' := hK; clear hK; have hK := hK'; clear hK'
                go_simp
                gi_wp2_with (gi_at_call 40; refine (callsIn_wide.2 (up_any s 1 k (by omega) _)).mono ?_; rintro e w1 ⟨A1, c1, rfl, o1⟩)
                have hb1 := o1.bel
                replace o1 := o1.re hQ.bel
                replace hQ := hQ.keep hb1
                have cn1 := hQ.bn.cell
                have cs1 := hQ.bs.cell
                refine wpAnyIn_ready (rs := [6]) (by kernel_rfl) (by simp) ?_
                refine AllReadyIn.cons rfl (fun K hK => ?_) ?_
                · have hK' := hK; clear hK; have hK := hK'; clear hK'
                  go_simp
                  gi_wp2_with (gi_at_call 40; refine (callsIn_wide.2 (up_any s 3 k (by omega) _)).mono ?_; rintro e w2 ⟨A2, c2, rfl, o2⟩)
                  have hb2 := o2.bel
                  replace o2 := o2.re hQ.bel
                  replace hQ := hQ.keep hb2
                  replace o1 := o1.keep hb2
                  have cn2 := hQ.bn.cell
                  have cs2 := hQ.bs.cell
                  refine wpAnyIn_ready (rs := [7]) (by kernel_rfl) (by simp) ?_
                  refine AllReadyIn.cons rfl (fun K hK => ?_) ?_
                  · have hK' := hK; clear hK; have hK := hK'; clear hK'
                    obtain ⟨A3, c3, W3, hrun, o3⟩ := cat_any o1 o2.es (by omega) (by omega)
                    obtain ⟨fn, tmps, assign, body, hy, hR⟩ := hY _ _ _ _ _ _ hxs.out hJ (grown_of o3.bel) ⟨A3, _, c3, rfl, o3.len, o3.cap, o3.own⟩
                    go_simp
                    rw [hrun]
                    go_simp
                    refine hK _ _ ?_
                    clear hK K
                    refine wpAnyIn_ready (rs := [8]) (by kernel_rfl) (by simp) ?_
                    refine AllReadyIn.cons rfl (fun K hK => ?_) ?_
                    · have hK' := hK; clear hK; have hK := hK'; clear hK'
                      go_simp
                      refine hR.mono ?_
                      rintro e W9 hp9
                      obtain ⟨b9, rfl, hb9⟩ := yld hp9
                      refine hK _ _ ?_
                      clear hK K hp9
                      refine wpAnyIn_done (by kernel_rfl) ?_ _
                      replace hb9 := Lib.hid hb9
                      clear cn cs cn1 cs1 cn2 cs2 hy hR hrun
                      cases b9
                      · gi_wp2
                        go_end0
                        exact ⟨⟨_, rfl⟩, .inr ⟨_, _, _, hxs.out, hb9.out.2 (by trivial)⟩⟩
                      · gi_wp2
                        go_end0
                        exact ⟨⟨_, rfl⟩, .inl (by rw [hxs.out]; exact (hb9.out.1 (by trivial)).1)⟩
                    exact AllReadyIn.nil
                  exact AllReadyIn.nil
                exact AllReadyIn.nil
              exact AllReadyIn.nil
            exact AllReadyIn.nil
          exact AllReadyIn.nil
        exact AllReadyIn.nil
      exact AllReadyIn.nil
end Go.Proofs.YthmkfbabacehnaaDoor
