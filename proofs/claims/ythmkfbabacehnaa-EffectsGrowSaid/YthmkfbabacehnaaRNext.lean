/- Next: the document's. -/
import Derived.Test.YthmkfbabacehnaaRLegal
namespace Go.Proofs.Ythmkfbabacehnaa
open Go.RowKit
set_option linter.unusedSimpArgs false
set_option linter.unusedVariables false
set_option linter.unusedSectionVars false
set_option maxRecDepth 10000
attribute [local go_sem ↓] hideAppend
def cnd (l : List Ef) (x : Ef) (m : Int × List Ef) : Bool := decide (com l m.2 = l.length) && (match m.2[l.length]? with | some y => decide (y.2 = x.2) | none => false)
theorem may_any (n : Nat) (l : List Ef) (x : Ef) : may n l x = (seqs 1 n).any (cnd l x) := rfl
theorem cnd_com {l : List Ef} {x : Ef} {m : Int × List Ef} (h : com l m.2 ≠ l.length) : cnd l x m = false := by simp [cnd, h]
theorem cnd_short {l : List Ef} {x : Ef} {m : Int × List Ef} (h : m.2.length ≤ l.length) : cnd l x m = false := by
  unfold cnd; rw [List.getElem?_eq_none (by omega)]; simp
theorem cnd_at {l : List Ef} {x y : Ef} {m : Int × List Ef} (h : com l m.2 = l.length) (hy : m.2[l.length]? = some y) : cnd l x m = decide (y.2 = x.2) := by
  unfold cnd; rw [hy]; simp [h]
theorem any_more {α : Type} {f : α → Bool} {ss : List α} {j : Nat} {m : α} (h : ss[j]? = some m) : (ss.take (j + 1)).any f = ((ss.take j).any f || f m) := by
  rw [List.take_add_one, h]; simp [List.any_append]
theorem grid_len (s : Int) (k : Nat) : (grid s k).length = 3 * k := by
  unfold grid
  induction k with
  | zero => rfl
  | succ k ih => rw [List.range_succ, List.flatMap_append, List.length_append, ih]; simp; omega
theorem grid_get (s : Int) (k i d : Nat) (hi : i < k) (hd : d < 3) : (grid s k)[3 * i + d]? = some (s, (i : Int), (d : Int) + 1) := by
  induction k with
  | zero => omega
  | succ k ih =>
    have hg : grid s (k + 1) = grid s k ++ [(s, (k : Int), 1), (s, (k : Int), 2), (s, (k : Int), 3)] := by unfold grid; rw [List.range_succ, List.flatMap_append]; simp
    rw [hg]
    rcases Nat.lt_or_ge i k with h | h
    · rw [List.getElem?_append_left (by rw [grid_len]; omega)]; exact ih h
    · obtain rfl : i = k := by omega
      rw [List.getElem?_append_right (by rw [grid_len]; omega), grid_len, show 3 * i + d - 3 * i = d from by omega]
      have : d = 0 ∨ d = 1 ∨ d = 2 := by omega
      rcases this with rfl | rfl | rfl <;> rfl
def outs (l : List Ef) (k t : Nat) : List Ef := ((grid (head l) k).take t).filter (may k l)
theorem outs_more {l : List Ef} {k i d : Nat} (hi : i < k) (hd : d < 3) : outs l k (3 * i + d + 1) = if may k l (head l, (i : Int), (d : Int) + 1) = true then outs l k (3 * i + d) ++ [(head l, (i : Int), (d : Int) + 1)] else outs l k (3 * i + d) := by
  unfold outs
  rw [List.take_add_one, grid_get _ _ _ _ hi hd]
  simp only [Option.toList, List.filter_append, List.filter_cons, List.filter_nil]
  split <;> simp
theorem outs_all (l : List Ef) (k : Nat) : outs l k (3 * k) = (grid (head l) k).filter (may k l) := by
  unfold outs; rw [List.take_of_length_le (by rw [grid_len]; omega)]
theorem outs_len (l : List Ef) (k t : Nat) : (outs l k t).length ≤ 3 * k := by
  unfold outs
  have := List.length_filter_le (may k l) ((grid (head l) k).take t)
  rw [List.length_take, grid_len] at this
  omega
theorem own_none (W : World) (base : Nat) : W.ownsRow base 40 3 (.slice none 0 0) 0 (flat encE ([] : List Ef)) := ⟨rfl, .inl ⟨rfl, rfl⟩⟩
set_option maxRecDepth 100000 in
set_option maxHeartbeats 16000000 in
theorem rnext_any (N : Int) (A : Option Addr) (n c : Nat) (l : List Ef) (w : World) (h1 : ES w A n l) (hn : n ≤ 70368744177664) :
    Calls Try.prog 15 #[.int .i64 N, .slice A n c] w fun e w' => ∃ A' n' c', e = .returned (.tuple #[.slice A' n' c', .int .i64 (nextR N l).2]) ∧ OwnE w A' n' c' (nextR N l).1 w' := by
  have hl1 := h1.1
  go_enter Try.func15, Try.ntmps15
  have hR := rlegal_any N A n c l w h1 hn
  by_cases hk : okL N l = true
  · have hn8 := (okL_iff N l).1 hk
    replace hn8 := hn8.1
    obtain ⟨k, rfl⟩ : ∃ k : Nat, N = k := ⟨N.toNat, by omega⟩
    have hk8 : 1 ≤ k ∧ k ≤ 8 := by omega
    by_cases hL : best (com l) (seqs 1 k) = l.length
    · have hz := Lib.hid (show nextR (k : Int) l = ((grid (head l) k).filter (may k l), 0) from by simp [nextR, hk, hL])
      have e1 : (legalR k l).1 = true := by simp [legalR, hk, hL]
      have e2 : (legalR k l).2.2 = 0 := by simp [legalR, hk]
      rw [e1, e2] at hR
      generalize (legalR (k : Int) l).2.1 = lg at hR
      have hgl := fun j => allS_get (j := j) hk8
      have hcount : (allS (k : Int)).1.length = k + 2 := by rw [allS_ok hk8]; simp [seqAs]
      have hlen : (seqs 1 k).length = k + 2 := by simp [seqs]
      have hok : (allS (k : Int)).2 = 0 := by rw [allS_ok hk8]
      clear hk hL e1 e2
      have hgo : ∀ w1, Below w.heap.size w w1 → ES w1 A n l := fun w1 hb => SL.keep h1 hb
      replace hgl := Lib.hid hgl; replace h1 := Lib.hid h1; replace hcount := Lib.hid hcount; replace hlen := Lib.hid hlen; replace hk8 := Lib.hid hk8; replace hgo := Lib.hid hgo
      by_cases hn0 : n = 0
      · have hl0 : l = [] := List.eq_nil_of_length_eq_zero (by omega)
        have hhd := Lib.hid (show head l = 0 from by rw [hl0]; rfl)
        have hn0' : ¬ (0 : Int) < n := by omega
        replace hn0 := Lib.hid hn0
        clear hl0
        go_wp2_with (fail)
        refine hR.mono ?_
        rintro e w1 ⟨rfl, b1⟩
        clear hR
        go_wp2_with (fail)
        refine (rall_any k w1).mono ?_
        rintro e w2 ⟨B, m, d, xs, rfl, hA⟩
        rw [hok]
        have hm : m = k + 2 := by have := hA.two; have := hcount.out; omega
        subst hm
        have hB : Below w.heap.size w w2 := b1.trans (hA.bel.mono b1.size)
        clear b1
        replace hA := Lib.hid hA; replace hB := Lib.hid hB
        go_wp2_with (fail)
        go_loopw [12, 13] (fun v i wr => ∃ (ii : Nat) (A1 : Option Addr) (n1 c1 : Nat), ii ≤ k ∧ i = .int .i64 ii ∧ v = .slice A1 n1 c1 ∧ OwnE w2 A1 n1 c1 (outs l k (3 * ii)) wr) (fun _ i _ => k - (intOf i).toNat)
        case atStart => exact ⟨0, none, 0, 0, by omega, rfl, rfl, ⟨Below.refl _ _, own_none _ _, rfl, Nat.le_refl _⟩⟩
        case round =>
          obtain ⟨ii, A1, n1, c1, hi, rfl, rfl, hO⟩ := hrel
          by_cases hlt : ii < k
          · have i1 : (ii : Int) < k := by omega
            replace hO := Lib.hid hO
            go_wp2_with (fail)
            go_loopw [12, 14] (fun v p W => ∃ (d : Nat) (A1 : Option Addr) (n1 c1 : Nat), d ≤ 3 ∧ p = .int .i64 ((d : Int) + 1) ∧ v = .slice A1 n1 c1 ∧ OwnE w2 A1 n1 c1 (outs l k (3 * ii + d)) W) (fun _ p _ => 4 - (intOf p).toNat)
            case atStart => exact ⟨0, A1, n1, c1, by omega, rfl, rfl, hO.out⟩
            case round =>
              clear hO
              revert wr
              intro W1 hrel
              obtain ⟨dd, A2, n2, c2, hd, rfl, rfl, hO⟩ := hrel
              by_cases hlt2 : dd < 3
              · have p1 : (dd : Int) + 1 ≤ 3 := by omega
                replace hO := Lib.hid hO
                go_wp2_with (fail)
                go_loopw [15, 16] (fun f i W => ∃ j : Nat, j ≤ k + 2 ∧ i = .int .i64 j ∧ f = .bool (((seqs 1 k).take j).any (cnd l ((0 : Int), (ii : Int), (dd : Int) + 1))) ∧ Below W1.heap.size W1 W) (fun _ i _ => k + 2 - (intOf i).toNat)
                case atStart => exact ⟨0, by omega, rfl, rfl, Below.refl _ _⟩
                case round =>
                  obtain ⟨j, hj, rfl, rfl, hb⟩ := hrel
                  have hbw : Below w2.heap.size w2 wr := hO.out.bel.trans (hb.mono hO.out.bel.size)
                  by_cases hlt3 : j < k + 2
                  · obtain ⟨b, o, A3, n3, c3, ls, hAe, hbl, hcell, hls, hP⟩ := (hA.out.keep hbw).at_ hlt3
                    subst hAe
                    have hq : (seqs 1 k)[j]? = some ((seqs 1 k)[j]'(by have := hlen.out; omega)) := List.getElem?_eq_getElem _
                    generalize (seqs 1 k)[j]'(by have := hlen.out; omega) = x at hq
                    have hls2 : x.2 = ls := by
                      have := hgl.out j
                      rw [hls, hq] at this
                      simpa using this.symm
                    subst hls2
                    have hsl := seqs_len (List.mem_of_getElem? hq)
                    rw [hP.len] at hsl
                    have E1 : ES wr _ n l := hgo.out wr (hB.out.trans (hbw.mono hB.out.size))
                    have hC := common_any _ A3 n c n3 c3 l x.2 wr E1 hP.es hn (by have := hk8.out; omega)
                    have j0 : (0 : Int) ≤ j := by omega
                    have j1 : (j : Int) < ((k + 2 : Nat) : Int) := by omega
                    have hmore := any_more (f := cnd l ((0 : Int), (ii : Int), (dd : Int) + 1)) hq
                    have hnext : ∀ (W : World) (z : Bool), Below wr.heap.size wr W → ((((seqs 1 k).take j).any (cnd l ((0 : Int), (ii : Int), (dd : Int) + 1))) || cnd l ((0 : Int), (ii : Int), (dd : Int) + 1) x) = z → ∃ j' : Nat, j' ≤ k + 2 ∧ Value.int .i64 ((j : Int) + 1) = .int .i64 j' ∧ Value.bool z = .bool (((seqs 1 k).take j').any (cnd l ((0 : Int), (ii : Int), (dd : Int) + 1))) ∧ Below W1.heap.size W1 W := fun W z hbz hz => ⟨j + 1, by omega, by go_num, by rw [hmore, hz], hb.trans (hbz.mono hb.size)⟩
                    generalize ((seqs 1 k).take j).any (cnd l ((0 : Int), (ii : Int), (dd : Int) + 1)) = f at *
                    have hlx := hP.len
                    have n00 : (0 : Int) ≤ n := by omega
                    have e3 := hP.es
                    replace hnext := Lib.hid hnext; replace hP := Lib.hid hP; replace E1 := Lib.hid E1; replace hq := Lib.hid hq; replace hls := Lib.hid hls; replace hb := Lib.hid hb; replace hbw := Lib.hid hbw; replace hmore := Lib.hid hmore; replace e3 := Lib.hid e3
                    cases f with
                    | true =>
                      clear hC
                      go_wp2_with (fail)
                      exact ⟨hnext.out _ true (Below.refl _ _) (by simp), by simp [intOf]; omega⟩
                    | false =>
                      by_cases g2 : com l x.2 = n
                      · have d2 : (((com l x.2 : Nat) : Int) == (n : Int)) = true := by simp [g2]
                        by_cases g3 : n < n3
                        · have d3 : decide ((n : Int) < (n3 : Int)) = true := by simp; omega
                          have d3' : (n : Int) < (n3 : Int) := by omega
                          obtain ⟨bx, ox, ⟨x0, x1, x2⟩, rfl, hbx, hx, v0, v1, v2⟩ := ES.at_ e3.out g3
                          simp only at v0 v1 v2
                          have hcn := Lib.hid (cnd_at (x := ((0 : Int), (ii : Int), (dd : Int) + 1)) (m := x) (by rw [hl1]; exact g2) (by rw [hl1]; exact hx))
                          replace g2 := Lib.hid g2; replace hx := Lib.hid hx
                          clear v0
                          have hw : (x1 = ii ∧ x2 = (dd : Int) + 1) ∨ (x1 = ii ∧ x2 ≠ (dd : Int) + 1) ∨ x1 ≠ ii := by omega
                          generalize com l x.2 = z at *
                          rcases hw with ⟨rfl, rfl⟩ | ⟨rfl, hw⟩ | hw
                          · have hz2 := Lib.hid (hcn.out.trans (show _ = true from by simp))
                            clear hcn
                            go_wp2_with (fail)
                            refine hC.mono ?_
                            rintro e w5 ⟨rfl, b5⟩
                            have u1 := (b5.cell (p := ⟨bx, ox + n * 3 + 1, none⟩) hbx).trans v1
                            have u2 := (b5.cell (p := ⟨bx, ox + n * 3 + 2, none⟩) hbx).trans v2
                            clear hC
                            go_wp2_with (fail)
                            exact ⟨hnext.out _ true b5 (by rw [hz2.out]; rfl), by simp [intOf]; omega⟩
                          · have hz2 := Lib.hid (hcn.out.trans (show _ = false from by simp [hw]))
                            have hw' := beq_false_of_ne hw
                            clear hcn
                            go_wp2_with (fail)
                            refine hC.mono ?_
                            rintro e w5 ⟨rfl, b5⟩
                            have u1 := (b5.cell (p := ⟨bx, ox + n * 3 + 1, none⟩) hbx).trans v1
                            have u2 := (b5.cell (p := ⟨bx, ox + n * 3 + 2, none⟩) hbx).trans v2
                            clear hC
                            go_wp2_with (fail)
                            exact ⟨hnext.out _ false b5 (by rw [hz2.out]; rfl), by simp [intOf]; omega⟩
                          · have hz2 := Lib.hid (hcn.out.trans (show _ = false from by simp [hw]))
                            have hw' := beq_false_of_ne hw
                            clear hcn
                            go_wp2_with (fail)
                            refine hC.mono ?_
                            rintro e w5 ⟨rfl, b5⟩
                            have u1 := (b5.cell (p := ⟨bx, ox + n * 3 + 1, none⟩) hbx).trans v1
                            have u2 := (b5.cell (p := ⟨bx, ox + n * 3 + 2, none⟩) hbx).trans v2
                            clear hC
                            go_wp2_with (fail)
                            exact ⟨hnext.out _ false b5 (by rw [hz2.out]; rfl), by simp [intOf]; omega⟩
                        · have d3 : decide ((n : Int) < (n3 : Int)) = false := by simp; omega
                          have d3' : ¬ (n : Int) < (n3 : Int) := by omega
                          have hz2 := Lib.hid (cnd_short (l := l) (x := ((0 : Int), (ii : Int), (dd : Int) + 1)) (m := x) (by rw [hl1, hlx]; omega))
                          replace g2 := Lib.hid g2
                          generalize com l x.2 = z at *
                          go_wp2_with (fail)
                          refine hC.mono ?_
                          rintro e w5 ⟨rfl, b5⟩
                          clear hC
                          go_wp2_with (fail)
                          exact ⟨hnext.out _ false b5 (by rw [hz2.out]; rfl), by simp [intOf]; omega⟩
                      · have d2 : (((com l x.2 : Nat) : Int) == (n : Int)) = false := beq_false_of_ne (by omega)
                        have hz2 := Lib.hid (cnd_com (l := l) (x := ((0 : Int), (ii : Int), (dd : Int) + 1)) (m := x) (by rw [hl1]; exact g2))
                        replace g2 := Lib.hid g2
                        generalize com l x.2 = z at *
                        go_wp2_with (fail)
                        refine hC.mono ?_
                        rintro e w5 ⟨rfl, b5⟩
                        clear hC
                        go_wp2_with (fail)
                        exact ⟨hnext.out _ false b5 (by rw [hz2.out]; rfl), by simp [intOf]; omega⟩
                  · obtain rfl : j = k + 2 := by omega
                    have hfull : (seqs 1 k).take (k + 2) = seqs 1 k := List.take_of_length_le (by have := hlen.out; omega)
                    have hmay : ((seqs 1 k).take (k + 2)).any (cnd l ((0 : Int), (ii : Int), (dd : Int) + 1)) = may k l ((0 : Int), (ii : Int), (dd : Int) + 1) := by rw [hfull, may_any]
                    rw [hmay]
                    have hmore := outs_more (l := l) hlt hlt2
                    rw [hhd.out] at hmore
                    have hO2 := hO.out.keep hb
                    have hsm : n2 ≤ 24 := by have h3 := hO2.len; have h4 := outs_len l k (3 * ii + dd); have := hk8.out; omega
                    clear hmay hfull
                    cases hmy : may k l ((0 : Int), (ii : Int), (dd : Int) + 1) with
                    | true =>
                      rw [hmy, if_pos rfl] at hmore
                      obtain ⟨A', c', W', hrun, hO'⟩ := hO2.push (by omega) ((0 : Int), (ii : Int), (dd : Int) + 1) 1
                      rw [← hmore] at hO'
                      simp only at hrun
                      replace hO2 := Lib.hid hO2; replace hO' := Lib.hid hO'; replace hmore := Lib.hid hmore; replace hb := Lib.hid hb; replace hbw := Lib.hid hbw; replace hmy := Lib.hid hmy
                      go_wp2_with (fail)
                      exact ⟨⟨dd + 1, A', n2 + 1, c', by omega, by go_num, rfl, hO'.out⟩, by simp [intOf]; omega⟩
                    | false =>
                      rw [hmy, if_neg (by decide)] at hmore
                      rw [← hmore] at hO2
                      replace hO2 := Lib.hid hO2; replace hmore := Lib.hid hmore; replace hb := Lib.hid hb; replace hbw := Lib.hid hbw; replace hmy := Lib.hid hmy
                      go_wp2_with (fail)
                      exact ⟨⟨dd + 1, A2, n2, c2, by omega, by go_num, rfl, hO2.out⟩, by simp [intOf]; omega⟩
              · obtain rfl : dd = 3 := by omega
                replace hO := Lib.hid hO
                go_wp2_with (fail)
                exact ⟨⟨ii + 1, A2, n2, c2, by omega, by go_num, rfl, by rw [show 3 * (ii + 1) = 3 * ii + 3 from by omega]; exact hO.out⟩, by simp [intOf]; omega⟩
          · obtain rfl : ii = k := by omega
            have hF := hO.re hB.out
            rw [outs_all] at hF
            replace hO := Lib.hid hO; replace hF := Lib.hid hF
            go_wp2_with (fail)
            refine bodyPost_ret (by simp [results, Try.results15, go_sem, *]; try with_reducible rfl) rfl ?_
            exact ⟨A1, n1, c1, by have q := hz.out; simp [q], by have q := hz.out; rw [q]; exact hF.out⟩
      · have hn0' : (0 : Int) < n := by omega
        have hn0'' : 0 < n := by omega
        go_wp2_with (fail)
        refine hR.mono ?_
        rintro e w1 ⟨rfl, b1⟩
        clear hR
        obtain ⟨ba, oa, y, rfl, hbl, hy, f0, g1, g2⟩ := ES.at_ (hgo.out w1 b1) (i := 0) (by omega)
        have hhy := head_at hy
        simp only [Nat.zero_mul, Nat.add_zero] at f0
        rw [← hhy] at f0
        clear g1 g2 hy hhy
        go_wp2_with (fail)
        refine (rall_any k w1).mono ?_
        rintro e w2 ⟨B, m, d, xs, rfl, hA⟩
        rw [hok]
        have hm : m = k + 2 := by have := hA.two; have := hcount.out; omega
        subst hm
        have hB : Below w.heap.size w w2 := b1.trans (hA.bel.mono b1.size)
        clear b1
        replace hA := Lib.hid hA; replace hB := Lib.hid hB
        go_wp2_with (fail)
        go_loopw [12, 13] (fun v i wr => ∃ (ii : Nat) (A1 : Option Addr) (n1 c1 : Nat), ii ≤ k ∧ i = .int .i64 ii ∧ v = .slice A1 n1 c1 ∧ OwnE w2 A1 n1 c1 (outs l k (3 * ii)) wr) (fun _ i _ => k - (intOf i).toNat)
        case atStart => exact ⟨0, none, 0, 0, by omega, rfl, rfl, ⟨Below.refl _ _, own_none _ _, rfl, Nat.le_refl _⟩⟩
        case round =>
          obtain ⟨ii, A1, n1, c1, hi, rfl, rfl, hO⟩ := hrel
          by_cases hlt : ii < k
          · have i1 : (ii : Int) < k := by omega
            replace hO := Lib.hid hO
            go_wp2_with (fail)
            go_loopw [12, 14] (fun v p W => ∃ (d : Nat) (A1 : Option Addr) (n1 c1 : Nat), d ≤ 3 ∧ p = .int .i64 ((d : Int) + 1) ∧ v = .slice A1 n1 c1 ∧ OwnE w2 A1 n1 c1 (outs l k (3 * ii + d)) W) (fun _ p _ => 4 - (intOf p).toNat)
            case atStart => exact ⟨0, A1, n1, c1, by omega, rfl, rfl, hO.out⟩
            case round =>
              clear hO
              revert wr
              intro W1 hrel
              obtain ⟨dd, A2, n2, c2, hd, rfl, rfl, hO⟩ := hrel
              by_cases hlt2 : dd < 3
              · have p1 : (dd : Int) + 1 ≤ 3 := by omega
                replace hO := Lib.hid hO
                go_wp2_with (fail)
                go_loopw [15, 16] (fun f i W => ∃ j : Nat, j ≤ k + 2 ∧ i = .int .i64 j ∧ f = .bool (((seqs 1 k).take j).any (cnd l (head l, (ii : Int), (dd : Int) + 1))) ∧ Below W1.heap.size W1 W) (fun _ i _ => k + 2 - (intOf i).toNat)
                case atStart => exact ⟨0, by omega, rfl, rfl, Below.refl _ _⟩
                case round =>
                  obtain ⟨j, hj, rfl, rfl, hb⟩ := hrel
                  have hbw : Below w2.heap.size w2 wr := hO.out.bel.trans (hb.mono hO.out.bel.size)
                  by_cases hlt3 : j < k + 2
                  · obtain ⟨b, o, A3, n3, c3, ls, hAe, hbl, hcell, hls, hP⟩ := (hA.out.keep hbw).at_ hlt3
                    subst hAe
                    have hq : (seqs 1 k)[j]? = some ((seqs 1 k)[j]'(by have := hlen.out; omega)) := List.getElem?_eq_getElem _
                    generalize (seqs 1 k)[j]'(by have := hlen.out; omega) = x at hq
                    have hls2 : x.2 = ls := by
                      have := hgl.out j
                      rw [hls, hq] at this
                      simpa using this.symm
                    subst hls2
                    have hsl := seqs_len (List.mem_of_getElem? hq)
                    rw [hP.len] at hsl
                    have E1 : ES wr _ n l := hgo.out wr (hB.out.trans (hbw.mono hB.out.size))
                    have hC := common_any _ A3 n c n3 c3 l x.2 wr E1 hP.es hn (by have := hk8.out; omega)
                    have j0 : (0 : Int) ≤ j := by omega
                    have j1 : (j : Int) < ((k + 2 : Nat) : Int) := by omega
                    have hmore := any_more (f := cnd l (head l, (ii : Int), (dd : Int) + 1)) hq
                    have hnext : ∀ (W : World) (z : Bool), Below wr.heap.size wr W → ((((seqs 1 k).take j).any (cnd l (head l, (ii : Int), (dd : Int) + 1))) || cnd l (head l, (ii : Int), (dd : Int) + 1) x) = z → ∃ j' : Nat, j' ≤ k + 2 ∧ Value.int .i64 ((j : Int) + 1) = .int .i64 j' ∧ Value.bool z = .bool (((seqs 1 k).take j').any (cnd l (head l, (ii : Int), (dd : Int) + 1))) ∧ Below W1.heap.size W1 W := fun W z hbz hz => ⟨j + 1, by omega, by go_num, by rw [hmore, hz], hb.trans (hbz.mono hb.size)⟩
                    generalize ((seqs 1 k).take j).any (cnd l (head l, (ii : Int), (dd : Int) + 1)) = f at *
                    have hlx := hP.len
                    have n00 : (0 : Int) ≤ n := by omega
                    have e3 := hP.es
                    replace hnext := Lib.hid hnext; replace hP := Lib.hid hP; replace E1 := Lib.hid E1; replace hq := Lib.hid hq; replace hls := Lib.hid hls; replace hb := Lib.hid hb; replace hbw := Lib.hid hbw; replace hmore := Lib.hid hmore; replace e3 := Lib.hid e3
                    cases f with
                    | true =>
                      clear hC
                      go_wp2_with (fail)
                      exact ⟨hnext.out _ true (Below.refl _ _) (by simp), by simp [intOf]; omega⟩
                    | false =>
                      by_cases g2 : com l x.2 = n
                      · have d2 : (((com l x.2 : Nat) : Int) == (n : Int)) = true := by simp [g2]
                        by_cases g3 : n < n3
                        · have d3 : decide ((n : Int) < (n3 : Int)) = true := by simp; omega
                          have d3' : (n : Int) < (n3 : Int) := by omega
                          obtain ⟨bx, ox, ⟨x0, x1, x2⟩, rfl, hbx, hx, v0, v1, v2⟩ := ES.at_ e3.out g3
                          simp only at v0 v1 v2
                          have hcn := Lib.hid (cnd_at (x := (head l, (ii : Int), (dd : Int) + 1)) (m := x) (by rw [hl1]; exact g2) (by rw [hl1]; exact hx))
                          replace g2 := Lib.hid g2; replace hx := Lib.hid hx
                          clear v0
                          have hw : (x1 = ii ∧ x2 = (dd : Int) + 1) ∨ (x1 = ii ∧ x2 ≠ (dd : Int) + 1) ∨ x1 ≠ ii := by omega
                          generalize com l x.2 = z at *
                          rcases hw with ⟨rfl, rfl⟩ | ⟨rfl, hw⟩ | hw
                          · have hz2 := Lib.hid (hcn.out.trans (show _ = true from by simp))
                            clear hcn
                            go_wp2_with (fail)
                            refine hC.mono ?_
                            rintro e w5 ⟨rfl, b5⟩
                            have u1 := (b5.cell (p := ⟨bx, ox + n * 3 + 1, none⟩) hbx).trans v1
                            have u2 := (b5.cell (p := ⟨bx, ox + n * 3 + 2, none⟩) hbx).trans v2
                            clear hC
                            go_wp2_with (fail)
                            exact ⟨hnext.out _ true b5 (by rw [hz2.out]; rfl), by simp [intOf]; omega⟩
                          · have hz2 := Lib.hid (hcn.out.trans (show _ = false from by simp [hw]))
                            have hw' := beq_false_of_ne hw
                            clear hcn
                            go_wp2_with (fail)
                            refine hC.mono ?_
                            rintro e w5 ⟨rfl, b5⟩
                            have u1 := (b5.cell (p := ⟨bx, ox + n * 3 + 1, none⟩) hbx).trans v1
                            have u2 := (b5.cell (p := ⟨bx, ox + n * 3 + 2, none⟩) hbx).trans v2
                            clear hC
                            go_wp2_with (fail)
                            exact ⟨hnext.out _ false b5 (by rw [hz2.out]; rfl), by simp [intOf]; omega⟩
                          · have hz2 := Lib.hid (hcn.out.trans (show _ = false from by simp [hw]))
                            have hw' := beq_false_of_ne hw
                            clear hcn
                            go_wp2_with (fail)
                            refine hC.mono ?_
                            rintro e w5 ⟨rfl, b5⟩
                            have u1 := (b5.cell (p := ⟨bx, ox + n * 3 + 1, none⟩) hbx).trans v1
                            have u2 := (b5.cell (p := ⟨bx, ox + n * 3 + 2, none⟩) hbx).trans v2
                            clear hC
                            go_wp2_with (fail)
                            exact ⟨hnext.out _ false b5 (by rw [hz2.out]; rfl), by simp [intOf]; omega⟩
                        · have d3 : decide ((n : Int) < (n3 : Int)) = false := by simp; omega
                          have d3' : ¬ (n : Int) < (n3 : Int) := by omega
                          have hz2 := Lib.hid (cnd_short (l := l) (x := (head l, (ii : Int), (dd : Int) + 1)) (m := x) (by rw [hl1, hlx]; omega))
                          replace g2 := Lib.hid g2
                          generalize com l x.2 = z at *
                          go_wp2_with (fail)
                          refine hC.mono ?_
                          rintro e w5 ⟨rfl, b5⟩
                          clear hC
                          go_wp2_with (fail)
                          exact ⟨hnext.out _ false b5 (by rw [hz2.out]; rfl), by simp [intOf]; omega⟩
                      · have d2 : (((com l x.2 : Nat) : Int) == (n : Int)) = false := beq_false_of_ne (by omega)
                        have hz2 := Lib.hid (cnd_com (l := l) (x := (head l, (ii : Int), (dd : Int) + 1)) (m := x) (by rw [hl1]; exact g2))
                        replace g2 := Lib.hid g2
                        generalize com l x.2 = z at *
                        go_wp2_with (fail)
                        refine hC.mono ?_
                        rintro e w5 ⟨rfl, b5⟩
                        clear hC
                        go_wp2_with (fail)
                        exact ⟨hnext.out _ false b5 (by rw [hz2.out]; rfl), by simp [intOf]; omega⟩
                  · obtain rfl : j = k + 2 := by omega
                    have hfull : (seqs 1 k).take (k + 2) = seqs 1 k := List.take_of_length_le (by have := hlen.out; omega)
                    have hmay : ((seqs 1 k).take (k + 2)).any (cnd l (head l, (ii : Int), (dd : Int) + 1)) = may k l (head l, (ii : Int), (dd : Int) + 1) := by rw [hfull, may_any]
                    rw [hmay]
                    have hmore := outs_more (l := l) hlt hlt2
                    have hO2 := hO.out.keep hb
                    have hsm : n2 ≤ 24 := by have h3 := hO2.len; have h4 := outs_len l k (3 * ii + dd); have := hk8.out; omega
                    clear hmay hfull
                    cases hmy : may k l (head l, (ii : Int), (dd : Int) + 1) with
                    | true =>
                      rw [hmy, if_pos rfl] at hmore
                      obtain ⟨A', c', W', hrun, hO'⟩ := hO2.push (by omega) (head l, (ii : Int), (dd : Int) + 1) 1
                      rw [← hmore] at hO'
                      simp only at hrun
                      replace hO2 := Lib.hid hO2; replace hO' := Lib.hid hO'; replace hmore := Lib.hid hmore; replace hb := Lib.hid hb; replace hbw := Lib.hid hbw; replace hmy := Lib.hid hmy
                      go_wp2_with (fail)
                      exact ⟨⟨dd + 1, A', n2 + 1, c', by omega, by go_num, rfl, hO'.out⟩, by simp [intOf]; omega⟩
                    | false =>
                      rw [hmy, if_neg (by decide)] at hmore
                      rw [← hmore] at hO2
                      replace hO2 := Lib.hid hO2; replace hmore := Lib.hid hmore; replace hb := Lib.hid hb; replace hbw := Lib.hid hbw; replace hmy := Lib.hid hmy
                      go_wp2_with (fail)
                      exact ⟨⟨dd + 1, A2, n2, c2, by omega, by go_num, rfl, hO2.out⟩, by simp [intOf]; omega⟩
              · obtain rfl : dd = 3 := by omega
                replace hO := Lib.hid hO
                go_wp2_with (fail)
                exact ⟨⟨ii + 1, A2, n2, c2, by omega, by go_num, rfl, by rw [show 3 * (ii + 1) = 3 * ii + 3 from by omega]; exact hO.out⟩, by simp [intOf]; omega⟩
          · obtain rfl : ii = k := by omega
            have hF := hO.re hB.out
            rw [outs_all] at hF
            replace hO := Lib.hid hO; replace hF := Lib.hid hF
            go_wp2_with (fail)
            refine bodyPost_ret (by simp [results, Try.results15, go_sem, *]; try with_reducible rfl) rfl ?_
            exact ⟨A1, n1, c1, by have q := hz.out; simp [q], by have q := hz.out; rw [q]; exact hF.out⟩
    · have hz := Lib.hid (show nextR (k : Int) l = ([], 9) from by simp [nextR, hk, hL])
      have e1 : (legalR k l).1 = false := by simp [legalR, hk, hL]
      have e2 : (legalR k l).2.2 = 0 := by simp [legalR, hk]
      rw [e1, e2] at hR
      generalize (legalR (k : Int) l).2.1 = lg at hR
      clear h1 hk hL e1 e2
      go_wp2_with (fail)
      refine hR.mono ?_
      rintro e w1 ⟨rfl, b1⟩
      clear hR
      go_wp2_with (fail)
      refine bodyPost_ret (by simp [results, Try.results15, go_sem, *]; try with_reducible rfl) rfl ?_
      exact ⟨none, 0, 0, by have q := hz.out; simp [q], by have q := hz.out; rw [q]; exact ⟨b1, own_none _ _, rfl, Nat.le_refl _⟩⟩
  · have hz := Lib.hid (show nextR N l = ([], 2) from by simp [nextR, hk])
    have e2 : (legalR N l).2.2 = 2 := by simp [legalR, hk]
    rw [e2] at hR
    generalize (legalR N l).2.1 = lg at hR
    generalize (legalR N l).1 = lf at hR
    clear h1 hk e2
    go_wp2_with (fail)
    refine hR.mono ?_
    rintro e w1 ⟨rfl, b1⟩
    clear hR
    go_wp2_with (fail)
    refine bodyPost_ret (by simp [results, Try.results15, go_sem, *]; try with_reducible rfl) rfl ?_
    exact ⟨none, 0, 0, by have q := hz.out; simp [q], by have q := hz.out; rw [q]; exact ⟨b1, own_none _ _, rfl, Nat.le_refl _⟩⟩
end Go.Proofs.Ythmkfbabacehnaa
