/- All whole sequences: the document's. -/
import Derived.Test.YthmkfbabacehnaaLls
namespace Go.Proofs.Ythmkfbabacehnaa
open Go.RowKit Go.Shelf
set_option linter.unusedSimpArgs false
set_option linter.unusedVariables false
set_option linter.unusedSectionVars false
set_option maxRecDepth 10000
attribute [local go_sem ↓] hideAppend
theorem rev_more {s p : Int} {k m : Nat} (h : m < k) : (ups s k p).reverse.take (m + 1) = (ups s k p).reverse.take m ++ [(s, (k : Int) - 1 - m, p)] := by
  have hl : (ups s k p).length = k := by simp [ups]
  rw [List.take_add_one]
  congr 1
  rw [List.getElem?_reverse (by rw [hl]; omega), hl]
  simp only [ups, List.getElem?_map]
  rw [List.getElem?_range (by omega)]
  simp only [Option.map_some, Option.toList]
  congr 2
  congr 1
  omega
def seqAs (k : Nat) : List (List Ef) := (List.range k).map (seqA 1)
theorem seqAs_more (k : Nat) : seqAs k ++ [seqA 1 k] = seqAs (k + 1) := by simp [seqAs, List.range_succ]
theorem allS_ok {N : Nat} (h : 1 ≤ N ∧ N ≤ 8) : allS (N : Int) = (seqAs (N + 1) ++ [seqD 1 N], 0) := by
  have : okN (N : Int) = true := by simp [okN]; omega
  unfold allS
  rw [if_pos this]
  simp [seqs, seqAs, Function.comp_def]
theorem allS_no {N : Int} (h : ¬ (1 ≤ N ∧ N ≤ 8)) : allS N = ([], 2) := by
  have : okN N = false := by simp only [okN, Bool.and_eq_false_iff, decide_eq_false_iff_not]; omega
  unfold allS
  rw [this]; rfl
set_option maxRecDepth 100000 in
set_option maxHeartbeats 16000000 in
theorem rall_any (N : Int) (w : World) : Calls Try.prog 18 #[.int .i64 N] w fun e w' => ∃ A n c xs, e = .returned (.tuple #[.slice A n c, .int .i64 (allS N).2]) ∧ LLS w A n c xs (allS N).1 w' := by
  go_enter Try.func18, Try.ntmps18
  by_cases hN : 1 ≤ N ∧ N ≤ 8
  · obtain ⟨k, rfl⟩ : ∃ k : Nat, N = k := ⟨N.toNat, by omega⟩
    have hk8 : 1 ≤ k ∧ k ≤ 8 := by omega
    have hz := Lib.hid (allS_ok hk8)
    obtain ⟨N1, N2⟩ := hN
    go_wp2_with (fail)
    go_loopw [4, 5] (fun v i wr => ∃ (j : Nat) (A : Option Addr) (c : Nat) (xs : List (Option Addr × Nat × Nat)), j ≤ k + 1 ∧ i = .int .i64 j ∧ v = .slice A j c ∧ LLS w A j c xs (seqAs j) wr) (fun _ i _ => k + 1 - (intOf i).toNat)
    case atStart => exact ⟨0, none, 0, [], by omega, rfl, rfl, LLS.nil (Below.refl _ _)⟩
    case round =>
      revert wr
      intro W1 hrel
      obtain ⟨j, A, c, xs, hj, rfl, rfl, hO⟩ := hrel
      by_cases hlt : j < k + 1
      · replace hO := Lib.hid hO
        go_wp2_with (fail)
        go_loopw [6, 7] (fun v i W2 => ∃ (m : Nat) (A1 : Option Addr) (c1 : Nat), m ≤ j ∧ i = .int .i64 m ∧ v = .slice A1 m c1 ∧ OwnE W1 A1 m c1 (ups 1 m 1) W2) (fun _ i _ => j - (intOf i).toNat)
        case atStart => exact ⟨0, none, 0, by omega, rfl, rfl, ⟨Below.refl _ _, World.ownsRow_nil _ _ _ _, rfl, by omega⟩⟩
        case round =>
          obtain ⟨m, A1, c1, hm, rfl, rfl, hI⟩ := hrel
          by_cases hlt2 : m < j
          · obtain ⟨A', c', W', hrun, hO'⟩ := hI.push (by omega) (1, (m : Int), 1) 1
            rw [ups_more] at hO'
            simp only at hrun
            replace hI := Lib.hid hI
            replace hO' := Lib.hid hO'
            go_wp2_with (fail)
            exact ⟨⟨m + 1, A', c', by omega, by go_num, rfl, hO'.out⟩, by simp [intOf]; omega⟩
          · obtain rfl : m = j := by omega
            replace hI := Lib.hid hI
            go_wp2_with (fail)
            go_loopw [6, 8] (fun v i W2 => ∃ (d : Nat) (A1 : Option Addr) (c1 : Nat), d ≤ m ∧ i = .int .i64 ((m : Int) - 1 - d) ∧ v = .slice A1 (m + d) c1 ∧ OwnE W1 A1 (m + d) c1 (ups 1 m 1 ++ (ups 1 m 2).reverse.take d) W2) (fun _ i _ => (intOf i + 1).toNat)
            case atStart => exact ⟨0, A1, c1, by omega, by go_num, rfl, by simpa using hI.out⟩
            case round =>
              clear hI
              obtain ⟨d, A2, c2, hd, rfl, rfl, hI⟩ := hrel
              by_cases hlt3 : d < m
              · obtain ⟨A', c', W', hrun, hO'⟩ := hI.push (by omega) (1, (m : Int) - 1 - d, 2) 1
                rw [List.append_assoc, ← rev_more hlt3] at hO'
                simp only at hrun
                have i0 : (0 : Int) ≤ (m : Int) - 1 - d := by omega
                replace hI := Lib.hid hI
                replace hO' := Lib.hid hO'
                go_wp2_with (fail)
                exact ⟨⟨d + 1, A', c', by omega, by go_num, by rw [Nat.add_assoc], hO'.out⟩, by simp [intOf]; omega⟩
              · obtain rfl : d = m := by omega
                have hl : (ups 1 d 2).reverse.take d = (ups 1 d 2).reverse := List.take_of_length_le (by simp [ups])
                rw [hl] at hI
                have hA : OwnE W1 A2 (d + d) c2 (seqA 1 d) wr := hI
                have hO2 := hO.out.keep hA.bel
                have hA2 := hA.re hO.out.bel
                obtain ⟨A', c', W', hrun, hO', _⟩ := hO2.push hA2 (by omega) 1
                rw [seqAs_more] at hO'
                have i0 : ¬ (0 : Int) ≤ (d : Int) - 1 - d := by omega
                replace hI := Lib.hid hI; replace hA := Lib.hid hA; replace hA2 := Lib.hid hA2; replace hO2 := Lib.hid hO2; replace hO' := Lib.hid hO'
                clear hl
                go_wp2_with (fail)
                exact ⟨⟨d + 1, A', c', _, by omega, by go_num, rfl, hO'.out⟩, by simp [intOf]; omega⟩
      · obtain rfl : j = k + 1 := by omega
        replace hO := Lib.hid hO
        go_wp2_with (fail)
        go_loopw [9, 10] (fun v i W2 => ∃ (m : Nat) (A1 : Option Addr) (c1 : Nat), m ≤ k ∧ i = .int .i64 m ∧ v = .slice A1 m c1 ∧ OwnE W1 A1 m c1 (ups 1 m 1) W2) (fun _ i _ => k - (intOf i).toNat)
        case atStart => exact ⟨0, none, 0, by omega, rfl, rfl, ⟨Below.refl _ _, World.ownsRow_nil _ _ _ _, rfl, by omega⟩⟩
        case round =>
          obtain ⟨m, A1, c1, hm, rfl, rfl, hI⟩ := hrel
          by_cases hlt2 : m < k
          · obtain ⟨A', c', W', hrun, hO'⟩ := hI.push (by omega) (1, (m : Int), 1) 1
            rw [ups_more] at hO'
            simp only at hrun
            replace hI := Lib.hid hI
            replace hO' := Lib.hid hO'
            go_wp2_with (fail)
            exact ⟨⟨m + 1, A', c', by omega, by go_num, rfl, hO'.out⟩, by simp [intOf]; omega⟩
          · obtain rfl : m = k := by omega
            replace hI := Lib.hid hI
            go_wp2_with (fail)
            go_loopw [9, 11] (fun v i W2 => ∃ (d : Nat) (A1 : Option Addr) (c1 : Nat), d ≤ m ∧ i = .int .i64 d ∧ v = .slice A1 (m + d) c1 ∧ OwnE W1 A1 (m + d) c1 (ups 1 m 1 ++ ups 1 d 3) W2) (fun _ i _ => m - (intOf i).toNat)
            case atStart => exact ⟨0, A1, c1, by omega, rfl, rfl, by simpa [ups] using hI.out⟩
            case round =>
              clear hI
              obtain ⟨d, A2, c2, hd, rfl, rfl, hI⟩ := hrel
              by_cases hlt3 : d < m
              · obtain ⟨A', c', W', hrun, hO'⟩ := hI.push (by omega) (1, (d : Int), 3) 1
                rw [List.append_assoc, ups_more] at hO'
                simp only at hrun
                replace hI := Lib.hid hI
                replace hO' := Lib.hid hO'
                go_wp2_with (fail)
                exact ⟨⟨d + 1, A', c', by omega, by go_num, by rw [Nat.add_assoc], hO'.out⟩, by simp [intOf]; omega⟩
              · obtain rfl : d = m := by omega
                have hA : OwnE W1 A2 (d + d) c2 (seqD 1 d) wr := hI
                have hO2 := hO.out.keep hA.bel
                have hA2 := hA.re hO.out.bel
                obtain ⟨A', c', W', hrun, hO', _⟩ := hO2.push hA2 (by omega) 1
                replace hI := Lib.hid hI; replace hA := Lib.hid hA; replace hA2 := Lib.hid hA2; replace hO2 := Lib.hid hO2; replace hO' := Lib.hid hO'
                go_wp2_with (fail)
                refine bodyPost_ret (by simp [results, Try.results18, go_sem, *]; try with_reducible rfl) rfl ?_
                exact ⟨A', d + 1 + 1, c', _, by have q := hz.out; simp [q], by have q := hz.out; rw [q]; exact hO'.out⟩
  · have hz := allS_no hN
    have hw : N < 1 ∨ 8 < N := by omega
    rcases hw with hw | hw
    all_goals
      go_wp2_with (fail)
      refine bodyPost_ret (by simp [results, Try.results18, go_sem, *]; try with_reducible rfl) rfl ?_
      exact ⟨none, 0, 0, [], by simp [hz], by rw [hz]; exact LLS.nil (Below.refl _ _)⟩
end Go.Proofs.Ythmkfbabacehnaa
