/- WireFails: the walk. -/
import Derived.Test.YtcapeefhbkgogaaPut

namespace Go.Proofs.Ytcapeefhbkgogaa
open Go.RowKit
theorem u8_lt' (x : UInt8) : x.toNat < 256 := x.toNat_lt
set_option linter.unusedSimpArgs false
set_option linter.unusedVariables false
set_option linter.unusedSectionVars false
set_option maxRecDepth 10000
theorem getV_none (k : Nat) : getV none k = ⟨k, 0, ByteArray.empty⟩ := by
  have h1 : (rdU none).1 = 0 := rfl
  have h2 : (IntKind.u64.wrap (rdI none).1).toNat = 0 := by decide
  have h3 : strOf (rdT none).1 = ByteArray.empty := rfl
  have h4 : (rdB none).1 = false := rfl
  unfold getV
  rw [h1, h2, h3, h4]
  split
  · rfl
  · split
    · rfl
    · split
      · rfl
      · simp
theorem getS_none (k : Nat) : getS none k = none := by
  unfold getS
  split
  · rfl
  · split
    · rfl
    · split <;> rfl
def getAll (s : RS) (ks : List UInt8) : RS := ks.foldl (fun s k => getS s k.toNat) s
theorem getAll_take {s : RS} {ks : List UInt8} {i : Nat} {k : UInt8} (h : ks[i]? = some k) : getAll s (ks.take (i + 1)) = getS (getAll s (ks.take i)) k.toNat := by
  obtain ⟨hi, rfl⟩ := List.getElem?_eq_some_iff.1 h
  rw [List.take_succ_eq_append_getElem hi]
  simp only [getAll, List.foldl_append, List.foldl_cons, List.foldl_nil]
/-- A reader of the call's own, in some state. -/
def RdS (B : Nat) (w : World) (g : Nat) (s : RS) (W : World) : Prop := ∃ A c, RdO B W g A c s ∧ Below B w W
theorem RdS.step {B : Nat} {w W W' : World} {g : Nat} {s s' : RS} {A : Option Addr} {c : Nat} (h : RdO B W g A c s) (hb : Below B w W) (hB : B ≤ W.heap.size) (ht : RdTo W g s' W') : RdS B w g s' W' := h.step hb hB ht
set_option maxHeartbeats 4000000 in
theorem fails_walk (A : Option Addr) (n c : Nat) (b : List UInt8) (A1 : Option Addr) (n1 c1 : Nat) (ks : List UInt8) (A2 : Option Addr) (n2 c2 : Nat) (ls : List UInt8) (w : World) (h : RB w A n b) (hn : n ≤ 140737488355328)
    (h1 : RB w A1 n1 ks) (hc1 : n1 ≤ c1) (hn1 : n1 ≤ 140737488355328) (h2 : RB w A2 n2 ls) (hc2 : n2 ≤ c2) (hn2 : n2 ≤ 140737488355328) :
    Calls Try.prog 9 #[.slice A n c, .slice A1 n1 c1, .slice A2 n2 c2] w fun e w' => e = .returned (.bool true) ∧ Below w.heap.size w w' := by
  by_cases hb1 : 1000 < n
  · go_enter Try.func9, Try.ntmps9
    have hi1 : (1000 : Int) < (n : Int) := by omega
    go_wp2_with (fail)
    refine (works_any _).mono ?_
    rintro e w2 ⟨rfl, b2⟩
    go_wp2_with (fail)
    go_ret
    exact ⟨rfl, b2⟩
  have hi1 : ¬ (1000 : Int) < (n : Int) := by omega
  clear hb1
  obtain ⟨m1, hm1, hm1n, hm1c⟩ : ∃ m : Nat, min (n1 : Int) 50 = (m : Int) ∧ m ≤ n1 ∧ m ≤ 50 := ⟨min n1 50, by omega, by omega, by omega⟩
  obtain ⟨m2, hm2, hm2n, hm2c⟩ : ∃ m : Nat, min (n2 : Int) 50 = (m : Int) ∧ m ≤ n2 ∧ m ≤ 50 := ⟨min n2 50, by omega, by omega, by omega⟩
  go_enter Try.func9, Try.ntmps9
  go_wp2_with (fail)
  refine (read_any h (by omega)).mono ?_
  rintro e w2 ⟨g2, A3, c3, rfl, l2, i2, hr2, b2⟩
  have hR : RdS w.heap.size w g2 (getAll (some b) (ks.take 0)) w2 := ⟨A3, c3, ⟨i2, l2⟩, b2⟩
  clear i2 b2 hr2
  go_wp2_with (fail)
  go_loopw [24] (fun i wr => ∃ k : Nat, k ≤ m1 ∧ i = .int .i64 k ∧ RdS w.heap.size w g2 (getAll (some b) (ks.take k)) wr) (fun i _ => m1 - (intOf i).toNat)
  case atStart => exact ⟨0, by omega, rfl, hR⟩
  case round =>
    obtain ⟨k, hk, rfl, B1, d1, o1, b1⟩ := hrel
    clear hR
    by_cases hlt : k < m1
    · obtain ⟨ad, x, rfl, hx, hc⟩ := (h1.keep (w' := wr) b1.size fun j hj _ => b1.block j hj).at_ (k := k) (by omega)
      have htk := Lib.hid (getAll_take (s := some b) hx)
      replace hx := Lib.hid hx
      go_wp2_with (fail)
      refine (get_any o1.is x.toNat (u8_lt' x)).mono ?_
      rintro e w6 ⟨rfl, t6⟩
      have r6 := RdS.step o1 b1 b1.size t6
      rw [← htk.out] at r6
      clear o1 b1 t6 hc
      go_wp2_with (fail)
      go_roundw
      case rel => exact ⟨k + 1, by omega, by go_num, r6⟩
      case measure => simp [intOf]; omega
    · obtain ⟨wo, rfl⟩ : ∃ wo : World, wo = wr := ⟨_, rfl⟩
      go_wp2_with (fail)
      refine (fail_p o1.is).mono ?_
      rintro e w6 ⟨rfl, t6⟩
      have hR : RdS w.heap.size w g2 none w6 := RdS.step o1 b1 b1.size t6
      clear o1 b1 t6
      go_wp2_with (fail)
      go_loopw [40] (fun i wr => ∃ k : Nat, k ≤ m2 ∧ i = .int .i64 k ∧ RdS w.heap.size w g2 none wr) (fun i _ => m2 - (intOf i).toNat)
      case atStart => exact ⟨0, by omega, rfl, hR⟩
      case round =>
        obtain ⟨k, hk, rfl, B1, d1, o1, b1⟩ := hrel
        clear hR
        by_cases hlt : k < m2
        · obtain ⟨ad, x, rfl, hx, hc⟩ := (h2.keep (w' := wr) b1.size fun j hj _ => b1.block j hj).at_ (k := k) (by omega)
          clear hx
          go_wp2_with (fail)
          refine (get_any o1.is x.toNat (u8_lt' x)).mono ?_
          rintro e w7 ⟨he, t6⟩
          rw [getV_none] at he
          simp only [VV.val'] at he
          subst he
          rw [getS_none] at t6
          have r6 := RdS.step o1 b1 b1.size t6
          clear o1 b1 t6 hc
          go_wp2_with (fail)
          exact ⟨⟨k + 1, by omega, by go_num, r6⟩, by simp [intOf]; omega⟩
        · have q7 : (endE' none == 10) = true := by decide
          go_wp2_with (fail)
          refine (left_p o1.is).mono ?_
          rintro e w7 ⟨rfl, rfl⟩
          go_wp2_with (fail)
          refine (end_p o1.is).mono ?_
          rintro e w7 ⟨rfl, rfl⟩
          go_wp2_with (fail)
          refine (works_any _).mono ?_
          rintro e w7 ⟨rfl, b7⟩
          go_wp2_with (fail)
          go_ret
          exact ⟨rfl, b1.trans (b7.mono b1.size)⟩
end Go.Proofs.Ytcapeefhbkgogaa
