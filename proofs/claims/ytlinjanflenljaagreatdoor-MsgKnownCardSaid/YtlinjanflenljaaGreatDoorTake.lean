/- The program's reader: contracts. -/
import Derived.Test.YtlinjanflenljaaGreatDoorRead
import Derived.Test.YtlinjanflenljaaGreatDoorClone
import Derived.Laws.BytesArg
namespace Go.Proofs.YtlinjanflenljaaGreatDoor
open Go.RowKit
set_option linter.unusedSimpArgs false
set_option linter.unusedVariables false
set_option linter.unusedSectionVars false
set_option maxRecDepth 10000

theorem add_of_add (a : Addr) (i j : Nat) : (a.add i).add j = a.add (i + j) := by
  unfold Addr.add
  by_cases hi : i = 0 <;> by_cases hj : j = 0 <;> simp [hi, hj, Nat.add_assoc]
theorem RB.cut {w : World} {A : Option Addr} {n k c : Nat} {xs : List UInt8} (h : RB w A n xs) (hk : k ≤ n) (hc : n ≤ c) : RB w (if c = k then A else A.map (·.add k)) (n - k) (xs.drop k) := by
  refine ⟨by rw [List.length_drop, h.1], fun hn => ?_⟩
  obtain ⟨ad, rfl, hb, hcell⟩ := h.2 (by omega)
  rw [if_neg (by omega)]
  refine ⟨ad.add k, rfl, by rw [block_of_add]; exact hb, fun j u hu => ?_⟩
  rw [add_of_add]
  refine hcell _ u ?_
  rw [← hu]
  simp [bvs, List.getElem?_drop]
theorem RB.first {w : World} {A : Option Addr} {n k : Nat} {xs : List UInt8} (h : RB w A n xs) (hk : k ≤ n) : RB w A k (xs.take k) := by
  refine ⟨by rw [List.length_take, h.1]; omega, fun hn => ?_⟩
  obtain ⟨ad, rfl, hb, hcell⟩ := h.2 (by omega)
  refine ⟨ad, rfl, hb, fun j u hu => hcell j u ?_⟩
  have hj := (List.getElem?_eq_some_iff.1 hu).1
  rw [bvs_length, List.length_take] at hj
  rw [← hu]
  simp only [bvs, List.getElem?_map, List.getElem?_take]
  rw [if_pos (by omega)]
/-- string(b). -/
theorem RB.str {w : World} {A : Option Addr} {n : Nat} {xs : List UInt8} (h : RB w A n xs) (c : Nat) : (convert 22 9 (.slice A n c)).run Tryz.prog w = .ok (.string ⟨xs.toArray⟩) w := by
  obtain ⟨hl, hc⟩ := h
  cases A with
  | none =>
    have h0 : n = 0 := by
      rcases Nat.eq_zero_or_pos n with h0 | h0
      · exact h0
      · obtain ⟨ad, e, _⟩ := hc h0; cases e
    subst h0
    have hx : xs = [] := List.eq_nil_of_length_eq_zero hl
    subst hx
    exact run_convert_bytes_nil w 22 5 Tryz.underlying22 Tryz.underlying5 0 c 9 Tryz.underlying9
  | some a =>
    subst hl
    refine run_convert_bytes_back w 22 9 5 a c xs Tryz.underlying22 Tryz.underlying5 Tryz.underlying9 fun j hj => ?_
    obtain ⟨ad, e, _, hc⟩ := hc (by omega)
    have e2 : a = ad := Option.some.inj e
    rw [e2]
    exact hc j _ (by simp [bvs, bv, hj])

def intV (r : Option (Nat × Nat)) : Value := match r with
  | some (v, k) => .tuple #[.int .i64 (zag v), .int .i64 k]
  | none => .tuple #[.int .i64 0, .int .i64 0]
def boolV (r : Option (Nat × Nat)) : Value := match r with
  | some (v, k) => if 1 < v then .tuple #[.bool false, .int .i64 0] else .tuple #[.bool (v == 1), .int .i64 k]
  | none => .tuple #[.bool false, .int .i64 0]
def textV (xs : List UInt8) : Value := match dec xs with
  | some (v, k) => if 65536 < v ∨ xs.length - k < v then .tuple #[.string ByteArray.empty, .int .i64 0] else .tuple #[.string ⟨((xs.drop k).take v).toArray⟩, .int .i64 ((k + v : Nat) : Int)]
  | none => .tuple #[.string ByteArray.empty, .int .i64 0]

section
variable (A : Option Addr) (n c : Nat) (xs : List UInt8) (w : World) (h : RB w A n xs) (hn : n ≤ 70368744177664) (hc : n ≤ c)
include h hn
include hc
set_option maxHeartbeats 1000000 in
theorem text1_p : Calls Tryz.prog 115 #[.slice A n c] w fun e w' => e = .returned (textV xs) ∧ w = w' := by
  cases hd : dec xs with
  | none =>
    have hd := Lib.hid hd
    go_enter Tryz.func115, Tryz.ntmps115
    go_wp2_with (first | (go_at_call 108; refine (number_p A n _ xs _ h hn).mono ?_; rintro e w' ⟨he, rfl⟩; rw [hd.out] at he; simp only [numV] at he; subst he))
    go_ret2
    exact ⟨by unfold textV; rw [hd.out]; rfl, rfl⟩
  | some r =>
    obtain ⟨v, k⟩ := r
    have hs := dec_sound hd
    obtain ⟨hv, _, hk0, hk, _⟩ := hs
    have hx := h.1
    rw [hx] at hk
    have hd := Lib.hid hd
    have hx := Lib.hid hx
    have hk1 : ((k : Int) == 0) = false := by simp; omega
    by_cases h1 : 65536 < v
    · have hi1 : (65536 : Int) < (v : Int) := by omega
      have hfin := Lib.hid (show textV xs = .tuple #[.string ByteArray.empty, .int .i64 0] from by unfold textV; rw [hd.out]; exact if_pos (.inl h1))
      clear h1
      go_enter Tryz.func115, Tryz.ntmps115
      go_wp2_with (first | (go_at_call 108; refine (number_p A n _ xs _ h hn).mono ?_; rintro e w' ⟨he, rfl⟩; rw [hd.out] at he; simp only [numV] at he; subst he))
      go_ret2
      exact ⟨by rw [hfin.out]; rfl, rfl⟩
    by_cases h2 : n - k < v
    · have hi1 : ¬ (65536 : Int) < (v : Int) := by omega
      have hi2 : (n : Int) - (k : Int) < (v : Int) := by omega
      have hfin := Lib.hid (show textV xs = .tuple #[.string ByteArray.empty, .int .i64 0] from by unfold textV; rw [hd.out]; exact if_pos (.inr (by rw [hx.out]; exact h2)))
      clear h1 h2
      go_enter Tryz.func115, Tryz.ntmps115
      go_wp2_with (first | (go_at_call 108; refine (number_p A n _ xs _ h hn).mono ?_; rintro e w' ⟨he, rfl⟩; rw [hd.out] at he; simp only [numV] at he; subst he))
      go_ret2
      exact ⟨by rw [hfin.out]; rfl, rfl⟩
    · have hi1 : ¬ (65536 : Int) < (v : Int) := by omega
      have hi2 : ¬ (n : Int) - (k : Int) < (v : Int) := by omega
      have hfin := Lib.hid (show textV xs = .tuple #[.string ⟨((xs.drop k).take v).toArray⟩, .int .i64 ((k + v : Nat) : Int)] from by unfold textV; rw [hd.out]; exact if_neg (by rw [hx.out]; omega))
      have h3 := (h.cut hk hc).first (k := v) (by omega)
      by_cases hck : c = k
      · rw [if_pos hck] at h3
        have h4 := h3.str 0
        subst hck
        clear h1 h2
        go_enter Tryz.func115, Tryz.ntmps115
        go_wp2_with (first | (go_at_call 108; refine (number_p A n _ xs _ h hn).mono ?_; rintro e w' ⟨he, rfl⟩; rw [hd.out] at he; simp only [numV] at he; subst he))
        go_ret2
        exact ⟨by rw [hfin.out]; rfl, rfl⟩
      · rw [if_neg hck] at h3
        have h4 := h3.str (c - k)
        clear h1 h2
        go_enter Tryz.func115, Tryz.ntmps115
        go_wp2_with (first | (go_at_call 108; refine (number_p A n _ xs _ h hn).mono ?_; rintro e w' ⟨he, rfl⟩; rw [hd.out] at he; simp only [numV] at he; subst he))
        go_ret2
        exact ⟨by rw [hfin.out]; rfl, rfl⟩
end
end Go.Proofs.YtlinjanflenljaaGreatDoor
