/- WireWrites: the walk. -/
import Derived.Test.YtcapeefhbkgogaaHelp
namespace Go.Proofs.Ytcapeefhbkgogaa
open Go.RowKit
set_option linter.unusedSimpArgs false
set_option linter.unusedVariables false
set_option linter.unusedSectionVars false
set_option maxRecDepth 10000
/-- The bytes of a list of values. -/
def encs (vs : List VV) : List UInt8 := (vs.map encV).flatten
theorem encs_take {vs : List VV} {i : Nat} {v : VV} (h : vs[i]? = some v) : encs (vs.take (i + 1)) = encs (vs.take i) ++ encV v := by
  obtain ⟨hi, rfl⟩ := List.getElem?_eq_some_iff.1 h
  rw [List.take_succ_eq_append_getElem hi]
  simp only [encs, List.map_append, List.flatten_append, List.map_cons, List.map_nil, List.flatten_cons, List.flatten_nil, List.append_nil]
theorem encV_len {v : VV} (h : v.Ok) : (encV v).length ≤ 10 + v.s.size := by
  have h1 := enc_len h.n
  have h2 := enc_len (zig_lt (wrap64_in v.n).1 (wrap64_in v.n).2)
  have h3 := enc_len (n := v.s.size) (by have := h.s; omega)
  have h4 := enc_len (n := v.n % 2) (by omega)
  unfold encV
  split
  · omega
  · split
    · omega
    · split
      · have : v.s.data.toList.length = v.s.size := by rw [Array.length_toList]; rfl
        rw [List.length_append, this]
        omega
      · omega
theorem encs_len {vs : List VV} (h : ∀ v ∈ vs, VV.Ok v) : (encs vs).length ≤ vs.length * 10 + total vs := by
  induction vs with
  | nil => simp [encs]
  | cons v vs ih =>
    have h1 := encV_len (h v (List.mem_cons_self ..))
    have h2 := ih fun u hu => h u (List.mem_cons_of_mem _ hu)
    simp only [encs, total, List.map_cons, List.flatten_cons, List.length_append, List.sum_cons, List.length_cons] at *
    omega
theorem total_take_le (vs : List VV) (k : Nat) : total (vs.take k) ≤ total vs := by
  have : total vs = total (vs.take k) + total (vs.drop k) := by
    unfold total
    rw [← List.sum_append, ← List.map_append, List.take_append_drop]
  omega
theorem size_le_total {vs : List VV} {v : VV} (h : v ∈ vs) : v.s.size ≤ total vs := by
  obtain ⟨i, hi⟩ := List.getElem?_of_mem h
  have h1 := total_take hi
  have h2 := total_take_le vs (i + 1)
  omega
theorem few_lin {vs : List VV} (h : fewB vs = true) : vs.length ≤ 100 ∧ total vs ≤ 100000 := by
  unfold fewB at h
  rw [Bool.and_eq_true, decide_eq_true_iff, decide_eq_true_iff] at h
  exact h
theorem encs_take_len {vs : List VV} (hv : ∀ v ∈ vs, VV.Ok v) (h : fewB vs = true) (k : Nat) : (encs (vs.take k)).length ≤ 101000 := by
  have h1 := encs_len (vs := vs.take k) (fun u hu => hv u (List.mem_of_mem_take hu))
  have h2 := total_take_le vs k
  have h3 := few_lin h
  have h4 : (vs.take k).length ≤ 100 := by rw [List.length_take]; omega
  omega
set_option maxHeartbeats 4000000 in
theorem writes_walk (A : Option Addr) (n c : Nat) (vs : List VV) (w : World) (h : VS w.heap.size w A n vs) (hv : ∀ v ∈ vs, VV.Ok v) (hn : n ≤ 70368744177664) :
    Calls Try.prog 3 #[.slice A n c] w fun e w' => e = .returned (.bool true) ∧ Below w.heap.size w w' := by
  rcases Bool.eq_false_or_eq_true (fewB vs) with hf | hf
  · replace hf := Lib.hid hf
    go_enter Try.func3, Try.ntmps3
    go_wp2_with (fail)
    refine (few_any A n c vs _ h hv hn).mono ?_
    rintro e w1 ⟨he, b1⟩
    rw [hf.out] at he
    subst he
    go_wp2_with (fail)
    refine (wNew_any _).mono ?_
    rintro e w2 ⟨rfl, rfl⟩
    go_wp2_with (fail)
    refine (rNew_any _).mono ?_
    rintro e w2 ⟨rfl, rfl⟩
    have hT0 : TwoTo w.heap.size w w1.heap.size (w1.heap.size + 1) (encs (vs.take 0)) ((w1.alloc (.cells #[.bool true, .slice none 0 0] 46)).alloc (.cells #[.bool true, .slice none 0 0] 71)) := by
      rw [show encs (vs.take 0) = [] from by simp [encs]]
      refine ⟨none, 0, none, 0, (WrO.new w1 b1.size).below ((Below.refl _ _).alloc (Nat.le_refl _) _), ?_, (fun k hk => by cases hk), (b1.alloc b1.size _).alloc (by simp; exact Nat.le_succ_of_le b1.size) _⟩
      have := WrO.new (T := 71) (w1.alloc (.cells #[.bool true, .slice none 0 0] 46)) (B := w.heap.size) (by simp; exact Nat.le_succ_of_le b1.size)
      simpa using this
    go_wp2_with (fail)
    go_loopw [15] (fun i wr => ∃ k : Nat, k ≤ n ∧ i = .int .i64 k ∧ TwoTo w.heap.size w w1.heap.size (w1.heap.size + 1) (encs (vs.take k)) wr) (fun i _ => n - (intOf i).toNat)
    case atStart => exact ⟨0, by omega, rfl, hT0⟩
    case round =>
      obtain ⟨k, hk, rfl, A1, c1, A2, c2, hT⟩ := hrel
      have hle := encs_take_len hv hf.out k
      by_cases hlt : k < n
      · obtain ⟨b, o, v, rfl, hbl, hvk, e1, e2, e3⟩ := (h.below hT.below).at_ hlt
        have hvm := List.mem_of_getElem? hvk
        have hst := size_le_total hvm
        have hfl := (few_lin hf.out).2
        have htk := Lib.hid (encs_take hvk)
        replace hvk := Lib.hid hvk
        have hT1 := hT.belowW hT.below.size ((Below.refl _ wr).alloc (Nat.le_refl _) (.cells #[.int .u8 v.k, .int .u64 v.n, .string v.s] 31))
        have hB1 : w.heap.size ≤ (wr.alloc (.cells #[.int .u8 v.k, .int .u64 v.n, .string v.s] 31)).heap.size := hT1.below.size
        go_wp2_with (fail)
        refine (write_any hT1 hB1 (by omega) v (hv v hvm) (by omega)).mono ?_
        rintro e w2 ⟨rfl, A3, c3, A4, c4, hT2⟩
        rw [← htk.out] at hT2
        have hle2 := encs_take_len hv hf.out (k + 1)
        clear hT hT1 e1 e2 e3
        go_wp2_with (fail)
        refine (wLen_any _ _ _ _ _ hT2.a.is (by omega)).mono ?_
        rintro e w3 ⟨rfl, rfl⟩
        go_wp2_with (fail)
        refine (rLen_any _ _ _ _ _ hT2.b.is (by omega)).mono ?_
        rintro e w3 ⟨rfl, b3⟩
        have hT3 := hT2.belowW hT2.below.size b3
        clear hT2
        go_wp2_with (fail)
        go_roundw
        case rel => exact ⟨k + 1, by omega, by go_num, A3, c3, A4, c4, hT3⟩
        case measure => simp [intOf]; omega
      · have htk := Lib.hid (show vs.take k = vs from List.take_of_length_le (by rw [h.1]; omega))
        rw [htk.out] at hT hle
        have heq := Lib.hid (show (encs vs == encs vs) = true from beq_self_eq_true _)
        go_wp2_with (fail)
        refine (wBytes_any _ _ _ _ _ hT.a.is (by omega)).mono ?_
        rintro e w3 ⟨A3, c3, rfl, r3, b3⟩
        have hT3 := hT.belowW hT.below.size b3
        go_wp2_with (fail)
        refine (rBytes_any _ _ _ _ _ hT3.b.is (by omega)).mono ?_
        rintro e w4 ⟨A4, c4, rfl, r4, b4⟩
        have b5 := hT3.below.trans (b4.mono hT3.below.size)
        go_wp2_with (fail)
        refine (equal_any ((RB.of_own r3).below b4) (RB.of_own r4) _ _).mono ?_
        rintro e w5 ⟨he, rfl⟩
        rw [heq.out] at he
        subst he
        go_wp2_with (fail)
        refine (works_any _).mono ?_
        rintro e w6 ⟨rfl, b6⟩
        go_wp2_with (fail)
        go_ret
        exact ⟨rfl, b5.trans (b6.mono b5.size)⟩
  · replace hf := Lib.hid hf
    go_enter Try.func3, Try.ntmps3
    go_wp2_with (fail)
    refine (few_any A n c vs _ h hv hn).mono ?_
    rintro e w1 ⟨he, b1⟩
    rw [hf.out] at he
    subst he
    go_wp2_with (fail)
    refine (works_any _).mono ?_
    rintro e w2 ⟨rfl, b2⟩
    go_wp2_with (fail)
    go_ret
    exact ⟨rfl, b1.trans (b2.mono b1.size)⟩
end Go.Proofs.Ytcapeefhbkgogaa
