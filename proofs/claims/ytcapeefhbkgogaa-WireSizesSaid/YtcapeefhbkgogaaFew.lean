/- Values that come in as a slice of structs; which lists are looked at. -/
import Derived.Test.YtcapeefhbkgogaaWorks
namespace Go.Proofs.Ytcapeefhbkgogaa
open Go.RowKit
set_option linter.unusedSimpArgs false
set_option linter.unusedVariables false
set_option linter.unusedSectionVars false
set_option maxRecDepth 10000
/-- A value that is written and read. -/
structure VV where
  k : Nat
  n : Nat
  s : ByteArray
structure VV.Ok (v : VV) : Prop where
  k : v.k < 256
  n : v.n < 18446744073709551616
  s : v.s.size ≤ 140737488355328
def VS (B : Nat) (w : World) (A : Option Addr) (n : Nat) (vs : List VV) : Prop :=
  vs.length = n ∧ (0 < n → ∃ b o, A = some ⟨b, o, none⟩ ∧ b < B ∧ ∀ i v, vs[i]? = some v →
    w.cell? ⟨b, o + i * 3, none⟩ = some (.int .u8 v.k) ∧ w.cell? ⟨b, o + i * 3 + 1, none⟩ = some (.int .u64 v.n) ∧ w.cell? ⟨b, o + i * 3 + 2, none⟩ = some (.string v.s))
theorem VS.below {B : Nat} {w w' : World} {A : Option Addr} {n : Nat} {vs : List VV} (h : VS B w A n vs) (hb : Below B w w') : VS B w' A n vs :=
  ⟨h.1, fun hn => by
    obtain ⟨b, o, e, hl, hc⟩ := h.2 hn
    refine ⟨b, o, e, hl, fun i v hv => ?_⟩
    obtain ⟨h1, h2, h3⟩ := hc i v hv
    exact ⟨(hb.cell (p := ⟨b, _, none⟩) hl).trans h1, (hb.cell (p := ⟨b, _, none⟩) hl).trans h2, (hb.cell (p := ⟨b, _, none⟩) hl).trans h3⟩⟩
theorem VS.at_ {B : Nat} {w : World} {A : Option Addr} {n : Nat} {vs : List VV} (h : VS B w A n vs) {i : Nat} (hi : i < n) : ∃ b o v, A = some ⟨b, o, none⟩ ∧ b < B ∧ vs[i]? = some v ∧
    w.cell? ⟨b, o + i * 3, none⟩ = some (.int .u8 v.k) ∧ w.cell? ⟨b, o + i * 3 + 1, none⟩ = some (.int .u64 v.n) ∧ w.cell? ⟨b, o + i * 3 + 2, none⟩ = some (.string v.s) := by
  obtain ⟨b, o, e, hl, hc⟩ := h.2 (by omega)
  have hv : vs[i]? = some (vs[i]'(by have := h.1; omega)) := List.getElem?_eq_getElem _
  exact ⟨b, o, _, e, hl, hv, hc i _ hv⟩
def total (vs : List VV) : Nat := (vs.map fun v => v.s.size).sum
theorem total_take {vs : List VV} {i : Nat} {v : VV} (h : vs[i]? = some v) : total (vs.take (i + 1)) = total (vs.take i) + v.s.size := by
  obtain ⟨hi, rfl⟩ := List.getElem?_eq_some_iff.1 h
  rw [List.take_succ_eq_append_getElem hi]
  simp only [total, List.map_append, List.sum_append, List.map_cons, List.map_nil, List.sum_cons, List.sum_nil]
  omega
theorem total_le {vs : List VV} (h : ∀ v ∈ vs, VV.Ok v) : total vs ≤ vs.length * 140737488355328 := by
  induction vs with
  | nil => simp [total]
  | cons v vs ih =>
    have h1 := (h v (List.mem_cons_self ..)).s
    have h2 := ih fun u hu => h u (List.mem_cons_of_mem _ hu)
    simp only [total, List.map_cons, List.sum_cons, List.length_cons] at *
    rw [Nat.add_mul]
    omega
def fewB (vs : List VV) : Bool := decide (vs.length ≤ 100) && decide (total vs ≤ 100000)
set_option maxHeartbeats 1000000 in
theorem few_any (A : Option Addr) (n c : Nat) (vs : List VV) (w : World) (h : VS w.heap.size w A n vs) (hv : ∀ v ∈ vs, VV.Ok v) (hn : n ≤ 70368744177664) :
    Calls Try.prog 12 #[.slice A n c] w fun e w' => e = .returned (.bool (fewB vs)) ∧ Below w.heap.size w w' := by
  go_enter Try.func12, Try.ntmps12
  go_wp2
  go_loopw [3, 8] (fun a i wr => ∃ (k : Nat) (t : Int), k ≤ n ∧ i = .int .i64 k ∧ a = .int .i64 t ∧ (n ≤ 100 → t = (total (vs.take k) : Nat)) ∧ Below w.heap.size w wr) (fun _ i _ => n - (intOf i).toNat)
  case atStart => exact ⟨0, 0, by omega, rfl, rfl, fun _ => by simp [total], Below.refl _ _⟩
  case round =>
    obtain ⟨k, t, hk, rfl, rfl, ht, hb⟩ := hrel
    by_cases hlt : k < n
    · obtain ⟨b, o, v, rfl, hbl, hvk, e1, e2, e3⟩ := (h.below hb).at_ hlt
      replace ht := Lib.hid ht
      replace hvk := Lib.hid hvk
      have hle := (hv v (List.mem_of_getElem? hvk.out)).s
      go_wp2_with (fail)
      refine ⟨⟨k + 1, wrap64 (t + v.s.size), by omega, by go_num, rfl, ?_, hb.alloc hb.size _⟩, by simp [intOf]; omega⟩
      intro h100
      have h2 := total_le (vs := vs.take k) (fun u hu => hv u (List.mem_of_mem_take hu))
      have h3 : (vs.take k).length ≤ 100 := by rw [List.length_take]; have := h.1; omega
      have h4 : (vs.take k).length * 140737488355328 ≤ 100 * 140737488355328 := Nat.mul_le_mul_right _ h3
      rw [total_take hvk.out, ht.out h100]
      unfold wrap64
      omega
    · replace ht := Lib.hid ht
      have hk2 : k = n := by omega
      have htk : vs.take k = vs := List.take_of_length_le (by rw [h.1]; omega)
      have hfin1 := Lib.hid (show 100 < n → fewB vs = false from fun q => by unfold fewB; rw [h.1]; simp; omega)
      have hfin2 := Lib.hid (show n ≤ 100 → fewB vs = decide (t ≤ 100000) from fun q => by
        have := ht.out q
        rw [htk] at this
        unfold fewB
        rw [h.1, this, Bool.eq_iff_iff, Bool.and_eq_true, decide_eq_true_iff, decide_eq_true_iff, decide_eq_true_iff]
        omega)
      replace htk := Lib.hid htk
      clear hk2
      go_wp2_with (fail)
      · go_ret
        exact ⟨by rw [hfin2.out (by omega)]; rfl, hb⟩
      · go_ret
        exact ⟨by rw [hfin1.out (by omega)]; rfl, hb⟩
end Go.Proofs.Ytcapeefhbkgogaa
