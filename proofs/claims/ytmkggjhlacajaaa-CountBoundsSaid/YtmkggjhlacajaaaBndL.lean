/- CountBounds: the open deltas; the plain law of a step; what reserved returns. -/
import Derived.Test.YtmkggjhlacajaaaDo
import Derived.Test.YtmkggjhlacajaaaMade
namespace Go.Proofs.Ytmkggjhlacajaaa
open Go.RowKit
set_option linter.unusedSimpArgs false
set_option linter.unusedVariables false
set_option maxRecDepth 10000
/-- The sizes of the open deltas from 0 on, and of those below 0. -/
def upS (l : List Int) : Int := (l.map fun d => max d 0).sum
def dnS (l : List Int) : Int := (l.map fun d => max (-d) 0).sum
/-- The deltas are of 16 bits. -/
def Small (l : List Int) : Prop := ∀ d ∈ l, -32768 ≤ d ∧ d ≤ 32767
theorem upS_app (a b : List Int) : upS (a ++ b) = upS a + upS b := by simp [upS, List.sum_append]
theorem dnS_app (a b : List Int) : dnS (a ++ b) = dnS a + dnS b := by simp [dnS, List.sum_append]
theorem upS_one (d : Int) : upS [d] = max d 0 := by simp [upS]
theorem dnS_one (d : Int) : dnS [d] = max (-d) 0 := by simp [dnS]
theorem upS_cons (d : Int) (l : List Int) : upS (d :: l) = max d 0 + upS l := by simp [upS]
theorem dnS_cons (d : Int) (l : List Int) : dnS (d :: l) = max (-d) 0 + dnS l := by simp [dnS]
theorem S_bounds {l : List Int} (h : Small l) : 0 ≤ upS l ∧ upS l ≤ 32768 * l.length ∧ 0 ≤ dnS l ∧ dnS l ≤ 32768 * l.length := by
  induction l with
  | nil => simp [upS, dnS]
  | cons d l ih =>
    have h1 := h d (List.mem_cons_self ..)
    have h2 := ih fun e he => h e (List.mem_cons_of_mem _ he)
    rw [upS_cons, dnS_cons, List.length_cons]
    omega
theorem S_split {l : List Int} {k : Nat} {d : Int} (h : l[k]? = some d) : upS l = upS (l.take k ++ l.drop (k + 1)) + max d 0 ∧ dnS l = dnS (l.take k ++ l.drop (k + 1)) + max (-d) 0 := by
  obtain ⟨hk, rfl⟩ := List.getElem?_eq_some_iff.1 h
  have e : l = l.take k ++ l[k] :: l.drop (k + 1) := by rw [← List.drop_eq_getElem_cons hk, List.take_append_drop]
  constructor
  · conv => lhs; rw [e]
    rw [upS_app, upS_app, upS_cons]; omega
  · conv => lhs; rw [e]
    rw [dnS_app, dnS_app, dnS_cons]; omega
theorem Small.del {l : List Int} (h : Small l) (k : Nat) : Small (l.take k ++ l.drop (k + 1)) := by
  intro d hd
  rcases List.mem_append.1 hd with q | q
  · exact h d (List.mem_of_mem_take q)
  · exact h d (List.mem_of_mem_drop q)
theorem Small.add {l : List Int} (h : Small l) {d : Int} (hd : -32768 ≤ d ∧ d ≤ 32767) : Small (l ++ [d]) := by
  intro e he
  rcases List.mem_append.1 he with q | q
  · exact h e q
  · simp only [List.mem_singleton] at q; subst q; exact hd
/-- What holds of the counter all the while. -/
structure Cok (v lo hi : Int) (l : List Int) : Prop where
  small : Small l
  few : l.length ≤ 100
  atLo : lo ≤ v - upS l
  atHi : v + dnS l ≤ hi
  least : -2147713648 ≤ lo
  most : hi ≤ 2147713647
theorem Cok.ck {v lo hi : Int} {l : List Int} (h : Cok v lo hi l) : ckOK v (upS l) (dnS l) lo hi = true := by
  obtain ⟨q1, q2, q3, q4⟩ := S_bounds h.small
  have := h.few; have := h.atLo; have := h.atHi; have := h.least; have := h.most
  rw [ckOK_iff]
  omega
/-- Whether a delta fits. -/
def fitsB (v lo hi : Int) (l : List Int) (d : Int) : Bool := if d < 0 then decide (lo ≤ v - upS l + d) else decide (v + dnS l + d ≤ hi)
theorem do_fits {v lo hi : Int} {l : List Int} (h : Cok v lo hi l) {d : Int} (hd : -32768 ≤ d ∧ d ≤ 32767) (hf : fitsB v lo hi l d = true) : doR v (upS l) (dnS l) lo hi d = .ok (v + d) (upS (l ++ [d])) (dnS (l ++ [d])) lo hi := by
  obtain ⟨q1, q2, q3, q4⟩ := S_bounds h.small
  have := h.few
  have hin : inNum d = true := by simp [inNum]; omega
  unfold doR
  rw [if_pos ⟨h.ck, hin⟩, upS_app, dnS_app, upS_one, dnS_one]
  unfold fitsB at hf
  by_cases hn : d < 0
  · rw [if_pos hn, decide_eq_true_iff] at hf
    rw [if_neg (by omega), if_neg (by omega), show max d 0 = 0 from by omega, show max (-d) 0 = -d from by omega, Int.add_zero, Int.sub_eq_add_neg]
  · rw [if_neg hn, decide_eq_true_iff] at hf
    rw [if_pos (by omega), if_neg (by omega), show max d 0 = d from by omega, show max (-d) 0 = 0 from by omega, Int.add_zero]
theorem do_over {v lo hi : Int} {l : List Int} (h : Cok v lo hi l) {d : Int} (hd : -32768 ≤ d ∧ d ≤ 32767) (hf : fitsB v lo hi l d = false) : doR v (upS l) (dnS l) lo hi d = .bad 7 := by
  have hin : inNum d = true := by simp [inNum]; omega
  unfold doR
  rw [if_pos ⟨h.ck, hin⟩]
  unfold fitsB at hf
  by_cases hn : d < 0
  · rw [if_pos hn, decide_eq_false_iff_not] at hf
    rw [if_neg (by omega), if_pos (by omega)]
  · rw [if_neg hn, decide_eq_false_iff_not] at hf
    rw [if_pos (by omega), if_pos (by omega)]
theorem fits_ok {v lo hi : Int} {l : List Int} (h : Cok v lo hi l) {d : Int} (hd : -32768 ≤ d ∧ d ≤ 32767) (hl : l.length < 100) (hf : fitsB v lo hi l d = true) : Cok (v + d) lo hi (l ++ [d]) := by
  have h1 := h.atLo; have h2 := h.atHi
  unfold fitsB at hf
  refine ⟨h.small.add hd, by simp; omega, ?_, ?_, h.least, h.most⟩
  · rw [upS_app, upS_one]
    by_cases hn : d < 0
    · rw [if_pos hn, decide_eq_true_iff] at hf; omega
    · omega
  · rw [dnS_app, dnS_one]
    by_cases hn : d < 0
    · omega
    · rw [if_neg hn, decide_eq_true_iff] at hf; omega
theorem undo_ok {v lo hi : Int} {l : List Int} (h : Cok v lo hi l) {k : Nat} {d : Int} (hk : l[k]? = some d) :
    undoR v (upS l) (dnS l) lo hi d = .ok (v - d) (upS (l.take k ++ l.drop (k + 1))) (dnS (l.take k ++ l.drop (k + 1))) lo hi ∧ Cok (v - d) lo hi (l.take k ++ l.drop (k + 1)) := by
  obtain ⟨e1, e2⟩ := S_split hk
  have hs := h.small.del k
  obtain ⟨q1, q2, q3, q4⟩ := S_bounds hs
  have hd := h.small d (List.mem_of_getElem? hk)
  have hin : inNum d = true := by simp [inNum]; omega
  have h1 := h.atLo; have h2 := h.atHi; have h3 := h.few
  refine ⟨?_, ⟨hs, by simp only [List.length_append, List.length_take, List.length_drop]; omega, by omega, by omega, h.least, h.most⟩⟩
  unfold undoR
  rw [if_pos ⟨h.ck, hin⟩, e1, e2]
  by_cases hn : 0 ≤ d
  · rw [if_pos hn, if_neg (by omega)]; congr 1 <;> omega
  · rw [if_neg hn, if_neg (by omega)]; congr 1 <;> omega
theorem free_ok {v lo hi : Int} {l : List Int} (h : Cok v lo hi l) {k : Nat} {d : Int} (hk : l[k]? = some d) :
    freeR v (upS l) (dnS l) lo hi d = .ok v (upS (l.take k ++ l.drop (k + 1))) (dnS (l.take k ++ l.drop (k + 1))) lo hi ∧ Cok v lo hi (l.take k ++ l.drop (k + 1)) := by
  obtain ⟨e1, e2⟩ := S_split hk
  have hs := h.small.del k
  obtain ⟨q1, q2, q3, q4⟩ := S_bounds hs
  have hd := h.small d (List.mem_of_getElem? hk)
  have hin : inNum d = true := by simp [inNum]; omega
  have h1 := h.atLo; have h2 := h.atHi; have h3 := h.few
  refine ⟨?_, ⟨hs, by simp only [List.length_append, List.length_take, List.length_drop]; omega, by omega, by omega, h.least, h.most⟩⟩
  unfold freeR
  rw [if_pos ⟨h.ck, hin⟩, e1, e2]
  by_cases hn : 0 ≤ d
  · rw [if_pos hn, if_neg (by omega)]; congr 1 <;> omega
  · rw [if_neg hn, if_neg (by omega)]; congr 1 <;> omega
/-- A slice reads as deltas. -/
def RI (w : World) (A : Option Addr) (n : Nat) (l : List Int) : Prop :=
  l.length = n ∧ (0 < n → ∃ ad, A = some ad ∧ ad.block < w.heap.size ∧ ∀ (j : Nat) (d : Int), l[j]? = some d → w.cell? (ad.add j) = some (.int .i64 d))
theorem RI.at_ {w : World} {A : Option Addr} {n : Nat} {l : List Int} (h : RI w A n l) {k : Nat} (hk : k < n) : ∃ ad d, A = some ad ∧ l[k]? = some d ∧ w.cell? (ad.add k) = some (.int .i64 d) := by
  obtain ⟨hl, h2⟩ := h
  obtain ⟨ad, e, _, hc⟩ := h2 (by omega)
  have hx : l[k]? = some (l[k]'(by omega)) := List.getElem?_eq_getElem (by omega)
  exact ⟨ad, _, e, hx, hc k _ hx⟩
theorem take_S {l : List Int} {k : Nat} {d : Int} (h : l[k]? = some d) : upS (l.take (k + 1)) = upS (l.take k) + max d 0 ∧ dnS (l.take (k + 1)) = dnS (l.take k) + max (-d) 0 := by
  obtain ⟨hi, rfl⟩ := List.getElem?_eq_some_iff.1 h
  rw [List.take_succ_eq_append_getElem hi, upS_app, dnS_app, upS_one, dnS_one]
  exact ⟨rfl, rfl⟩
set_option maxHeartbeats 2000000 in
theorem reserved_any (A : Option Addr) (n c : Nat) (l : List Int) (w : World) (h : RI w A n l) (hs : Small l) (hn : n ≤ 101) :
    Calls Try.prog 28 #[.slice A n c] w fun e w' => e = .returned (.tuple #[.int .i64 (upS l), .int .i64 (dnS l)]) ∧ w = w' := by
  go_enter Try.func28, Try.ntmps28
  go_wp2_with (fail)
  go_loopw [4, 5, 10] (fun a b i wr => ∃ k : Nat, k ≤ n ∧ i = .int .i64 k ∧ a = .int .i64 (upS (l.take k)) ∧ b = .int .i64 (dnS (l.take k)) ∧ w = wr) (fun _ _ i _ => n - (intOf i).toNat)
  case atStart => exact ⟨0, by omega, rfl, by simp [upS], by simp [dnS], rfl⟩
  case round =>
    obtain ⟨k, hk, rfl, rfl, rfl, rfl⟩ := hrel
    have hst : Small (l.take k) := fun d hd => hs d (List.mem_of_mem_take hd)
    obtain ⟨q1, q2, q3, q4⟩ := S_bounds hst
    have hlt' : (l.take k).length ≤ 101 := by rw [List.length_take, h.1]; omega
    by_cases hlt : k < n
    · obtain ⟨ad, d, rfl, hd, hc⟩ := h.at_ hlt
      obtain ⟨e1, e2⟩ := take_S hd
      have hdb := hs d (List.mem_of_getElem? hd)
      clear hd
      go_wp2_with (fail)
      refine ⟨⟨k + 1, by omega, by go_num, ?_, ?_, trivial⟩, by simp [intOf]; omega⟩
      · rw [e1]; go_num
      · rw [e2]; go_num
    · have e1 : l.take k = l := List.take_of_length_le (by rw [h.1]; omega)
      rw [e1]
      go_wp2_with (fail)
      refine bodyPost_ret (by simp [results, Try.results28, go_sem, *]; try with_reducible rfl) rfl ?_
      exact ⟨rfl, rfl⟩
end Go.Proofs.Ytmkggjhlacajaaa
