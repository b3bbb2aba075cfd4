/- CountBounds: the row of open deltas: one more, and one less. -/
import Derived.Test.YtmkggjhlacajaaaBndL
import Derived.Maps.AppendAt
import Derived.Deep.AppendLies
namespace Go.Proofs.Ytmkggjhlacajaaa
open Go.RowKit
set_option linter.unusedSimpArgs false
set_option linter.unusedVariables false
def appSem (ts : Array TypeId) (ty : TypeId) (args : Array Value) : Sem Value := Builtin.append_ ts ty args
theorem hideAppend (ts : Array TypeId) (ty : TypeId) (args : Array Value) : Builtin.append_ ts ty args = appSem ts ty args := rfl
def rowOf : Option Addr → Option Nat
  | some a => some a.block
  | none => none
theorem own_rowOf (A : Option Addr) (n c : Nat) : (Value.slice A n c).ownBlock = rowOf A := by cases A <;> rfl
/-- The cells of deltas. -/
def iv (l : List Int) : List Value := l.map fun d => .int .i64 d
theorem iv_length (l : List Int) : (iv l).length = l.length := by simp [iv]
theorem iv_one (l : List Int) : ∀ u ∈ iv l, u.oneCell' = true := by
  intro u hu
  obtain ⟨d, _, rfl⟩ := List.mem_map.1 hu
  rfl
theorem iv_app (a b : List Int) : iv (a ++ b) = iv a ++ iv b := by simp [iv]
/-- The open deltas: a row of the call's own. -/
def Opn (B : Nat) (W : World) (A : Option Addr) (n c : Nat) (l : List Int) : Prop := W.ownsRow B 2 1 (.slice A n c) n (iv l)
theorem Opn.len {B : Nat} {W : World} {A : Option Addr} {n c : Nat} {l : List Int} (h : Opn B W A n c l) : l.length = n := by
  have := h.1; rw [iv_length] at this; omega
theorem Opn.ri {B : Nat} {W : World} {A : Option Addr} {n c : Nat} {l : List Int} (h : Opn B W A n c l) : RI W A n l := by
  refine ⟨h.len, fun hn => ?_⟩
  rcases h.2 with ⟨_, e⟩ | ⟨g, cap, cur, e, _, hh, hle, _, hsz, htk⟩
  · omega
  · simp only [Value.slice.injEq, true_and] at e
    obtain ⟨rfl, rfl⟩ := e
    refine ⟨_, rfl, (List.getElem?_eq_some_iff.1 (by rw [Array.getElem?_toList]; exact hh)).1, fun j d hj => ?_⟩
    have h1 : (iv l)[j]? = some (.int .i64 d) := by simp [iv, hj]
    rw [Addr.add_lit, cell_of_row _ _ _ _ _ _ hh]
    rw [← htk] at h1
    have h2 : j < n * 1 := by
      have := (List.getElem?_eq_some_iff.1 h1).1
      rw [List.length_take] at this; omega
    rw [List.getElem?_take, if_pos h2] at h1
    simpa using h1
theorem intInfo0 : (Try.prog.info? 2).map (fun i => (i.zero, i.size, i.bytes)) = some (some (.int .i64 0), 1, 8) := by kernel_rfl
theorem intInfo : ∃ i : TypeInfo, Try.prog.info? 2 = some i ∧ i.zero = some (.int .i64 0) ∧ i.size = 1 ∧ i.bytes = 8 := by
  obtain ⟨i, h1, h2⟩ := Option.map_eq_some_iff.1 intInfo0
  simp only [Prod.mk.injEq] at h2
  exact ⟨i, h1, h2.1, h2.2.1, h2.2.2⟩
theorem own_form {W : World} {base n : Nat} {e : TypeId} {size : Nat} {v : Value} {xs : List Value} (h : W.ownsRow base e size v n xs) : ∃ A' c', v = .slice A' n c' := by
  rcases h.2 with ⟨e, e2⟩ | ⟨k, cp, cur, e, _⟩
  · exact ⟨none, 0, by rw [e, e2]⟩
  · exact ⟨_, _, e⟩
set_option maxHeartbeats 1000000 in
/-- open = append(open, d). -/
theorem Opn.push {B : Nat} {W : World} {A : Option Addr} {n c : Nat} {l : List Int} (h : Opn B W A n c l) (hn : n ≤ 1000) (hB : B ≤ W.heap.size) (d : Int) :
    ∃ A' c' w1, (appSem #[47, 47] 47 #[.slice A n c, .slice (some ⟨W.heap.size, 0, none⟩) 1 1]).run Try.prog (W.alloc (.cells #[.int .i64 d] 2)) = .ok (.slice A' (n + 1) c') w1 ∧
      Opn B w1 A' (n + 1) c' (l ++ [d]) ∧ (W.alloc (.cells #[.int .i64 d] 2)).grownBy w1 (rowOf A) := by
  obtain ⟨i0, hi, hz0, hz1, hz2⟩ := intInfo
  obtain ⟨v', w1, hrun, hown, hgr, _, hat⟩ := run_append_own_at (P := Try.prog) (W.alloc (.cells #[.int .i64 d] 2)) B 47 47 2 i0 (.int .i64 0) 1 8 Try.underlying47 hi hz0 hz1 hz2 rfl (by decide) _ _ _ (h.alloc (.cells #[.int .i64 d] 2)) ⟨W.heap.size, 0, none⟩ 1 1 [.int .i64 d] rfl
    (by intro j u hu; exact (cell_one_new W (.int .i64 d) _) j u hu) (by simp [Value.oneCell']) (by unfold maxLen; omega) (by omega) (Nat.le_trans hB (by simp))
  obtain ⟨A', cap, rfl⟩ := own_form hown
  rw [own_rowOf] at hgr
  refine ⟨_, cap, w1, hrun, ?_, hgr⟩
  unfold Opn
  rw [iv_app]
  exact hown
set_option maxHeartbeats 1000000 in
/-- open = append(open[:k], open[k+1:]...). -/
theorem Opn.del {B : Nat} {W : World} {A : Option Addr} {n c k : Nat} {l : List Int} (h : Opn B W A n c l) (hn : n ≤ 1000) (hB : B ≤ W.heap.size) (hk : k < n) :
    ∃ X Y d A' c' w1, sliced A 0 k c 1 = .slice X k c ∧ sliced A (k + 1) n c 1 = .slice Y (n - (k + 1)) d ∧
      (appSem #[47, 47] 47 #[.slice X k c, .slice Y (n - (k + 1)) d]).run Try.prog W = .ok (.slice A' (n - 1) c') w1 ∧
      Opn B w1 A' (n - 1) c' (l.take k ++ l.drop (k + 1)) ∧ W.grownBy w1 (rowOf A) := by
  have hlen := h.len
  have hri := h.ri
  rcases h.2 with ⟨_, e⟩ | ⟨g, cap, cur, e, hb, hh, hle, hmax, hsz, htk⟩
  · omega
  · simp only [Value.slice.injEq, true_and] at e
    obtain ⟨rfl, rfl⟩ := e
    obtain ⟨i0, hi, hz0, hz1, hz2⟩ := intInfo
    have hX : sliced (some ⟨g, 0, none⟩) 0 k c 1 = .slice (some ⟨g, 0, none⟩) k c := by
      unfold sliced; rw [if_neg (by omega)]; simp [Addr.add]
    have hfront : W.ownsRow B 2 1 (.slice (some ⟨g, 0, none⟩) k c) k (iv (l.take k)) := by
      refine ⟨by rw [iv_length, List.length_take]; omega, .inr ⟨g, c, cur, rfl, hb, hh, by omega, hmax, hsz, ?_⟩⟩
      have : iv (l.take k) = (iv l).take k := by simp [iv, List.map_take]
      rw [this, ← htk, List.take_take]
      congr 1
      omega
    obtain ⟨Y, hY, hcells⟩ : ∃ Y : Addr, sliced (some ⟨g, 0, none⟩) (k + 1) n c 1 = .slice (some Y) (n - (k + 1)) (c - (k + 1)) ∧ ∀ (j : Nat) (u : Value), (iv (l.drop (k + 1)))[j]? = some u → W.cell? (Y.add j) = some u := by
      by_cases hc : c = k + 1
      · refine ⟨⟨g, 0, none⟩, by unfold sliced; rw [if_pos hc], fun j u hu => ?_⟩
        have : l.drop (k + 1) = [] := List.drop_eq_nil_of_le (by omega)
        rw [this] at hu
        simp [iv] at hu
      · refine ⟨⟨g, k + 1, none⟩, by unfold sliced; rw [if_neg hc]; simp [Addr.add], fun j u hu => ?_⟩
        simp only [iv, List.getElem?_map, Option.map_eq_some_iff, List.getElem?_drop] at hu
        obtain ⟨d, hd, rfl⟩ := hu
        obtain ⟨ad, e1, _, hc2⟩ := hri.2 (by omega)
        injection e1 with e1
        subst e1
        have := hc2 _ d hd
        rw [Addr.add_lit] at this ⊢
        simpa [Nat.add_assoc] using this
    have hdl : (iv (l.drop (k + 1))).length = (n - (k + 1)) * 1 := by rw [iv_length, List.length_drop, hlen, Nat.mul_one]
    obtain ⟨v', w1, hrun, hown, hgr, hz, hat⟩ := run_append_own_at (P := Try.prog) W B 47 47 2 i0 (.int .i64 0) 1 8 Try.underlying47 hi hz0 hz1 hz2 rfl (by decide) _ _ _ hfront Y (n - (k + 1)) (c - (k + 1)) (iv (l.drop (k + 1))) hdl
      hcells (iv_one _) (by unfold maxLen; omega) (by omega) hB
    have hnn : k + (n - (k + 1)) = n - 1 := by omega
    rw [hnn, ← iv_app] at hown
    have hform : ∃ A' c', v' = .slice A' (n - 1) c' := by
      rcases hown.2 with ⟨e, e2⟩ | ⟨k, cp, cur, e, _⟩
      · exact ⟨none, 0, by rw [e, e2]⟩
      · exact ⟨_, _, e⟩
    obtain ⟨A', c', rfl⟩ := hform
    rw [own_rowOf] at hgr
    exact ⟨_, _, _, A', c', w1, hX, hY, hrun, hown, hgr⟩
end Go.Proofs.Ytmkggjhlacajaaa
