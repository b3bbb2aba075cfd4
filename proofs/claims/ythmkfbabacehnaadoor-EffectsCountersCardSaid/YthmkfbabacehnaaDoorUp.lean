/- The effects of the first steps in a phase: the program's up. -/
import Derived.Test.YthmkfbabacehnaaDoorEf
namespace Go.Proofs.YthmkfbabacehnaaDoor
open Go.RowKit
set_option linter.unusedSimpArgs false
set_option linter.unusedVariables false
set_option linter.unusedSectionVars false
set_option maxRecDepth 10000
attribute [local go_sem ↓] hideAppend
theorem ownKeep {w W : World} {base n c : Nat} {e : TypeId} {sz : Nat} {A : Option Addr} {xs : List Value} (h : w.ownsRow base e sz (.slice A n c) n xs) (hb : Below w.heap.size w W) : W.ownsRow base e sz (.slice A n c) n xs := by
  rcases h.2 with ⟨e1, e2⟩ | ⟨g, cp, cur, e1, e2, hh, r⟩
  · exact ⟨h.1, .inl ⟨e1, e2⟩⟩
  · exact ⟨h.1, .inr ⟨g, cp, cur, e1, e2, (hb.block g (Array.getElem?_eq_some_iff.1 hh).1).trans hh, r⟩⟩
/-- A row of effects of the call's own, over what was there. -/
structure OwnE (w : World) (A : Option Addr) (n c : Nat) (l : List Ef) (W : World) : Prop where
  bel : Below w.heap.size w W
  own : W.ownsRow w.heap.size 56 3 (.slice A n c) n (flat encE l)
  len : l.length = n
  cap : n ≤ c
theorem OwnE.es {w W : World} {A : Option Addr} {n c : Nat} {l : List Ef} (h : OwnE w A n c l W) : ES W A n l := SL.of_own encE_len h.own h.len
theorem OwnE.keep {w W W' : World} {A : Option Addr} {n c : Nat} {l : List Ef} (h : OwnE w A n c l W) (hb : Below W.heap.size W W') : OwnE w A n c l W' :=
  ⟨h.bel.trans (hb.mono h.bel.size), ownKeep h.own hb, h.len, h.cap⟩
theorem es_one (W : World) (x : Ef) : ES (W.alloc (.cells #[.int .i64 x.1, .int .i64 x.2.1, .int .i64 x.2.2] 56)) (some ⟨W.heap.size, 0, none⟩) 1 [x] := by
  refine ⟨rfl, fun _ => ⟨_, _, rfl, by simp, fun i y hy j u hu => ?_⟩⟩
  have hi : i = 0 := by have := (List.getElem?_eq_some_iff.1 hy).1; simp at this; exact this
  subst hi
  simp only [List.getElem?_cons_zero, Option.some.injEq] at hy
  subst hy
  have := blkC (hpNew W (.cells #[.int .i64 x.1, .int .i64 x.2.1, .int .i64 x.2.2] 56)) (0 + 0 * 3 + j)
  rw [this]
  simpa [encE] using hu
/-- append of one effect. -/
theorem OwnE.push {w W : World} {A : Option Addr} {n c : Nat} {l : List Ef} (h : OwnE w A n c l W) (hn : n ≤ 1000000) (x : Ef) (d : Nat) :
    ∃ A' c' W', (appSem #[25, 25] 25 #[.slice A n c, .slice (some ⟨W.heap.size, 0, none⟩) 1 d]).run Tryd.prog (W.alloc (.cells #[.int .i64 x.1, .int .i64 x.2.1, .int .i64 x.2.2] 56)) = .ok (.slice A' (n + 1) c') W' ∧ OwnE w A' (n + 1) c' (l ++ [x]) W' := by
  have hb0 := (Below.refl W.heap.size W).alloc (Nat.le_refl _) (.cells #[.int .i64 x.1, .int .i64 x.2.1, .int .i64 x.2.2] 56)
  have h' := h.keep hb0
  obtain ⟨A', c', w1, hrun, hcap, hown, hgr, hat⟩ := append_sl elemE encE_len encE_one (ty := 25) (d := d) h'.own h'.bel.size (es_one W x) (by omega) (by omega)
  exact ⟨A', c', w1, hrun, h'.bel.trans (below_of_grown hgr h'.bel.size fun g hg => (own_row h'.own g hg).1), hown, by simp [h.len], hcap⟩
theorem ups_more (s : Int) (k : Nat) (p : Int) : ups s k p ++ [(s, (k : Int), p)] = ups s (k + 1) p := by simp [ups, List.range_succ]
set_option maxHeartbeats 8000000 in
theorem up_any (s p : Int) (k : Nat) (hk : k ≤ 100) (w : World) : Calls Tryd.prog 40 #[.int .i64 s, .int .i64 k, .int .i64 p] w fun e w' => ∃ A c, e = .returned (.slice A k c) ∧ OwnE w A k c (ups s k p) w' := by
  go_enter Tryd.func40, Tryd.ntmps40
  go_wp2_with (fail)
  go_loopw [10, 7] (fun i v wr => ∃ (j : Nat) (A : Option Addr) (c : Nat), j ≤ k ∧ i = .int .i64 j ∧ v = .slice A j c ∧ OwnE w A j c (ups s j p) wr) (fun i _ _ => k - (intOf i).toNat)
  case atStart => exact ⟨0, none, 0, by omega, rfl, rfl, ⟨Below.refl _ _, World.ownsRow_nil _ _ _ _, rfl, by omega⟩⟩
  case round =>
    obtain ⟨j, A, c, hj, rfl, rfl, hO⟩ := hrel
    by_cases hlt : j < k
    · obtain ⟨A', c', W', hrun, hO'⟩ := hO.push (by omega) (s, (j : Int), p) 1
      rw [ups_more] at hO'
      simp only at hrun
      replace hO := Lib.hid hO
      replace hO' := Lib.hid hO'
      go_wp2_with (fail)
      exact ⟨⟨j + 1, A', c', by omega, by go_num, rfl, hO'.out⟩, by simp [intOf]; omega⟩
    · obtain rfl : j = k := by omega
      replace hO := Lib.hid hO
      go_wp2_with (fail)
      go_ret
      exact ⟨A, c, rfl, hO.out⟩
end Go.Proofs.YthmkfbabacehnaaDoor
