/- Steps; few. -/
import Derived.Test.YtkdfhackpmdgfaaDoorCur
namespace Go.Proofs.YtkdfhackpmdgfaaDoor
open Go.RowKit Go.Shelf
set_option linter.unusedSimpArgs false
set_option linter.unusedVariables false
set_option linter.unusedSectionVars false
set_option maxRecDepth 10000
/-- A step: what is done; the effect, the key, the reply; the range. -/
abbrev St := Int × Ef × ByteArray × Rp × Rg
def encS (s : St) : List Value := [.int .i64 s.1, .int .i64 s.2.1.1, .int .i64 s.2.1.2.1, .int .i64 s.2.1.2.2, .string s.2.2.1, .int .i64 s.2.2.2.1.1, .int .i64 s.2.2.2.1.2.1, .string s.2.2.2.1.2.2, .string s.2.2.2.2.1, .string s.2.2.2.2.2]
theorem encS_len (s : St) : (encS s).length = 10 := rfl
/-- A slice of steps reads as a list. -/
abbrev SSt (w : World) (A : Option Addr) (n : Nat) (l : List St) : Prop := SL encS 10 w A n l
structure okSt (s : St) : Prop where
  k : s.2.2.1.size ≤ 140737488355328
  a : s.2.2.2.2.1.size ≤ 140737488355328
  b : s.2.2.2.2.2.size ≤ 140737488355328
theorem SL.cells10 {w : World} {A : Option Addr} {n : Nat} {l : List St} (h : SSt w A n l) {i : Nat} (hi : i < n) : ∃ b o s, A = some ⟨b, o, none⟩ ∧ l[i]? = some s ∧ w.cell? ⟨b, o + i * 10, none⟩ = some (.int .i64 s.1) ∧ w.cell? ⟨b, o + i * 10 + 1, none⟩ = some (.int .i64 s.2.1.1) ∧ w.cell? ⟨b, o + i * 10 + 2, none⟩ = some (.int .i64 s.2.1.2.1) ∧ w.cell? ⟨b, o + i * 10 + 3, none⟩ = some (.int .i64 s.2.1.2.2) ∧ w.cell? ⟨b, o + i * 10 + 4, none⟩ = some (.string s.2.2.1) ∧ w.cell? ⟨b, o + i * 10 + 5, none⟩ = some (.int .i64 s.2.2.2.1.1) ∧ w.cell? ⟨b, o + i * 10 + 6, none⟩ = some (.int .i64 s.2.2.2.1.2.1) ∧ w.cell? ⟨b, o + i * 10 + 7, none⟩ = some (.string s.2.2.2.1.2.2) ∧ w.cell? ⟨b, o + i * 10 + 8, none⟩ = some (.string s.2.2.2.2.1) ∧ w.cell? ⟨b, o + i * 10 + 9, none⟩ = some (.string s.2.2.2.2.2) := by
  obtain ⟨b, o, s, e, _, hs, hc⟩ := h.at_ hi
  have c0 := hc 0 _ rfl
  rw [Nat.add_zero] at c0
  exact ⟨b, o, s, e, hs, c0, hc 1 _ rfl, hc 2 _ rfl, hc 3 _ rfl, hc 4 _ rfl, hc 5 _ rfl, hc 6 _ rfl, hc 7 _ rfl, hc 8 _ rfl, hc 9 _ rfl⟩
set_option maxHeartbeats 8000000 in
theorem few_any {A : Option Addr} {n c : Nat} {ss : List St} (w : World) (hA : SSt w A n ss) (hn : n ≤ 140737488355328) : Calls Tryd.prog 17 #[.slice A n c] w fun e w' => ∃ b : Bool, e = .returned (.bool b) ∧ (b = true → n ≤ 80) ∧ Below w.heap.size w w' := by
  replace hA := Lib.hid hA
  go_enter Tryd.func17, Tryd.ntmps17
  go_wp2_with (fail)
  go_loopw [3, 8] (fun v i wr => ∃ (k : Nat) (z : Int), v = .int .i64 z ∧ i = .int .i64 k ∧ k ≤ n ∧ Below w.heap.size w wr) (fun _ i _ => n - (intOf i).toNat)
  case atStart => exact ⟨0, 0, rfl, rfl, by omega, Below.refl _ _⟩
  case round =>
    revert wr
    intro w3 hrel
    obtain ⟨k, z, rfl, rfl, hk, hb⟩ := hrel
    by_cases hlt : k < n
    · obtain ⟨xb, xo, s, rfl, hs, c0, c1, c2, c3, c4, c5, c6, c7, c8, c9⟩ := (SL.keep hA.out hb).cells10 hlt
      obtain ⟨dv, ⟨e1, e2, e3⟩, key, ⟨r1, r2, r3⟩, ⟨g1, g2⟩⟩ := s
      simp only at c0 c1 c2 c3 c4 c5 c6 c7 c8 c9
      have hbx := hpNew w3 (.cells #[.int .i64 dv, .int .i64 e1, .int .i64 e2, .int .i64 e3, .string key, .int .i64 r1, .int .i64 r2, .string r3, .string g1, .string g2] 45)
      have K := hb.trans (((Below.refl _ w3).alloc (Nat.le_refl _) (.cells #[.int .i64 dv, .int .i64 e1, .int .i64 e2, .int .i64 e3, .string key, .int .i64 r1, .int .i64 r2, .string r3, .string g1, .string g2] 45)).mono hb.size)
      have z0 := blkC hbx 0; have z1 := blkC hbx 1; have z2 := blkC hbx 2; have z3 := blkC hbx 3; have z4 := blkC hbx 4; have z5 := blkC hbx 5; have z6 := blkC hbx 6; have z7 := blkC hbx 7; have z8 := blkC hbx 8; have z9 := blkC hbx 9
      simp only [List.getElem?_toArray, List.getElem?_cons_zero, List.getElem?_cons_succ] at z0 z1 z2 z3 z4 z5 z6 z7 z8 z9
      have j0 : (0 : Int) ≤ k := by omega
      have j1 : (k : Int) < n := by omega
      replace hb := Lib.hid hb; replace hbx := Lib.hid hbx; replace K := Lib.hid K; replace hs := Lib.hid hs
      go_wp2_with (fail)
      exact ⟨⟨k + 1, _, rfl, by go_num, by omega, K.out⟩, by simp [intOf]; omega⟩
    · obtain rfl : k = n := by omega
      replace hb := Lib.hid hb
      clear hlt hk
      by_cases h80 : k ≤ 80
      · have j1 : (k : Int) ≤ 80 := by omega
        go_wp2_with (fail)
        go_ret
        exact ⟨_, rfl, fun _ => h80, hb.out⟩
      · have j1 : ¬ (k : Int) ≤ 80 := by omega
        go_wp2_with (fail)
        go_ret
        first | exact ⟨false, rfl, fun q => by cases q, hb.out⟩ | exact ⟨rfl, hb.out⟩
end Go.Proofs.YtkdfhackpmdgfaaDoor
