/- The effects of a saga: the program's, the document's. -/
import Derived.Test.YthmkfbabacehnaaLegalW
namespace Go.Proofs.Ythmkfbabacehnaa
open Go.RowKit Go.Shelf
set_option linter.unusedSimpArgs false
set_option linter.unusedVariables false
set_option linter.unusedSectionVars false
set_option maxRecDepth 10000
attribute [local go_sem ↓] hideAppend
def ofS (s : Int) (l : List Ef) : List Ef := l.filter fun x => x.1 == s
theorem ofS_more {s : Int} {l : List Ef} {j : Nat} {x : Ef} (h : l[j]? = some x) : ofS s (l.take (j + 1)) = if (x.1 == s) = true then ofS s (l.take j) ++ [x] else ofS s (l.take j) := by
  rw [List.take_add_one, h]
  simp only [ofS, Option.toList, List.filter_append, List.filter_cons, List.filter_nil]
  split <;> simp
theorem ofS_len (s : Int) (l : List Ef) : (ofS s l).length ≤ l.length := List.length_filter_le _ _
set_option maxHeartbeats 8000000 in
theorem of_any (A : Option Addr) (n c : Nat) (l : List Ef) (s : Int) (w : World) (h1 : ES w A n l) (hn : n ≤ 1000) :
    Calls Try.prog 21 #[.slice A n c, .int .i64 s] w fun e w' => ∃ A' n' c', e = .returned (.slice A' n' c') ∧ OwnE w A' n' c' (ofS s l) w' := by
  have hl := h1.1
  replace h1 := Lib.hid h1
  go_enter Try.func21, Try.ntmps21
  go_wp2_with (fail)
  go_loopw [5, 10] (fun v i wr => ∃ (j : Nat) (A' : Option Addr) (n' c' : Nat), j ≤ n ∧ i = .int .i64 j ∧ v = .slice A' n' c' ∧ OwnE w A' n' c' (ofS s (l.take j)) wr) (fun _ i _ => n - (intOf i).toNat)
  case atStart => exact ⟨0, none, 0, 0, by omega, rfl, rfl, ⟨Below.refl _ _, own_none _ _, rfl, Nat.le_refl _⟩⟩
  case round =>
    obtain ⟨j, A', n', c', hj, rfl, rfl, hO⟩ := hrel
    by_cases hlt : j < n
    · obtain ⟨b, o, ⟨x0, x1, x2⟩, rfl, hbl, hx, e0, e1, e2⟩ := ES.at_ (SL.keep h1.out hO.bel) hlt
      have hmore := ofS_more (s := s) hx
      simp only at e0 e1 e2 hmore
      have vk := (Below.refl wr.heap.size wr).alloc (Nat.le_refl _) (.cells #[.int .i64 x0, .int .i64 x1, .int .i64 x2] 40)
      have hOk := hO.keep vk
      have hn' : n' ≤ 1000 := by
        have h3 := hO.len
        have h4 := ofS_len s (l.take j)
        rw [List.length_take] at h4
        omega
      have j0 : (0 : Int) ≤ j := by omega
      cases hs : x0 == s with
      | true =>
        rw [hs, if_pos rfl] at hmore
        obtain ⟨A2, c2, W2, hrun, hO2⟩ := hOk.push (by omega) (x0, x1, x2) 1
        rw [← hmore] at hO2
        simp only [World.size_alloc] at hrun
        replace hO := Lib.hid hO; replace hOk := Lib.hid hOk; replace hO2 := Lib.hid hO2; replace hmore := Lib.hid hmore
        clear hx vk
        go_wp2_with (fail)
        exact ⟨⟨j + 1, A2, n' + 1, c2, by omega, by go_num, rfl, hO2.out⟩, by simp [intOf]; omega⟩
      | false =>
        rw [hs, if_neg (by decide)] at hmore
        rw [← hmore] at hOk
        replace hO := Lib.hid hO; replace hOk := Lib.hid hOk; replace hmore := Lib.hid hmore
        clear hx vk
        go_wp2_with (fail)
        exact ⟨⟨j + 1, A', n', c', by omega, by go_num, rfl, hOk.out⟩, by simp [intOf]; omega⟩
    · obtain rfl : j = n := by omega
      have hF : OwnE w A' n' c' (ofS s l) wr := by rw [List.take_of_length_le (by omega)] at hO; exact hO
      replace hO := Lib.hid hO; replace hF := Lib.hid hF
      go_wp2_with (fail)
      go_ret
      exact ⟨A', n', c', rfl, hF.out⟩
set_option maxHeartbeats 8000000 in
theorem rof_any (A : Option Addr) (n c : Nat) (l : List Ef) (s : Int) (w : World) (h1 : ES w A n l) (hn : n ≤ 1000) :
    Calls Try.prog 22 #[.slice A n c, .int .i64 s] w fun e w' => ∃ A' n' c', e = .returned (.slice A' n' c') ∧ OwnE w A' n' c' (ofS s l) w' := by
  have hl := h1.1
  replace h1 := Lib.hid h1
  go_enter Try.func22, Try.ntmps22
  go_wp2_with (fail)
  go_loopw [5, 6] (fun v i wr => ∃ (j : Nat) (A' : Option Addr) (n' c' : Nat), j ≤ n ∧ i = .int .i64 j ∧ v = .slice A' n' c' ∧ OwnE w A' n' c' (ofS s (l.take j)) wr) (fun _ i _ => n - (intOf i).toNat)
  case atStart => exact ⟨0, none, 0, 0, by omega, rfl, rfl, ⟨Below.refl _ _, own_none _ _, rfl, Nat.le_refl _⟩⟩
  case round =>
    obtain ⟨j, A', n', c', hj, rfl, rfl, hO⟩ := hrel
    by_cases hlt : j < n
    · obtain ⟨b, o, ⟨x0, x1, x2⟩, rfl, hbl, hx, e0, e1, e2⟩ := ES.at_ (SL.keep h1.out hO.bel) hlt
      have hmore := ofS_more (s := s) hx
      simp only at e0 e1 e2 hmore
      have hn' : n' ≤ 1000 := by
        have h3 := hO.len
        have h4 := ofS_len s (l.take j)
        rw [List.length_take] at h4
        omega
      have j0 : (0 : Int) ≤ j := by omega
      cases hs : x0 == s with
      | true =>
        rw [hs, if_pos rfl] at hmore
        obtain ⟨A2, c2, W2, hrun, hO2⟩ := hO.push (by omega) (x0, x1, x2) 1
        rw [← hmore] at hO2
        simp only at hrun
        replace hO := Lib.hid hO; replace hO2 := Lib.hid hO2; replace hmore := Lib.hid hmore
        clear hx
        go_wp2_with (fail)
        exact ⟨⟨j + 1, A2, n' + 1, c2, by omega, by go_num, rfl, hO2.out⟩, by simp [intOf]; omega⟩
      | false =>
        rw [hs, if_neg (by decide)] at hmore
        rw [← hmore] at hO
        replace hO := Lib.hid hO; replace hmore := Lib.hid hmore
        clear hx
        go_wp2_with (fail)
        exact ⟨⟨j + 1, A', n', c', by omega, by go_num, rfl, hO.out⟩, by simp [intOf]; omega⟩
    · obtain rfl : j = n := by omega
      have hF : OwnE w A' n' c' (ofS s l) wr := by rw [List.take_of_length_le (by omega)] at hO; exact hO
      replace hO := Lib.hid hO; replace hF := Lib.hid hF
      go_wp2_with (fail)
      go_ret
      exact ⟨A', n', c', rfl, hF.out⟩
end Go.Proofs.Ythmkfbabacehnaa
