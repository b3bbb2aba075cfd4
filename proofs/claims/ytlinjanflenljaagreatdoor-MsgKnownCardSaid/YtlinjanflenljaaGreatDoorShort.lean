/- Whether a message is looked at. -/
import Derived.Test.YtlinjanflenljaaGreatDoorOpenBy
namespace Go.Proofs.YtlinjanflenljaaGreatDoor
open Go.RowKit
set_option linter.unusedSimpArgs false
set_option linter.unusedVariables false
set_option linter.unusedSectionVars false
set_option maxRecDepth 10000
def shE (e : Ent) : Prop := e.v.length ≤ 200 ∨ 65536 < e.v.length
def Sh (m : Mg) : Prop := m.l.length ≤ 60 ∧ (m.v.length ≤ 200 ∨ 65536 < m.v.length) ∧ ∀ e ∈ m.l, shE e
def ShB (m : Mg) (e : Ending) : Prop := ∃ b, e = .returned (.bool b) ∧ (b = true → Sh m)
theorem ShB.no (m : Mg) : ShB m (.returned (.bool false)) := ⟨false, rfl, fun h => by cases h⟩
theorem ShB.yes {m : Mg} (h : Sh m) : ShB m (.returned (.bool true)) := ⟨true, rfl, fun _ => h⟩
set_option maxHeartbeats 8000000 in
theorem short_any (m : Mg) (A : Option Addr) (c : Nat) (w : World) (hI : IsM w m A c) : Calls Tryz.prog 16 #[.agg #[.int .i64 m.k, .int .i64 m.fr, .int .i64 m.tt, .int .i64 m.ro, .int .i64 m.no, .int .i64 m.sl, .int .i64 m.nu, .string (sOf m.v), .slice A m.l.length c]] w fun e w' => ShB m e ∧ Below w.heap.size w w' := by
  obtain ⟨U, hU⟩ : ∃ U, U = w.alloc (.cells #[.int .i64 m.k, .int .i64 m.fr, .int .i64 m.tt, .int .i64 m.ro, .int .i64 m.no, .int .i64 m.sl, .int .i64 m.nu, .string (sOf m.v), .slice A m.l.length c] 28) := ⟨_, rfl⟩
  have kb : Below w.heap.size w U := by rw [hU]; exact (Below.refl _ w).alloc (Nat.le_refl _) _
  have hm : U.heap[w.heap.size]? = some (.cells #[.int .i64 m.k, .int .i64 m.fr, .int .i64 m.tt, .int .i64 m.ro, .int .i64 m.no, .int .i64 m.sl, .int .i64 m.nu, .string (sOf m.v), .slice A m.l.length c] 28 (0, 0)) := by rw [hU]; exact hpNew w _
  have lm := blkX hm
  have hES := SL.keep hI.es kb
  have hnn := hI.n
  obtain ⟨n, hN⟩ : ∃ n, n = m.l.length := ⟨_, rfl⟩
  have u8 : U.cell? ⟨w.heap.size, 8, none⟩ = some (.slice A n c) := by rw [hN]; exact blkC hm 8
  rw [← hN] at hES hnn hU
  have hvl := Lib.hid (sOf_size m.v)
  generalize hs : (sOf m.v).size = s at *
  have hsi : ((sOf m.v).size : Int) = (s : Int) := by omega
  have hbb := Lib.hid kb
  replace kb := Lib.hid kb; replace hES := Lib.hid hES; replace hI := Lib.hid hI; replace hU := Lib.hid hU; replace hN := Lib.hid hN
  clear hm
  by_cases h1 : 60 < n
  · have a1 : (60 : Int) < (n : Int) := by omega
    clear u8
    go_enter Tryz.func16, Tryz.ntmps16
    rw [← hN.out]
    go_wp2_with (fail)
    go_ret
    exact ⟨ShB.no m, by rw [← hU.out]; exact hbb.out⟩
  · have a1 : ¬ (60 : Int) < (n : Int) := by omega
    have hcase : (200 < s ∧ s ≤ 65536) ∨ (200 < s ∧ ¬ s ≤ 65536) ∨ ¬ 200 < s := by omega
    have hloop : (200 < s ∧ s ≤ 65536) ∨ ((200 < s → ¬ s ≤ 65536)) := by omega
    rcases hloop with ⟨h2, h3⟩ | h2
    · have b1 : (200 : Int) < (s : Int) := by omega
      have b2 : (s : Int) ≤ 65536 := by omega
      clear u8 hcase
      go_enter Tryz.func16, Tryz.ntmps16
      rw [← hN.out]
      go_wp2_with (fail)
      go_ret
      exact ⟨ShB.no m, by rw [← hU.out]; exact hbb.out⟩
    · have hc2 : (200 < s ∧ ¬ s ≤ 65536) ∨ ¬ 200 < s := by omega
      clear hcase h2
      rcases hc2 with ⟨h2, h3⟩ | h2
      · have b1 : (200 : Int) < (s : Int) := by omega
        have b2 : ¬ (s : Int) ≤ 65536 := by omega
        replace u8 := Lib.hid u8
        have hvv := Lib.hid (show s ≤ 200 ∨ 65536 < s from by omega)
        go_enter Tryz.func16, Tryz.ntmps16
        rw [← hN.out]
        go_wp2_with (fail)
        go_loopw [3] (fun i wr => ∃ k : Nat, k ≤ n ∧ i = .int .i64 k ∧ (∀ e ∈ m.l.take k, shE e) ∧ Below U.heap.size U wr) (fun i _ => n - (intOf i).toNat)
        case atStart => exact ⟨0, by omega, rfl, by simp, by rw [← hU.out]; exact Below.refl _ _⟩
        case round =>
          revert wr
          intro W1 hrel
          obtain ⟨k, hk, rfl, hall, hb⟩ := hrel
          have v8 := (hb.cell (p := ⟨w.heap.size, 8, none⟩) lm).trans u8.out
          have hbw := Lib.hid (kb.out.trans (hb.mono kb.out.size))
          have hE1 := SL.keep hES.out hb
          by_cases hlt : k < n
          · obtain ⟨b, o, x, rfl, hbl, hx, c0, c1, c2, c3⟩ := ES.at_ hE1 hlt
            have k0 : (0 : Int) ≤ k := by omega
            have k1 : (k : Int) < (n : Int) := by omega
            have hxs := sOf_size x.v
            have hnx : shE x → ∀ e ∈ m.l.take (k + 1), shE e := fun hs e he => by
              rw [List.take_add_one, hx] at he
              rcases List.mem_append.1 he with h | h
              · exact hall e h
              · simp at h; rw [h]; exact hs
            generalize hss : (sOf x.v).size = t at *
            replace hnx := Lib.hid hnx; replace hxs := Lib.hid hxs
            have hssi : ((sOf x.v).size : Int) = (t : Int) := by omega
            replace hb := Lib.hid hb; replace hE1 := Lib.hid hE1
            clear hx hall
            by_cases g1 : 200 < t
            · have g1' : (200 : Int) < (t : Int) := by omega
              by_cases g2 : t ≤ 65536
              · have g2' : (t : Int) ≤ 65536 := by omega
                go_wp2_with (fail)
                go_ret
                exact ⟨ShB.no m, hbw.out⟩
              · have g2' : ¬ (t : Int) ≤ 65536 := by omega
                go_wp2_with (fail)
                exact ⟨⟨k + 1, by omega, by go_num, hnx.out (.inr (by have := hxs.out; omega)), hb.out⟩, by simp [intOf]; omega⟩
            · have g1' : ¬ (200 : Int) < (t : Int) := by omega
              go_wp2_with (fail)
              exact ⟨⟨k + 1, by omega, by go_num, hnx.out (.inl (by have := hxs.out; omega)), hb.out⟩, by simp [intOf]; omega⟩
          · obtain rfl : k = n := by omega
            replace hb := Lib.hid hb; replace hE1 := Lib.hid hE1; replace hall := Lib.hid hall
            go_wp2_with (fail)
            go_ret
            exact ⟨ShB.yes ⟨by have := hN.out; omega, by have := hvl.out; have := hvv.out; omega, fun e he => hall.out e (by rw [hN.out, List.take_length]; exact he)⟩, hbw.out⟩
      · have b1 : ¬ (200 : Int) < (s : Int) := by omega
        replace u8 := Lib.hid u8
        have hvv := Lib.hid (show s ≤ 200 ∨ 65536 < s from by omega)
        go_enter Tryz.func16, Tryz.ntmps16
        rw [← hN.out]
        go_wp2_with (fail)
        go_loopw [3] (fun i wr => ∃ k : Nat, k ≤ n ∧ i = .int .i64 k ∧ (∀ e ∈ m.l.take k, shE e) ∧ Below U.heap.size U wr) (fun i _ => n - (intOf i).toNat)
        case atStart => exact ⟨0, by omega, rfl, by simp, by rw [← hU.out]; exact Below.refl _ _⟩
        case round =>
          revert wr
          intro W1 hrel
          obtain ⟨k, hk, rfl, hall, hb⟩ := hrel
          have v8 := (hb.cell (p := ⟨w.heap.size, 8, none⟩) lm).trans u8.out
          have hbw := Lib.hid (kb.out.trans (hb.mono kb.out.size))
          have hE1 := SL.keep hES.out hb
          by_cases hlt : k < n
          · obtain ⟨b, o, x, rfl, hbl, hx, c0, c1, c2, c3⟩ := ES.at_ hE1 hlt
            have k0 : (0 : Int) ≤ k := by omega
            have k1 : (k : Int) < (n : Int) := by omega
            have hxs := sOf_size x.v
            have hnx : shE x → ∀ e ∈ m.l.take (k + 1), shE e := fun hs e he => by
              rw [List.take_add_one, hx] at he
              rcases List.mem_append.1 he with h | h
              · exact hall e h
              · simp at h; rw [h]; exact hs
            generalize hss : (sOf x.v).size = t at *
            replace hnx := Lib.hid hnx; replace hxs := Lib.hid hxs
            have hssi : ((sOf x.v).size : Int) = (t : Int) := by omega
            replace hb := Lib.hid hb; replace hE1 := Lib.hid hE1
            clear hx hall
            by_cases g1 : 200 < t
            · have g1' : (200 : Int) < (t : Int) := by omega
              by_cases g2 : t ≤ 65536
              · have g2' : (t : Int) ≤ 65536 := by omega
                go_wp2_with (fail)
                go_ret
                exact ⟨ShB.no m, hbw.out⟩
              · have g2' : ¬ (t : Int) ≤ 65536 := by omega
                go_wp2_with (fail)
                exact ⟨⟨k + 1, by omega, by go_num, hnx.out (.inr (by have := hxs.out; omega)), hb.out⟩, by simp [intOf]; omega⟩
            · have g1' : ¬ (200 : Int) < (t : Int) := by omega
              go_wp2_with (fail)
              exact ⟨⟨k + 1, by omega, by go_num, hnx.out (.inl (by have := hxs.out; omega)), hb.out⟩, by simp [intOf]; omega⟩
          · obtain rfl : k = n := by omega
            replace hb := Lib.hid hb; replace hE1 := Lib.hid hE1; replace hall := Lib.hid hall
            go_wp2_with (fail)
            go_ret
            exact ⟨ShB.yes ⟨by have := hN.out; omega, by have := hvl.out; have := hvv.out; omega, fun e he => hall.out e (by rw [hN.out, List.take_length]; exact he)⟩, hbw.out⟩
end Go.Proofs.YtlinjanflenljaaGreatDoor
