/- slices.Sort at three bytes. -/
import Derived.Test.YtkdfhackpmdgfaaGreatDoorSort3
import Derived.Test.YtkdfhackpmdgfaaGreatDoorShelf
namespace Go.Proofs.YtkdfhackpmdgfaaGreatDoor
open Go.RowKit Go.Shelf
set_option linter.unusedSimpArgs false
set_option linter.unusedVariables false
set_option linter.unusedSectionVars false
set_option maxRecDepth 10000
set_option maxHeartbeats 4000000 in
theorem psort3 (a b c lim : Int) (g cp : Nat) (w : World) (hg : w.heap[g]? = some (.cells #[.int .u8 a, .int .u8 b, .int .u8 c] 5 (0, 0))) : Calls Tryz.prog 19 #[.slice (some ⟨g, 0, none⟩) 3 cp, .int .i64 0, .int .i64 3, .int .i64 lim] w fun e w' => e = .returned (.tuple #[]) ∧ Chg (fun k => k = g) w w' ∧ ∃ x y z, Srt3 a b c x y z ∧ w'.heap[g]? = some (.cells #[.int .u8 x, .int .u8 y, .int .u8 z] 5 (0, 0)) := by
  have hi := isort3 a b c g cp w hg
  replace hg := Lib.hid hg
  go_enter Tryz.func19, Tryz.ntmps19
  go_wp2_with (fail)
  go_loopw [1, 2] (fun i j wr => i = .int .i64 0 ∧ j = .int .i64 3 ∧ wr = w) (fun _ _ _ => 0)
  case atStart => exact ⟨rfl, rfl, rfl⟩
  case round =>
    revert wr
    intro w1 hrel
    obtain ⟨rfl, rfl, rfl⟩ := hrel
    go_wp2_with (fail)
    refine hi.mono ?_
    rintro e w2 ⟨rfl, hc, x, y, z, hs, hb⟩
    replace hc := Lib.hid hc; replace hb := Lib.hid hb
    go_wp2_with (fail)
    refine bodyPost_ret (by simp [results, Tryz.results19, go_sem, *]; try with_reducible rfl) rfl ?_
    exact ⟨rfl, hc.out, x, y, z, hs, hb.out⟩
set_option maxHeartbeats 4000000 in
theorem sort3 (a b c : Int) (g cp : Nat) (w : World) (hg : w.heap[g]? = some (.cells #[.int .u8 a, .int .u8 b, .int .u8 c] 5 (0, 0))) : Calls Tryz.prog 5 #[.slice (some ⟨g, 0, none⟩) 3 cp] w fun e w' => e = .returned (.tuple #[]) ∧ Chg (fun k => k = g) w w' ∧ ∃ x y z, Srt3 a b c x y z ∧ w'.heap[g]? = some (.cells #[.int .u8 x, .int .u8 y, .int .u8 z] 5 (0, 0)) := by
  have hp := fun lim => psort3 a b c lim g cp w hg
  have hl := Tryz.bits_Len 3 w (by decide) (by decide)
  generalize Lib.bitLen (3 : Int).toNat = L at *
  replace hg := Lib.hid hg
  go_enter Tryz.func5, Tryz.ntmps5
  go_wp2_with (fail)
  refine hl.mono ?_
  rintro e w1 ⟨rfl, rfl⟩
  go_wp2_with (fail)
  refine (hp _).mono ?_
  rintro e w2 ⟨rfl, hc, x, y, z, hs, hb⟩
  replace hc := Lib.hid hc; replace hb := Lib.hid hb
  go_wp2_with (fail)
  go_end0
  exact ⟨rfl, hc.out, x, y, z, hs, hb.out⟩
end Go.Proofs.YtkdfhackpmdgfaaGreatDoor
