/- MsgKnown: contracts at literals, the rows. -/
import Derived.Test.YtlinjanflenljaaGreatDoorKnownP
import Derived.Test.YtlinjanflenljaaGreatDoorCutsW
namespace Go.Proofs.YtlinjanflenljaaGreatDoor
open Go.RowKit
set_option linter.unusedSimpArgs false
set_option linter.unusedVariables false
set_option linter.unusedSectionVars false
set_option maxRecDepth 10000
theorem kA_call (W : World) (hL : Ldr W) : Calls Tryz.prog 20 #[.agg #[.int .i64 4, .int .i64 1, .int .i64 0, .int .i64 2, .int .i64 1, .int .i64 7, .int .i64 0, .string ⟨#[]⟩, .slice none 0 0]] W fun e w' => e = .returned (.tuple #[.string ⟨#[49, 62, 48, 32, 97, 99, 99, 101, 112, 116, 32, 50, 46, 49, 32, 55, 32, 48, 35, 48, 48, 48, 48, 48, 48, 48, 48]⟩, .int .i64 0]) ∧ Below W.heap.size W w' := by
  have h := textm_any kA none 0 W hL (SL.nil _ _) (by decide)
  rw [kA_text, kA_enc] at h
  exact h
theorem kB_call (W : World) (hL : Ldr W) : Calls Tryz.prog 17 #[.agg #[.int .i64 7, .int .i64 1, .int .i64 0, .int .i64 2, .int .i64 1, .int .i64 0, .int .i64 300, .string ⟨#[]⟩, .slice none 0 0]] W fun e w' => ∃ A c, e = .returned (.tuple #[.slice A 7 c, .int .i64 0]) ∧ IsBytes W A c [7, 1, 0, 2, 1, 172, 2] w' := by
  have h := enc_any kB none 0 W hL (SL.nil _ _) (by decide)
  unfold EncTo at h
  rw [kB_encB, kB_enc] at h
  exact h
def goodC (L : Nat) : Array Value := #[.int .i64 1, .int .i64 55, .int .i64 0, .int .i64 2, .int .i64 1, .int .i64 4096, .int .i64 0, .string ⟨#[]⟩, .slice none 0 0, .int .i64 2, .int .i64 0, .int .i64 55, .int .i64 2, .int .i64 1, .int .i64 0, .int .i64 4096, .string ⟨#[]⟩, .slice (some ⟨L, 0, none⟩) 1 1, .int .i64 3, .int .i64 0, .int .i64 1, .int .i64 1073741824, .int .i64 6, .int .i64 0, .int .i64 0, .string ⟨#[]⟩, .slice none 0 0, .int .i64 4, .int .i64 0, .int .i64 1, .int .i64 2, .int .i64 1, .int .i64 4095, .int .i64 0, .string ⟨#[]⟩, .slice none 0 0, .int .i64 5, .int .i64 0, .int .i64 1, .int .i64 2, .int .i64 1, .int .i64 4095, .int .i64 0, .string ⟨#[]⟩, .slice none 0 0, .int .i64 6, .int .i64 0, .int .i64 1, .int .i64 0, .int .i64 0, .int .i64 4095, .int .i64 0, .string ⟨#[]⟩, .slice none 0 0, .int .i64 7, .int .i64 0, .int .i64 1, .int .i64 2, .int .i64 1, .int .i64 0, .int .i64 4096, .string ⟨#[]⟩, .slice none 0 0, .int .i64 8, .int .i64 0, .int .i64 1, .int .i64 0, .int .i64 0, .int .i64 4096, .int .i64 0, .string ⟨#[]⟩, .slice none 0 0, .int .i64 9, .int .i64 0, .int .i64 1, .int .i64 0, .int .i64 0, .int .i64 0, .int .i64 4096, .string ⟨#[]⟩, .slice none 0 0, .int .i64 10, .int .i64 0, .int .i64 1, .int .i64 0, .int .i64 0, .int .i64 0, .int .i64 2147483647, .string ⟨#[]⟩, .slice none 0 0, .int .i64 11, .int .i64 0, .int .i64 1, .int .i64 0, .int .i64 0, .int .i64 0, .int .i64 1, .string ⟨#[]⟩, .slice none 0 0]
def badC (L : Nat) : Array Value := #[.int .i64 0, .int .i64 0, .int .i64 0, .int .i64 0, .int .i64 0, .int .i64 0, .int .i64 0, .string ⟨#[]⟩, .slice none 0 0, .int .i64 1, .int .i64 0, .int .i64 1, .int .i64 2, .int .i64 1, .int .i64 4097, .int .i64 0, .string ⟨#[]⟩, .slice none 0 0, .int .i64 1, .int .i64 0, .int .i64 1, .int .i64 0, .int .i64 0, .int .i64 0, .int .i64 0, .string ⟨#[]⟩, .slice none 0 0, .int .i64 2, .int .i64 0, .int .i64 1, .int .i64 2, .int .i64 1, .int .i64 0, .int .i64 0, .string ⟨#[]⟩, .slice (some ⟨L, 0, none⟩) 2 2, .int .i64 2, .int .i64 0, .int .i64 1, .int .i64 2, .int .i64 1, .int .i64 0, .int .i64 0, .string ⟨#[]⟩, .slice (some ⟨L + 1, 0, none⟩) 1 1, .int .i64 3, .int .i64 0, .int .i64 1, .int .i64 1, .int .i64 7, .int .i64 0, .int .i64 0, .string ⟨#[]⟩, .slice none 0 0, .int .i64 4, .int .i64 0, .int .i64 1, .int .i64 2, .int .i64 1, .int .i64 4096, .int .i64 0, .string ⟨#[]⟩, .slice none 0 0, .int .i64 6, .int .i64 0, .int .i64 1, .int .i64 2, .int .i64 1, .int .i64 0, .int .i64 0, .string ⟨#[]⟩, .slice none 0 0, .int .i64 8, .int .i64 0, .int .i64 1, .int .i64 0, .int .i64 0, .int .i64 0, .int .i64 1, .string ⟨#[]⟩, .slice none 0 0, .int .i64 9, .int .i64 0, .int .i64 1, .int .i64 0, .int .i64 0, .int .i64 0, .int .i64 0, .string ⟨#[]⟩, .slice none 0 0, .int .i64 10, .int .i64 0, .int .i64 1, .int .i64 0, .int .i64 0, .int .i64 0, .int .i64 0, .string ⟨#[]⟩, .slice none 0 0, .int .i64 11, .int .i64 0, .int .i64 1, .int .i64 0, .int .i64 0, .int .i64 0, .int .i64 2147483648, .string ⟨#[]⟩, .slice none 0 0, .int .i64 3, .int .i64 3, .int .i64 3, .int .i64 2, .int .i64 1, .int .i64 0, .int .i64 0, .string ⟨#[]⟩, .slice none 0 0, .int .i64 3, .int .i64 (-1), .int .i64 0, .int .i64 2, .int .i64 1, .int .i64 0, .int .i64 0, .string ⟨#[]⟩, .slice none 0 0]
theorem es_row {W : World} {L : Nat} {e : Ent} (h : W.heap[L]? = some (.cells #[.int .i64 e.sl, .int .i64 e.ro, .int .i64 e.no, .string (sOf e.v)] 45 (0, 0))) : ES W (some ⟨L, 0, none⟩) 1 [e] := by
  refine ⟨rfl, fun _ => ⟨L, 0, rfl, blkX h, fun i x hx j u hu => ?_⟩⟩
  obtain rfl : i = 0 := by have := (List.getElem?_eq_some_iff.1 hx).1; simp at this; omega
  obtain rfl : x = e := by simpa using hx.symm
  have hj : j = 0 ∨ j = 1 ∨ j = 2 ∨ j = 3 := by have := (List.getElem?_eq_some_iff.1 hu).1; rw [encEnt_len] at this; omega
  refine (blkC h _).trans ?_
  rcases hj with rfl | rfl | rfl | rfl <;> (simp [encEnt] at hu; subst hu; rfl)

theorem good_at {W : World} {L G : Nat} (hG : W.heap[G]? = some (.cells (goodC L) 28 (0, 0))) (hL : W.heap[L]? = some (.cells #[.int .i64 4095, .int .i64 2, .int .i64 1, .string ⟨#[]⟩] 45 (0, 0))) {j : Nat} (hj : j < 11) : ∃ m A c, encE m = 0 ∧ m.l.length ≤ 1 ∧ pxB m.k = decide (j < 9) ∧ ES W A m.l.length m.l ∧ W.cell? ⟨G, j * 9, none⟩ = some (.int .i64 m.k) ∧ W.cell? ⟨G, j * 9 + 1, none⟩ = some (.int .i64 m.fr) ∧ W.cell? ⟨G, j * 9 + 2, none⟩ = some (.int .i64 m.tt) ∧ W.cell? ⟨G, j * 9 + 3, none⟩ = some (.int .i64 m.ro) ∧ W.cell? ⟨G, j * 9 + 4, none⟩ = some (.int .i64 m.no) ∧ W.cell? ⟨G, j * 9 + 5, none⟩ = some (.int .i64 m.sl) ∧ W.cell? ⟨G, j * 9 + 6, none⟩ = some (.int .i64 m.nu) ∧ W.cell? ⟨G, j * 9 + 7, none⟩ = some (.string (sOf m.v)) ∧ W.cell? ⟨G, j * 9 + 8, none⟩ = some (.slice A m.l.length c) := by
  have he : ES W (some ⟨L, 0, none⟩) 1 [⟨4095, 2, 1, []⟩] := es_row hL
  rcases lt11 hj with rfl | rfl | rfl | rfl | rfl | rfl | rfl | rfl | rfl | rfl | rfl
  · exact ⟨gM 0, none, 0, gM_enc (by omega), gM_len (by omega), gM_px (by omega), SL.nil _ _, blkC hG 0, blkC hG 1, blkC hG 2, blkC hG 3, blkC hG 4, blkC hG 5, blkC hG 6, blkC hG 7, blkC hG 8⟩
  · exact ⟨gM 1, some ⟨L, 0, none⟩, 1, gM_enc (by omega), gM_len (by omega), gM_px (by omega), he, blkC hG 9, blkC hG 10, blkC hG 11, blkC hG 12, blkC hG 13, blkC hG 14, blkC hG 15, blkC hG 16, blkC hG 17⟩
  · exact ⟨gM 2, none, 0, gM_enc (by omega), gM_len (by omega), gM_px (by omega), SL.nil _ _, blkC hG 18, blkC hG 19, blkC hG 20, blkC hG 21, blkC hG 22, blkC hG 23, blkC hG 24, blkC hG 25, blkC hG 26⟩
  · exact ⟨gM 3, none, 0, gM_enc (by omega), gM_len (by omega), gM_px (by omega), SL.nil _ _, blkC hG 27, blkC hG 28, blkC hG 29, blkC hG 30, blkC hG 31, blkC hG 32, blkC hG 33, blkC hG 34, blkC hG 35⟩
  · exact ⟨gM 4, none, 0, gM_enc (by omega), gM_len (by omega), gM_px (by omega), SL.nil _ _, blkC hG 36, blkC hG 37, blkC hG 38, blkC hG 39, blkC hG 40, blkC hG 41, blkC hG 42, blkC hG 43, blkC hG 44⟩
  · exact ⟨gM 5, none, 0, gM_enc (by omega), gM_len (by omega), gM_px (by omega), SL.nil _ _, blkC hG 45, blkC hG 46, blkC hG 47, blkC hG 48, blkC hG 49, blkC hG 50, blkC hG 51, blkC hG 52, blkC hG 53⟩
  · exact ⟨gM 6, none, 0, gM_enc (by omega), gM_len (by omega), gM_px (by omega), SL.nil _ _, blkC hG 54, blkC hG 55, blkC hG 56, blkC hG 57, blkC hG 58, blkC hG 59, blkC hG 60, blkC hG 61, blkC hG 62⟩
  · exact ⟨gM 7, none, 0, gM_enc (by omega), gM_len (by omega), gM_px (by omega), SL.nil _ _, blkC hG 63, blkC hG 64, blkC hG 65, blkC hG 66, blkC hG 67, blkC hG 68, blkC hG 69, blkC hG 70, blkC hG 71⟩
  · exact ⟨gM 8, none, 0, gM_enc (by omega), gM_len (by omega), gM_px (by omega), SL.nil _ _, blkC hG 72, blkC hG 73, blkC hG 74, blkC hG 75, blkC hG 76, blkC hG 77, blkC hG 78, blkC hG 79, blkC hG 80⟩
  · exact ⟨gM 9, none, 0, gM_enc (by omega), gM_len (by omega), gM_px (by omega), SL.nil _ _, blkC hG 81, blkC hG 82, blkC hG 83, blkC hG 84, blkC hG 85, blkC hG 86, blkC hG 87, blkC hG 88, blkC hG 89⟩
  · exact ⟨gM 10, none, 0, gM_enc (by omega), gM_len (by omega), gM_px (by omega), SL.nil _ _, blkC hG 90, blkC hG 91, blkC hG 92, blkC hG 93, blkC hG 94, blkC hG 95, blkC hG 96, blkC hG 97, blkC hG 98⟩

theorem es_row2 {W : World} {L : Nat} {e d : Ent} (h : W.heap[L]? = some (.cells #[.int .i64 e.sl, .int .i64 e.ro, .int .i64 e.no, .string (sOf e.v), .int .i64 d.sl, .int .i64 d.ro, .int .i64 d.no, .string (sOf d.v)] 45 (0, 0))) : ES W (some ⟨L, 0, none⟩) 2 [e, d] := by
  refine ⟨rfl, fun _ => ⟨L, 0, rfl, blkX h, fun i x hx j u hu => ?_⟩⟩
  have hi : i = 0 ∨ i = 1 := by have := (List.getElem?_eq_some_iff.1 hx).1; simp at this; omega
  have hj : j = 0 ∨ j = 1 ∨ j = 2 ∨ j = 3 := by have := (List.getElem?_eq_some_iff.1 hu).1; rw [encEnt_len] at this; omega
  refine (blkC h _).trans ?_
  rcases hi with rfl | rfl <;> (simp at hx; subst hx; rcases hj with rfl | rfl | rfl | rfl <;> (simp [encEnt] at hu; subst hu; rfl))
theorem bad_at {W : World} {L G : Nat} (hG : W.heap[G]? = some (.cells (badC L) 28 (0, 0))) (hL : W.heap[L]? = some (.cells #[.int .i64 1, .int .i64 2, .int .i64 1, .string ⟨#[]⟩, .int .i64 1, .int .i64 2, .int .i64 1, .string ⟨#[]⟩] 45 (0, 0))) (hL2 : W.heap[L + 1]? = some (.cells #[.int .i64 0, .int .i64 0, .int .i64 0, .string ⟨#[]⟩] 45 (0, 0))) {j : Nat} (hj : j < 14) : ∃ m A c, encE m = 2 ∧ m.l.length ≤ 2 ∧ ES W A m.l.length m.l ∧ W.cell? ⟨G, j * 9, none⟩ = some (.int .i64 m.k) ∧ W.cell? ⟨G, j * 9 + 1, none⟩ = some (.int .i64 m.fr) ∧ W.cell? ⟨G, j * 9 + 2, none⟩ = some (.int .i64 m.tt) ∧ W.cell? ⟨G, j * 9 + 3, none⟩ = some (.int .i64 m.ro) ∧ W.cell? ⟨G, j * 9 + 4, none⟩ = some (.int .i64 m.no) ∧ W.cell? ⟨G, j * 9 + 5, none⟩ = some (.int .i64 m.sl) ∧ W.cell? ⟨G, j * 9 + 6, none⟩ = some (.int .i64 m.nu) ∧ W.cell? ⟨G, j * 9 + 7, none⟩ = some (.string (sOf m.v)) ∧ W.cell? ⟨G, j * 9 + 8, none⟩ = some (.slice A m.l.length c) := by
  have he : ES W (some ⟨L, 0, none⟩) 2 [⟨1, 2, 1, []⟩, ⟨1, 2, 1, []⟩] := es_row2 hL
  have he2 : ES W (some ⟨L + 1, 0, none⟩) 1 [⟨0, 0, 0, []⟩] := es_row hL2
  rcases lt14 hj with rfl | rfl | rfl | rfl | rfl | rfl | rfl | rfl | rfl | rfl | rfl | rfl | rfl | rfl
  · exact ⟨bM 0, none, 0, bM_bad (by omega), bM_len (by omega), SL.nil _ _, blkC hG 0, blkC hG 1, blkC hG 2, blkC hG 3, blkC hG 4, blkC hG 5, blkC hG 6, blkC hG 7, blkC hG 8⟩
  · exact ⟨bM 1, none, 0, bM_bad (by omega), bM_len (by omega), SL.nil _ _, blkC hG 9, blkC hG 10, blkC hG 11, blkC hG 12, blkC hG 13, blkC hG 14, blkC hG 15, blkC hG 16, blkC hG 17⟩
  · exact ⟨bM 2, none, 0, bM_bad (by omega), bM_len (by omega), SL.nil _ _, blkC hG 18, blkC hG 19, blkC hG 20, blkC hG 21, blkC hG 22, blkC hG 23, blkC hG 24, blkC hG 25, blkC hG 26⟩
  · exact ⟨bM 3, some ⟨L, 0, none⟩, 2, bM_bad (by omega), bM_len (by omega), he, blkC hG 27, blkC hG 28, blkC hG 29, blkC hG 30, blkC hG 31, blkC hG 32, blkC hG 33, blkC hG 34, blkC hG 35⟩
  · exact ⟨bM 4, some ⟨L + 1, 0, none⟩, 1, bM_bad (by omega), bM_len (by omega), he2, blkC hG 36, blkC hG 37, blkC hG 38, blkC hG 39, blkC hG 40, blkC hG 41, blkC hG 42, blkC hG 43, blkC hG 44⟩
  · exact ⟨bM 5, none, 0, bM_bad (by omega), bM_len (by omega), SL.nil _ _, blkC hG 45, blkC hG 46, blkC hG 47, blkC hG 48, blkC hG 49, blkC hG 50, blkC hG 51, blkC hG 52, blkC hG 53⟩
  · exact ⟨bM 6, none, 0, bM_bad (by omega), bM_len (by omega), SL.nil _ _, blkC hG 54, blkC hG 55, blkC hG 56, blkC hG 57, blkC hG 58, blkC hG 59, blkC hG 60, blkC hG 61, blkC hG 62⟩
  · exact ⟨bM 7, none, 0, bM_bad (by omega), bM_len (by omega), SL.nil _ _, blkC hG 63, blkC hG 64, blkC hG 65, blkC hG 66, blkC hG 67, blkC hG 68, blkC hG 69, blkC hG 70, blkC hG 71⟩
  · exact ⟨bM 8, none, 0, bM_bad (by omega), bM_len (by omega), SL.nil _ _, blkC hG 72, blkC hG 73, blkC hG 74, blkC hG 75, blkC hG 76, blkC hG 77, blkC hG 78, blkC hG 79, blkC hG 80⟩
  · exact ⟨bM 9, none, 0, bM_bad (by omega), bM_len (by omega), SL.nil _ _, blkC hG 81, blkC hG 82, blkC hG 83, blkC hG 84, blkC hG 85, blkC hG 86, blkC hG 87, blkC hG 88, blkC hG 89⟩
  · exact ⟨bM 10, none, 0, bM_bad (by omega), bM_len (by omega), SL.nil _ _, blkC hG 90, blkC hG 91, blkC hG 92, blkC hG 93, blkC hG 94, blkC hG 95, blkC hG 96, blkC hG 97, blkC hG 98⟩
  · exact ⟨bM 11, none, 0, bM_bad (by omega), bM_len (by omega), SL.nil _ _, blkC hG 99, blkC hG 100, blkC hG 101, blkC hG 102, blkC hG 103, blkC hG 104, blkC hG 105, blkC hG 106, blkC hG 107⟩
  · exact ⟨bM 12, none, 0, bM_bad (by omega), bM_len (by omega), SL.nil _ _, blkC hG 108, blkC hG 109, blkC hG 110, blkC hG 111, blkC hG 112, blkC hG 113, blkC hG 114, blkC hG 115, blkC hG 116⟩
  · exact ⟨bM 13, none, 0, bM_bad (by omega), bM_len (by omega), SL.nil _ _, blkC hG 117, blkC hG 118, blkC hG 119, blkC hG 120, blkC hG 121, blkC hG 122, blkC hG 123, blkC hG 124, blkC hG 125⟩
end Go.Proofs.YtlinjanflenljaaGreatDoor
