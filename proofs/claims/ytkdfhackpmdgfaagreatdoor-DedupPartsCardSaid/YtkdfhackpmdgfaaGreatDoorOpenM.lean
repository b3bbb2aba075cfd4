/- A list of memos, as an argument. -/
import Derived.Test.YtkdfhackpmdgfaaGreatDoorOpens
import Derived.Test.YtkdfhackpmdgfaaGreatDoorOpenR
import Derived.Test.YtkdfhackpmdgfaaGreatDoorFill
namespace Go.Proofs.YtkdfhackpmdgfaaGreatDoor
open Go.RowKit Go.Shelf
set_option linter.unusedSimpArgs false
set_option linter.unusedVariables false
set_option linter.unusedSectionVars false
set_option maxRecDepth 10000
open Go.ChangeShapes Go.WideShapes Go.Deep
theorem blk_add (a : Addr) (n : Nat) : (a.add n).block = a.block := by
  unfold Addr.add; split <;> rfl
section
variable {H : Type} {enc : TypeId × Value → H} {w : World} {r : Reach} {b0 : Nat}
theorem open_memos {v : Value} {d : DataW H} {p : List MemPlace} (hval : Value.okWide Tryz.prog w r b0 22 v) (h : DataW.Trod enc Tryz.prog w 0 (fun _ => true) true 22 v d p) (hw : Weighs Tryz.prog 22 d) :
    ∃ A n c l, v = .slice A n c ∧ MS w A n l ∧ n ≤ c ∧ n ≤ 140737488355328 ∧ ∀ m ∈ l, okM m := by
  obtain ⟨A, n, c, rfl⟩ := okWide_slice Tryz.underlying22 hval
  obtain ⟨fuel, hf⟩ := h
  rcases open_slice_fields Tryz.underlying22 Tryz.underlying48 (by kernel_rfl) (by kernel_rfl) hf with ⟨hcs, hx⟩ | ⟨a, len, cap, m, D, Pl, hcs, _, hl, hm, hmm, hx, hi⟩
  · simp [Value.cells] at hcs
    obtain ⟨rfl, rfl, rfl⟩ := hcs
    exact ⟨none, 0, 0, [], rfl, SL.nil _ _, by omega, by omega, by simp⟩
  · simp [Value.cells] at hcs
    obtain ⟨rfl, rfl, rfl⟩ := hcs
    simp only [Prod.mk.injEq] at hx
    obtain ⟨rfl, rfl⟩ := hx
    simp only [if_true] at hmm
    subst hmm
    have hr := reachBytes_lt
    have hsz : n ≤ 140737488355328 := by
      have hwn := hw ((((List.range n).map D).length + ((List.range (m - n)).map fun j => D (n + j)).length) * Tryz.prog.bytesOf 48) (by
        simp only [DataW.weights, Tryz.underlying22]
        exact List.mem_cons_self ..)
      rw [show Tryz.prog.bytesOf 48 = 12 from by kernel_rfl] at hwn
      simp only [List.length_map, List.length_range] at hwn
      omega
    have hel : ∀ i, i < n → ∃ u : Mo, okM u ∧ w.cell? (a.add (i * 5)) = some (.int .u8 u.1) ∧ w.cell? (a.add (i * 5 + 1)) = some (.int .u8 u.2.1) ∧ w.cell? (a.add (i * 5 + 2)) = some (.int .u8 u.2.2.1) ∧ w.cell? (a.add (i * 5 + 3)) = some (.int .i32 u.2.2.2.1) ∧ w.cell? (a.add (i * 5 + 4)) = some (.int .u8 u.2.2.2.2) := by
      intro i hin
      obtain ⟨ys, q, hD, _, hyl, hfs⟩ := hi i (by omega)
      obtain ⟨v0, y0, hc0, hy0, t0⟩ := hfs 0 _ rfl
      obtain ⟨v1, y1, hc1, hy1, t1⟩ := hfs 1 _ rfl
      obtain ⟨v2, y2, hc2, hy2, t2⟩ := hfs 2 _ rfl
      obtain ⟨v3, y3, hc3, hy3, t3⟩ := hfs 3 _ rfl
      obtain ⟨v4, y4, hc4, hy4, t4⟩ := hfs 4 _ rfl
      obtain ⟨a0, e0, x0, w0⟩ := DataW.trod_int Tryz.underlying5 t0
      obtain ⟨a1, e1, x1, w1⟩ := DataW.trod_int Tryz.underlying5 t1
      obtain ⟨a2, e2, x2, w2⟩ := DataW.trod_int Tryz.underlying5 t2
      obtain ⟨a3, e3, x3, w3⟩ := DataW.trod_int Tryz.underlying21 t3
      obtain ⟨a4, e4, x4, w4⟩ := DataW.trod_int Tryz.underlying5 t4
      simp only [List.cons.injEq, and_true] at e0 e1 e2 e3 e4
      subst e0 e1 e2 e3 e4
      exact ⟨(a0, a1, a2, a3, a4), ⟨u8_of w0, u8_of w1, u8_of w2, i32_of w3, u8_of w4⟩, hc0, hc1, hc2, hc3, hc4⟩
    let F : Nat → Mo := fun i => if hin : i < n then (hel i hin).choose else (0, 0, 0, 0, 0)
    have hF : ∀ i (hin : i < n), okM (F i) ∧ w.cell? (a.add (i * 5)) = some (.int .u8 (F i).1) ∧ w.cell? (a.add (i * 5 + 1)) = some (.int .u8 (F i).2.1) ∧ w.cell? (a.add (i * 5 + 2)) = some (.int .u8 (F i).2.2.1) ∧ w.cell? (a.add (i * 5 + 3)) = some (.int .i32 (F i).2.2.2.1) ∧ w.cell? (a.add (i * 5 + 4)) = some (.int .u8 (F i).2.2.2.2) := by
      intro i hin
      have := (hel i hin).choose_spec
      simp only [F, dif_pos hin]
      exact this
    refine ⟨some a, n, m, (List.range n).map F, rfl, ⟨by simp, fun hn => ?_⟩, hl, hsz, fun x hx => ?_⟩
    · obtain ⟨_, h0, _⟩ := hF 0 hn
      have hb := World.block_lt_of_cell? w (a.add (0 * 5)) h0
      have hs := World.cell?_spot h0
      rw [blk_add] at hb
      have hsp : a.spot = none := by simpa [Addr.add] using hs
      obtain ⟨ab, ao, asp⟩ := a
      simp only at hsp
      subst hsp
      refine ⟨ab, ao, rfl, hb, fun i u hu j x hx => ?_⟩
      have hil := (List.getElem?_eq_some_iff.1 hu).1
      simp only [List.length_map, List.length_range] at hil
      obtain ⟨_, c0, c1, c2, c3, c4⟩ := hF i hil
      rw [Addr.add_lit] at c0 c1 c2 c3 c4
      rw [List.getElem?_map, List.getElem?_range hil] at hu
      simp only [Option.map_some, Option.some.injEq] at hu
      subst hu
      rw [← Nat.add_assoc] at c1 c2 c3 c4
      rcases j with _ | _ | _ | _ | _ | j
      · simp [encMo] at hx; subst hx; exact c0
      · simp [encMo] at hx; subst hx; exact c1
      · simp [encMo] at hx; subst hx; exact c2
      · simp [encMo] at hx; subst hx; exact c3
      · simp [encMo] at hx; subst hx; exact c4
      · simp [encMo] at hx
    · obtain ⟨i, hi2, rfl⟩ := List.mem_map.1 hx
      exact (hF i (List.mem_range.1 hi2)).1
end
end Go.Proofs.YtkdfhackpmdgfaaGreatDoor
