/- A list of effects, as an argument. -/
import Derived.Test.YthmkfbabacehnaaDoorOpens
import Derived.Test.YthmkfbabacehnaaDoorEf
namespace Go.Proofs.YthmkfbabacehnaaDoor
open Go.RowKit
set_option linter.unusedSimpArgs false
set_option linter.unusedVariables false
set_option linter.unusedSectionVars false
set_option maxRecDepth 10000
open Go.ChangeShapes Go.WideShapes Go.Deep
theorem blk_add (a : Addr) (n : Nat) : (a.add n).block = a.block := by
  unfold Addr.add; split <;> rfl
section
variable {H : Type} {enc : TypeId × Value → H} {w : World} {r : Reach} {b0 : Nat}
theorem open_effs {v : Value} {d : DataW H} {p : List MemPlace} (hval : Value.okWide Tryd.prog w r b0 25 v) (h : DataW.Trod enc Tryd.prog w 0 (fun _ => true) true 25 v d p) (hw : Weighs Tryd.prog 25 d) :
    ∃ A n c l, v = .slice A n c ∧ ES w A n l ∧ n ≤ c ∧ n ≤ 70368744177664 := by
  obtain ⟨A, n, c, rfl⟩ := okWide_slice Tryd.underlying25 hval
  obtain ⟨fuel, hf⟩ := h
  rcases open_slice_fields Tryd.underlying25 Tryd.underlying56 (by kernel_rfl) (by kernel_rfl) hf with ⟨hcs, hx⟩ | ⟨a, len, cap, m, D, Pl, hcs, _, hl, hm, hmm, hx, hi⟩
  · simp [Value.cells] at hcs
    obtain ⟨rfl, rfl, rfl⟩ := hcs
    exact ⟨none, 0, 0, [], rfl, SL.nil _ _, by omega, by omega⟩
  · simp [Value.cells] at hcs
    obtain ⟨rfl, rfl, rfl⟩ := hcs
    simp only [Prod.mk.injEq] at hx
    obtain ⟨rfl, rfl⟩ := hx
    simp only [if_true] at hmm
    subst hmm
    have hr := reachBytes_lt
    have hsz : n ≤ 70368744177664 := by
      have hwn := hw ((((List.range n).map D).length + ((List.range (m - n)).map fun j => D (n + j)).length) * Tryd.prog.bytesOf 56) (by
        simp only [DataW.weights, Tryd.underlying25]
        exact List.mem_cons_self ..)
      rw [show Tryd.prog.bytesOf 56 = 24 from by kernel_rfl] at hwn
      simp only [List.length_map, List.length_range] at hwn
      omega
    have hel : ∀ i, i < n → ∃ u : Ef, w.cell? (a.add (i * 3)) = some (.int .i64 u.1) ∧ w.cell? (a.add (i * 3 + 1)) = some (.int .i64 u.2.1) ∧ w.cell? (a.add (i * 3 + 2)) = some (.int .i64 u.2.2) := by
      intro i hin
      obtain ⟨ys, q, hD, _, hyl, hfs⟩ := hi i (by omega)
      obtain ⟨v0, y0, hc0, hy0, t0⟩ := hfs 0 _ rfl
      obtain ⟨v1, y1, hc1, hy1, t1⟩ := hfs 1 _ rfl
      obtain ⟨v2, y2, hc2, hy2, t2⟩ := hfs 2 _ rfl
      obtain ⟨a0, e0, x0, w0⟩ := DataW.trod_int Tryd.underlying3 t0
      obtain ⟨a1, e1, x1, w1⟩ := DataW.trod_int Tryd.underlying3 t1
      obtain ⟨a2, e2, x2, w2⟩ := DataW.trod_int Tryd.underlying3 t2
      simp only [List.cons.injEq, and_true] at e0 e1 e2
      subst e0 e1 e2
      exact ⟨(a0, a1, a2), hc0, hc1, hc2⟩
    let F : Nat → Ef := fun i => if hin : i < n then (hel i hin).choose else (0, 0, 0)
    have hF : ∀ i (hin : i < n), w.cell? (a.add (i * 3)) = some (.int .i64 (F i).1) ∧ w.cell? (a.add (i * 3 + 1)) = some (.int .i64 (F i).2.1) ∧ w.cell? (a.add (i * 3 + 2)) = some (.int .i64 (F i).2.2) := by
      intro i hin
      have := (hel i hin).choose_spec
      simp only [F, dif_pos hin]
      exact this
    refine ⟨some a, n, m, (List.range n).map F, rfl, ⟨by simp, fun hn => ?_⟩, hl, hsz⟩
    obtain ⟨h0, _⟩ := hF 0 hn
    have hb := World.block_lt_of_cell? w (a.add (0 * 3)) h0
    have hs := World.cell?_spot h0
    rw [blk_add] at hb
    have hsp : a.spot = none := by simpa [Addr.add] using hs
    obtain ⟨ab, ao, asp⟩ := a
    simp only at hsp
    subst hsp
    refine ⟨ab, ao, rfl, hb, fun i u hu j x hx => ?_⟩
    have hil := (List.getElem?_eq_some_iff.1 hu).1
    simp only [List.length_map, List.length_range] at hil
    obtain ⟨c0, c1, c2⟩ := hF i hil
    rw [Addr.add_lit] at c0 c1 c2
    rw [List.getElem?_map, List.getElem?_range hil] at hu
    simp only [Option.map_some, Option.some.injEq] at hu
    subst hu
    rw [← Nat.add_assoc] at c1 c2
    rcases j with _ | _ | _ | j
    · simp [encE] at hx; subst hx; exact c0
    · simp [encE] at hx; subst hx; exact c1
    · simp [encE] at hx; subst hx; exact c2
    · simp [encE] at hx
end
end Go.Proofs.YthmkfbabacehnaaDoor
