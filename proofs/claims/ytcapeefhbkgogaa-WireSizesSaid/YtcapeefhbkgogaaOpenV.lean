/- A list of values, and a list of bytes, as arguments. -/
import Derived.Test.YtcapeefhbkgogaaOpens
import Derived.Test.YtcapeefhbkgogaaFew
namespace Go.Proofs.Ytcapeefhbkgogaa
open Go.ChangeShapes Go.WideShapes Go.Deep Go.RowKit
set_option linter.unusedVariables false
set_option maxRecDepth 10000
theorem u8_of {n : Int} (h : (Lit.int .u8 n).wf = true) : 0 ≤ n ∧ n < 256 := by
  simp [Lit.wf, IntKind.min, IntKind.max, IntKind.signed, IntKind.bits] at h; omega
theorem u64_of {n : Int} (h : (Lit.int .u64 n).wf = true) : 0 ≤ n ∧ n < 18446744073709551616 := by
  simp [Lit.wf, IntKind.min, IntKind.max, IntKind.signed, IntKind.bits] at h; omega
theorem i64_of {n : Int} (h : (Lit.int .i64 n).wf = true) : -9223372036854775808 ≤ n ∧ n ≤ 9223372036854775807 := by
  simp [Lit.wf, IntKind.min, IntKind.max, IntKind.signed, IntKind.bits] at h; omega
section
variable {H : Type} {enc : TypeId × Value → H} {w : World} {r : Reach} {b0 : Nat}
/-- 'Trod' at the whole memory, every spare place read. -/
theorem open_bytes {v : Value} {d : DataW H} {p : List MemPlace} (hval : Value.okWide Try.prog w r b0 35 v) (h : DataW.Trod enc Try.prog w 0 (fun _ => true) true 35 v d p) (hw : Weighs Try.prog 35 d) :
    ∃ A n c xs, v = .slice A n c ∧ RB w A n xs ∧ n ≤ c ∧ n ≤ 140737488355328 := by
  obtain ⟨A, n, c, rfl⟩ := okWide_slice Try.underlying35 hval
  obtain ⟨fuel, hf⟩ := h
  rcases open_ints Try.underlying35 Try.underlying5 (by kernel_rfl) hf with ⟨hcs, hx⟩ | ⟨a, len, cap, zs, hcs, _, hl, hm, hz, hx, hcell, hwz⟩
  · simp [Value.cells] at hcs
    obtain ⟨rfl, rfl, rfl⟩ := hcs
    exact ⟨none, 0, 0, [], rfl, ⟨rfl, fun h => absurd h (by omega)⟩, by omega, by omega⟩
  · simp [Value.cells] at hcs
    obtain ⟨rfl, rfl, rfl⟩ := hcs
    simp only [Prod.mk.injEq] at hx
    obtain ⟨rfl, rfl⟩ := hx
    simp only [if_true] at hz
    have hwn := hw ((lits IntKind.u8 (zs.take n) : List (DataW H)).length + (lits IntKind.u8 (zs.drop n) : List (DataW H)).length) (by
      simp only [DataW.weights, Try.underlying35]
      rw [show Try.prog.bytesOf 5 = 1 from by kernel_rfl, Nat.mul_one]
      exact List.mem_cons_self ..)
    have hr := reachBytes_lt
    simp only [lits, List.length_map, List.length_take, List.length_drop] at hwn
    refine ⟨some a, n, c, (zs.take n).map fun z => UInt8.ofNat z.toNat, rfl, ⟨by simp; omega, fun hn => ⟨a, rfl, ?_, fun j u hu => ?_⟩⟩, hl, by omega⟩
    · have h0 := hcell 0 (by omega)
      have := World.block_lt_of_cell? w (a.add 0) h0
      rwa [block_of_add] at this
    · simp only [bvs, List.map_map, List.getElem?_map, Option.map_eq_some_iff] at hu
      obtain ⟨z, hz1, rfl⟩ := hu
      have hjz : zs[j]? = some z := by
        rw [List.getElem?_take] at hz1
        split at hz1
        · exact hz1
        · cases hz1
      have hj := (List.getElem?_eq_some_iff.1 hjz).1
      rw [hcell j hj]
      have hzz := u8_of (hwz z (List.mem_of_getElem? hjz))
      simp only [Function.comp, bv, List.getD, hjz, Option.getD_some]
      rw [ofNat_toNat (by omega)]
      congr 2
      omega
theorem open_vals {v : Value} {d : DataW H} {p : List MemPlace} (hval : Value.okWide Try.prog w r b0 22 v) (h : DataW.Trod enc Try.prog w 0 (fun _ => true) true 22 v d p) (hw : Weighs Try.prog 22 d) :
    ∃ A n c vs, v = .slice A n c ∧ VS w.heap.size w A n vs ∧ (∀ u ∈ vs, VV.Ok u) ∧ n ≤ 70368744177664 := by
  obtain ⟨A, n, c, rfl⟩ := okWide_slice Try.underlying22 hval
  obtain ⟨fuel, hf⟩ := h
  rcases open_slice_fields Try.underlying22 Try.underlying31 (by kernel_rfl) (by kernel_rfl) hf with ⟨hcs, hx⟩ | ⟨a, len, cap, m, D, Pl, hcs, _, hl, hm, hmm, hx, hi⟩
  · simp [Value.cells] at hcs
    obtain ⟨rfl, rfl, rfl⟩ := hcs
    exact ⟨none, 0, 0, [], rfl, ⟨rfl, fun h => absurd h (by omega)⟩, by simp, by omega⟩
  · simp [Value.cells] at hcs
    obtain ⟨rfl, rfl, rfl⟩ := hcs
    simp only [Prod.mk.injEq] at hx
    obtain ⟨rfl, rfl⟩ := hx
    simp only [if_true] at hmm
    subst hmm
    have hr := reachBytes_lt
    have hsz : n ≤ 70368744177664 := by
      have hwn := hw ((((List.range n).map D).length + ((List.range (m - n)).map fun j => D (n + j)).length) * Try.prog.bytesOf 31) (by
        simp only [DataW.weights, Try.underlying22]
        exact List.mem_cons_self ..)
      rw [show Try.prog.bytesOf 31 = 32 from by kernel_rfl] at hwn
      simp only [List.length_map, List.length_range] at hwn
      omega
    have hel : ∀ i, i < n → ∃ u : VV, VV.Ok u ∧ w.cell? (a.add (i * 3)) = some (.int .u8 u.k) ∧ w.cell? (a.add (i * 3 + 1)) = some (.int .u64 u.n) ∧ w.cell? (a.add (i * 3 + 2)) = some (.string u.s) := by
      intro i hin
      obtain ⟨ys, q, hD, _, hyl, hfs⟩ := hi i (by omega)
      obtain ⟨v0, y0, hc0, hy0, t0⟩ := hfs 0 _ rfl
      obtain ⟨v1, y1, hc1, hy1, t1⟩ := hfs 1 _ rfl
      obtain ⟨v2, y2, hc2, hy2, t2⟩ := hfs 2 _ rfl
      obtain ⟨a0, e0, x0, w0⟩ := DataW.trod_int Try.underlying5 t0
      obtain ⟨a1, e1, x1, w1⟩ := DataW.trod_int Try.underlying29 t1
      obtain ⟨a2, e2, x2, w2⟩ := DataW.trod_string Try.underlying9 t2
      simp only [List.cons.injEq, and_true] at e0 e1 e2
      subst e0 e1 e2
      obtain ⟨b1, b2⟩ := u8_of w0
      obtain ⟨b3, b4⟩ := u64_of w1
      refine ⟨⟨a0.toNat, a1.toNat, a2⟩, ⟨by simp only; omega, by simp only; omega, ?_⟩, ?_, ?_, hc2⟩
      · have hmem : a2.data.toList.length ∈ (DataW.slice ((List.range n).map D) ((List.range (m - n)).map fun j => D (n + j))).weights Try.prog 22 := by
          simp only [DataW.weights, Try.underlying22]
          refine List.mem_cons_of_mem _ (List.mem_append.2 (.inl (weights_all_mem (d := D i) (List.mem_map.2 ⟨i, List.mem_range.2 hin, rfl⟩) ?_)))
          rw [hD]
          simp only [DataW.weights, Try.underlying31]
          refine DataW.weights_mem_each (j := 2) (d := .lit (.string a2.data.toList)) rfl ?_ _ (by simp [DataW.weights])
          rw [List.getElem?_map, hy2, x2]
          rfl
        have := hw _ hmem
        rw [Array.length_toList] at this
        show a2.data.size ≤ _
        omega
      · rw [show ((a0.toNat : Nat) : Int) = a0 from by omega]; exact hc0
      · rw [show ((a1.toNat : Nat) : Int) = a1 from by omega]; exact hc1
    let F : Nat → VV := fun i => if hin : i < n then (hel i hin).choose else ⟨0, 0, ByteArray.empty⟩
    have hF : ∀ i (hin : i < n), VV.Ok (F i) ∧ w.cell? (a.add (i * 3)) = some (.int .u8 (F i).k) ∧ w.cell? (a.add (i * 3 + 1)) = some (.int .u64 (F i).n) ∧ w.cell? (a.add (i * 3 + 2)) = some (.string (F i).s) := by
      intro i hin
      have := (hel i hin).choose_spec
      simp only [F, dif_pos hin]
      exact this
    refine ⟨some a, n, m, (List.range n).map F, rfl, ⟨by simp, fun hn => ?_⟩, ?_, by omega⟩
    · obtain ⟨_, h0, _, _⟩ := hF 0 hn
      have hb := World.block_lt_of_cell? w (a.add (0 * 3)) h0
      have hs := World.cell?_spot h0
      rw [block_of_add] at hb
      have hsp : a.spot = none := by simpa [Addr.add] using hs
      obtain ⟨ab, ao, asp⟩ := a
      simp only at hsp
      subst hsp
      refine ⟨ab, ao, rfl, hb, fun i u hu => ?_⟩
      have hil := (List.getElem?_eq_some_iff.1 hu).1
      simp only [List.length_map, List.length_range] at hil
      obtain ⟨_, c0, c1, c2⟩ := hF i hil
      rw [Addr.add_lit] at c0 c1 c2
      rw [List.getElem?_map, List.getElem?_range hil] at hu
      simp only [Option.map_some, Option.some.injEq] at hu
      subst hu
      rw [← Nat.add_assoc] at c1 c2
      exact ⟨c0, c1, c2⟩
    · intro u hu
      obtain ⟨i, hi2, rfl⟩ := List.mem_map.1 hu
      exact (hF i (List.mem_range.1 hi2)).1
end
end Go.Proofs.Ytcapeefhbkgogaa
