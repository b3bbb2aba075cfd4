/- Bytes that are cut off: the walk. -/
import Derived.Test.YtlinjanflenljaaGreatDoorShort
import Derived.Test.YtlinjanflenljaaGreatDoorMWorks
namespace Go.Proofs.YtlinjanflenljaaGreatDoor
open Go.RowKit
set_option linter.unusedSimpArgs false
set_option linter.unusedVariables false
set_option linter.unusedSectionVars false
set_option maxRecDepth 10000
theorem RB.low {w : World} {A : Option Addr} {n c k : Nat} {xs : List UInt8} (h : RB w A n xs) (hk : k ≤ n) : ∃ X, sliced A 0 k c 1 = .slice X k c ∧ RB w X k (xs.take k) := by
  refine ⟨_, rfl, ?_⟩
  have h0 := h.first hk
  split
  · exact h0
  · refine ⟨h0.1, fun hk0 => ?_⟩
    obtain ⟨ad, e, hb, hc⟩ := h0.2 hk0
    refine ⟨ad, ?_, hb, hc⟩
    rw [e]
    have e0 : ad.add 0 = ad := by
      obtain ⟨b, o, pth⟩ := ad
      cases pth <;> simp [Addr.add]
    simp [e0]
theorem bEnts_short : ∀ {l : List Ent}, (∀ e ∈ l, fitE e ∧ e.v.length ≤ 200) → (bEnts l).length ≤ 300 * l.length
  | [], _ => by simp [bEnts]
  | e :: l, h => by
    obtain ⟨⟨h1, h2, h3, h4⟩, h5⟩ := h e (by simp)
    have h6 := bEnts_short (l := l) fun x hx => h x (by simp [hx])
    have a := enc_len (n := e.sl.toNat) (by omega)
    have b := enc_len (n := e.ro.toNat) (by omega)
    have c := enc_len (n := e.no.toNat) (by omega)
    have d := enc_len (n := e.v.length) (by omega)
    simp only [bEnts, bEnt, List.length_append, List.length_cons]
    omega
theorem short_len {m : Mg} (h0 : encE m = 0) (h : Sh m) : (bytesM m).length ≤ 400000 := by
  obtain ⟨harg, hnl, -⟩ := encE_ok h0
  have hf := fit_of harg hnl
  have h1 := bytesTo_len hf 4 (by omega)
  have h2 := bEnts_short (l := m.l) fun e he => ⟨hf.l e he, by have := h.2.2 e he; have := (hf.l e he).2.2.2; unfold shE at *; omega⟩
  have h3 := h.1
  have h4 := enc_len (n := m.l.length) (by omega)
  have e : bytesM m = bytesTo m 4 ++ (if fUse 4 m.k = true then fBytes 4 m else []) := rfl
  rw [e, List.length_append]
  split
  · simp only [fBytes, List.length_append]; omega
  · simp; omega
theorem dec_zero_any {A : Option Addr} {n c : Nat} {xs : List UInt8} {w : World} {z : Int} (hL : Ldr w) (hR : RB w A n xs) (hn : n ≤ 70368744177664) (h : decM xs = (zeroMg, z)) : Calls Tryz.prog 13 #[.slice A n c] w fun e w' => ∃ A' c', e = .returned (.tuple #[.agg #[.int .i64 0, .int .i64 0, .int .i64 0, .int .i64 0, .int .i64 0, .int .i64 0, .int .i64 0, .string ⟨#[]⟩, .slice A' 0 c'], .int .i64 z]) ∧ Below w.heap.size w w' := by
  refine (dec_any A n c xs w hL hR hn).mono ?_
  unfold DecTo
  rw [h]
  rintro e w' ⟨A', c', rfl, h2, h3⟩
  exact ⟨A', c', rfl, h3⟩
theorem dec_msg_any {A : Option Addr} {n c : Nat} {xs : List UInt8} {w : World} {M : Mg} {z : Int} (hL : Ldr w) (hR : RB w A n xs) (hn : n ≤ 70368744177664) (h : decM xs = (M, z)) : Calls Tryz.prog 13 #[.slice A n c] w fun e w' => ∃ A' c', e = .returned (.tuple #[.agg #[.int .i64 M.k, .int .i64 M.fr, .int .i64 M.tt, .int .i64 M.ro, .int .i64 M.no, .int .i64 M.sl, .int .i64 M.nu, .string (sOf M.v), .slice A' M.l.length c'], .int .i64 z]) ∧ ES w' A' M.l.length M.l ∧ Below w.heap.size w w' := by
  refine (dec_any A n c xs w hL hR hn).mono ?_
  unfold DecTo
  rw [h]
  rintro e w' ⟨A', c', rfl, h2, h3⟩
  exact ⟨A', c', rfl, SL.of_own encEnt_len h2 rfl, h3⟩
theorem row0 (W : World) : (W.alloc (.cells #[] 5)).ownsRow W.heap.size 5 1 (.slice (some ⟨W.heap.size, 0, none⟩) ([] : List UInt8).length 0) ([] : List UInt8).length (bvs []) :=
  World.ownsRow_made W #[] 0 (Nat.le_refl _) (Nat.zero_le _) rfl
attribute [local go_sem ↓] hideAppend
attribute [-go_sem] sliced
set_option maxHeartbeats 16000000 in
theorem cuts_walk (m : Mg) (A : Option Addr) (c : Nat) (q : Int) (hq : 0 ≤ q ∧ q ≤ 65535) (B : Option Addr) (nb cb : Nat) (xs : List UInt8) (w : World) (hL : Ldr w) (hI : IsM w m A c) (hB : RB w B nb xs) (hcb : nb ≤ cb) (hnb : nb ≤ 140737488355328) :
    Calls Tryz.prog 5 #[.agg #[.int .i64 m.k, .int .i64 m.fr, .int .i64 m.tt, .int .i64 m.ro, .int .i64 m.no, .int .i64 m.sl, .int .i64 m.nu, .string (sOf m.v), .slice A m.l.length c], .int .u16 q, .slice B nb cb] w fun e w' => e = .returned (.bool true) ∧ Below w.heap.size w w' := by
  obtain ⟨U, hU⟩ : ∃ U, U = w.alloc (.cells #[.int .i64 m.k, .int .i64 m.fr, .int .i64 m.tt, .int .i64 m.ro, .int .i64 m.no, .int .i64 m.sl, .int .i64 m.nu, .string (sOf m.v), .slice A m.l.length c] 28) := ⟨_, rfl⟩
  have kb : Below w.heap.size w U := by rw [hU]; exact (Below.refl _ w).alloc (Nat.le_refl _) _
  have hm : U.heap[w.heap.size]? = some (.cells #[.int .i64 m.k, .int .i64 m.fr, .int .i64 m.tt, .int .i64 m.ro, .int .i64 m.no, .int .i64 m.sl, .int .i64 m.nu, .string (sOf m.v), .slice A m.l.length c] 28 (0, 0)) := by rw [hU]; exact hpNew w _
  have hsh := short_any m A c U (hI.keep kb)
  obtain ⟨qn, rfl⟩ : ∃ n : Nat, q = (n : Int) := ⟨q.toNat, by omega⟩
  replace hL := Lib.hid hL; replace hI := Lib.hid hI; replace hB := Lib.hid hB; replace hm := Lib.hid hm; replace kb := Lib.hid kb
  go_enter Tryz.func5, Tryz.ntmps5
  go_wp2_with (fail)
  rw [← hU]
  clear hU
  refine hsh.mono ?_
  rintro e w1 ⟨⟨b, rfl, hsh2⟩, b1⟩
  have hm1 := (b1.block _ (blkX hm.out)).trans hm.out
  have k1 := kb.out.trans (b1.mono kb.out.size)
  have z0 : w1.cell? ⟨w.heap.size, 0, none⟩ = some (.int .i64 m.k) := blkC hm1 0
  have z1 : w1.cell? ⟨w.heap.size, 1, none⟩ = some (.int .i64 m.fr) := blkC hm1 1
  have z2 : w1.cell? ⟨w.heap.size, 2, none⟩ = some (.int .i64 m.tt) := blkC hm1 2
  have z3 : w1.cell? ⟨w.heap.size, 3, none⟩ = some (.int .i64 m.ro) := blkC hm1 3
  have z4 : w1.cell? ⟨w.heap.size, 4, none⟩ = some (.int .i64 m.no) := blkC hm1 4
  have z5 : w1.cell? ⟨w.heap.size, 5, none⟩ = some (.int .i64 m.sl) := blkC hm1 5
  have z6 : w1.cell? ⟨w.heap.size, 6, none⟩ = some (.int .i64 m.nu) := blkC hm1 6
  have z7 : w1.cell? ⟨w.heap.size, 7, none⟩ = some (.string (sOf m.v)) := blkC hm1 7
  have z8 : w1.cell? ⟨w.heap.size, 8, none⟩ = some (.slice A m.l.length c) := blkC hm1 8
  have hen := enc_any m A c w1 (hL.out.keep k1) (SL.keep hI.out.es k1) (by have := hI.out.n; omega)
  have hwk := works_any w1 (hL.out.keep k1)
  replace k1 := Lib.hid k1; replace hm1 := Lib.hid hm1; replace hsh2 := Lib.hid hsh2
  clear b1 hsh
  have hstop : (b = false ∨ 50 < nb) ∨ (b = true ∧ ¬ 50 < nb) := by cases b <;> simp <;> omega
  rcases hstop with hstop | ⟨rfl, hnb2⟩
  · rcases hstop with rfl | hnb2
    · clear hen
      go_wp2_with (fail)
      refine hwk.mono ?_
      rintro e wv ⟨rfl, bv⟩
      have kv := Lib.hid (k1.out.trans (bv.mono k1.out.size))
      clear bv
      go_wp2_with (fail)
      go_ret
      exact ⟨rfl, kv.out⟩
    · have hn2 : (50 : Int) < (nb : Int) := by omega
      clear hen
      cases b
      all_goals
        go_wp2_with (fail)
        refine hwk.mono ?_
        rintro e wv ⟨rfl, bv⟩
        have kv := Lib.hid (k1.out.trans (bv.mono k1.out.size))
        clear bv
        go_wp2_with (fail)
        go_ret
        exact ⟨rfl, kv.out⟩
  · have hn2 : ¬ (50 : Int) < (nb : Int) := by omega
    clear hwk
    go_wp2_with (fail)
    refine hen.mono ?_
    unfold EncTo
    rintro e w2 ⟨A2, c2, rfl, o2, b2⟩
    have k2 := k1.out.trans (b2.mono k1.out.size)
    have hwk2 := works_any w2 (hL.out.keep k2)
    replace k2 := Lib.hid k2
    clear b2 z0 z1 z2 z3 z4 z5 z6 z7 z8
    by_cases h0 : encE m = 0
    · rw [h0]
      have hEB : encB m = bytesM m := by unfold encB; rw [if_pos h0]
      rw [hEB] at o2 ⊢
      have hcut := dec_cut h0
      have hmore := dec_more h0 xs
      have hback := dec_back m h0
      have hmx := (encE_ok h0).2.2
      have hL1 : 1 ≤ (bytesM m).length := by
        have := enc_len_pos m.k.toNat
        simp only [bytesM, bHead, List.length_append]; omega
      have hr2 : RB w2 A2 (bytesM m).length (bytesM m) := RB.of_own o2
      obtain ⟨X, hX⟩ : ∃ X, bytesM m = X := ⟨_, rfl⟩
      rw [hX] at o2 hcut hmore hback hmx hL1 hr2 ⊢
      obtain ⟨L, hLn⟩ : ∃ L, X.length = L := ⟨_, rfl⟩
      obtain ⟨kk, hkk⟩ : ∃ kk : Nat, kk = qn % L := ⟨_, rfl⟩
      rw [hLn] at hL1 hmx hr2 o2 hcut ⊢
      have hkL : kk < L := by rw [hkk]; exact Nat.mod_lt _ (by omega)
      have hLne : ((L : Int) == 0) = false := by simp; omega
      have hLne2 : ¬ (L : Int) = 0 := by omega
      have hqk : (qn : Int).tmod (L : Int) = (kk : Int) := by rw [hkk]; exact (Int.ofNat_tmod qn L).symm
      have hqk2 : (qn : Int) % (L : Int) = (kk : Int) := by rw [hkk]; rfl
      have hq64 : IntKind.i64.wrap (qn : Int) = (qn : Int) := by simp [IntKind.wrap, IntKind.signed, IntKind.bits]; omega
      replace hX := Lib.hid hX; replace hLn := Lib.hid hLn; replace hkk := Lib.hid hkk
      replace o2 := Lib.hid o2; replace hr2 := Lib.hid hr2; replace hback := Lib.hid hback; replace hcut := Lib.hid hcut; replace hmore := Lib.hid hmore
      replace h0 := Lib.hid h0; replace hEB := Lib.hid hEB
      have hcap : L ≤ c2 := by obtain ⟨A', c', e, h⟩ := own_shape o2.out; injection e with _ _ e; omega
      have hkc : (kk : Int) ≤ (c2 : Int) := by omega
      have hkc0 : (0 : Int) ≤ (kk : Int) := by omega
      obtain ⟨Y, hsl, hrY⟩ := hr2.out.low (c := c2) (k := kk) (by omega)
      have hd1 := dec_zero_any (c := c2) (hL.out.keep k2.out) hrY (by omega) (hcut.out kk hkL)
      replace hrY := Lib.hid hrY
      go_wp2_with (fail)
      refine hd1.mono ?_
      rintro e w3 ⟨A3, c3, rfl, b3⟩
      obtain ⟨w4, hw4⟩ : ∃ w4, w4 = w3.alloc (.cells #[.int .i64 0, .int .i64 0, .int .i64 0, .int .i64 0, .int .i64 0, .int .i64 0, .int .i64 0, .string ⟨#[]⟩, .slice A3 0 c3] 28) := ⟨_, rfl⟩
      have b4 : Below w2.heap.size w2 w4 := by rw [hw4]; exact b3.alloc b3.size _
      have b5 := b4.alloc b4.size (.cells #[] 5)
      obtain ⟨A5, c5, w5, hr5, ho5, hg5, hat5⟩ := append_rb (W := w4.alloc (.cells #[] 5)) (d := c2) (row0 w4) (by simp) (hr2.out.below b5) (by simp; omega)
      rw [List.nil_append] at hr5 ho5
      have b6 : Below w2.heap.size w2 w5 := b5.grown hg5 b5.size (fun k e => by have e : w4.heap.size = k := Option.some.inj e; have := b4.size; omega)
      have hbB : RB w5 B nb xs := hB.out.below (k2.out.trans (b6.mono k2.out.size))
      have ho5' := ho5.mono (base' := w2.heap.size) b4.size
      obtain ⟨A6, c6, w6, hr6, ho6, hg6, hat6⟩ := append_rb (d := cb) ho5' b6.size hbB (by rw [hLn.out]; omega)
      have b7 : Below w2.heap.size w2 w6 := b6.grown hg6 b6.size (fun k e => (ho5'.lt k (by rw [own_rowOf]; exact e)).1)
      have k7 := k2.out.trans (b7.mono k2.out.size)
      have hlen : (X ++ xs).length ≤ 1048576 := by
        have h1 := short_len h0.out (hsh2.out (by first | rfl | trivial))
        rw [hX.out] at h1
        have h2 := hB.out.1
        rw [List.length_append]; omega
      obtain ⟨⟨M, z⟩, hD⟩ : ∃ D, decM (X ++ xs) = D := ⟨_, rfl⟩
      have hd2 := dec_msg_any (c := c6) (hL.out.keep k7) (RB.of_own ho6) (by omega) hD
      have hcode : (decM (X ++ xs)).2 = if 0 < nb then 10 else 0 := by
        by_cases hx0 : xs = []
        · have : nb = 0 := by have := hB.out.1; rw [hx0] at this; simpa using this.symm
          rw [hx0, List.append_nil, hback.out, this]; rfl
        · have : 0 < nb := by have := hB.out.1; have := List.length_pos_iff.2 hx0; omega
          rw [if_pos this]
          rcases hmore.out hx0 with h | h
          · exact h
          · rw [hX.out] at *; omega
      rw [hD] at hcode
      have hcode : z = _ := hcode
      rw [hcode] at hd2
      have hl5 : X.length = L := hLn.out
      rw [hl5] at hr5 hr6
      have hz4 : w4.heap.size = w3.heap.size + 1 := by rw [hw4]; simp
      rw [hz4, hw4, List.length_nil] at hr5
      obtain ⟨LL, hLL⟩ : ∃ LL, (X ++ xs).length = LL := ⟨_, rfl⟩
      rw [hLL] at hr6 hd2
      replace hLL := Lib.hid hLL; replace hz4 := Lib.hid hz4
      replace hw4 := Lib.hid hw4; replace ho6 := Lib.hid ho6; replace ho5' := Lib.hid ho5'; replace ho5 := Lib.hid ho5; replace hbB := Lib.hid hbB; replace k7 := Lib.hid k7; replace b7 := Lib.hid b7; replace hlen := Lib.hid hlen; replace hl5 := Lib.hid hl5
      clear b3 b4 b5 hg5 hat5 b6 hg6 hat6 hd1 hcode hD
      by_cases hnb0 : 0 < nb
      · rw [if_pos hnb0] at hd2
        have hnbi : (0 : Int) < (nb : Int) := by omega
        go_wp2_with (fail)
        refine hd2.mono ?_
        rintro e w7 ⟨A7, c7, rfl, -, b8⟩
        have kx := k7.out.trans ((b8.alloc b8.size (.cells #[.int .i64 M.k, .int .i64 M.fr, .int .i64 M.tt, .int .i64 M.ro, .int .i64 M.no, .int .i64 M.sl, .int .i64 M.nu, .string (sOf M.v), .slice A7 M.l.length c7] 28)).mono k7.out.size)
        have hwk3 := works_any _ (hL.out.keep kx)
        replace kx := Lib.hid kx
        clear b8 hd2
        go_wp2_with (fail)
        refine hwk3.mono ?_
        rintro e wv ⟨rfl, bv⟩
        have kv := Lib.hid (kx.out.trans (bv.mono kx.out.size))
        clear bv
        go_wp2_with (fail)
        go_ret
        exact ⟨rfl, kv.out⟩
      · rw [if_neg hnb0] at hd2
        have hnbi : ¬ (0 : Int) < (nb : Int) := by omega
        go_wp2_with (fail)
        refine hd2.mono ?_
        rintro e w7 ⟨A7, c7, rfl, -, b8⟩
        have kx := k7.out.trans ((b8.alloc b8.size (.cells #[.int .i64 M.k, .int .i64 M.fr, .int .i64 M.tt, .int .i64 M.ro, .int .i64 M.no, .int .i64 M.sl, .int .i64 M.nu, .string (sOf M.v), .slice A7 M.l.length c7] 28)).mono k7.out.size)
        have hwk3 := works_any _ (hL.out.keep kx)
        replace kx := Lib.hid kx
        clear b8 hd2
        go_wp2_with (fail)
        refine hwk3.mono ?_
        rintro e wv ⟨rfl, bv⟩
        have kv := Lib.hid (kx.out.trans (bv.mono kx.out.size))
        clear bv
        go_wp2_with (fail)
        go_ret
        exact ⟨rfl, kv.out⟩
    · generalize hz : encE m = z at *
      have hz1 : ¬ z = 0 := h0
      have hz2 : (z == 0) = false := by simp [h0]
      generalize (encB m).length = L2 at *
      replace hz := Lib.hid hz; replace o2 := Lib.hid o2
      go_wp2_with (fail)
      refine hwk2.mono ?_
      rintro e wv ⟨rfl, bv⟩
      have kv := Lib.hid (k2.out.trans (bv.mono k2.out.size))
      clear bv
      go_wp2_with (fail)
      go_ret
      exact ⟨rfl, kv.out⟩
end Go.Proofs.YtlinjanflenljaaGreatDoor
