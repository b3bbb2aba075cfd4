/- filled: a table with memos, and what it has to remember. -/
import Derived.Test.YtkdfhackpmdgfaaGreatDoorTbM
import Derived.Test.YtkdfhackpmdgfaaGreatDoorMoOf
import Derived.Test.YtkdfhackpmdgfaaGreatDoorWorks
namespace Go.Proofs.YtkdfhackpmdgfaaGreatDoor
open Go.RowKit Go.Shelf
set_option linter.unusedSimpArgs false
set_option linter.unusedVariables false
set_option linter.unusedSectionVars false
set_option maxRecDepth 10000
def encMo (m : Mo) : List Value := [.int .u8 m.1, .int .u8 m.2.1, .int .u8 m.2.2.1, .int .i32 m.2.2.2.1, .int .u8 m.2.2.2.2]
theorem encMo_len (m : Mo) : (encMo m).length = 5 := rfl
/-- A slice of memos reads as a list. -/
abbrev MS (w : World) (A : Option Addr) (n : Nat) (l : List Mo) : Prop := SL encMo 5 w A n l
theorem of_any {m : Mo} (h : okM m) (w : World) : Calls Tryz.prog 15 #[.agg #[.int .u8 m.1, .int .u8 m.2.1, .int .u8 m.2.2.1, .int .i32 m.2.2.2.1, .int .u8 m.2.2.2.2]] w fun e w' => e = .returned (.tuple #[.agg #[.int .i64 (moE m).1, .int .i64 (moE m).2.1, .int .i64 (moE m).2.2], .string (moK m), .agg #[.int .i64 (moR m).1, .int .i64 (moR m).2.1, .string (moR m).2.2]]) ∧ Below w.heap.size w w' := of_walk h.a h.b h.c h.d h.e w
theorem zeroMo (w : World) : (zeroValue 48).run Tryz.prog w = .ok (.agg #[.int .u8 0, .int .u8 0, .int .u8 0, .int .i32 0, .int .u8 0]) w := by kernel_rfl
theorem undMap : Tryz.prog.underlying 24 = some (.map 39 48) := by kernel_rfl
attribute [-go_sem] sliced
set_option maxHeartbeats 16000000 in
theorem filled_any {size : Int} {A : Option Addr} {n c : Nat} {ms : List Mo} (w : World) (hA : MS w A n ms) (hm : ∀ m ∈ ms, okM m) (hc : n ≤ c) (hn : n ≤ 140737488355328) (h0 : 0 ≤ size) (h1 : size ≤ 2048) :
    Calls Tryz.prog 4 #[.int .i64 size, .slice A n c] w fun e w' => ∃ D B P Q, e = .returned (.tuple #[.pointer (some ⟨D, 0, none⟩), .map (some B), .bool true]) ∧ Tb w.heap.size w D size P w' ∧ MM w' B Q ∧ Fil size P Q ∧ w.heap.size ≤ B ∧ Q.length ≤ 100 := by
  have hnew := new_ok size w.heap.size w h0 h1 (Nat.le_refl _)
  obtain ⟨q, hq, hqn, hqc⟩ : ∃ m : Nat, min (n : Int) 100 = (m : Int) ∧ m ≤ n ∧ m ≤ 100 := ⟨min n 100, by omega, by omega, by omega⟩
  obtain ⟨X, hX, hXS⟩ := SL.low hA hqn hc
  have hmX : ∀ m ∈ ms.take q, okM m := fun m h => hm m (List.mem_of_mem_take h)
  generalize ms.take q = ml at hXS hmX
  clear hA hm
  replace hXS := Lib.hid hXS; replace hmX := Lib.hid hmX
  go_enter Tryz.func4, Tryz.ntmps4
  go_wp2_with (fail)
  refine hnew.mono ?_
  rintro e w1 ⟨rfl, ht, hb⟩
  have T1 := tb_new ht hb
  have X1 := Lib.hid (SL.keep hXS.out T1.bel)
  have M1 := MapOf.made w1 Tryz.prog 39
  have bb := (Below.refl _ w1).alloc (Nat.le_refl _) (.map #[] 0)
  have hmk : (Instr.makeMap 24 none).run Tryz.prog w1 = .ok (.map (some w1.heap.size)) (w1.alloc (.map #[] 0)) := run_makeMap _ w1
  have T2 := Lib.hid (T1.below bb)
  have X2 := Lib.hid (SL.keep X1.out bb)
  have hBl := Lib.hid T1.le
  obtain ⟨B, hB⟩ : ∃ B, B = w1.heap.size := ⟨_, rfl⟩
  obtain ⟨w2, hw2⟩ : ∃ w2, w2 = w1.alloc (.map #[] 0) := ⟨_, rfl⟩
  rw [← hB] at M1 hBl hmk
  rw [← hw2] at M1 T2 X2 hmk
  have M2 : MM w2 B [] := MapOf.congr M1 fun key kl _ => by unfold fQ; cases efOf key <;> rfl
  replace M2 := Lib.hid M2; replace hB := Lib.hid hB; replace hw2 := Lib.hid hw2
  clear M1 T1 X1 hnew ht hb bb
  go_wp2_with (fail)
  go_loopw [32] (fun i wr => ∃ (k : Nat) (P : List En) (Q : List Mo), i = .int .i64 k ∧ k ≤ q ∧ Tb w.heap.size w w.heap.size size P wr ∧ MM wr B Q ∧ Fil size P Q ∧ Q.length ≤ k) (fun i _ => q - (intOf i).toNat)
  case atStart => exact ⟨0, [], [], rfl, by omega, T2.out, M2.out, Fil.nil h0, by simp⟩
  case round =>
   clear T2 M2 X2 hw2 hB hX
   revert wr
   intro w3 hrel
   obtain ⟨k, P, Q, rfl, hk, hT, hM, hF, hQ⟩ := hrel
   by_cases hlt : k < q
   · have hX3 := SL.keep hXS.out hT.bel
     obtain ⟨xb, xo, m, rfl, hxl, hml, hcell⟩ := hX3.at_ hlt
     have hok := hmX.out m (List.mem_of_getElem? hml)
     have hS := hF.step hok
     have hput0 := hF.put hok
     have hputS := hF.putS hok
     obtain ⟨kl, hkl⟩ := key_mo hok
     have hsn := fQ_snoc Q m
     obtain ⟨enm, henm⟩ : ∃ x, x = enM m := ⟨_, rfl⟩
     have hen : enm = ⟨moE m, moK m, moR m⟩ := henm
     rw [← henm] at hS hput0
     have hof := fun W => of_any hok W
     have hkz : (moK m).size ≤ 140737488355328 := by show 1 ≤ _; omega
     have c0 := hcell 0 _ rfl; have c1 := hcell 1 _ rfl; have c2 := hcell 2 _ rfl; have c3 := hcell 3 _ rfl; have c4 := hcell 4 _ rfl
     obtain ⟨y, hy⟩ : ∃ x, x = moE m := ⟨_, rfl⟩
     obtain ⟨key, hkey⟩ : ∃ x, x = moK m := ⟨_, rfl⟩
     obtain ⟨r, hr⟩ : ∃ x, x = moR m := ⟨_, rfl⟩
     rw [← hy, ← hkey, ← hr] at hen
     rw [← hkey] at hkz
     rw [← hy] at hput0 hputS hkl hsn
     simp only [← hy, ← hkey, ← hr] at hof
     have hmv : ∃ m1 m2 m3 m4 m5, m = (m1, m2, m3, m4, m5) := ⟨_, _, _, _, _, rfl⟩
     obtain ⟨m1, m2, m3, m4, m5, hme⟩ := hmv
     have hmoV : moV m = .agg #[.int .u8 m1, .int .u8 m2, .int .u8 m3, .int .i32 m4, .int .u8 m5] := by rw [hme]; rfl
     rw [hme] at c0 c1 c2 c3 c4
     simp only [hme] at hof
     rw [Nat.add_zero] at c0
     obtain ⟨y1, y2, y3⟩ := y
     obtain ⟨r1, r2, r3⟩ := r
     simp only at hof
     clear hX3 hcell hml hr hkey hy henm
     have bb := (Below.refl _ w3).alloc (Nat.le_refl _) (.cells #[.int .u8 m1, .int .u8 m2, .int .u8 m3, .int .i32 m4, .int .u8 m5] 48)
     have hb3 := hpNew w3 (.cells #[.int .u8 m1, .int .u8 m2, .int .u8 m3, .int .i32 m4, .int .u8 m5] 48)
     have hT4 := hT.below bb
     have hM4 := hM.below bb
     have hBl3 := hM.lt
     obtain ⟨w4, hw4⟩ : ∃ w4, w4 = w3.alloc (.cells #[.int .u8 m1, .int .u8 m2, .int .u8 m3, .int .i32 m4, .int .u8 m5] 48) := ⟨_, rfl⟩
     rw [← hw4] at bb hb3 hT4 hM4
     have x0 := blkC hb3 0; have x1 := blkC hb3 1; have x2 := blkC hb3 2; have x3 := blkC hb3 3; have x4 := blkC hb3 4
     simp only [List.getElem?_toArray, List.getElem?_cons_zero, List.getElem?_cons_succ] at x0 x1 x2 x3 x4
     replace hT4 := Lib.hid hT4; replace hM4 := Lib.hid hM4; replace hF := Lib.hid hF; replace hS := Lib.hid hS; replace hput0 := Lib.hid hput0; replace hputS := Lib.hid hputS; replace hkl := Lib.hid hkl; replace hsn := Lib.hid hsn; replace hen := Lib.hid hen; replace hme := Lib.hid hme; replace hmoV := Lib.hid hmoV; replace hok := Lib.hid hok; replace hb3 := Lib.hid hb3; replace hBl3 := Lib.hid hBl3; replace hQ := Lib.hid hQ
     clear hT hM
     have k0 : (0 : Int) ≤ k := by omega
     have k1 : (k : Int) < q := by omega
     go_wp2_with (fail)
     rw [← hw4]
     replace hw4 := Lib.hid hw4
     refine (hof _).mono ?_
     rintro e w5 ⟨rfl, b5⟩
     have hT5 := Lib.hid (hT4.out.below b5)
     have hM5 := Lib.hid (hM4.out.below b5)
     have hb5 := Lib.hid ((b5.block _ (blkX hb3.out)).trans hb3.out)
     have hs5 := Lib.hid (show w3.heap.size < w5.heap.size from by have := blkX hb3.out; have := b5.size; omega)
     clear hT4 hM4 b5 hof x0 x1 x2 x3 x4 bb
     have bb := ((Below.refl _ w5).alloc (Nat.le_refl _) (.cells #[.int .i64 y1, .int .i64 y2, .int .i64 y3] 39)).alloc (by simp) (.cells #[.int .i64 r1, .int .i64 r2, .string r3] 50)
     have he6 : ((w5.alloc (.cells #[.int .i64 y1, .int .i64 y2, .int .i64 y3] 39)).alloc (.cells #[.int .i64 r1, .int .i64 r2, .string r3] 50)).heap[w5.heap.size]? = some (.cells #[.int .i64 y1, .int .i64 y2, .int .i64 y3] 39 (0, 0)) := by
       rw [hpOld _ (by simp)]; exact hpNew w5 _
     have hr6 : ((w5.alloc (.cells #[.int .i64 y1, .int .i64 y2, .int .i64 y3] 39)).alloc (.cells #[.int .i64 r1, .int .i64 r2, .string r3] 50)).heap[w5.heap.size + 1]? = some (.cells #[.int .i64 r1, .int .i64 r2, .string r3] 50 (0, 0)) := by
       have := hpNew (w5.alloc (.cells #[.int .i64 y1, .int .i64 y2, .int .i64 y3] 39)) (.cells #[.int .i64 r1, .int .i64 r2, .string r3] 50)
       rwa [show (w5.alloc (.cells #[.int .i64 y1, .int .i64 y2, .int .i64 y3] 39)).heap.size = w5.heap.size + 1 from by simp] at this
     have hT6 := Lib.hid (hT5.out.below bb)
     have hM6 := hM5.out.below bb
     have hb6 := Lib.hid ((bb.block _ (blkX hb5.out)).trans hb5.out)
     obtain ⟨w6, hw6⟩ : ∃ x, x = (w5.alloc (.cells #[.int .i64 y1, .int .i64 y2, .int .i64 y3] 39)).alloc (.cells #[.int .i64 r1, .int .i64 r2, .string r3] 50) := ⟨_, rfl⟩
     rw [← hw6] at he6 hr6 hT6 hM6 hb6
     have hw6s : w6.heap.size = w5.heap.size + 1 + 1 := by rw [hw6]; simp
     obtain ⟨v, hlk, hv1, hv2⟩ := hM6.look_ok keyLaw undMap (zeroMo w6) hkl.out
     have hvm : ∃ n1 n2 n3 n4 n5, v = .agg #[.int .u8 n1, .int .u8 n2, .int .u8 n3, .int .i32 n4, .int .u8 n5] := by
       cases hq : fQ Q (efV (y1, y2, y3)) with
       | none => exact ⟨_, _, _, _, _, hv2 hq⟩
       | some x =>
         rw [fQ_ef] at hq
         obtain ⟨m', _, hm'⟩ := Option.map_eq_some_iff.1 hq
         exact ⟨_, _, _, _, _, (hv1 _ (by rw [fQ_ef]; exact hq)).trans hm'.symm⟩
     obtain ⟨n1, n2, n3, n4, n5, rfl⟩ := hvm
     clear hv1 hv2 bb hT5 hM5 hb5
     rw [fQ_ef, Option.isSome_map] at hlk
     simp only [efV] at hlk
     have he0 := blkC he6 0; have he1 := blkC he6 1; have he2 := blkC he6 2
     simp only [List.getElem?_toArray, List.getElem?_cons_zero, List.getElem?_cons_succ] at he0 he1 he2
     have AV := (Below.refl _ w6).alloc (Nat.le_refl _) (.cells #[.int .u8 n1, .int .u8 n2, .int .u8 n3, .int .i32 n4, .int .u8 n5] 48)
     have hT7 := Lib.hid (hT6.out.below AV)
     have hM7 := Lib.hid (hM6.below AV)
     have he7 := (AV.block _ (blkX he6)).trans he6
     have hr7 := (AV.block _ (blkX hr6)).trans hr6
     have hb7 := (AV.block _ (blkX hb6.out)).trans hb6.out
     have un0 := blkC he7 0; have un1 := blkC he7 1; have un2 := blkC he7 2
     have ur0 := blkC hr7 0; have ur1 := blkC hr7 1; have ur2 := blkC hr7 2
     have um0 := blkC hb7 0; have um1 := blkC hb7 1; have um2 := blkC hb7 2; have um3 := blkC hb7 3; have um4 := blkC hb7 4
     simp only [List.getElem?_toArray, List.getElem?_cons_zero, List.getElem?_cons_succ] at un0 un1 un2 ur0 ur1 ur2 um0 um1 um2 um3 um4
     have hlen := fun ty => hM7.out.len undMap ty
     obtain ⟨w7, hw7⟩ : ∃ x, x = w6.alloc (.cells #[.int .u8 n1, .int .u8 n2, .int .u8 n3, .int .i32 n4, .int .u8 n5] 48) := ⟨_, rfl⟩
     rw [← hw7] at hT7 hM7 he7 hr7 hb7
     replace hM6 := Lib.hid hM6; replace he6 := Lib.hid he6; replace hr6 := Lib.hid hr6; replace he7 := Lib.hid he7; replace hr7 := Lib.hid hr7; replace hb7 := Lib.hid hb7; replace hw6s := Lib.hid hw6s
     clear AV
     go_wp2_with (fail)
     rw [← hw6]
     replace hw6 := Lib.hid hw6
     cases hth : (mof Q (y1, y2, y3)).isSome with
     | true =>
       rw [hth] at hlk
       have hpc : putC size P ⟨(y1, y2, y3), key, (r1, r2, r3)⟩ = 6 := by rw [← hen.out, hput0.out, hth]; rfl
       have hQ' : fillS size Q m = Q := by rw [hputS.out, hth]; rfl
       replace hth := Lib.hid hth
       have hput := hT7.out.putM (y1, y2, y3) key (r1, r2, r3) hkz
       rw [hpc, show (⟨(y1, y2, y3), key, (r1, r2, r3)⟩ : En) = enm from hen.out.symm] at hput
       have hS' := hS.out
       rw [hQ'] at hS'
       obtain ⟨P', hP'⟩ : ∃ x, x = putL size P enm := ⟨_, rfl⟩
       rw [← hP'] at hput hS'
       replace hP' := Lib.hid hP'; replace hpc := Lib.hid hpc; replace hS' := Lib.hid hS'; replace hQ' := Lib.hid hQ'
       go_simp
       go_wp2_with (fail)
       rw [← hw7]
       replace hw7 := Lib.hid hw7
       clear he0 he1 he2 hlk un0 un1 un2 ur0 ur1 ur2 um0 um1 um2 um3 um4 hlen
       refine hput.mono ?_
       rintro e u1 ⟨rfl, U1, -, km1, us1⟩
       have N1 := Lib.hid (MapOf.km hM7.out km1)
       clear hput km1 us1
       have hl := U1.len
       rw [hS'.out.len] at hl
       have hlen2 := fun ty => N1.out.len undMap ty
       replace U1 := Lib.hid U1
       go_wp2_with (fail)
       refine hl.mono ?_
       rintro e u1 ⟨rfl, rfl⟩
       clear hl
       have hro := U1.out.room h0
       rw [hS'.out.len] at hro
       go_wp2_with (fail)
       refine hro.mono ?_
       rintro e u2 ⟨rfl, U2, ub⟩
       have N2 := Lib.hid (N1.out.below ub)
       have hlen3 := fun ty => N2.out.len undMap ty
       replace U2 := Lib.hid U2
       clear hro ub
       have z1 : (Q.length : Int) ≤ 99 := by have := hQ.out; omega
       go_wp2_with (fail)
       exact ⟨⟨k + 1, P', Q, by go_num, by omega, U2.out, N2.out, hS'.out, by have := hQ.out; simp; omega⟩, by simp [intOf]; omega⟩
     | false =>
       rw [hth] at hlk
       have hno : mof Q (y1, y2, y3) = none := by cases hq : mof Q (y1, y2, y3) with | none => rfl | some x => rw [hq] at hth; cases hth
       by_cases hfl : (Q.length : Int) = size
       · have hpc : putC size P ⟨(y1, y2, y3), key, (r1, r2, r3)⟩ = 4 := by rw [← hen.out, hput0.out, hth, if_neg (by decide), if_pos hfl]
         have hQ' : fillS size Q m = Q := by rw [hputS.out, hth, if_neg (by decide), if_pos hfl]
         replace hth := Lib.hid hth; replace hno := Lib.hid hno
         have hput := hT7.out.putM (y1, y2, y3) key (r1, r2, r3) hkz
         rw [hpc, show (⟨(y1, y2, y3), key, (r1, r2, r3)⟩ : En) = enm from hen.out.symm] at hput
         have hS' := hS.out
         rw [hQ'] at hS'
         obtain ⟨P', hP'⟩ : ∃ x, x = putL size P enm := ⟨_, rfl⟩
         rw [← hP'] at hput hS'
         replace hP' := Lib.hid hP'; replace hpc := Lib.hid hpc; replace hS' := Lib.hid hS'; replace hQ' := Lib.hid hQ'
         go_simp
         go_wp2_with (fail)
         rw [← hw7]
         replace hw7 := Lib.hid hw7
         clear he0 he1 he2 hlk un0 un1 un2 ur0 ur1 ur2 um0 um1 um2 um3 um4 hlen
         refine hput.mono ?_
         rintro e u1 ⟨rfl, U1, -, km1, us1⟩
         have N1 := Lib.hid (MapOf.km hM7.out km1)
         clear hput km1 us1
         have hl := U1.len
         rw [hS'.out.len] at hl
         have hlen2 := fun ty => N1.out.len undMap ty
         replace U1 := Lib.hid U1
         go_wp2_with (fail)
         refine hl.mono ?_
         rintro e u1 ⟨rfl, rfl⟩
         clear hl
         have hro := U1.out.room h0
         rw [hS'.out.len] at hro
         go_wp2_with (fail)
         refine hro.mono ?_
         rintro e u2 ⟨rfl, U2, ub⟩
         have N2 := Lib.hid (N1.out.below ub)
         have hlen3 := fun ty => N2.out.len undMap ty
         replace U2 := Lib.hid U2
         clear hro ub
         have z1 : (Q.length : Int) ≤ 99 := by have := hQ.out; omega
         go_wp2_with (fail)
         exact ⟨⟨k + 1, P', Q, by go_num, by omega, U2.out, N2.out, hS'.out, by have := hQ.out; simp; omega⟩, by simp [intOf]; omega⟩
       · have hpc : putC size P ⟨(y1, y2, y3), key, (r1, r2, r3)⟩ = 0 := by rw [← hen.out, hput0.out, hth, if_neg (by decide), if_neg hfl]
         have hQ' : fillS size Q m = Q ++ [m] := by rw [hputS.out, hth, if_neg (by decide), if_neg hfl]
         have hsn' := hsn.out hno
         replace hth := Lib.hid hth; replace hno := Lib.hid hno
         obtain ⟨w8, hst, hM8, ht8⟩ := hM7.out.store keyLaw undMap (by have := hQ.out; unfold maxLen; omega) (val := moV m) hkl.out (by rw [fQ_ef, hno.out]; rfl) hsn'.1 hsn'.2
         rw [hmoV.out, hw7] at hst
         simp only [efV] at hst
         obtain ⟨es, cl, hmb⟩ := hM7.out.blk
         have hT8 := hT7.out.turned hmb hBl.out ht8
         have tc := turned_chg ht8
         have hBx : B < w3.heap.size := hBl3.out
         have he8 := (tc.block _ (blkX he7.out) (fun q => by have := hs5.out; have hq : w5.heap.size = B := q; omega)).trans he7.out
         have hr8 := (tc.block _ (blkX hr7.out) (fun q => by have := hs5.out; have hq : w5.heap.size + 1 = B := q; omega)).trans hr7.out
         have e0 := blkC he8 0; have e1 := blkC he8 1; have e2 := blkC he8 2
         have q0 := blkC hr8 0; have q1 := blkC hr8 1; have q2 := blkC hr8 2
         simp only [List.getElem?_toArray, List.getElem?_cons_zero, List.getElem?_cons_succ] at e0 e1 e2 q0 q1 q2
         have hM8 : MM w8 B (Q ++ [m]) := by have := hM8; unfold MM; rwa [List.length_append, List.length_singleton]
         replace hM8 := Lib.hid hM8; replace hT8 := Lib.hid hT8; replace he8 := Lib.hid he8; replace hr8 := Lib.hid hr8
         replace hBx := Lib.hid hBx
         clear tc ht8 hmb hsn'
         have hput := hT8.out.putM (y1, y2, y3) key (r1, r2, r3) hkz
         rw [hpc, show (⟨(y1, y2, y3), key, (r1, r2, r3)⟩ : En) = enm from hen.out.symm] at hput
         have hS' := hS.out
         rw [hQ'] at hS'
         obtain ⟨P', hP'⟩ : ∃ x, x = putL size P enm := ⟨_, rfl⟩
         rw [← hP'] at hput hS'
         replace hP' := Lib.hid hP'; replace hpc := Lib.hid hpc; replace hS' := Lib.hid hS'; replace hQ' := Lib.hid hQ'
         go_simp
         go_wp2_with (fail)
         replace hw7 := Lib.hid hw7
         clear he0 he1 he2 hlk un0 un1 un2 ur0 ur1 ur2 um0 um1 um2 um3 um4 hlen
         clear e0 e1 e2 q0 q1 q2 hst
         refine hput.mono ?_
         rintro e u1 ⟨rfl, U1, -, km1, us1⟩
         have N1 := Lib.hid (MapOf.km hM8.out km1)
         clear hput km1 us1
         have hl := U1.len
         rw [hS'.out.len] at hl
         have hlen2 := fun ty => N1.out.len undMap ty
         replace U1 := Lib.hid U1
         go_wp2_with (fail)
         refine hl.mono ?_
         rintro e u1 ⟨rfl, rfl⟩
         clear hl
         have hro := U1.out.room h0
         rw [hS'.out.len] at hro
         go_wp2_with (fail)
         refine hro.mono ?_
         rintro e u2 ⟨rfl, U2, ub⟩
         have N2 := Lib.hid (N1.out.below ub)
         have hlen3 := fun ty => N2.out.len undMap ty
         replace U2 := Lib.hid U2
         clear hro ub
         have z1 : (Q.length : Int) ≤ 99 := by have := hQ.out; omega
         go_wp2_with (fail)
         exact ⟨⟨k + 1, P', Q ++ [m], by go_num, by omega, U2.out, N2.out, hS'.out, by have := hQ.out; simp; omega⟩, by simp [intOf]; omega⟩
   · obtain rfl : k = q := by omega
     clear hlt hk
     go_wp2_with (fail)
     refine bodyPost_ret (by simp [results, Tryz.results4, go_sem, *]; try with_reducible rfl) rfl ?_
     exact ⟨w.heap.size, B, P, Q, rfl, hT, hM, hF, hBl.out, by omega⟩
end Go.Proofs.YtkdfhackpmdgfaaGreatDoor
