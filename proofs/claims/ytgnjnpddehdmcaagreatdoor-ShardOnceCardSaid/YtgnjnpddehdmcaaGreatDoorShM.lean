/- Apply, over whatever does the command. -/
import Derived.Test.YtgnjnpddehdmcaaGreatDoorTkI
import Derived.Test.YtgnjnpddehdmcaaGreatDoorRowK
import Derived.Test.YtgnjnpddehdmcaaGreatDoorShort
import Derived.Test.YtgnjnpddehdmcaaGreatDoorChkC
namespace Go.Proofs.YtgnjnpddehdmcaaGreatDoor
open Go.RowKit Go.Shelf
set_option linter.unusedSimpArgs false
set_option linter.unusedVariables false
set_option linter.unusedSectionVars false
set_option maxRecDepth 10000
abbrev fnE : Nat → Value := fun g => .func (.func g) #[] #[]
def doesL : List (Int × Nat) := [(0, 27), (1, 28), (2, 29), (3, 30), (4, 31)]
theorem undI : Tryz.prog.underlying 3 = some (.int .i64) := Tryz.underlying3
theorem undM : Tryz.prog.underlying 98 = some (.map 3 97) := Tryz.underlying98
theorem does_made (W : World) : ∃ W1 W2 W3 W4 W5, (Instr.mapUpdate 98 (.map (some W.heap.size)) (.int .i64 0) (fnE 27)).run Tryz.prog (W.alloc (.map #[] 0)) = .ok () W1 ∧ (Instr.mapUpdate 98 (.map (some W.heap.size)) (.int .i64 1) (fnE 28)).run Tryz.prog W1 = .ok () W2 ∧ (Instr.mapUpdate 98 (.map (some W.heap.size)) (.int .i64 2) (fnE 29)).run Tryz.prog W2 = .ok () W3 ∧ (Instr.mapUpdate 98 (.map (some W.heap.size)) (.int .i64 3) (fnE 30)).run Tryz.prog W3 = .ok () W4 ∧ (Instr.mapUpdate 98 (.map (some W.heap.size)) (.int .i64 4) (fnE 31)).run Tryz.prog W4 = .ok () W5 ∧ MapI Tryz.prog 3 fnE W5 W.heap.size doesL ∧ Below W.heap.size W W5 := by
 have m0 : MapI Tryz.prog 3 fnE (W.alloc (.map #[] 0)) W.heap.size [] := MapOf.congr (MapOf.made W Tryz.prog 3) (f' := iF fnE []) (fun key kl hk => by unfold iF; split <;> rfl)
 have b0 : Below W.heap.size W (W.alloc (.map #[] 0)) := (Below.refl _ _).alloc (Nat.le_refl _) _
 obtain ⟨W1, r1, m1, t1⟩ := MapI.store (lt := ltZ) m0 undI undM (by simp [len_putA]; try decide) 0 (by decide) 27
 have b1 : Below W.heap.size W W1 := Chg.belowAfter b0 (turned_chg t1) b0.size (fun q hq' e => by omega)
 obtain ⟨W2, r2, m2, t2⟩ := MapI.store (lt := ltZ) m1 undI undM (by decide) 1 (by decide) 28
 have b2 : Below W.heap.size W W2 := Chg.belowAfter b1 (turned_chg t2) b1.size (fun q hq' e => by omega)
 obtain ⟨W3, r3, m3, t3⟩ := MapI.store (lt := ltZ) m2 undI undM (by decide) 2 (by decide) 29
 have b3 : Below W.heap.size W W3 := Chg.belowAfter b2 (turned_chg t3) b2.size (fun q hq' e => by omega)
 obtain ⟨W4, r4, m4, t4⟩ := MapI.store (lt := ltZ) m3 undI undM (by decide) 3 (by decide) 30
 have b4 : Below W.heap.size W W4 := Chg.belowAfter b3 (turned_chg t4) b3.size (fun q hq' e => by omega)
 obtain ⟨W5, r5, m5, t5⟩ := MapI.store (lt := ltZ) m4 undI undM (by decide) 4 (by decide) 31
 have b5 : Below W.heap.size W W5 := Chg.belowAfter b4 (turned_chg t5) b4.size (fun q hq' e => by omega)
 exact ⟨W1, W2, W3, W4, W5, r1, r2, r3, r4, r5, m5, b5⟩
def incS (x : Sh) : Sh := { x with app := min (x.app + 1) 1099511627776 }
def rpV (r : Rp) : Value := .agg #[.int .i64 r.1, .int .i64 r.2.1, .string r.2.2]
def inK (k : Int) : Bool := decide (0 ≤ k) && decide (k ≤ 4)
theorem does_has (k : Int) : hasA doesL k = inK k := by
 unfold inK
 by_cases h : 0 ≤ k ∧ k ≤ 4
 ·
  obtain ⟨h0, h4⟩ := h
  rw [decide_eq_true h0, decide_eq_true h4]
  have : k = 0 ∨ k = 1 ∨ k = 2 ∨ k = 3 ∨ k = 4 := by omega
  rcases this with rfl | rfl | rfl | rfl | rfl <;> rfl
 ·
  rw [show (decide (0 ≤ k) && decide (k ≤ 4)) = false by rw [Bool.and_eq_false_iff]; simp; omega]
  simp [hasA, doesL, lookA]
  omega
attribute [-go_sem] Instr.loadAt
attribute [local go_sem] loadAt_other
set_option maxHeartbeats 16000000 in
theorem apply_check {base : Nat} {p : Pl} {x : Sh} {v : World} (h : ShW base p x v) (c : Cd) (ha : 0 ≤ x.app) (ha2 : x.app ≤ 1099511627776) (hk1 : -9223372036854775808 ≤ c.k) (hk2 : c.k ≤ 9223372036854775807) (hs : szCd c) {g : Nat} (hki : inK c.k = true) (hg : lookA doesL c.k = some g) (hcb : checkB c = false) : Calls Tryz.prog 10 #[.pointer (some ⟨p.S, 0, none⟩), .agg (cdV c)] v fun e w' => e = .returned (rpV (2, 0, noText)) ∧ ShTo base p p (incS x) v w' := by
 obtain ⟨W1, hW1⟩ : ∃ W1, W1 = ((v.alloc (.cells (cdV c) 40)).alloc (.cells #[.int .i64 0, .int .i64 0, .string ⟨#[]⟩] 52)) := ⟨_, rfl⟩
 have k1 : Below v.heap.size v W1 := by rw [hW1]; exact ((Below.refl _ v).alloc (Nat.le_refl _) _).alloc (by simp <;> omega) _
 have b0 : W1.heap[v.heap.size]? = some (.cells (cdV c) 40 (0, 0)) := by rw [hW1]; repeat (first | exact hpNewAt _ (by simp) | exact hpNew _ _ | refine (hpOld _ (by simp <;> omega)).trans ?_)
 have b1 : W1.heap[v.heap.size + 1]? = some (.cells #[.int .i64 0, .int .i64 0, .string ⟨#[]⟩] 52 (0, 0)) := by rw [hW1]; repeat (first | exact hpNewAt _ (by simp) | exact hpNew _ _ | refine (hpOld _ (by simp <;> omega)).trans ?_)
 have h1 := h.below k1
 have hv := shValid_any h1
 have hpS := h1.lt
 have hbd : p.S < v.heap.size := h.lt
 have c1 : W1.cell? ⟨p.S, 1, none⟩ = some (.int .i64 x.app) := blkC h1.blk 1
 have cf := blkF h1.blk
 have sh1 := h1.setApp (min (x.app + 1) 1099511627776)
 obtain ⟨W2, hW2⟩ : ∃ Z, Z = W1.setCell ⟨p.S, 1, none⟩ (.int .i64 (min (x.app + 1) 1099511627776)) := ⟨_, rfl⟩
 rw [← hW2] at sh1
 rw [show ({ x with app := min (x.app + 1) 1099511627776 } : Sh) = incS x from rfl] at sh1
 have s2 := sh1.pre k1
 have d0 := sh1.blk b0 (h.out (Nat.le_refl _))
 have d1 := sh1.blk b1 (h.out (by omega))
 have hsz : W2.heap.size = W1.heap.size := by rw [hW2]; simp
 obtain ⟨X1, X2, X3, X4, X5, r1, r2, r3, r4, r5, hm, bm⟩ := does_made W2
 simp only [fnE] at r1 r2 r3 r4 r5
 have hmk : (Instr.makeMap 98 none).run Tryz.prog W2 = .ok (.map (some W2.heap.size)) (W2.alloc (.map #[] 0)) := run_makeMap _ W2
 have s5 := s2.thenB bm
 have e0 := (bm.block _ (blkX d0)).trans d0
 have e1 := (bm.block _ (blkX d1)).trans d1
 have z0 : X5.cell? ⟨v.heap.size, 0, none⟩ = some (.int .i64 c.k) := blkC e0 0
 have hlk := hm.look_ok undI undM (Tryz.zeroValue97 X5) c.k (by simp [Lit.wf, IntKind.min, IntKind.max, IntKind.signed, IntKind.bits]; omega)
 rw [hsz] at hmk r1 r2 r3 r4 r5 hlk
 rw [hW2] at hmk r1
 rw [does_has, hki, hg] at hlk
 simp only [Option.map_some, Option.getD_some, fnE] at hlk
 have hld := cd_load e0
 have hch := check_cmd c (by unfold inK at hki; simp at hki; omega) (by unfold inK at hki; simp at hki; omega) hs X5
 rw [hcb] at hch
 simp only [if_true, Bool.false_eq_true, if_false] at hch
 have hx0 := blkX e0
 have hx1 := blkX e1
 have s0 := blkC e1 0
 have s1 := blkC e1 1
 have s2 := blkC e1 2
 have sf := blkF e1; have sx := blkX e1
 simp only [List.getElem?_toArray, List.getElem?_cons_zero, List.getElem?_cons_succ] at s0 s1 s2
 replace h := Lh h; replace h1 := Lh h1; replace k1 := Lh k1; replace b0 := Lh b0; replace b1 := Lh b1; replace sh1 := Lh sh1; replace s2 := Lh s2; replace d0 := Lh d0; replace d1 := Lh d1; replace hm := Lh hm; replace bm := Lh bm; replace hsz := Lh hsz; replace e0 := Lh e0; replace hW2 := Lh hW2; replace s5 := Lh s5; replace e1 := Lh e1
 skip
 go_enter Tryz.func10, Tryz.ntmps10
 go_wp2_with (fail)
 rw [← hW1]
 replace hW1 := Lh hW1
 refine hv.mono ?_
 rintro e w2 ⟨rfl, rfl⟩
 go_wp2_with (fail)
 refine hch.mono ?_
 rintro e w6 ⟨rfl, b6⟩
 have s6 := Lh (s5.out.thenB b6)
 have f0 := (b6.block _ hx0).trans e0.out
 have f1 := (b6.block _ hx1).trans e1.out
 have y0 := blkC f1 0
 have y1 := blkC f1 1
 have y2 := blkC f1 2
 have yf := blkF f1; have yx := blkX f1
 simp only [List.getElem?_toArray, List.getElem?_cons_zero, List.getElem?_cons_succ] at y0 y1 y2
 have hld6 := cd_load f0
 replace f0 := Lh f0; replace f1 := Lh f1
 clear hch hld s0 s1 s2 sf sx z0 c1 cf
 go_wp2_with (fail)
 refine (refused_any 2 _).mono ?_
 rintro e w7 ⟨rfl, b7⟩
 have s9 := s6.out.thenB b7
 have g1 := (b7.block _ (blkX f1.out)).trans f1.out
 have u0 := blkC g1 0
 have u1 := blkC g1 1
 have u2 := blkC g1 2
 have uf := blkF g1; have ux := blkX g1
 simp only [List.getElem?_toArray, List.getElem?_cons_zero, List.getElem?_cons_succ] at u0 u1 u2
 replace s9 := Lh s9; replace g1 := Lh g1
 clear b7
 go_wp2_with (fail)
 refine bodyPost_ret (by simp [results, Tryz.results10, go_sem, *]; try with_reducible rfl) rfl ?_
 exact ⟨rfl, (ShTo.set (ShTo.set (ShTo.set s9.out (a := ⟨v.heap.size + 1, 0, none⟩) (by simp only; omega) (h.out.out (by simp only; omega)) _) (a := ⟨v.heap.size + 1, 1, none⟩) (by simp only; omega) (h.out.out (by simp only; omega)) _) (a := ⟨v.heap.size + 1, 2, none⟩) (by simp only; omega) (h.out.out (by simp only; omega)) _)⟩
set_option maxHeartbeats 16000000 in
theorem apply_good {base : Nat} {p : Pl} {x : Sh} {v : World} (h : ShW base p x v) (c : Cd) (ha : 0 ≤ x.app) (ha2 : x.app ≤ 1099511627776) (hk1 : -9223372036854775808 ≤ c.k) (hk2 : c.k ≤ 9223372036854775807) (hbv : base ≤ v.heap.size) (hs : szCd c) {g : Nat} (hki : inK c.k = true) (hg : lookA doesL c.k = some g) (eg : ∀ args w, (callFunc g args).run Tryz.prog w = .ok (.enter g args) w) (hcb : checkB c = true) (r : Rp) (x' : Sh) (hcall : ∀ W, ShW base p (incS x) W → base ≤ W.heap.size → Calls Tryz.prog g #[.pointer (some ⟨p.S, 0, none⟩), .agg (cdV c)] W fun e W' => ∃ p', e = .returned (rpV r) ∧ ShTo base p p' x' W W') : Calls Tryz.prog 10 #[.pointer (some ⟨p.S, 0, none⟩), .agg (cdV c)] v fun e w' => ∃ p', e = .returned (rpV r) ∧ ShTo base p p' x' v w' := by
 obtain ⟨q1, q2, q3⟩ := r
 simp only [rpV] at hcall ⊢
 obtain ⟨W1, hW1⟩ : ∃ W1, W1 = ((v.alloc (.cells (cdV c) 40)).alloc (.cells #[.int .i64 0, .int .i64 0, .string ⟨#[]⟩] 52)) := ⟨_, rfl⟩
 have k1 : Below v.heap.size v W1 := by rw [hW1]; exact ((Below.refl _ v).alloc (Nat.le_refl _) _).alloc (by simp <;> omega) _
 have b0 : W1.heap[v.heap.size]? = some (.cells (cdV c) 40 (0, 0)) := by rw [hW1]; repeat (first | exact hpNewAt _ (by simp) | exact hpNew _ _ | refine (hpOld _ (by simp <;> omega)).trans ?_)
 have b1 : W1.heap[v.heap.size + 1]? = some (.cells #[.int .i64 0, .int .i64 0, .string ⟨#[]⟩] 52 (0, 0)) := by rw [hW1]; repeat (first | exact hpNewAt _ (by simp) | exact hpNew _ _ | refine (hpOld _ (by simp <;> omega)).trans ?_)
 have h1 := h.below k1
 have hv := shValid_any h1
 have hpS := h1.lt
 have hbd : p.S < v.heap.size := h.lt
 have c1 : W1.cell? ⟨p.S, 1, none⟩ = some (.int .i64 x.app) := blkC h1.blk 1
 have cf := blkF h1.blk
 have sh1 := h1.setApp (min (x.app + 1) 1099511627776)
 obtain ⟨W2, hW2⟩ : ∃ Z, Z = W1.setCell ⟨p.S, 1, none⟩ (.int .i64 (min (x.app + 1) 1099511627776)) := ⟨_, rfl⟩
 rw [← hW2] at sh1
 rw [show ({ x with app := min (x.app + 1) 1099511627776 } : Sh) = incS x from rfl] at sh1
 have s2 := sh1.pre k1
 have d0 := sh1.blk b0 (h.out (Nat.le_refl _))
 have d1 := sh1.blk b1 (h.out (by omega))
 have hsz : W2.heap.size = W1.heap.size := by rw [hW2]; simp
 obtain ⟨X1, X2, X3, X4, X5, r1, r2, r3, r4, r5, hm, bm⟩ := does_made W2
 simp only [fnE] at r1 r2 r3 r4 r5
 have hmk : (Instr.makeMap 98 none).run Tryz.prog W2 = .ok (.map (some W2.heap.size)) (W2.alloc (.map #[] 0)) := run_makeMap _ W2
 have s5 := s2.thenB bm
 have e0 := (bm.block _ (blkX d0)).trans d0
 have e1 := (bm.block _ (blkX d1)).trans d1
 have z0 : X5.cell? ⟨v.heap.size, 0, none⟩ = some (.int .i64 c.k) := blkC e0 0
 have hlk := hm.look_ok undI undM (Tryz.zeroValue97 X5) c.k (by simp [Lit.wf, IntKind.min, IntKind.max, IntKind.signed, IntKind.bits]; omega)
 rw [hsz] at hmk r1 r2 r3 r4 r5 hlk
 rw [hW2] at hmk r1
 rw [does_has, hki, hg] at hlk
 simp only [Option.map_some, Option.getD_some, fnE] at hlk
 have hld := cd_load e0
 have hch := check_cmd c (by unfold inK at hki; simp at hki; omega) (by unfold inK at hki; simp at hki; omega) hs X5
 rw [hcb] at hch
 simp only [if_true, Bool.false_eq_true, if_false] at hch
 have hx0 := blkX e0
 have hx1 := blkX e1
 have s0 := blkC e1 0
 have s1 := blkC e1 1
 have s2 := blkC e1 2
 have sf := blkF e1; have sx := blkX e1
 simp only [List.getElem?_toArray, List.getElem?_cons_zero, List.getElem?_cons_succ] at s0 s1 s2
 replace h := Lh h; replace h1 := Lh h1; replace k1 := Lh k1; replace b0 := Lh b0; replace b1 := Lh b1; replace sh1 := Lh sh1; replace s2 := Lh s2; replace d0 := Lh d0; replace d1 := Lh d1; replace hm := Lh hm; replace bm := Lh bm; replace hsz := Lh hsz; replace e0 := Lh e0; replace hW2 := Lh hW2; replace s5 := Lh s5; replace e1 := Lh e1
 skip
 go_enter Tryz.func10, Tryz.ntmps10
 go_wp2_with (fail)
 rw [← hW1]
 replace hW1 := Lh hW1
 refine hv.mono ?_
 rintro e w2 ⟨rfl, rfl⟩
 go_wp2_with (fail)
 refine hch.mono ?_
 rintro e w6 ⟨rfl, b6⟩
 have s6 := Lh (s5.out.thenB b6)
 have f0 := (b6.block _ hx0).trans e0.out
 have f1 := (b6.block _ hx1).trans e1.out
 have y0 := blkC f1 0
 have y1 := blkC f1 1
 have y2 := blkC f1 2
 have yf := blkF f1; have yx := blkX f1
 simp only [List.getElem?_toArray, List.getElem?_cons_zero, List.getElem?_cons_succ] at y0 y1 y2
 have hld6 := cd_load f0
 replace f0 := Lh f0; replace f1 := Lh f1
 clear hch hld s0 s1 s2 sf sx z0 c1 cf
 go_wp2_with (fail)
 refine (hcall w6 s6.out.sh (Nat.le_trans hbv (Nat.le_trans (Nat.le_of_lt hx0) b6.size))).mono ?_
 rintro e w7 ⟨p', rfl, t7⟩
 have hno : ¬ p.foot (v.heap.size + 1) := h.out.out (by omega)
 have g1 := t7.blk f1.out hno
 have s9 := s6.out.trans t7
 have u0 := blkC g1 0
 have u1 := blkC g1 1
 have u2 := blkC g1 2
 have uf := blkF g1; have ux := blkX g1
 simp only [List.getElem?_toArray, List.getElem?_cons_zero, List.getElem?_cons_succ] at u0 u1 u2
 have hn9 : ¬ p'.foot (v.heap.size + 1) := t7.nfoot (h.out.below ((Below.refl _ v).alloc (Nat.le_refl _) (.cells (cdV c) 40))) (by simp) (blkX f1.out)
 replace s9 := Lh s9; replace g1 := Lh g1; replace hn9 := Lh hn9; replace hno := Lh hno
 clear t7
 go_wp2_with (fail)
 refine bodyPost_ret (by simp [results, Tryz.results10, go_sem, *]; try with_reducible rfl) rfl ?_
 exact ⟨p', rfl, (ShTo.set (ShTo.set (ShTo.set s9.out (a := ⟨v.heap.size + 1, 0, none⟩) (by simp only; omega) hn9.out _) (a := ⟨v.heap.size + 1, 1, none⟩) (by simp only; omega) hn9.out _) (a := ⟨v.heap.size + 1, 2, none⟩) (by simp only; omega) hn9.out _)⟩
end Go.Proofs.YtgnjnpddehdmcaaGreatDoor
