/- CountBounds: the walk. -/
import Derived.Test.YtmkggjhlacajaaaBndP
namespace Go.Proofs.Ytmkggjhlacajaaa
open Go.RowKit
set_option linter.unusedSimpArgs false
set_option linter.unusedVariables false
set_option linter.unusedSectionVars false
set_option maxRecDepth 10000
attribute [local go_sem ↓] hideAppend
attribute [-go_sem] sliced
theorem made_0 (v be ov : Int) (l1 : -2147483648 ≤ v) (l2 : v ≤ 2147483647) (l7 : 0 ≤ be) (l8 : be ≤ 65535) (l9 : 0 ≤ ov) (l10 : ov ≤ 65535) (w : World) :
    Calls Try.prog 15 #[.agg #[.int .i32 v, .int .u16 0, .int .u16 0, .int .u16 be, .int .u16 ov]] w fun e w' => e = .returned (.agg #[.int .i64 v, .int .i64 0, .int .i64 0, .int .i64 (v - be), .int .i64 (v + ov)]) ∧ Below w.heap.size w w' := by
  refine (made_any v 0 0 be ov l1 l2 (by omega) (by omega) (by omega) (by omega) l7 l8 l9 l10 w).mono ?_
  rintro e w' ⟨rfl, hb⟩
  refine ⟨?_, hb⟩
  rw [Int.sub_zero, Int.add_zero]
/-- What the loop keeps: the counter's block g, the value, the open deltas. -/
def BR (w : World) (g : Nat) (lo hi : Int) (k : Nat) (val : Int) (A : Option Addr) (n c : Nat) (W : World) : Prop :=
  ∃ l, n ≤ k ∧ Cok val lo hi l ∧ Opn w.heap.size W A n c l ∧ W.heap[g]? = some (.cells #[.int .i64 val, .int .i64 (upS l), .int .i64 (dnS l), .int .i64 lo, .int .i64 hi] 23 (0, 0)) ∧ Below w.heap.size w W
set_option maxHeartbeats 40000000 in
theorem bounds_walk (v up dn be ov : Int) (l1 : -2147483648 ≤ v) (l2 : v ≤ 2147483647) (l7 : 0 ≤ be) (l8 : be ≤ 65535) (l9 : 0 ≤ ov) (l10 : ov ≤ 65535) (A : Option Addr) (n c : Nat) (ms : List Mv) (w : World) (h : MS w.heap.size w A n ms) (hm : ∀ m ∈ ms, Mv.Ok m) (hc : n ≤ c) (hn : n ≤ 70368744177664) :
    Calls Try.prog 9 #[.agg #[.int .i32 v, .int .u16 up, .int .u16 dn, .int .u16 be, .int .u16 ov], .slice A n c] w fun e w' => e = .returned (.bool true) ∧ Below w.heap.size w w' := by
  obtain ⟨m, hmin, hmn, hm100⟩ : ∃ m : Nat, (if (100 : Int) < (n : Int) then (100 : Int) else (n : Int)) = (m : Int) ∧ m ≤ n ∧ m ≤ 100 := ⟨min n 100, by split <;> omega, by omega, by omega⟩
  obtain ⟨X, hX, hMX⟩ := h.low hmn hc
  have hcm : (m : Int) ≤ (c : Int) := by omega
  obtain ⟨lo, hlo⟩ : ∃ lo, v - be = lo := ⟨_, rfl⟩
  obtain ⟨hi, hhi⟩ : ∃ hi, v + ov = hi := ⟨_, rfl⟩
  have hck0 : Cok v lo hi [] := ⟨(fun d hd => nomatch hd), by simp, by simp [upS]; omega, by simp [dnS]; omega, by omega, by omega⟩
  go_enter Try.func9, Try.ntmps9
  go_wp2_with (fail)
  refine (made_0 v be ov l1 l2 l7 l8 l9 l10 _).mono ?_
  rintro e w1 ⟨he, b1⟩
  rw [hlo, hhi] at he
  subst he
  go_wp2_with (fail)
  refine (check_any v 0 0 lo hi _).mono ?_
  rintro e w2 ⟨he, b2⟩
  have hck : ckE v 0 0 lo hi = 0 := by rw [ckE_0]; exact hck0.ck
  rw [hck] at he
  subst he
  have B0 : Below w.heap.size w w1 := by
    refine Below.trans ?_ (b1.mono ?_)
    · (repeat (first | exact Below.refl _ _ | (refine Below.setCell ?_ (by simp) _) | (refine Below.alloc ?_ (Nat.le_refl _) _)))
    · simp
  have B1 := B0.alloc B0.size (.cells #[.int .i64 v, .int .i64 0, .int .i64 0, .int .i64 lo, .int .i64 hi] 23)
  have B2 := B1.trans (b2.mono B1.size)
  have hblk : w2.heap[w1.heap.size]? = some (.cells #[.int .i64 v, .int .i64 0, .int .i64 0, .int .i64 lo, .int .i64 hi] 23 (0, 0)) := (b2.block _ (by simp)).trans (heap_alloc_new w1 _)
  have hR0 : BR w w1.heap.size lo hi 0 v none 0 0 w2 := ⟨[], by omega, hck0, World.ownsRow_nil _ _ _ _, hblk, B2⟩
  have q0 := blkC hblk 0
  have q1 := blkX hblk
  have hg : w.heap.size ≤ w1.heap.size := B0.size
  clear hck b1 b2 B0 B1 B2
  go_wp2_with (fail)
  go_loopw [6, 7, 42] (fun a b i wr => ∃ (k : Nat) (val : Int) (A' : Option Addr) (n' c' : Nat), k ≤ m ∧ i = .int .i64 k ∧ a = .int .i64 val ∧ b = .slice A' n' c' ∧ BR w w1.heap.size lo hi k val A' n' c' wr) (fun _ _ i _ => m - (intOf i).toNat)
  case atStart => exact ⟨0, v, none, 0, 0, by omega, rfl, rfl, rfl, hR0⟩
  case round =>
    obtain ⟨k, val, A1, n1, c1, hk, rfl, rfl, rfl, l, hnk, hok, hopn, hblk, bW⟩ := hrel
    clear hR0
    by_cases hlt : k < m
    · obtain ⟨b, o, mv, rfl, hbl, hmv, e1, e2⟩ := (hMX.below bW).at_ hlt
      have hmok := hm mv (List.mem_of_mem_take (List.mem_of_getElem? hmv))
      have hmk := hmok.1
      have hmd := hmok.2
      have hri := hopn.ri
      have hlen := hopn.len
      have hn100 : n1 ≤ 100 := by omega
      obtain ⟨S1, S2, S3, S4⟩ := S_bounds hok.small
      have hfew := hok.few
      have g0 := blkC hblk 0; have g1 := blkC hblk 1; have g2 := blkC hblk 2; have g3 := blkC hblk 3; have g4 := blkC hblk 4; have gx := blkX hblk
      clear hmv
      by_cases hdo : mv.k % 4 < 2 ∨ n1 = 0
      · have hway : ((mv.k : Int) % 4 < 2) ∨ (¬ ((mv.k : Int) % 4 < 2) ∧ ((n1 : Int) == 0) = true) := by
          rcases hdo with h | h
          · left; omega
          · by_cases h2 : (mv.k : Int) % 4 < 2
            · exact .inl h2
            · exact .inr ⟨h2, by simp; omega⟩
        have a1 := hok.atLo; have a2 := hok.atHi; have a3 := hok.least; have a4 := hok.most
        clear hmin hX hMX hlo hhi hck0 h hm q0 q1
        have hmb := (Below.refl _ wr).alloc (Nat.le_refl _) (.cells #[.int .u8 mv.k, .int .i16 mv.d] 49)
        have hmv0 := heap_alloc_new wr (.cells #[.int .u8 mv.k, .int .i16 mv.d] 49)
        have hop1 : Opn w.heap.size (wr.alloc (.cells #[.int .u8 mv.k, .int .i16 mv.d] 49)) A1 n1 c1 l := World.ownsRow.alloc hopn _
        have hg1 := (hmb.block _ gx).trans hblk
        have bW1 := bW.trans (hmb.mono bW.size)
        rcases Bool.eq_false_or_eq_true (fitsB val lo hi l mv.d) with hf | hf
        · have hfit : (mv.d < 0 ∧ lo ≤ val - upS l + mv.d) ∨ (0 ≤ mv.d ∧ val + dnS l + mv.d ≤ hi) := by
            unfold fitsB at hf
            by_cases hn : mv.d < 0
            · rw [if_pos hn, decide_eq_true_iff] at hf; exact .inl ⟨hn, hf⟩
            · rw [if_neg hn, decide_eq_true_iff] at hf; exact .inr ⟨by omega, hf⟩
          rcases hway with hA | ⟨hA, hB⟩
          all_goals rcases hfit with ⟨hneg, hfit⟩ | ⟨hneg, hfit⟩
          all_goals
            as_aux_lemma =>
              go_wp2_with (fail)
              refine (reserved_any A1 n1 c1 l _ hop1.ri hok.small (by omega)).mono ?_
              rintro e w3 ⟨rfl, rfl⟩
              go_wp2_with (fail)
              refine (do_any val (upS l) (dnS l) lo hi mv.d (by omega) (by omega) _).mono ?_
              rintro e w4 ⟨he, b4⟩
              rw [do_fits hok hmd hf] at he
              simp only [CR.ok, CR.val] at he
              subst he
              have hg4 := (b4.block _ (blkX hg1)).trans hg1
              have g0 := blkC hg4 0; have g1 := blkC hg4 1; have g2 := blkC hg4 2; have g3 := blkC hg4 3; have g4 := blkC hg4 4; have gx4 := blkX hg4; have gf := blkF hg4
              have hop4 : Opn w.heap.size w4 A1 n1 c1 l := hop1.keep fun k cs hk => b4.block k (blkX hk)
              obtain ⟨A6, c6, w6, hrun, hop6, hg6, B46⟩ := push_behind hop4 hg4 hg (by omega) (val + mv.d) (upS (l ++ [mv.d])) (dnS (l ++ [mv.d])) lo hi mv.d (.cells #[.int .i64 (val + mv.d), .int .i64 (upS (l ++ [mv.d])), .int .i64 (dnS (l ++ [mv.d])), .int .i64 lo, .int .i64 hi] 23)
              simp only [stored] at hrun
              have hok6 := fits_ok hok hmd (by omega) hf
              have B6 : Below w.heap.size w w6 := (bW1.trans (b4.mono (Nat.le_trans bW.size hmb.size))).trans B46
              have hci : ckE (val + mv.d) (upS (l ++ [mv.d])) (dnS (l ++ [mv.d])) lo hi = 0 := by rw [ckE_0]; exact hok6.ck
              have r0 := blkC hg6 0; have r1 := blkC hg6 1; have r2 := blkC hg6 2; have r3 := blkC hg6 3; have r4 := blkC hg6 4; have rx := blkX hg6; have rf := blkF hg6
              have t1 := hok6.atLo; have t2 := hok6.atHi
              obtain ⟨T1, T2, T3, T4⟩ := S_bounds hok6.small
              go_wp2_with (fail)
              clear g0 g1 g2 g3 g4 gx gx4 gf hg4 hg1 hop1 hop4 hopn hmv0 hblk
              refine (reserved_any A6 (n1 + 1) c6 _ _ hop6.ri hok6.small (by omega)).mono ?_
              rintro e w7 ⟨rfl, rfl⟩
              go_wp2_with (fail)
              refine (check_any _ _ _ _ _ _).mono ?_
              rintro e w7 ⟨he, b7⟩
              rw [hci] at he
              subst he
              have hop7 := hop6.keep fun k cs hk => b7.block k (blkX hk)
              have hg7 := (b7.block _ rx).trans hg6
              have B7 := B6.trans (b7.mono B6.size)
              have r0 := blkC hg7 0; have r1 := blkC hg7 1; have r2 := blkC hg7 2; have r3 := blkC hg7 3; have r4 := blkC hg7 4; have rx7 := blkX hg7
              go_wp2_with (fail)
              exact ⟨⟨k + 1, val + mv.d, A6, n1 + 1, c6, by omega, by go_num, rfl, rfl, _, by omega, hok6, hop7, hg7, B7⟩, by simp [intOf]; omega⟩
        · have hfit : (mv.d < 0 ∧ val - upS l + mv.d < lo) ∨ (0 ≤ mv.d ∧ hi < val + dnS l + mv.d) := by
            unfold fitsB at hf
            by_cases hn : mv.d < 0
            · rw [if_pos hn, decide_eq_false_iff_not] at hf; exact .inl ⟨hn, by omega⟩
            · rw [if_neg hn, decide_eq_false_iff_not] at hf; exact .inr ⟨by omega, by omega⟩
          rcases hway with hA | ⟨hA, hB⟩
          all_goals rcases hfit with ⟨hneg, hfit⟩ | ⟨hneg, hfit⟩
          all_goals
            as_aux_lemma =>
              go_wp2_with (fail)
              refine (reserved_any A1 n1 c1 l _ hop1.ri hok.small (by omega)).mono ?_
              rintro e w3 ⟨rfl, rfl⟩
              go_wp2_with (fail)
              refine (do_any val (upS l) (dnS l) lo hi mv.d (by omega) (by omega) _).mono ?_
              rintro e w4 ⟨he, b4⟩
              rw [do_over hok hmd hf] at he
              simp only [CR.bad, CR.val] at he
              subst he
              have hg4 := (b4.block _ (blkX hg1)).trans hg1
              have g0 := blkC hg4 0; have g1 := blkC hg4 1; have g2 := blkC hg4 2; have g3 := blkC hg4 3; have g4 := blkC hg4 4; have gx4 := blkX hg4; have gf := blkF hg4
              have hop4 : Opn w.heap.size w4 A1 n1 c1 l := hop1.keep fun k cs hk => b4.block k (blkX hk)
              have B4 : Below w.heap.size w w4 := bW1.trans (b4.mono (Nat.le_trans bW.size hmb.size))
              clear hg1 hop1 hopn hmv0 hblk
              have hop5 : Opn w.heap.size (w4.alloc (.cells #[.int .i64 0, .int .i64 0, .int .i64 0, .int .i64 0, .int .i64 0] 23)) A1 n1 c1 l := World.ownsRow.alloc hop4 _
              have hb5 := (Below.refl _ w4).alloc (Nat.le_refl _) (.cells #[.int .i64 0, .int .i64 0, .int .i64 0, .int .i64 0, .int .i64 0] 23)
              have hg5 := (hb5.block _ (blkX hg4)).trans hg4
              have B5 := B4.trans (hb5.mono B4.size)
              have hci : ckE val (upS l) (dnS l) lo hi = 0 := by rw [ckE_0]; exact hok.ck
              go_wp2_with (fail)
              refine (reserved_any A1 n1 c1 l _ hop5.ri hok.small (by omega)).mono ?_
              rintro e w7 ⟨rfl, rfl⟩
              go_wp2_with (fail)
              refine (check_any _ _ _ _ _ _).mono ?_
              rintro e w7 ⟨he, b7⟩
              rw [hci] at he
              subst he
              have hop7 := hop5.keep fun k cs hk => b7.block k (blkX hk)
              have hg7 := (b7.block _ (blkX hg5)).trans hg5
              have B7 := B5.trans (b7.mono B5.size)
              clear g0 g1 g2 g3 g4 gx4 gf hg4 hop4 hop5 hg5
              have r0 := blkC hg7 0; have r1 := blkC hg7 1; have r2 := blkC hg7 2; have r3 := blkC hg7 3; have r4 := blkC hg7 4; have rx7 := blkX hg7
              go_wp2_with (fail)
              exact ⟨⟨k + 1, val, A1, n1, c1, by omega, by go_num, rfl, rfl, _, by omega, hok, hop7, hg7, B7⟩, by simp [intOf]; omega⟩
      · have hk1 : ¬ ((mv.k : Int) % 4 < 2) := by omega
        have hk2 : ((n1 : Int) == 0) = false := by simp; omega
        have hk3 : 0 < n1 := by omega
        obtain ⟨K, hK, hKn⟩ : ∃ K : Nat, (wrap64 (IntKind.u16.wrap mv.d)).tmod (n1 : Int) = (K : Int) ∧ K < n1 := by
          have h1 : 0 ≤ IntKind.u16.wrap mv.d ∧ IntKind.u16.wrap mv.d < 65536 := by simp [IntKind.wrap, IntKind.signed, IntKind.bits]; omega
          have h2 : wrap64 (IntKind.u16.wrap mv.d) = IntKind.u16.wrap mv.d := by unfold wrap64; omega
          rw [h2, Int.tmod_eq_emod_of_nonneg h1.1]
          have h3 := Int.emod_nonneg (IntKind.u16.wrap mv.d) (show (n1 : Int) ≠ 0 by omega)
          have h4 := Int.emod_lt_of_pos (IntKind.u16.wrap mv.d) (show 0 < (n1 : Int) by omega)
          exact ⟨((IntKind.u16.wrap mv.d) % (n1 : Int)).toNat, by omega, by omega⟩
        have hmb := (Below.refl _ wr).alloc (Nat.le_refl _) (.cells #[.int .u8 mv.k, .int .i16 mv.d] 49)
        have hop1 : Opn w.heap.size (wr.alloc (.cells #[.int .u8 mv.k, .int .i16 mv.d] 49)) A1 n1 c1 l := World.ownsRow.alloc hopn _
        have hg1 := (hmb.block _ gx).trans hblk
        have bW1 := bW.trans (hmb.mono bW.size)
        obtain ⟨ad, d, hA1, hld, hcell⟩ := hop1.ri.at_ hKn
        have hcap : n1 ≤ c1 := by
          rcases hopn.2 with ⟨_, e⟩ | ⟨g, cap, cur, e, _, _, hle, _⟩
          · omega
          · simp only [Value.slice.injEq, true_and] at e
            omega
        have hK0 : (0 : Int) ≤ (K : Int) := by omega
        have hKn' : (K : Int) < (n1 : Int) := by omega
        have hds := hok.small d (List.mem_of_getElem? hld)
        have hbd := hok.few
        have a1 := hok.atLo; have a2 := hok.atHi; have a3 := hok.least; have a4 := hok.most
        clear hmin hX hMX hlo hhi hck0 h hm q0 q1 hk2
        subst hA1
        by_cases hkind : mv.k % 4 = 2
        · have hkb : ((mv.k : Int) % 4 == 2) = true := by simp; omega
          clear hkind
          as_aux_lemma =>
            have hu := undo_ok hok hld
            obtain ⟨lu, hlu⟩ : ∃ lu, l.take K ++ l.drop (K + 1) = lu := ⟨_, rfl⟩
            rw [hlu] at hu
            replace hu := Lib.hid hu
            replace hlu := Lib.hid hlu
            go_wp2_with (fail)
            refine (undo_any val (upS l) (dnS l) lo hi d (by omega) (by omega) _).mono ?_
            rintro e w4 ⟨he, b4⟩
            rw [hu.out.1] at he
            simp only [CR.ok, CR.val] at he
            subst he
            have hg4 := (b4.block _ (blkX hg1)).trans hg1
            have hop4 : Opn w.heap.size w4 (some ad) n1 c1 l := hop1.keep fun k cs hk => b4.block k (blkX hk)
            have B4 : Below w.heap.size w w4 := bW1.trans (b4.mono (Nat.le_trans bW.size hmb.size))
            have hok6 := hu.out.2
            have hop5 : Opn w.heap.size (stored w4 w1.heap.size (val - d) (upS lu) (dnS lu) lo hi).drew (some ad) n1 c1 l := (hop4.keep (W' := (stored w4 w1.heap.size (val - d) (upS lu) (dnS lu) lo hi).drew) fun k cs hk => by
              have hkg : k ≠ w1.heap.size := by
                rintro rfl
                rw [hg4] at hk; injection hk with hk; injection hk with _ hk; exact absurd hk (by decide)
              exact stored_far hkg _ _ _ _ _)
            have hg5 : (stored w4 w1.heap.size (val - d) (upS lu) (dnS lu) lo hi).drew.heap[w1.heap.size]? = _ := stored_at hg4 _ _ _ _ _
            have B5 : Below w.heap.size w (stored w4 w1.heap.size (val - d) (upS lu) (dnS lu) lo hi).drew := (B4.trans (stored_below hg _ _ _ _ _)).drew
            have g0 := blkC hg4 0; have g1 := blkC hg4 1; have g2 := blkC hg4 2; have g3 := blkC hg4 3; have g4 := blkC hg4 4; have gx4 := blkX hg4; have gf := blkF hg4
            obtain ⟨X, Y, dd, A6, c6, w6, hX6, hY6, hrun, hop6, hgr6⟩ := hop5.del (by omega) B5.size hKn
            have hrow := hop5.rowNe hg5
            have hg6 := (hgr6.block _ (blkX hg5) (fun e => hrow e.symm)).trans hg5
            have B6 : Below w.heap.size w w6 := B5.trans ⟨hgr6.os, hgr6.tape, hgr6.output, hgr6.size, fun k hk => hgr6.block k (by have := B5.size; omega) (fun e => by have := (hop5.lt k (by rw [own_rowOf]; exact e.symm)).1; omega)⟩
            rw [hlu.out] at hop6
            have HF := Lib.hid (⟨hop6, hg6, B6, hok6⟩ : Opn w.heap.size w6 A6 (n1 - 1) c6 lu ∧ _ ∧ Below w.heap.size w w6 ∧ Cok (val - d) lo hi lu)
            simp only [stored] at hrun
            clear hop4 hop5 hg5 B5 hop6 hg6 B6 hok6 hgr6 hrow hu b4 B4 hop1 hg1 hlu
            go_wp2_with (fail)
            have s1 : IntKind.i64.wrap ((K : Int) + 1) = (K : Int) + 1 := by simp [IntKind.wrap, IntKind.signed, IntKind.bits]; omega
            have s2 : (0 : Int) ≤ (K : Int) + 1 := by omega
            have s3 : (K : Int) + 1 ≤ (n1 : Int) := by omega
            have s4 : ((K : Int) + 1).toNat = K + 1 := by omega
            have s5 : (K : Int) ≤ (c1 : Int) := by omega
            have s6 : (K : Int) ≤ (n1 : Int) := by omega
            go_region
            obtain ⟨hop6, hg6, B6, hok6⟩ := HF.out
            obtain ⟨T1, T2, T3, T4⟩ := S_bounds hok6.small
            have hl6 := hop6.len
            have t1 := hok6.atLo; have t2 := hok6.atHi
            have hci : ckE (val - d) (upS lu) (dnS lu) lo hi = 0 := by rw [ckE_0]; exact hok6.ck
            clear HF hrun hX6 hY6 s1 s2 s3 s4 s5 s6 g0 g1 g2 g3 g4 gf gx4 hcell hri hld
            have r0 := blkC hg6 0; have r1 := blkC hg6 1; have r2 := blkC hg6 2; have r3 := blkC hg6 3; have r4 := blkC hg6 4; have rx := blkX hg6
            go_wp2_with (fail)
            refine (reserved_any A6 (n1 - 1) c6 _ _ hop6.ri hok6.small (by omega)).mono ?_
            rintro e w7 ⟨rfl, rfl⟩
            go_wp2_with (fail)
            refine (check_any _ _ _ _ _ _).mono ?_
            rintro e w7 ⟨he, b7⟩
            rw [hci] at he
            subst he
            have hop7 := hop6.keep fun k cs hk => b7.block k (blkX hk)
            have hg7 := (b7.block _ rx).trans hg6
            have B7 := B6.trans (b7.mono B6.size)
            clear r0 r1 r2 r3 r4
            have r0 := blkC hg7 0; have r1 := blkC hg7 1; have r2 := blkC hg7 2; have r3 := blkC hg7 3; have r4 := blkC hg7 4; have rx7 := blkX hg7
            go_wp2_with (fail)
            exact ⟨⟨k + 1, val - d, A6, n1 - 1, c6, by omega, by go_num, rfl, rfl, _, by omega, hok6, hop7, hg7, B7⟩, by simp [intOf]; omega⟩
        · have hkb : ((mv.k : Int) % 4 == 2) = false := by simp; omega
          clear hkind
          as_aux_lemma =>
            have hu := free_ok hok hld
            obtain ⟨lu, hlu⟩ : ∃ lu, l.take K ++ l.drop (K + 1) = lu := ⟨_, rfl⟩
            rw [hlu] at hu
            replace hu := Lib.hid hu
            replace hlu := Lib.hid hlu
            go_wp2_with (fail)
            refine (free_any val (upS l) (dnS l) lo hi d (by omega) (by omega) _).mono ?_
            rintro e w4 ⟨he, b4⟩
            rw [hu.out.1] at he
            simp only [CR.ok, CR.val] at he
            subst he
            have hg4 := (b4.block _ (blkX hg1)).trans hg1
            have hop4 : Opn w.heap.size w4 (some ad) n1 c1 l := hop1.keep fun k cs hk => b4.block k (blkX hk)
            have B4 : Below w.heap.size w w4 := bW1.trans (b4.mono (Nat.le_trans bW.size hmb.size))
            have hok6 := hu.out.2
            have hop5 : Opn w.heap.size (stored w4 w1.heap.size (val) (upS lu) (dnS lu) lo hi).drew (some ad) n1 c1 l := (hop4.keep (W' := (stored w4 w1.heap.size (val) (upS lu) (dnS lu) lo hi).drew) fun k cs hk => by
              have hkg : k ≠ w1.heap.size := by
                rintro rfl
                rw [hg4] at hk; injection hk with hk; injection hk with _ hk; exact absurd hk (by decide)
              exact stored_far hkg _ _ _ _ _)
            have hg5 : (stored w4 w1.heap.size (val) (upS lu) (dnS lu) lo hi).drew.heap[w1.heap.size]? = _ := stored_at hg4 _ _ _ _ _
            have B5 : Below w.heap.size w (stored w4 w1.heap.size (val) (upS lu) (dnS lu) lo hi).drew := (B4.trans (stored_below hg _ _ _ _ _)).drew
            have g0 := blkC hg4 0; have g1 := blkC hg4 1; have g2 := blkC hg4 2; have g3 := blkC hg4 3; have g4 := blkC hg4 4; have gx4 := blkX hg4; have gf := blkF hg4
            obtain ⟨X, Y, dd, A6, c6, w6, hX6, hY6, hrun, hop6, hgr6⟩ := hop5.del (by omega) B5.size hKn
            have hrow := hop5.rowNe hg5
            have hg6 := (hgr6.block _ (blkX hg5) (fun e => hrow e.symm)).trans hg5
            have B6 : Below w.heap.size w w6 := B5.trans ⟨hgr6.os, hgr6.tape, hgr6.output, hgr6.size, fun k hk => hgr6.block k (by have := B5.size; omega) (fun e => by have := (hop5.lt k (by rw [own_rowOf]; exact e.symm)).1; omega)⟩
            rw [hlu.out] at hop6
            have HF := Lib.hid (⟨hop6, hg6, B6, hok6⟩ : Opn w.heap.size w6 A6 (n1 - 1) c6 lu ∧ _ ∧ Below w.heap.size w w6 ∧ Cok (val) lo hi lu)
            simp only [stored] at hrun
            clear hop4 hop5 hg5 B5 hop6 hg6 B6 hok6 hgr6 hrow hu b4 B4 hop1 hg1 hlu
            go_wp2_with (fail)
            have s1 : IntKind.i64.wrap ((K : Int) + 1) = (K : Int) + 1 := by simp [IntKind.wrap, IntKind.signed, IntKind.bits]; omega
            have s2 : (0 : Int) ≤ (K : Int) + 1 := by omega
            have s3 : (K : Int) + 1 ≤ (n1 : Int) := by omega
            have s4 : ((K : Int) + 1).toNat = K + 1 := by omega
            have s5 : (K : Int) ≤ (c1 : Int) := by omega
            have s6 : (K : Int) ≤ (n1 : Int) := by omega
            go_region
            obtain ⟨hop6, hg6, B6, hok6⟩ := HF.out
            obtain ⟨T1, T2, T3, T4⟩ := S_bounds hok6.small
            have hl6 := hop6.len
            have t1 := hok6.atLo; have t2 := hok6.atHi
            have hci : ckE (val) (upS lu) (dnS lu) lo hi = 0 := by rw [ckE_0]; exact hok6.ck
            clear HF hrun hX6 hY6 s1 s2 s3 s4 s5 s6 g0 g1 g2 g3 g4 gf gx4 hcell hri hld
            have r0 := blkC hg6 0; have r1 := blkC hg6 1; have r2 := blkC hg6 2; have r3 := blkC hg6 3; have r4 := blkC hg6 4; have rx := blkX hg6
            go_wp2_with (fail)
            refine (reserved_any A6 (n1 - 1) c6 _ _ hop6.ri hok6.small (by omega)).mono ?_
            rintro e w7 ⟨rfl, rfl⟩
            go_wp2_with (fail)
            refine (check_any _ _ _ _ _ _).mono ?_
            rintro e w7 ⟨he, b7⟩
            rw [hci] at he
            subst he
            have hop7 := hop6.keep fun k cs hk => b7.block k (blkX hk)
            have hg7 := (b7.block _ rx).trans hg6
            have B7 := B6.trans (b7.mono B6.size)
            clear r0 r1 r2 r3 r4
            have r0 := blkC hg7 0; have r1 := blkC hg7 1; have r2 := blkC hg7 2; have r3 := blkC hg7 3; have r4 := blkC hg7 4; have rx7 := blkX hg7
            go_wp2_with (fail)
            exact ⟨⟨k + 1, val, A6, n1 - 1, c6, by omega, by go_num, rfl, rfl, _, by omega, hok6, hop7, hg7, B7⟩, by simp [intOf]; omega⟩
    · as_aux_lemma =>
        have hl0 := hopn.len
        clear hmin hX hMX hlo hhi hck0 h hm q0 q1
        have hR1 : ∃ v', Cok v' lo hi (l.drop 0) ∧ wr.heap[w1.heap.size]? = some (.cells #[.int .i64 v', .int .i64 (upS (l.drop 0)), .int .i64 (dnS (l.drop 0)), .int .i64 lo, .int .i64 hi] 23 (0, 0)) := ⟨val, hok, hblk⟩
        have hS0 := Lib.hid (⟨hR1, hopn, bW⟩ : _ ∧ Opn w.heap.size wr A1 n1 c1 l ∧ Below w.heap.size w wr)
        clear hR1 hok hblk hopn bW
        go_wp2_with (fail)
        obtain ⟨wo, hwo⟩ : ∃ wo : World, wo = wr := ⟨_, rfl⟩
        subst hwo
        go_loopw [199] (fun i wr => ∃ (j : Nat) (v' : Int), j ≤ n1 ∧ i = .int .i64 j ∧ Cok v' lo hi (l.drop j) ∧ wr.heap[w1.heap.size]? = some (.cells #[.int .i64 v', .int .i64 (upS (l.drop j)), .int .i64 (dnS (l.drop j)), .int .i64 lo, .int .i64 hi] 23 (0, 0)) ∧ Opn w.heap.size wr A1 n1 c1 l ∧ Below w.heap.size w wr) (fun i _ => n1 - (intOf i).toNat)
        case atStart =>
          obtain ⟨⟨v', h1, h2⟩, h3, h4⟩ := hS0.out
          exact ⟨0, v', by omega, rfl, h1, h2, h3, h4⟩
        case round =>
          clear hS0
          obtain ⟨j, v', hj, rfl, hok, hblk, hopn, bW⟩ := hrel
          have g0 := blkC hblk 0; have g1 := blkC hblk 1; have g2 := blkC hblk 2; have g3 := blkC hblk 3; have g4 := blkC hblk 4; have gx := blkX hblk; have gf := blkF hblk
          by_cases hjn : j < n1
          · obtain ⟨ad, d, hA1, hld, hcell⟩ := hopn.ri.at_ hjn
            subst hA1
            have hdd : (l.drop j)[0]? = some d := by simpa using hld
            have hu := undo_ok hok hdd
            have hds := hok.small d (List.mem_of_getElem? hdd)
            have e0 : (l.drop j).take 0 ++ (l.drop j).drop (0 + 1) = l.drop (j + 1) := by rw [List.take_zero, List.nil_append, List.drop_drop]
            rw [e0] at hu
            have t1 := hu.2.atLo; have t2 := hu.2.atHi
            obtain ⟨T1, T2, T3, T4⟩ := S_bounds hu.2.small
            have a3 := hok.least; have a4 := hok.most
            replace hu := Lib.hid hu
            clear e0 hdd hld
            go_wp2_with (fail)
            refine (undo_any _ _ _ lo hi d (by omega) (by omega) _).mono ?_
            rintro e w4 ⟨he, b4⟩
            rw [hu.out.1] at he
            simp only [CR.ok, CR.val] at he
            subst he
            have hg4 := (b4.block _ gx).trans hblk
            have hop4 : Opn w.heap.size w4 (some ad) n1 c1 l := hopn.keep fun k cs hk => b4.block k (blkX hk)
            have B4 : Below w.heap.size w w4 := bW.trans (b4.mono bW.size)
            clear g0 g1 g2 g3 g4 gf hblk hopn bW b4
            have g0 := blkC hg4 0; have g1 := blkC hg4 1; have g2 := blkC hg4 2; have g3 := blkC hg4 3; have g4 := blkC hg4 4; have gx4 := blkX hg4; have gf := blkF hg4
            have hop5 : Opn w.heap.size (stored w4 w1.heap.size (v' - d) (upS (l.drop (j + 1))) (dnS (l.drop (j + 1))) lo hi) (some ad) n1 c1 l := hop4.keep fun k cs hk => by
              have hkg : k ≠ w1.heap.size := by
                rintro rfl
                rw [hg4] at hk; injection hk with hk; injection hk with _ hk; exact absurd hk (by decide)
              exact stored_far hkg _ _ _ _ _
            have hg5 : (stored w4 w1.heap.size (v' - d) (upS (l.drop (j + 1))) (dnS (l.drop (j + 1))) lo hi).heap[w1.heap.size]? = _ := stored_at hg4 _ _ _ _ _
            have B5 : Below w.heap.size w (stored w4 w1.heap.size (v' - d) (upS (l.drop (j + 1))) (dnS (l.drop (j + 1))) lo hi) := B4.trans (stored_below hg _ _ _ _ _)
            have hX := (Below.refl _ (stored w4 w1.heap.size (v' - d) (upS (l.drop (j + 1))) (dnS (l.drop (j + 1))) lo hi)).alloc (Nat.le_refl _) (.cells #[.int .i64 (v' - d), .int .i64 (upS (l.drop (j + 1))), .int .i64 (dnS (l.drop (j + 1))), .int .i64 lo, .int .i64 hi] 23)
            have hfin := Lib.hid (⟨(hX.block _ (blkX hg5)).trans hg5, World.ownsRow.alloc hop5 _, B5.trans (hX.mono B5.size)⟩ : _ ∧ Opn w.heap.size ((stored w4 w1.heap.size (v' - d) (upS (l.drop (j + 1))) (dnS (l.drop (j + 1))) lo hi).alloc (.cells #[.int .i64 (v' - d), .int .i64 (upS (l.drop (j + 1))), .int .i64 (dnS (l.drop (j + 1))), .int .i64 lo, .int .i64 hi] 23)) (some ad) n1 c1 l ∧ Below w.heap.size w _)
            clear hop5 hg5 B5 hX hop4 hg4 B4
            go_wp2_with (fail)
            exact ⟨⟨j + 1, v' - d, by omega, by go_num, hu.out.2, hfin.out.1, hfin.out.2.1, hfin.out.2.2⟩, by simp [intOf]; omega⟩
          · have hd : l.drop j = [] := List.drop_eq_nil_of_le (by omega)
            rw [hd] at hok hblk g1 g2
            have hck : ckE v' (upS []) (dnS []) lo hi = 0 := by rw [ckE_0]; exact hok.ck
            go_wp2_with (fail)
            refine (quiet_any _ _ _ _ _ _).mono ?_
            rintro e w4 ⟨he, b4⟩
            have hqq : quietB v' (upS []) (dnS []) lo hi = true := by unfold quietB; rw [hok.ck]; rfl
            rw [hck, hqq] at he
            subst he
            go_wp2_with (fail)
            refine (works_any _).mono ?_
            rintro e w5 ⟨rfl, b5⟩
            go_wp2_with (fail)
            go_ret
            exact ⟨rfl, (bW.trans (b4.mono bW.size)).trans (b5.mono (Nat.le_trans bW.size b4.size))⟩
end Go.Proofs.Ytmkggjhlacajaaa
