/- The laws' helpers put, get and plain. -/
import Derived.Test.YtcapeefhbkgogaaHelp
namespace Go.Proofs.Ytcapeefhbkgogaa
open Go.RowKit
set_option linter.unusedSimpArgs false
set_option linter.unusedVariables false
set_option linter.unusedSectionVars false
set_option maxRecDepth 10000
set_option maxHeartbeats 4000000 in
theorem put_any {W : World} {g c : Nat} {A : Option Addr} {xs : List UInt8} (h0 : IsWr 46 W g A c xs) (hl : xs.length ≤ 1000000) (v : VV) (hv : v.Ok) (hs : v.s.size ≤ 1000000) :
    Calls Try.prog 39 #[.pointer (some ⟨g, 0, none⟩), .agg #[.int .u8 v.k, .int .u64 v.n, .string v.s]] W fun e w' => e = .returned (.tuple #[]) ∧ WrTo 46 W g A (xs ++ encV v) w' := by
  have hk := hv.k
  have hb := (Below.refl W.heap.size W).alloc (Nat.le_refl _) (.cells #[.int .u8 v.k, .int .u64 v.n, .string v.s] 31)
  have h := h0.below hb
  have hor : v.k % 4 = 0 ∨ v.k % 4 = 1 ∨ v.k % 4 = 2 ∨ v.k % 4 = 3 := by omega
  clear h0
  rcases hor with hq | hq | hq | hq
  · have hen : encV v = enc v.n := by unfold encV; simp [hq]
    replace hen := Lib.hid hen
    have b0 : ((v.k : Int) % 4 == 0) = true := by simp; omega
    have b1 : ((v.k : Int) % 4 == 1) = false := by simp; omega
    have b2 : ((v.k : Int) % 4 == 2) = false := by simp; omega
    have b3 : ((v.k : Int) % 4 == 3) = false := by simp; omega
    clear hq hk
    go_enter Try.func39, Try.ntmps39
    go_wp2_with (fail)
    refine (wUint_any g A c xs v.n _ h hv.n hl).mono ?_
    rintro e w1 ⟨rfl, t1⟩
    have t2 := t1.belowThen hb
    clear t1
    go_wp2_with (fail)
    go_end0
    exact ⟨rfl, by rw [hen.out]; exact t2⟩
  · have hen : encV v = enc (zig (wrap64 v.n)) := by unfold encV; simp [hq]
    replace hen := Lib.hid hen
    have b0 : ((v.k : Int) % 4 == 0) = false := by simp; omega
    have b1 : ((v.k : Int) % 4 == 1) = true := by simp; omega
    have b2 : ((v.k : Int) % 4 == 2) = false := by simp; omega
    have b3 : ((v.k : Int) % 4 == 3) = false := by simp; omega
    clear hq hk
    go_enter Try.func39, Try.ntmps39
    go_wp2_with (fail)
    refine (wInt_any g A c xs _ h hl (wrap64 v.n) (wrap64_in _).1 (wrap64_in _).2).mono ?_
    rintro e w1 ⟨rfl, t1⟩
    have t2 := t1.belowThen hb
    clear t1
    go_wp2_with (fail)
    go_end0
    exact ⟨rfl, by rw [hen.out]; exact t2⟩
  · have hen : encV v = enc v.s.size ++ v.s.data.toList := by unfold encV; simp [hq]
    replace hen := Lib.hid hen
    have b0 : ((v.k : Int) % 4 == 0) = false := by simp; omega
    have b1 : ((v.k : Int) % 4 == 1) = false := by simp; omega
    have b2 : ((v.k : Int) % 4 == 2) = true := by simp; omega
    have b3 : ((v.k : Int) % 4 == 3) = false := by simp; omega
    clear hq hk
    go_enter Try.func39, Try.ntmps39
    go_wp2_with (fail)
    refine (wText_any g A c xs _ h hl v.s hs).mono ?_
    rintro e w1 ⟨rfl, t1⟩
    have t2 := t1.belowThen hb
    clear t1
    go_wp2_with (fail)
    go_end0
    exact ⟨rfl, by rw [hen.out]; rw [← List.append_assoc]; exact t2⟩
  · have hen : encV v = enc (v.n % 2) := by unfold encV; simp [hq]
    replace hen := Lib.hid hen
    have b0 : ((v.k : Int) % 4 == 0) = false := by simp; omega
    have b1 : ((v.k : Int) % 4 == 1) = false := by simp; omega
    have b2 : ((v.k : Int) % 4 == 2) = false := by simp; omega
    have b3 : ((v.k : Int) % 4 == 3) = true := by simp; omega
    clear hq hk
    go_enter Try.func39, Try.ntmps39
    go_wp2_with (fail)
    refine (wBool_any g A c xs _ h hl ((v.n : Int) % 2 == 1)).mono ?_
    rintro e w1 ⟨rfl, t1⟩
    have t2 := t1.belowThen hb
    clear t1
    go_wp2_with (fail)
    go_end0
    exact ⟨rfl, by rw [hen.out]; rw [boolN] at t2; exact t2⟩
theorem RdTo.setOther {W w1 : World} {g : Nat} {s : RS} (h : RdTo W g s w1) {b : Nat} {cs : Array Value} {t : TypeId} {fr : Nat × Nat} (hb : w1.heap[b]? = some (.cells cs t fr)) (ht : t ≠ 5) (hl : W.heap.size ≤ b) (hg : g ≠ b) (i : Nat) (v : Value) : RdTo W g s (w1.setCell ⟨b, i, none⟩ v) := by
  obtain ⟨A', c', i1, ch⟩ := h
  have hc : Chg (fun k => k = b) w1 (w1.setCell ⟨b, i, none⟩ v) := setG w1 b i v
  have hS : ∀ k, k = b → ∀ cs fr, w1.heap[k]? ≠ some (.cells cs 5 fr) := by
    rintro k rfl cs' fr' e
    rw [hb] at e; injection e with e; injection e with _ e; exact ht e
  exact ⟨A', c', ⟨(hc.block g i1.lt hg).trans i1.blk, i1.typ.rb i1.rb hc hS, i1.cap, i1.len, i1.typ.keep hc hS, i1.old⟩, ch.setCell (p := ⟨b, i, none⟩) (fun q => absurd q (by simp only; omega)) v⟩
structure GetW (W : World) (g : Nat) (s : RS) (X : World) : Prop where
  r : RdTo W g s X
  x : ∃ cs, X.heap[W.heap.size]? = some (.cells cs 31 (0, 0))
  y : ∃ cs, X.heap[W.heap.size + 1]? = some (.cells cs 31 (0, 0))
theorem GetW.s0 {W X : World} {g : Nat} {s : RS} (h : GetW W g s X) (hg : g < W.heap.size) (i : Nat) (v : Value) : GetW W g s (X.setCell ⟨W.heap.size, i, none⟩ v) := by
  obtain ⟨r, ⟨cs, x⟩, ⟨ds, y⟩⟩ := h
  exact ⟨r.setOther x (by decide) (Nat.le_refl _) (by omega) i v, ⟨_, hpSet x⟩, ⟨ds, (hpFar (by simp)).trans y⟩⟩
theorem GetW.s1 {W X : World} {g : Nat} {s : RS} (h : GetW W g s X) (hg : g < W.heap.size) (i : Nat) (v : Value) : GetW W g s (X.setCell ⟨W.heap.size + 1, i, none⟩ v) := by
  obtain ⟨r, ⟨cs, x⟩, ⟨ds, y⟩⟩ := h
  exact ⟨r.setOther y (by decide) (by omega) (by omega) i v, ⟨cs, (hpFar (by simp)).trans x⟩, ⟨_, hpSet y⟩⟩
/-- What get returns for a kind, and what is left. -/
def getV (s : RS) (k : Nat) : VV :=
  if k % 4 = 0 then ⟨k, (rdU s).1, ByteArray.empty⟩ else if k % 4 = 1 then ⟨k, (IntKind.u64.wrap (rdI s).1).toNat, ByteArray.empty⟩ else if k % 4 = 2 then ⟨k, 0, strOf (rdT s).1⟩ else ⟨k, if (rdB s).1 then 1 else 0, ByteArray.empty⟩
def getS (s : RS) (k : Nat) : RS := if k % 4 = 0 then (rdU s).2 else if k % 4 = 1 then (rdI s).2 else if k % 4 = 2 then (rdT s).2 else (rdB s).2
def VV.val' (v : VV) : Value := .agg #[.int .u8 v.k, .int .u64 v.n, .string v.s]
theorem wrapU_nat (n : Int) : ((IntKind.u64.wrap n).toNat : Int) = IntKind.u64.wrap n := by
  rw [wrapU]; omega
set_option maxHeartbeats 4000000 in
theorem get_any {W : World} {g c : Nat} {A : Option Addr} {s : RS} (h0 : IsRd W g A c s) (k : Nat) (hk : k < 256) :
    Calls Try.prog 40 #[.pointer (some ⟨g, 0, none⟩), .int .u8 k] W fun e w' => e = .returned (getV s k).val' ∧ RdTo W g (getS s k) w' := by
  have hb := ((Below.refl W.heap.size W).alloc (Nat.le_refl _) (.cells #[.int .u8 0, .int .u64 0, .string ⟨#[]⟩] 31)).alloc (by simp) (.cells #[.int .u8 k, .int .u64 0, .string ⟨#[]⟩] 31)
  have h := h0.below hb
  have hgx := h0.lt
  have hor : k % 4 = 0 ∨ k % 4 = 1 ∨ k % 4 = 2 ∨ k % 4 = 3 := by omega
  clear h0
  rcases hor with hq | hq | hq | hq
  · have hen : getV s k = ⟨k, (rdU s).1, ByteArray.empty⟩ := by unfold getV; simp [hq]
    have hes : getS s k = (rdU s).2 := by unfold getS; simp [hq]
    replace hen := Lib.hid hen
    replace hes := Lib.hid hes
    have b0 : ((k : Int) % 4 == 0) = true := by simp; omega
    have b1 : ((k : Int) % 4 == 1) = false := by simp; omega
    have b2 : ((k : Int) % 4 == 2) = false := by simp; omega
    have b3 : ((k : Int) % 4 == 3) = false := by simp; omega
    clear hq hk
    go_enter Try.func40, Try.ntmps40
    go_wp2_with (fail)
    refine (rdUint_any s h).mono ?_
    rintro e w1 ⟨rfl, A1, c1, i1, ch1⟩
    have k0 : w1.heap[W.heap.size]? = some (.cells #[.int .u8 0, .int .u64 0, .string ⟨#[]⟩] 31 (0, 0)) := (ch1.block _ (by simp; omega) (by omega)).trans ((Below.heap_alloc _ _ _ (by simp)).trans (heap_alloc_new W _))
    have k1 : w1.heap[W.heap.size + 1]? = some (.cells #[.int .u8 k, .int .u64 0, .string ⟨#[]⟩] 31 (0, 0)) := by
      refine (ch1.block _ (by simp) (by omega)).trans ?_
      have := heap_alloc_new (W.alloc (.cells #[.int .u8 0, .int .u64 0, .string ⟨#[]⟩] 31)) (.cells #[.int .u8 k, .int .u64 0, .string ⟨#[]⟩] 31)
      rwa [World.size_alloc] at this
    have j0 : w1.cell? ⟨W.heap.size, 0, none⟩ = some (.int .u8 0) := blkC k0 0
    have j1 : w1.cell? ⟨W.heap.size, 1, none⟩ = some (.int .u64 0) := blkC k0 1
    have j2 : w1.cell? ⟨W.heap.size, 2, none⟩ = some (.string ⟨#[]⟩) := blkC k0 2
    have j3 := blkF k0
    have l0 : w1.cell? ⟨W.heap.size + 1, 0, none⟩ = some (.int .u8 k) := blkC k1 0
    have l1 : w1.cell? ⟨W.heap.size + 1, 1, none⟩ = some (.int .u64 0) := blkC k1 1
    have l2 : w1.cell? ⟨W.heap.size + 1, 2, none⟩ = some (.string ⟨#[]⟩) := blkC k1 2
    have l3 := blkF k1
    have hgw := Lib.hid (show GetW W g ((rdU s).2) w1 from ⟨⟨A1, c1, i1, (Chg.of_below hb _).trans ch1 fun _ _ e => e⟩, ⟨_, k0⟩, ⟨_, k1⟩⟩)
    clear ch1 i1 k0 k1
    go_wp2_with (fail)
    all_goals refine bodyPost_ret (by simp [results, Try.results40, go_sem, *]; try with_reducible rfl) rfl ?_
    all_goals refine ⟨by rw [hen.out]; rfl, ?_⟩
    all_goals rw [hes.out]
    all_goals suffices hq : GetW W g _ _ from hq.r
    all_goals exact (by repeat (first | (exact hgw.out) | (refine GetW.s0 ?_ hgx _ _) | (refine GetW.s1 ?_ hgx _ _)))
  · have hen : getV s k = ⟨k, (IntKind.u64.wrap (rdI s).1).toNat, ByteArray.empty⟩ := by unfold getV; simp [hq]
    have hes : getS s k = (rdI s).2 := by unfold getS; simp [hq]
    replace hen := Lib.hid hen
    replace hes := Lib.hid hes
    have b0 : ((k : Int) % 4 == 0) = false := by simp; omega
    have b1 : ((k : Int) % 4 == 1) = true := by simp; omega
    have b2 : ((k : Int) % 4 == 2) = false := by simp; omega
    have b3 : ((k : Int) % 4 == 3) = false := by simp; omega
    clear hq hk
    go_enter Try.func40, Try.ntmps40
    go_wp2_with (fail)
    refine (rdInt_any s h).mono ?_
    rintro e w1 ⟨rfl, A1, c1, i1, ch1⟩
    have k0 : w1.heap[W.heap.size]? = some (.cells #[.int .u8 0, .int .u64 0, .string ⟨#[]⟩] 31 (0, 0)) := (ch1.block _ (by simp; omega) (by omega)).trans ((Below.heap_alloc _ _ _ (by simp)).trans (heap_alloc_new W _))
    have k1 : w1.heap[W.heap.size + 1]? = some (.cells #[.int .u8 k, .int .u64 0, .string ⟨#[]⟩] 31 (0, 0)) := by
      refine (ch1.block _ (by simp) (by omega)).trans ?_
      have := heap_alloc_new (W.alloc (.cells #[.int .u8 0, .int .u64 0, .string ⟨#[]⟩] 31)) (.cells #[.int .u8 k, .int .u64 0, .string ⟨#[]⟩] 31)
      rwa [World.size_alloc] at this
    have j0 : w1.cell? ⟨W.heap.size, 0, none⟩ = some (.int .u8 0) := blkC k0 0
    have j1 : w1.cell? ⟨W.heap.size, 1, none⟩ = some (.int .u64 0) := blkC k0 1
    have j2 : w1.cell? ⟨W.heap.size, 2, none⟩ = some (.string ⟨#[]⟩) := blkC k0 2
    have j3 := blkF k0
    have l0 : w1.cell? ⟨W.heap.size + 1, 0, none⟩ = some (.int .u8 k) := blkC k1 0
    have l1 : w1.cell? ⟨W.heap.size + 1, 1, none⟩ = some (.int .u64 0) := blkC k1 1
    have l2 : w1.cell? ⟨W.heap.size + 1, 2, none⟩ = some (.string ⟨#[]⟩) := blkC k1 2
    have l3 := blkF k1
    have hgw := Lib.hid (show GetW W g ((rdI s).2) w1 from ⟨⟨A1, c1, i1, (Chg.of_below hb _).trans ch1 fun _ _ e => e⟩, ⟨_, k0⟩, ⟨_, k1⟩⟩)
    clear ch1 i1 k0 k1
    go_wp2_with (fail)
    all_goals refine bodyPost_ret (by simp [results, Try.results40, go_sem, *]; try with_reducible rfl) rfl ?_
    all_goals refine ⟨by rw [hen.out]; simp only [VV.val']; rw [wrapU_nat]; rfl, ?_⟩
    all_goals rw [hes.out]
    all_goals suffices hq : GetW W g _ _ from hq.r
    all_goals exact (by repeat (first | (exact hgw.out) | (refine GetW.s0 ?_ hgx _ _) | (refine GetW.s1 ?_ hgx _ _)))
  · have hen : getV s k = ⟨k, 0, strOf (rdT s).1⟩ := by unfold getV; simp [hq]
    have hes : getS s k = (rdT s).2 := by unfold getS; simp [hq]
    replace hen := Lib.hid hen
    replace hes := Lib.hid hes
    have b0 : ((k : Int) % 4 == 0) = false := by simp; omega
    have b1 : ((k : Int) % 4 == 1) = false := by simp; omega
    have b2 : ((k : Int) % 4 == 2) = true := by simp; omega
    have b3 : ((k : Int) % 4 == 3) = false := by simp; omega
    clear hq hk
    go_enter Try.func40, Try.ntmps40
    go_wp2_with (fail)
    refine (rdText_any s h).mono ?_
    rintro e w1 ⟨rfl, A1, c1, i1, ch1⟩
    have k0 : w1.heap[W.heap.size]? = some (.cells #[.int .u8 0, .int .u64 0, .string ⟨#[]⟩] 31 (0, 0)) := (ch1.block _ (by simp; omega) (by omega)).trans ((Below.heap_alloc _ _ _ (by simp)).trans (heap_alloc_new W _))
    have k1 : w1.heap[W.heap.size + 1]? = some (.cells #[.int .u8 k, .int .u64 0, .string ⟨#[]⟩] 31 (0, 0)) := by
      refine (ch1.block _ (by simp) (by omega)).trans ?_
      have := heap_alloc_new (W.alloc (.cells #[.int .u8 0, .int .u64 0, .string ⟨#[]⟩] 31)) (.cells #[.int .u8 k, .int .u64 0, .string ⟨#[]⟩] 31)
      rwa [World.size_alloc] at this
    have j0 : w1.cell? ⟨W.heap.size, 0, none⟩ = some (.int .u8 0) := blkC k0 0
    have j1 : w1.cell? ⟨W.heap.size, 1, none⟩ = some (.int .u64 0) := blkC k0 1
    have j2 : w1.cell? ⟨W.heap.size, 2, none⟩ = some (.string ⟨#[]⟩) := blkC k0 2
    have j3 := blkF k0
    have l0 : w1.cell? ⟨W.heap.size + 1, 0, none⟩ = some (.int .u8 k) := blkC k1 0
    have l1 : w1.cell? ⟨W.heap.size + 1, 1, none⟩ = some (.int .u64 0) := blkC k1 1
    have l2 : w1.cell? ⟨W.heap.size + 1, 2, none⟩ = some (.string ⟨#[]⟩) := blkC k1 2
    have l3 := blkF k1
    have hgw := Lib.hid (show GetW W g ((rdT s).2) w1 from ⟨⟨A1, c1, i1, (Chg.of_below hb _).trans ch1 fun _ _ e => e⟩, ⟨_, k0⟩, ⟨_, k1⟩⟩)
    clear ch1 i1 k0 k1
    go_wp2_with (fail)
    all_goals refine bodyPost_ret (by simp [results, Try.results40, go_sem, *]; try with_reducible rfl) rfl ?_
    all_goals refine ⟨by rw [hen.out]; rfl, ?_⟩
    all_goals rw [hes.out]
    all_goals suffices hq : GetW W g _ _ from hq.r
    all_goals exact (by repeat (first | (exact hgw.out) | (refine GetW.s0 ?_ hgx _ _) | (refine GetW.s1 ?_ hgx _ _)))
  · have hen : getV s k = ⟨k, if (rdB s).1 then 1 else 0, ByteArray.empty⟩ := by unfold getV; simp [hq]
    have hes : getS s k = (rdB s).2 := by unfold getS; simp [hq]
    replace hen := Lib.hid hen
    replace hes := Lib.hid hes
    have b0 : ((k : Int) % 4 == 0) = false := by simp; omega
    have b1 : ((k : Int) % 4 == 1) = false := by simp; omega
    have b2 : ((k : Int) % 4 == 2) = false := by simp; omega
    have b3 : ((k : Int) % 4 == 3) = true := by simp; omega
    clear hq hk
    go_enter Try.func40, Try.ntmps40
    go_wp2_with (fail)
    refine (rdBool_any s h).mono ?_
    rintro e w1 ⟨rfl, A1, c1, i1, ch1⟩
    have k0 : w1.heap[W.heap.size]? = some (.cells #[.int .u8 0, .int .u64 0, .string ⟨#[]⟩] 31 (0, 0)) := (ch1.block _ (by simp; omega) (by omega)).trans ((Below.heap_alloc _ _ _ (by simp)).trans (heap_alloc_new W _))
    have k1 : w1.heap[W.heap.size + 1]? = some (.cells #[.int .u8 k, .int .u64 0, .string ⟨#[]⟩] 31 (0, 0)) := by
      refine (ch1.block _ (by simp) (by omega)).trans ?_
      have := heap_alloc_new (W.alloc (.cells #[.int .u8 0, .int .u64 0, .string ⟨#[]⟩] 31)) (.cells #[.int .u8 k, .int .u64 0, .string ⟨#[]⟩] 31)
      rwa [World.size_alloc] at this
    have j0 : w1.cell? ⟨W.heap.size, 0, none⟩ = some (.int .u8 0) := blkC k0 0
    have j1 : w1.cell? ⟨W.heap.size, 1, none⟩ = some (.int .u64 0) := blkC k0 1
    have j2 : w1.cell? ⟨W.heap.size, 2, none⟩ = some (.string ⟨#[]⟩) := blkC k0 2
    have j3 := blkF k0
    have l0 : w1.cell? ⟨W.heap.size + 1, 0, none⟩ = some (.int .u8 k) := blkC k1 0
    have l1 : w1.cell? ⟨W.heap.size + 1, 1, none⟩ = some (.int .u64 0) := blkC k1 1
    have l2 : w1.cell? ⟨W.heap.size + 1, 2, none⟩ = some (.string ⟨#[]⟩) := blkC k1 2
    have l3 := blkF k1
    have hgw := Lib.hid (show GetW W g ((rdB s).2) w1 from ⟨⟨A1, c1, i1, (Chg.of_below hb _).trans ch1 fun _ _ e => e⟩, ⟨_, k0⟩, ⟨_, k1⟩⟩)
    clear ch1 i1 k0 k1
    go_wp2_with (fail)
    all_goals refine bodyPost_ret (by simp [results, Try.results40, go_sem, *]; try with_reducible rfl) rfl ?_
    all_goals refine ⟨by rw [hen.out]; simp [VV.val', *]; rfl, ?_⟩
    all_goals rw [hes.out]
    all_goals suffices hq : GetW W g _ _ from hq.r
    all_goals exact (by repeat (first | (exact hgw.out) | (refine GetW.s0 ?_ hgx _ _) | (refine GetW.s1 ?_ hgx _ _)))
end Go.Proofs.Ytcapeefhbkgogaa
