/- The program's reader: its block of memory; contracts of Fail, Left, End and take. -/
import Derived.Test.YtlinjanflenljaaGreatDoorTake
namespace Go.Proofs.YtlinjanflenljaaGreatDoor
open Go.RowKit
set_option linter.unusedSimpArgs false
set_option linter.unusedVariables false
set_option linter.unusedSectionVars false
set_option maxRecDepth 10000
theorem RB.setOther {w w' : World} {A : Option Addr} {n : Nat} {xs : List UInt8} (h : RB w A n xs) {g : Nat} {cs : Array Value} {t : TypeId} {fr : Nat × Nat} (hg : w.heap[g]? = some (.cells cs t fr))
    (hcs : ∀ (i : Nat) (c : UInt8), cs[i]? ≠ some (bv c)) (hc : Chg (fun k => k = g) w w') : RB w' A n xs := by
  refine ⟨h.1, fun hn => ?_⟩
  obtain ⟨ad, rfl, hb, hcell⟩ := h.2 hn
  have hne : ad.block ≠ g := by
    intro e
    have hx : xs[0]? = some (xs[0]'(by have := h.1; omega)) := List.getElem?_eq_getElem _
    have h0 := hcell 0 (bv (xs[0]'(by have := h.1; omega))) (by simp [bvs, hx])
    have hs := World.cell?_spot h0
    have hb2 : (ad.add 0).block = g := by rw [block_of_add]; exact e
    obtain ⟨b2, o2, s2⟩ : ∃ b o, ad.add 0 = ⟨b, o, none⟩ := ⟨(ad.add 0).block, (ad.add 0).off, by rw [← hs]⟩
    rw [s2] at h0 hb2
    have hb2 : b2 = g := hb2
    subst hb2
    simp only [World.cell?, hg] at h0
    exact hcs _ _ h0
  exact ⟨ad, rfl, Nat.lt_of_lt_of_le hb hc.size, fun j u hu => (World.cell?_of_block (w := w) (by rw [block_of_add]; exact hc.block _ hb hne)).trans (hcell j u hu)⟩

theorem rowOf_cut {A : Option Addr} {c k g : Nat} (h : ∀ j, rowOf A = some j → j < g) : ∀ j, rowOf (if c = k then A else A.map fun x => x.add k) = some j → j < g := by
  intro j hj
  split at hj
  · exact h j hj
  · cases A with
    | none => cases hj
    | some a =>
      refine h j ?_
      have hj : (a.add k).block = j := Option.some.inj hj
      rw [block_of_add] at hj
      exact congrArg some hj
/-- Where there is a byte, its block is a block of bytes. -/
def RowTy (w : World) (A : Option Addr) (n : Nat) : Prop := 0 < n → ∃ ad cs fr, A = some ad ∧ w.heap[ad.block]? = some (.cells cs 5 fr)
theorem RowTy.keep {w w' : World} {A : Option Addr} {n : Nat} {S : Nat → Prop} (h : RowTy w A n) (hc : Chg S w w') (hS : ∀ k, S k → ∀ cs fr, w.heap[k]? ≠ some (.cells cs 5 fr)) : RowTy w' A n := fun hn => by
  obtain ⟨ad, cs, fr, e, hb⟩ := h hn
  exact ⟨ad, cs, fr, e, (hc.block _ (blkX hb) fun q => hS _ q cs fr hb).trans hb⟩
theorem RowTy.keepR {w w' : World} {A : Option Addr} {n : Nat} {S : Nat → Prop} (h : RowTy w A n) (hc : Chg S w w') (hr : ∀ k, rowOf A = some k → ¬ S k) : RowTy w' A n := fun hn => by
  obtain ⟨ad, cs, fr, e, hb⟩ := h hn
  exact ⟨ad, cs, fr, e, (hc.block _ (blkX hb) (hr _ (by rw [e]; rfl))).trans hb⟩
theorem RowTy.rb {w w' : World} {A : Option Addr} {n : Nat} {xs : List UInt8} {S : Nat → Prop} (h : RowTy w A n) (hr : RB w A n xs) (hc : Chg S w w') (hS : ∀ k, S k → ∀ cs fr, w.heap[k]? ≠ some (.cells cs 5 fr)) : RB w' A n xs := by
  refine ⟨hr.1, fun hn => ?_⟩
  obtain ⟨ad, cs, fr, e, hb⟩ := h hn
  obtain ⟨ad', e', hl, hcell⟩ := hr.2 hn
  obtain rfl : ad = ad' := Option.some.inj (e.symm.trans e')
  exact ⟨ad, e, Nat.lt_of_lt_of_le hl hc.size, fun j u hu => (World.cell?_of_block (w := w) (by rw [block_of_add]; exact hc.block _ hl fun q => hS _ q cs fr hb)).trans (hcell j u hu)⟩
theorem RowTy.cut {w : World} {A : Option Addr} {n k c : Nat} (h : RowTy w A n) : RowTy w (if c = k then A else A.map fun x => x.add k) (n - k) := fun hn => by
  obtain ⟨ad, cs, fr, rfl, hb⟩ := h (by omega)
  split
  · exact ⟨ad, cs, fr, rfl, hb⟩
  · exact ⟨ad.add k, cs, fr, rfl, by rw [block_of_add]; exact hb⟩
theorem RowTy.of_own {w : World} {base n c : Nat} {A : Option Addr} {xs : List Value} (h : w.ownsRow base 5 1 (.slice A n c) n xs) : RowTy w A n := fun hn => by
  rcases h.2 with ⟨_, e⟩ | ⟨g, cap, cur, e, _, hh, _⟩
  · omega
  · simp only [Value.slice.injEq] at e
    obtain ⟨rfl, _⟩ := e
    exact ⟨_, cur, (0, 0), rfl, hh⟩
/-- Block g is a reader that New made; s: what is left, or that it has failed. -/
structure IsRd (w : World) (g : Nat) (A : Option Addr) (c : Nat) (s : RS) : Prop where
  blk : w.heap[g]? = some (.cells #[.bool true, .bool s.isNone, .slice A (left s).length c] 91 (0, 0))
  rb : RB w A (left s).length (left s)
  cap : (left s).length ≤ c
  len : (left s).length ≤ 70368744177664
  typ : RowTy w A (left s).length
  old : ∀ k, rowOf A = some k → k < g
theorem rd_noByte (b : Bool) (A : Option Addr) (n c : Nat) (i : Nat) (x : UInt8) : (#[.bool true, .bool b, .slice A n c] : Array Value)[i]? ≠ some (bv x) := by
  intro h
  rcases i with _ | _ | _ | i <;> simp [bv] at h
section
variable {w w' : World} {g c : Nat} {A : Option Addr} {s : RS}
theorem IsRd.lt (h : IsRd w g A c s) : g < w.heap.size := blkX h.blk
theorem IsRd.c0 (h : IsRd w g A c s) : w.cell? ⟨g, 0, none⟩ = some (.bool true) := blkC h.blk 0
theorem IsRd.c1 (h : IsRd w g A c s) : w.cell? ⟨g, 1, none⟩ = some (.bool s.isNone) := blkC h.blk 1
theorem IsRd.c2 (h : IsRd w g A c s) : w.cell? ⟨g, 2, none⟩ = some (.slice A (left s).length c) := blkC h.blk 2
theorem IsRd.fz (h : IsRd w g A c s) (i : Nat) : w.frozen? ⟨g, i, none⟩ = false := blkF h.blk i
theorem IsRd.keep {S : Nat → Prop} (h : IsRd w g A c s) (hc : Chg S w w') (hg : ¬ S g) (hr : ∀ k, rowOf A = some k → ¬ S k) : IsRd w' g A c s :=
  ⟨(hc.block g h.lt hg).trans h.blk, h.rb.chg hc hr, h.cap, h.len, h.typ.keepR hc hr, h.old⟩
theorem IsRd.below (h : IsRd w g A c s) (hb : Below w.heap.size w w') : IsRd w' g A c s := h.keep (Chg.of_below hb fun _ => False) (fun q => q) (fun _ _ q => q)
/-- What a reader's own call turns: its block. -/
def RdTo (w : World) (g : Nat) (s : RS) (w' : World) : Prop := ∃ A' c', IsRd w' g A' c' s ∧ Chg (fun k => k = g) w w'
theorem RdTo.refl (h : IsRd w g A c s) : RdTo w g s w := ⟨A, c, h, Chg.refl _ w⟩
theorem setG (w : World) (g i : Nat) (v : Value) : Chg (fun k => k = g) w (w.setCell ⟨g, i, none⟩ v) := (Chg.refl (fun k => k = g) w).setCell (p := ⟨g, i, none⟩) (fun _ => rfl) v
theorem IsRd.failed (h : IsRd w g A c s) : RdTo w g none ((w.setCell ⟨g, 1, none⟩ (.bool true)).setCell ⟨g, 2, none⟩ (.slice none 0 0)) := by
  refine ⟨none, 0, ⟨?_, ⟨rfl, fun h => absurd h (by decide)⟩, by simp [left], by simp [left], fun h => absurd h (by decide), fun k hk => by cases hk⟩, (setG w g 1 _).trans (setG _ g 2 _) fun k _ e => e⟩
  have h1 := hpSet (i := 1) (v := .bool true) h.blk
  have h2 := hpSet (i := 2) (v := .slice none 0 0) h1
  simpa [left] using h2
theorem IsRd.cutTo (h : IsRd w g A c s) {k : Nat} (hk : k ≤ (left s).length) {s' : RS} (hs : s.isNone = s'.isNone) (hl : left s' = (left s).drop k) :
    RdTo w g s' (w.setCell ⟨g, 2, none⟩ (.slice (if c = k then A else A.map fun x => x.add k) ((left s).length - k) (c - k))) := by
  have hlen : (left s').length = (left s).length - k := by rw [hl, List.length_drop]
  have h1 := hpSet (i := 2) (v := .slice (if c = k then A else A.map fun x => x.add k) ((left s).length - k) (c - k)) h.blk
  have hcap := h.cap
  have hln := h.len
  refine ⟨(if c = k then A else A.map fun x => x.add k), c - k, ⟨?_, ?_, by omega, by omega, ?_, rowOf_cut h.old⟩, setG w g 2 _⟩
  · rw [← hs, hlen]; simpa using h1
  · have hr := h.rb.cut (k := k) hk h.cap
    rw [← hl] at hr
    rw [hlen]
    exact hr.setOther h.blk (rd_noByte _ _ _ _) (setG w g 2 _)
  · rw [hlen]
    exact (h.typ.cut (c := c)).keep (setG w g 2 _) fun q e cs fr hb => by subst e; rw [h.blk] at hb; injection hb with hb; injection hb with _ hb; exact absurd hb (by decide)
set_option maxHeartbeats 1000000 in
theorem fail_p (h : IsRd w g A c s) : Calls Tryz.prog 55 #[.pointer (some ⟨g, 0, none⟩)] w fun e w' => e = .returned (.tuple #[]) ∧ RdTo w g none w' := by
  have c1 := h.c1; have c2 := h.c2; have f1 := h.fz 1; have f2 := h.fz 2
  have hfin := Lib.hid h.failed
  go_enter Tryz.func55, Tryz.ntmps55
  go_wp2
  go_end0
  exact ⟨rfl, hfin.out⟩
set_option maxHeartbeats 1000000 in
theorem left_p (h : IsRd w g A c s) : Calls Tryz.prog 116 #[.pointer (some ⟨g, 0, none⟩)] w fun e w' => e = .returned (.int .i64 (left s).length) ∧ w = w' := by
  have c2 := h.c2
  generalize (left s).length = n at *
  go_enter Tryz.func116, Tryz.ntmps116
  go_wp2
  go_ret
  exact ⟨rfl, rfl⟩
def endE' (s : RS) : Int := match s with
  | none => 10
  | some [] => 0
  | some (_ :: _) => 10
set_option maxHeartbeats 1000000 in
theorem end_p (h : IsRd w g A c s) : Calls Tryz.prog 32 #[.pointer (some ⟨g, 0, none⟩)] w fun e w' => e = .returned (.int .i64 (endE' s)) ∧ w = w' := by
  have c0 := h.c0; have c1 := h.c1; have c2 := h.c2
  match s with
  | none =>
    simp only [Option.isNone_none, left, List.length_nil] at c1 c2
    go_enter Tryz.func32, Tryz.ntmps32
    go_wp2
    go_ret
    exact ⟨rfl, rfl⟩
  | some [] =>
    simp only [Option.isNone_some, left, List.length_nil] at c1 c2
    go_enter Tryz.func32, Tryz.ntmps32
    go_wp2
    go_ret
    exact ⟨rfl, rfl⟩
  | some (x :: l) =>
    have hp : 0 < (left (some (x :: l))).length := by simp [left]
    simp only [Option.isNone_some] at c1
    generalize (left (some (x :: l))).length = n at *
    go_enter Tryz.func32, Tryz.ntmps32
    go_wp2
    go_ret
    exact ⟨rfl, rfl⟩
end

section
variable {w : World} {g c : Nat} {A : Option Addr}
set_option maxHeartbeats 1000000 in
theorem take_uint64_none (h : IsRd w g A c none) : Calls Tryz.prog 107 #[.pointer (some ⟨g, 0, none⟩), .func (.func 108) #[] #[]] w fun e w' => e = .returned (.int .u64 0) ∧ RdTo w g none w' := by
  have c0 := h.c0; have c1 := h.c1
  simp only [Option.isNone_none] at c1
  have hfin := Lib.hid (RdTo.refl h)
  go_enter Tryz.func107, Tryz.ntmps107
  go_wp2
  go_ret
  exact ⟨rfl, hfin.out⟩
set_option maxHeartbeats 1000000 in
theorem take_uint64_bad (b : List UInt8) (hr : IsRd w g A c (some b)) (hv : numV (dec b) = .tuple #[.int .u64 0, .int .i64 0]) : Calls Tryz.prog 107 #[.pointer (some ⟨g, 0, none⟩), .func (.func 108) #[] #[]] w fun e w' => e = .returned (.int .u64 0) ∧ RdTo w g none w' := by
  have c0 := hr.c0; have c1 := hr.c1; have c2 := hr.c2
  simp only [Option.isNone_some, left] at c1 c2
  have hv := Lib.hid hv
  go_enter Tryz.func107, Tryz.ntmps107
  go_wp2_with (first
    | (go_at_call 108; refine (number_p A _ c b _ hr.rb hr.len).mono ?_; rintro e w' ⟨he, rfl⟩; rw [hv.out] at he; subst he)
    | (go_at_call 55; refine (fail_p hr).mono ?_; rintro e w1 ⟨rfl, ht⟩))
  go_ret
  exact ⟨rfl, ht⟩
set_option maxHeartbeats 1000000 in
theorem take_uint64_ok (b : List UInt8) (hr : IsRd w g A c (some b)) (u : Value) (k : Nat) (hv : numV (dec b) = .tuple #[u, .int .i64 k]) (hk0 : 0 < k) (hk : k ≤ b.length) : Calls Tryz.prog 107 #[.pointer (some ⟨g, 0, none⟩), .func (.func 108) #[] #[]] w fun e w' => e = .returned u ∧ RdTo w g (some (b.drop k)) w' := by
  have c0 := hr.c0; have c1 := hr.c1; have c2 := hr.c2; have f2 := hr.fz 2
  have hcap := hr.cap; have hlen := hr.len
  have hfin := hr.cutTo (k := k) hk (s' := some (b.drop k)) rfl rfl
  simp only [Option.isNone_some, left] at c1 c2 hcap hlen hfin
  have hv := Lib.hid hv
  have hb0 : ((k : Int) == 0) = false := by simp; omega
  have hrb := hr.rb; simp only [left] at hrb
  have hln := hr.len; simp only [left] at hln
  generalize b.length = n at *
  by_cases hck : c = k
  · rw [if_pos hck] at hfin
    subst hck
    have hfin := Lib.hid hfin
    go_enter Tryz.func107, Tryz.ntmps107
    go_wp2_with (first
      | (go_at_call 108; refine (number_p A _ c b _ hrb hln).mono ?_; rintro e w' ⟨he, rfl⟩; rw [hv.out] at he; subst he))
    go_ret
    exact ⟨rfl, by have hq := hfin.out; rw [show n - c = 0 from by omega, Nat.sub_self] at hq; exact hq⟩
  · rw [if_neg hck] at hfin
    have hfin := Lib.hid hfin
    go_enter Tryz.func107, Tryz.ntmps107
    go_wp2_with (first
      | (go_at_call 108; refine (number_p A _ c b _ hrb hln).mono ?_; rintro e w' ⟨he, rfl⟩; rw [hv.out] at he; subst he))
    go_ret
    exact ⟨rfl, hfin.out⟩
set_option maxHeartbeats 1000000 in
theorem take_string_none (h : IsRd w g A c none) : Calls Tryz.prog 114 #[.pointer (some ⟨g, 0, none⟩), .func (.func 115) #[] #[]] w fun e w' => e = .returned (.string ByteArray.empty) ∧ RdTo w g none w' := by
  have c0 := h.c0; have c1 := h.c1
  simp only [Option.isNone_none] at c1
  have hfin := Lib.hid (RdTo.refl h)
  go_enter Tryz.func114, Tryz.ntmps114
  go_wp2
  go_ret
  exact ⟨rfl, hfin.out⟩
set_option maxHeartbeats 1000000 in
theorem take_string_bad (b : List UInt8) (hr : IsRd w g A c (some b)) (hv : textV b = .tuple #[.string ByteArray.empty, .int .i64 0]) : Calls Tryz.prog 114 #[.pointer (some ⟨g, 0, none⟩), .func (.func 115) #[] #[]] w fun e w' => e = .returned (.string ByteArray.empty) ∧ RdTo w g none w' := by
  have c0 := hr.c0; have c1 := hr.c1; have c2 := hr.c2
  simp only [Option.isNone_some, left] at c1 c2
  have hv := Lib.hid hv
  go_enter Tryz.func114, Tryz.ntmps114
  go_wp2_with (first
    | (go_at_call 115; refine (text1_p A _ c b _ hr.rb hr.len hr.cap).mono ?_; rintro e w' ⟨he, rfl⟩; rw [hv.out] at he; subst he)
    | (go_at_call 55; refine (fail_p hr).mono ?_; rintro e w1 ⟨rfl, ht⟩))
  go_ret
  exact ⟨rfl, ht⟩
set_option maxHeartbeats 1000000 in
theorem take_string_ok (b : List UInt8) (hr : IsRd w g A c (some b)) (u : Value) (k : Nat) (hv : textV b = .tuple #[u, .int .i64 k]) (hk0 : 0 < k) (hk : k ≤ b.length) : Calls Tryz.prog 114 #[.pointer (some ⟨g, 0, none⟩), .func (.func 115) #[] #[]] w fun e w' => e = .returned u ∧ RdTo w g (some (b.drop k)) w' := by
  have c0 := hr.c0; have c1 := hr.c1; have c2 := hr.c2; have f2 := hr.fz 2
  have hcap := hr.cap; have hlen := hr.len
  have hfin := hr.cutTo (k := k) hk (s' := some (b.drop k)) rfl rfl
  simp only [Option.isNone_some, left] at c1 c2 hcap hlen hfin
  have hv := Lib.hid hv
  have hb0 : ((k : Int) == 0) = false := by simp; omega
  have hrb := hr.rb; simp only [left] at hrb
  have hln := hr.len; simp only [left] at hln
  generalize b.length = n at *
  by_cases hck : c = k
  · rw [if_pos hck] at hfin
    subst hck
    have hfin := Lib.hid hfin
    go_enter Tryz.func114, Tryz.ntmps114
    go_wp2_with (first
      | (go_at_call 115; refine (text1_p A _ c b _ hrb hln hcap).mono ?_; rintro e w' ⟨he, rfl⟩; rw [hv.out] at he; subst he))
    go_ret
    exact ⟨rfl, by have hq := hfin.out; rw [show n - c = 0 from by omega, Nat.sub_self] at hq; exact hq⟩
  · rw [if_neg hck] at hfin
    have hfin := Lib.hid hfin
    go_enter Tryz.func114, Tryz.ntmps114
    go_wp2_with (first
      | (go_at_call 115; refine (text1_p A _ c b _ hrb hln hcap).mono ?_; rintro e w' ⟨he, rfl⟩; rw [hv.out] at he; subst he))
    go_ret
    exact ⟨rfl, hfin.out⟩
end
end Go.Proofs.YtlinjanflenljaaGreatDoor
