/- Both tables, from a world on; what steps make of them. -/
import Derived.Test.YtkdfhackpmdgfaaDoorShows
namespace Go.Proofs.YtkdfhackpmdgfaaDoor
open Go.RowKit Go.Shelf
set_option linter.unusedSimpArgs false
set_option linter.unusedVariables false
set_option linter.unusedSectionVars false
set_option maxRecDepth 10000
theorem TabR.re {base base' D c : Nat} {size : Int} {A : Option Addr} {P : List En} {W : World} (h : TabR base D size A c P W) (hb : base' ≤ base) : TabR base' D size A c P W :=
  ⟨Nat.le_trans hb h.ge, h.blk, ownsRow_re h.own hb, h.le, h.sz⟩
/-- Blocks of other types stay. -/
def Kt (w w' : World) : Prop := ∀ (k : Nat) (cs : Array Value) (T : TypeId) (f : Nat × Nat), w.heap[k]? = some (.cells cs T f) → T ≠ 52 → T ≠ 89 → T ≠ 85 → T ≠ 94 → w'.heap[k]? = some (.cells cs T f)
theorem Kt.below {w w' : World} (hb : Below w.heap.size w w') : Kt w w' := fun k cs T f hk _ _ _ _ => (hb.block k (blkX hk)).trans hk
structure Cur (w0 : World) (D E : Nat) (size : Int) (P R : List En) (w : World) : Prop where
  t : Tb w0.heap.size w0 D size P w
  r : TbR w0.heap.size w0 E size R w
section
variable {D E : Nat} {size : Int} {P R : List En} {w0 w w' : World}
theorem Tb.dty {base : Nat} (h : Tb base w0 D size P w) : ∃ cs, w.heap[D]? = some (.cells cs 52 (0, 0)) := by
  obtain ⟨A, c, ht⟩ := h.tab; exact ⟨_, ht.blk⟩
theorem TbR.dty {base : Nat} (h : TbR base w0 E size R w) : ∃ cs, w.heap[E]? = some (.cells cs 85 (0, 0)) := by
  obtain ⟨A, c, ht⟩ := h.tab; exact ⟨_, ht.blk⟩
theorem kt_p {base : Nat} (h : Tb base w0 D size P w) (hk : Kp D w w') : Kt w w' := fun k cs T f hg h1 h2 _ _ => hk k cs T f hg (by
  rintro rfl
  obtain ⟨cs', hh⟩ := h.dty
  rw [hh] at hg
  injection hg with hg
  injection hg with _ hg _
  exact h1 hg.symm) h2
theorem kt_r {base : Nat} (h : TbR base w0 E size R w) (hk : Kr E w w') : Kt w w' := fun k cs T f hg _ _ h3 h4 => hk k cs T f hg (by
  rintro rfl
  obtain ⟨cs', hh⟩ := h.dty
  rw [hh] at hg
  injection hg with hg
  injection hg with _ hg _
  exact h3 hg.symm) h4
theorem Cur.below (h : Cur w0 D E size P R w) (hb : Below w.heap.size w w') : Cur w0 D E size P R w' := ⟨h.t.below hb, h.r.below hb⟩
theorem Cur.bel (h : Cur w0 D E size P R w) : Below w0.heap.size w0 w := h.t.bel
theorem Cur.putP (h : Cur w0 D E size P R w) (y : Ef) (key : ByteArray) (r : Rp) (hkey : key.size ≤ 140737488355328) :
    Calls Tryd.prog 18 #[.pointer (some ⟨D, 0, none⟩), .agg #[.int .i64 y.1, .int .i64 y.2.1, .int .i64 y.2.2], .string key, .agg #[.int .i64 r.1, .int .i64 r.2.1, .string r.2.2]] w fun e w' => e = .returned (.int .i64 (putC size P ⟨y, key, r⟩)) ∧ Cur w0 D E size (putL size P ⟨y, key, r⟩) R w' ∧ Kt w w' := by
  refine (h.t.putM y key r hkey).mono ?_
  rintro e w' ⟨rfl, T, kp, -, hs⟩
  exact ⟨rfl, ⟨T, h.r.kp kp T.bel hs h.t.dty⟩, kt_p h.t kp⟩
theorem Cur.putR (h : Cur w0 D E size P R w) (y : Ef) (key : ByteArray) (r : Rp) (hkey : key.size ≤ 140737488355328) :
    Calls Tryd.prog 19 #[.pointer (some ⟨E, 0, none⟩), .agg #[.int .i64 y.1, .int .i64 y.2.1, .int .i64 y.2.2], .string key, .agg #[.int .i64 r.1, .int .i64 r.2.1, .string r.2.2]] w fun e w' => e = .returned (.int .i64 (putC size R ⟨y, key, r⟩)) ∧ Cur w0 D E size P (putR size R ⟨y, key, r⟩) w' ∧ Kt w w' := by
  obtain ⟨A, c, ht⟩ := h.r.tab
  refine (rput_any ht h.r.le y key r hkey).mono ?_
  rintro e w' ⟨A', c', rfl, ht', hm⟩
  have R' := h.r.moved ht ht' hm.chg
  have kr := TbR.kr ht hm.chg
  exact ⟨rfl, ⟨h.t.kr kr R'.bel hm.chg.size (fun _ _ => trivial) h.r.dty, R'⟩, kt_r h.r kr⟩
/-- The document's table as it lay behind a world. -/
def ROld (w0 : World) (E : Nat) (size : Int) (R : List En) (w w' : World) : Prop := ∃ A c, TabR w0.heap.size E size A c R w' ∧ E < w.heap.size ∧ ∀ g, rowOf A = some g → g < w.heap.size
theorem Cur.takeP (h : Cur w0 D E size P R w) (a b : ByteArray) (ha : a.size ≤ 140737488355328) (hb : b.size ≤ 140737488355328) :
    Calls Tryd.prog 13 #[.pointer (some ⟨D, 0, none⟩), .agg #[.string a, .string b]] w fun e w' => ∃ B m d, e = .returned (.tuple #[.slice B m d, .int .i64 (takeC (a, b))]) ∧ m = (takeO (a, b) P).length ∧ ES w' B m (takeO (a, b) P) ∧ (∀ k, rowOf B = some k → w.heap.size ≤ k) ∧ Cur w0 D E size (takeL (a, b) P) R w' ∧ ROld w0 E size R w w' ∧ Kt w w' := by
  refine (h.t.takeM a b ha hb).mono ?_
  rintro e w' ⟨B, m, d, rfl, hm, hE, hB, T, kp, -, hs⟩
  obtain ⟨A, c, ht⟩ := h.r.tab
  obtain ⟨csD, hcD⟩ := h.t.dty
  have ne : ∀ g cs Ty, w.heap[g]? = some (.cells cs Ty (0, 0)) → Ty ≠ 52 → g ≠ D := by
    rintro g cs Ty hg hT rfl
    rw [hcD] at hg
    injection hg with hg
    injection hg with _ hg
    exact hT hg.symm
  have ht' : TabR w0.heap.size E size A c R w' := ht.keep hs fun k hk' q => by
    rcases q with rfl | q
    · exact (kp _ _ _ _ ht.blk (ne _ _ _ ht.blk (by decide)) (by decide)).trans ht.blk.symm
    · obtain ⟨cs, hh⟩ := ht.rowTy k q
      exact (kp _ _ _ _ hh (ne _ _ _ hh (by decide)) (by decide)).trans hh.symm
  exact ⟨B, m, d, rfl, hm, hE, hB, ⟨T, ⟨⟨A, c, ht'⟩, T.bel, T.le⟩⟩, ⟨A, c, ht', ht.lt, fun g hg => (ht.rowLt g hg).2⟩, kt_p h.t kp⟩
theorem Cur.takeR {wa : World} {L : Option Addr} {m : Nat} {l : List Ef} (h : Cur w0 D E size P R w) (hO : ROld w0 E size R wa w) (hL : ES w L m l) (hLr : ∀ k, rowOf L = some k → wa.heap.size ≤ k) (a b : ByteArray) (ha : a.size ≤ 140737488355328) (hb : b.size ≤ 140737488355328) :
    Calls Tryd.prog 14 #[.pointer (some ⟨E, 0, none⟩), .agg #[.string a, .string b]] w fun e w' => ∃ B m2 d, e = .returned (.tuple #[.slice B m2 d, .int .i64 (takeC (a, b))]) ∧ ES w' B m2 (takeRO (a, b) R) ∧ ES w' L m l ∧ Cur w0 D E size P (takeL (a, b) R) w' ∧ Kt w w' := by
  obtain ⟨A, c, ht, hE, hA⟩ := hO
  refine (rtake_any ht h.r.le a b ha hb).mono ?_
  rintro e w' ⟨B, m2, d, A', c', rfl, hB, ht', hc⟩
  have R' := h.r.moved ht ht' hc
  have kr := TbR.kr ht hc
  refine ⟨B, m2, d, rfl, hB, ⟨hL.1, fun hn => ?_⟩, ⟨h.t.kr kr R'.bel hc.size (fun _ _ => trivial) h.r.dty, R'⟩, kt_r h.r kr⟩
  obtain ⟨b', o, e, hl, hcell⟩ := hL.2 hn
  have hr := hLr b' (by rw [e]; rfl)
  have hblk := hc.block b' hl (by
    rintro (q | q)
    · omega
    · have := hA b' q; omega)
  exact ⟨b', o, e, Nat.lt_of_lt_of_le hl hc.size, fun i x hx j u hu => (World.cell?_of_block (w := w) (a := ⟨b', _, none⟩) hblk).trans (hcell i x hx j u hu)⟩
theorem Cur.copyP (h : Cur w0 D E size P R w) : Calls Tryd.prog 20 #[.pointer (some ⟨D, 0, none⟩)] w fun e w' => ∃ D', e = .returned (.pointer (some ⟨D', 0, none⟩)) ∧ Tb w.heap.size w D' size P w' ∧ Below w.heap.size w w' := by
  refine h.t.copy.mono ?_
  rintro e w' ⟨D', rfl, T, -, hb⟩
  exact ⟨D', rfl, T, hb⟩
theorem Cur.copyR {wa : World} {D' : Nat} (h : TbR w0.heap.size w0 E size R wa) (hT : Tb wa.heap.size wa D' size P w) (hb : Below wa.heap.size wa w) : Calls Tryd.prog 21 #[.pointer (some ⟨E, 0, none⟩)] w fun e w' => ∃ E', e = .returned (.pointer (some ⟨E', 0, none⟩)) ∧ Cur wa D' E' size P R w' ∧ Below wa.heap.size wa w' := by
  obtain ⟨A, c, ht⟩ := (h.below hb).tab
  refine (rcopy_any ht).mono ?_
  rintro e w' ⟨E', A', c', rfl, ht', hb'⟩
  have hbb := hb.trans (hb'.mono hb.size)
  exact ⟨E', rfl, ⟨hT.below hb', ⟨⟨A', c', ht'.re hb.size⟩, hbb, hbb.size⟩⟩, hbb⟩
/-- What was copied, as it lay at the copy. -/
def OldT (size : Int) (w0 : World) (o p : Value) : Prop := (o = .pointer none ∧ p = .pointer none) ∨ ∃ (b b' : Nat) (v v' : World) (D E : Nat) (P R : List En), o = .pointer (some ⟨D, 0, none⟩) ∧ p = .pointer (some ⟨E, 0, none⟩) ∧ Tb b v D size P w0 ∧ TbR b' v' E size R w0 ∧ Same P R
end
end Go.Proofs.YtkdfhackpmdgfaaDoor
