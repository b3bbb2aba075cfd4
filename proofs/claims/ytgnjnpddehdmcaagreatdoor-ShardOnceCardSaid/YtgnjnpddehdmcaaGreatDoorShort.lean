/- A definition that is short. -/
import Derived.Test.YtgnjnpddehdmcaaGreatDoorChgW
import Derived.Test.YtgnjnpddehdmcaaGreatDoorStA
import Derived.Test.YtgnjnpddehdmcaaGreatDoorCopy
import Derived.Test.YtgnjnpddehdmcaaGreatDoorTake
import Derived.Test.YtgnjnpddehdmcaaGreatDoorGet
import Derived.Carry
import Derived.Test.YtgnjnpddehdmcaaGreatDoorEf
import Derived.Test.YtgnjnpddehdmcaaGreatDoorCChk
import Derived.Test.YtgnjnpddehdmcaaGreatDoorHas
import Derived.Test.YtgnjnpddehdmcaaGreatDoorHasG
namespace Go.Proofs.YtgnjnpddehdmcaaGreatDoor
open Go.RowKit Go.Shelf
set_option linter.unusedSimpArgs false
set_option linter.unusedVariables false
set_option linter.unusedSectionVars false
set_option maxRecDepth 10000
structure Sh where
 group : Int
 app : Int
 own : List Rg
 cnt : Ct
 mem : List En
 giv : List (Int × ByteArray)
 tak : List (Int × Unit)
structure Pl where
 S : Nat
 St : Nat
 M : Nat
 D : Nat
 G : Nat
 T : Nat
 A : Option Addr
 c : Nat
 AD : Option Addr
 cD : Nat
def Pl.foot (p : Pl) (k : Nat) : Prop := k = p.S ∨ k = p.St ∨ k = p.M ∨ k = p.D ∨ k = p.G ∨ k = p.T ∨ rowOf p.A = some k ∨ rowOf p.AD = some k
def ltZ (a b : Int) : Bool := decide (a < b)
def shV (p : Pl) (x : Sh) : Array Value := #[.int .i64 x.group, .int .i64 x.app, .slice p.A x.own.length p.c, .pointer (some ⟨p.St, 0, none⟩), .pointer (some ⟨p.D, 0, none⟩), .map (some p.G), .map (some p.T)]
abbrev givE : ByteArray → Value := fun s => .string s
abbrev takE : Unit → Value := fun _ => .bool true
structure ShW (base : Nat) (p : Pl) (x : Sh) (W : World) : Prop where
 ge : base ≤ p.S
 gg : base ≤ p.G
 gt : base ≤ p.T
 blk : W.heap[p.S]? = some (.cells (shV p x) 88 (0, 0))
 own : GOwn base W p.A x.own.length p.c x.own
 st : StW base p.St p.M x.cnt W
 mem : TabP base p.D 2048 p.AD p.cD x.mem W
 giv : MapI Tryz.prog 3 givE W p.G x.giv
 tak : MapI Tryz.prog 3 takE W p.T x.tak
 ok : ∀ g ∈ x.own, okG g = true
 ord : Ord x.mem
 okm : ∀ y ∈ x.mem, okP y = true
 ogiv : AOrd ltZ x.giv
 otak : AOrd ltZ x.tak
 nMG : p.M ≠ p.G
 nMT : p.M ≠ p.T
 nGT : p.G ≠ p.T
theorem okG_sz {g : Rg} (h : okG g = true) : szG g := by
 unfold okG at h
 simp only [Bool.and_eq_true] at h
 have e : ∀ s, endB s = true → s.size ≤ 140737488355328 := fun s hs => by
  unfold endB at hs
  rw [Bool.or_eq_true] at hs
  rcases hs with q | q
  ·
   have : s = noText := by simpa using q
   rw [this]; decide
  ·
   exact name_sz q
 exact ⟨e _ h.1.1, e _ h.1.2⟩
section
variable {base : Nat} {p : Pl} {x : Sh} {w W W' : World}
theorem ShW.gs (h : ShW base p x W) : GS W p.A x.own.length x.own := h.own.gs rfl
theorem ShW.lt (h : ShW base p x W) : p.S < W.heap.size := blkX h.blk
theorem ShW.foot_lt (h : ShW base p x W) : ∀ k, p.foot k → base ≤ k ∧ k < W.heap.size := by
 rintro k (rfl | rfl | rfl | rfl | rfl | rfl | q | q)
 ·
  exact ⟨h.ge, blkX h.blk⟩
 ·
  exact ⟨h.st.ge, h.st.lt⟩
 ·
  exact ⟨h.st.gm, h.st.mlt⟩
 ·
  exact ⟨h.mem.ge, h.mem.lt⟩
 ·
  exact ⟨h.gg, h.giv.lt⟩
 ·
  exact ⟨h.gt, h.tak.lt⟩
 ·
  exact own_row h.own k q
 ·
  exact h.mem.rowLt k q
theorem ShW.keep (h : ShW base p x W) (hs : W.heap.size ≤ W'.heap.size) (hk : ∀ k, p.foot k → W'.heap[k]? = W.heap[k]?) : ShW base p x W' where
 ge := h.ge
 gg := h.gg
 gt := h.gt
 blk := (hk _ (.inl rfl)).trans h.blk
 own := by
  rcases h.own.2 with e | ⟨g, cp, cur, e1, e2, hh, r⟩
  ·
   exact ⟨h.own.1, .inl e⟩
  ·
   exact ⟨h.own.1, .inr ⟨g, cp, cur, e1, e2, (hk g (.inr (.inr (.inr (.inr (.inr (.inr (.inl (by injection e1 with e1; rw [e1]; rfl))))))))).trans hh, r⟩⟩
 st := h.st.keep (hk _ (.inr (.inl rfl))) (hk _ (.inr (.inr (.inl rfl))))
 mem := h.mem.keep hs fun k hk' q => hk k (by
  rcases q with q | q
  ·
   exact .inr (.inr (.inr (.inl q)))
  ·
   exact .inr (.inr (.inr (.inr (.inr (.inr (.inr q)))))))
 giv := MapOf.keep h.giv (hk _ (.inr (.inr (.inr (.inr (.inl rfl))))))
 tak := MapOf.keep h.tak (hk _ (.inr (.inr (.inr (.inr (.inr (.inl rfl)))))))
 ok := h.ok
 ord := h.ord
 okm := h.okm
 ogiv := h.ogiv
 otak := h.otak
 nMG := h.nMG
 nMT := h.nMT
 nGT := h.nGT
theorem ShW.below (h : ShW base p x W) (hb : Below W.heap.size W W') : ShW base p x W' := h.keep hb.size fun k hk => hb.block k (h.foot_lt k hk).2
theorem ShW.chg {S : Nat → Prop} (h : ShW base p x W) (hc : Chg S W W') (hS : ∀ k, p.foot k → ¬ S k) : ShW base p x W' := h.keep hc.size fun k hk => hc.block k (h.foot_lt k hk).2 (hS k hk)
end
theorem shValid_any {base : Nat} {p : Pl} {x : Sh} {w : World} (h : ShW base p x w) : Calls Tryz.prog 20 #[.pointer (some ⟨p.S, 0, none⟩)] w fun e w' => e = .returned (.bool true) ∧ w' = w := by
 have c3 : w.cell? ⟨p.S, 3, none⟩ = some (.pointer (some ⟨p.St, 0, none⟩)) := blkC h.blk 3
 have hlt := h.lt
 replace h := Lh h
 go_enter Tryz.func20, Tryz.ntmps20
 go_wp2_with (fail)
 go_ret
 exact ⟨rfl, rfl⟩
theorem owns1_any (a b key : ByteArray) (kb : Nat) (w : World) (hs : szG (a, b)) (hk : key.size ≤ 140737488355328) (hb : w.heap[kb]? = some (.cells #[.string key] 9 (0, 0))) :
  Calls Tryz.prog 166 #[.agg #[.string a, .string b], .pointer (some ⟨kb, 0, none⟩)] w fun e w' => e = .returned (.bool (hasG (a, b) key)) ∧ Below w.heap.size w w' := by
 obtain ⟨W1, hW1⟩ : ∃ W1, W1 = w.alloc (.cells #[.string a, .string b] 32) := ⟨_, rfl⟩
 have k1 : Below w.heap.size w W1 := by rw [hW1]; exact (Below.refl _ w).alloc (Nat.le_refl _) _
 have hh := hasG_any a b key W1 hs.1 hs.2 hk
 have s0 := blkC hb 0
 simp only [List.getElem?_toArray, List.getElem?_cons_zero] at s0
 have hx := blkX hb
 generalize hasG (a, b) key = r at *
 replace hb := Lh hb; replace k1 := Lh k1; replace hs := Lh hs
 go_enter Tryz.func166, Tryz.ntmps166
 go_wp2_with (fail)
 rw [← hW1]
 replace hW1 := Lh hW1
 refine hh.mono ?_
 rintro e w2 ⟨rfl, b2⟩
 have k2 := Lh (k1.out.trans (b2.mono k1.out.size))
 clear b2 hh
 go_wp2_with (fail)
 go_ret
 exact ⟨rfl, k2.out⟩
theorem meets1_any (a b c d : ByteArray) (rb : Nat) (w : World) (hs : szG (a, b)) (hs2 : szG (c, d)) (hb : w.heap[rb]? = some (.cells #[.string c, .string d] 32 (0, 0))) :
  Calls Tryz.prog 88 #[.agg #[.string a, .string b], .pointer (some ⟨rb, 0, none⟩)] w fun e w' => e = .returned (.bool (meetB (a, b) (c, d))) ∧ Below w.heap.size w w' := by
 obtain ⟨W1, hW1⟩ : ∃ W1, W1 = w.alloc (.cells #[.string a, .string b] 32) := ⟨_, rfl⟩
 have k1 : Below w.heap.size w W1 := by rw [hW1]; exact (Below.refl _ w).alloc (Nat.le_refl _) _
 have hh := meet_any a b c d W1 hs hs2
 have s0 := blkC hb 0; have s1 := blkC hb 1
 simp only [List.getElem?_toArray, List.getElem?_cons_zero, List.getElem?_cons_succ] at s0 s1
 have hx := blkX hb
 generalize meetB (a, b) (c, d) = r at *
 replace hb := Lh hb; replace k1 := Lh k1; replace hs := Lh hs
 go_enter Tryz.func88, Tryz.ntmps88
 go_wp2_with (fail)
 rw [← hW1]
 replace hW1 := Lh hW1
 refine hh.mono ?_
 rintro e w2 ⟨u1, u2, v, rfl, b2⟩
 have k2 := Lh (k1.out.trans (b2.mono k1.out.size))
 clear b2 hh
 go_wp2_with (fail)
 go_ret
 exact ⟨rfl, k2.out.alloc k2.out.size _⟩
def ownsB (x : Sh) (key : ByteArray) : Bool := x.own.any fun g => hasG g key
set_option maxHeartbeats 4000000 in
theorem shOwns_any {base : Nat} {p : Pl} {x : Sh} {w : World} (h : ShW base p x w) (hn : x.own.length ≤ 1000000) (key : ByteArray) (hk : key.size ≤ 140737488355328) : Calls Tryz.prog 64 #[.pointer (some ⟨p.S, 0, none⟩), .string key] w fun e w' => e = .returned (.bool (ownsB x key)) ∧ Below w.heap.size w w' := by
 obtain ⟨W1, hW1⟩ : ∃ W1, W1 = w.alloc (.cells #[.string key] 9) := ⟨_, rfl⟩
 have k1 : Below w.heap.size w W1 := by rw [hW1]; exact (Below.refl _ w).alloc (Nat.le_refl _) _
 have q1 : W1.heap[w.heap.size]? = some (.cells #[.string key] 9 (0, 0)) := by rw [hW1]; exact hpNew _ _
 have h1 := h.below k1
 have hv := shValid_any h1
 have c2 : W1.cell? ⟨p.S, 2, none⟩ = some (.slice p.A x.own.length p.c) := blkC h1.blk 2
 have hlt := h1.lt
 have hc := contG_any (g := 166) (lb := #[.pointer (some ⟨w.heap.size, 0, none⟩)]) (c := p.c) (p := fun g => hasG g key) (enters_of Tryz.func166 (by kernel_rfl) rfl) h1.gs hn (fun y hy W hb => owns1_any y.1 y.2 key w.heap.size W (okG_sz (h.ok y hy)) hk ((hb.block _ (blkX q1)).trans q1))
 rw [show x.own.any (fun g => hasG g key) = ownsB x key from rfl] at hc
 generalize ownsB x key = r at *
 replace h := Lh h; replace h1 := Lh h1; replace k1 := Lh k1; replace q1 := Lh q1
 go_enter Tryz.func64, Tryz.ntmps64
 go_wp2_with (fail)
 rw [← hW1]
 replace hW1 := Lh hW1
 refine hv.mono ?_
 rintro e w2 ⟨rfl, rfl⟩
 go_wp2_with (fail)
 refine hc.mono ?_
 rintro e w3 ⟨rfl, b3⟩
 have k3 := Lh (k1.out.trans (b3.mono k1.out.size))
 clear b3 hc
 go_wp2_with (fail)
 go_ret
 exact ⟨rfl, k3.out⟩
end Go.Proofs.YtgnjnpddehdmcaaGreatDoor

namespace Go.Proofs.YtgnjnpddehdmcaaGreatDoor
open Go.RowKit Go.Shelf
set_option linter.unusedSimpArgs false
set_option linter.unusedVariables false
set_option linter.unusedSectionVars false
set_option maxRecDepth 10000
structure Cd where
 k : Int
 call : Int
 saga : Int
 e : Ef
 key : ByteArray
 dl : Int
 mv : Int
 r : Rg
 gr : Int
 dn : ByteArray
 dr : Int
 dd : Int
 dA : Option Addr
 dl' : Nat
 dc : Nat
 ie : Ef
 im : Int
 ii : Bool
 ig : Int
 res : Int
 dat : ByteArray
def cdV (c : Cd) : Array Value := #[.int .i64 c.k, .int .i64 c.call, .int .i64 c.saga, .int .i64 c.e.1, .int .i64 c.e.2.1, .int .i64 c.e.2.2, .string c.key, .int .i64 c.dl, .int .i64 c.mv, .string c.r.1, .string c.r.2, .int .i64 c.gr, .string c.dn, .int .i64 c.dr, .int .i64 c.dd, .slice c.dA c.dl' c.dc, .int .i64 c.ie.1, .int .i64 c.ie.2.1, .int .i64 c.ie.2.2, .int .i64 c.im, .bool c.ii, .int .i64 c.ig, .int .i64 c.res, .string c.dat]
structure ShTo (base : Nat) (p p' : Pl) (x' : Sh) (w w' : World) : Prop where
 sh : ShW base p' x' w'
 chg : Chg p.foot w w'
 new : ∀ k, p'.foot k → p.foot k ∨ w.heap.size ≤ k
 same : p'.S = p.S
section
variable {base : Nat} {p p' p'' : Pl} {x x' x'' : Sh} {w w0 w' w'' : World}
theorem ShTo.below (h : ShW base p x w) (hb : Below w.heap.size w w') : ShTo base p p x w w' := ⟨h.below hb, Chg.of_below hb _, fun k hk => .inl hk, rfl⟩
theorem ShTo.pre (h : ShTo base p p' x' w w') (hb : Below w0.heap.size w0 w) : ShTo base p p' x' w0 w' :=
 ⟨h.sh, (Chg.of_below hb _).trans h.chg (fun _ _ q => q), fun k hk => (h.new k hk).imp id fun q => Nat.le_trans hb.size q, h.same⟩
theorem ShTo.trans (h : ShTo base p p' x' w w') (h2 : ShTo base p' p'' x'' w' w'') : ShTo base p p'' x'' w w'' :=
 ⟨h2.sh, h.chg.trans h2.chg fun k hk q => (h.new k q).elim id fun q => absurd hk (by omega), fun k hk => (h2.new k hk).elim (h.new k) fun q => .inr (Nat.le_trans h.chg.size q), h2.same.trans h.same⟩
theorem ShTo.thenB (h : ShTo base p p' x' w w') (hb : Below w'.heap.size w' w'') : ShTo base p p' x' w w'' := h.trans (ShTo.below h.sh hb)
theorem ShTo.blk (h : ShTo base p p' x' w w') {k : Nat} {o : Obj} (hk : w.heap[k]? = some o) (hn : ¬ p.foot k) : w'.heap[k]? = some o := (h.chg.block k (Array.getElem?_eq_some_iff.1 hk).1 hn).trans hk
theorem MapOf.ncell {P : Program} {k : TypeId} {b n : Nat} {f : Value → Option Value} (h : MapOf P k w b n f) {cs : Array Value} {T : TypeId} {fr : Nat × Nat} : w.heap[b]? ≠ some (.cells cs T fr) := by
 obtain ⟨D, ⟨es, clock, hb, _⟩, _⟩ := h
 rw [hb]
 intro q; cases q
theorem ne_cells {a b : Nat} {cs ds : Array Value} {T U : TypeId} {f g : Nat × Nat} (ha : w.heap[a]? = some (Obj.cells cs T f)) (hb : w.heap[b]? = some (Obj.cells ds U g)) (h : T ≠ U) : a ≠ b := by
 rintro rfl
 rw [ha] at hb
 injection hb with hb
 injection hb with _ hb
 exact h hb
theorem row_cells {base n c size : Nat} {e : TypeId} {A : Option Addr} {xs : List Value} (h : w.ownsRow base e size (.slice A n c) n xs) {g : Nat} (hg : rowOf A = some g) : ∃ cs, w.heap[g]? = some (.cells cs e (0, 0)) := by
 rcases h.2 with ⟨q, _⟩ | ⟨g', cap, cur, e1, e2, hh, _⟩
 ·
  injection q with q; rw [q] at hg; cases hg
 ·
  injection e1 with e1
  rw [e1] at hg
  injection hg with hg
  subst hg
  exact ⟨_, hh⟩
theorem ShW.setCnt (h : ShW base p x w) {l : Ct} (hs : StTo base p.St p.M l w w') : ShTo base p p { x with cnt := l } w w' := by
 have hM : ∀ (k : Nat) (cs : Array Value) (T : TypeId) (f : Nat × Nat), w.heap[k]? = some (.cells cs T f) → k ≠ p.M := fun k cs T f hk q => MapOf.ncell h.st.map (q ▸ hk)
 have hk : ∀ k, k ≠ p.M → k < w.heap.size → w'.heap[k]? = w.heap[k]? := fun k hk hl => hs.chg.block k hl hk
 refine ⟨⟨h.ge, h.gg, h.gt, (hk _ (hM _ _ _ _ h.blk) (blkX h.blk)).trans h.blk, ?_, hs.st, h.mem.keep hs.chg.size fun k hl q => ?_, MapOf.keep h.giv (hk _ h.nMG.symm h.giv.lt), MapOf.keep h.tak (hk _ h.nMT.symm h.tak.lt), h.ok, h.ord, h.okm, h.ogiv, h.otak, h.nMG, h.nMT, h.nGT⟩, ⟨hs.chg.os, hs.chg.tape, hs.chg.output, hs.chg.size, fun k hl q => hs.chg.block k hl fun e => q (.inr (.inr (.inl e)))⟩, fun k hk => .inl hk, rfl⟩
 ·
  rcases h.own.2 with e | ⟨g, cp, cur, e1, e2, hh, r⟩
  ·
   exact ⟨h.own.1, .inl e⟩
  ·
   exact ⟨h.own.1, .inr ⟨g, cp, cur, e1, e2, (hk g (hM _ _ _ _ hh) (blkX hh)).trans hh, r⟩⟩
 ·
  rcases q with rfl | q
  ·
   exact hk _ (hM _ _ _ _ h.mem.blk) hl
  ·
   obtain ⟨cs, hc⟩ := row_cells h.mem.own q
   exact hk _ (hM _ _ _ _ hc) hl
theorem ShW.setMem (h : ShW base p x w) {A' : Option Addr} {c' : Nat} {P : List En} (ht : TabP base p.D 2048 A' c' P w') (hm : Mv p.D p.AD A' w w') (ho : Ord P) (hk : ∀ y ∈ P, okP y = true) : ShTo base p { p with AD := A', cD := c' } { x with mem := P } w w' := by
 have hn : ∀ k, k < w.heap.size → k ≠ p.D → rowOf p.AD ≠ some k → w'.heap[k]? = w.heap[k]? := fun k hl q1 q2 => hm.chg.block k hl fun q => q.elim q1 q2
 have hty : ∀ (k : Nat) (cs : Array Value) (T : TypeId) (f : Nat × Nat), w.heap[k]? = some (.cells cs T f) → T ≠ 153 → T ≠ 125 → w'.heap[k]? = some (.cells cs T f) := fun k cs T f hc h1 h2 =>
  (hn k (blkX hc) (ne_cells hc h.mem.blk h1) (h.mem.rowNe hc h2)).trans hc
 have hmp : ∀ {kt : TypeId} {b n : Nat} {f : Value → Option Value}, MapOf Tryz.prog kt w b n f → w'.heap[b]? = w.heap[b]? := fun hb => hn _ hb.lt (fun q => MapOf.ncell hb (q ▸ h.mem.blk)) fun q => by
  obtain ⟨cs, hc⟩ := row_cells h.mem.own q
  exact MapOf.ncell hb hc
 refine ⟨⟨h.ge, h.gg, h.gt, hty _ _ _ _ h.blk (by decide) (by decide), ?_, h.st.keep ((hty _ _ _ _ h.st.blk (by decide) (by decide)).trans h.st.blk.symm) (hmp h.st.map), ht, MapOf.keep h.giv (hmp h.giv), MapOf.keep h.tak (hmp h.tak), h.ok, ho, hk, h.ogiv, h.otak, h.nMG, h.nMT, h.nGT⟩, ⟨hm.chg.os, hm.chg.tape, hm.chg.output, hm.chg.size, fun k hl q => hm.chg.block k hl fun e => q ?_⟩, fun k hk => ?_, rfl⟩
 ·
  rcases h.own.2 with e | ⟨g, cp, cur, e1, e2, hh, r⟩
  ·
   exact ⟨h.own.1, .inl e⟩
  ·
   exact ⟨h.own.1, .inr ⟨g, cp, cur, e1, e2, hty _ _ _ _ hh (by decide) (by decide), r⟩⟩
 ·
  rcases e with e | e
  ·
   exact .inr (.inr (.inr (.inl e)))
  ·
   exact .inr (.inr (.inr (.inr (.inr (.inr (.inr e))))))
 ·
  rcases hk with q | q | q | q | q | q | q | q
  ·
   exact .inl (.inl q)
  ·
   exact .inl (.inr (.inl q))
  ·
   exact .inl (.inr (.inr (.inl q)))
  ·
   exact .inl (.inr (.inr (.inr (.inl q))))
  ·
   exact .inl (.inr (.inr (.inr (.inr (.inl q)))))
  ·
   exact .inl (.inr (.inr (.inr (.inr (.inr (.inl q))))))
  ·
   exact .inl (.inr (.inr (.inr (.inr (.inr (.inr (.inl q)))))))
  ·
   rcases hm.at_ with e | ⟨g, e, hg⟩
   ·
    exact .inl (.inr (.inr (.inr (.inr (.inr (.inr (.inr (e ▸ q))))))))
   ·
    rw [show ({ p with AD := A', cD := c' } : Pl).AD = A' from rfl, e] at q
    injection q with q
    exact .inr (q ▸ hg)
end
theorem refused_any (z : Int) (w : World) : Calls Tryz.prog 26 #[.int .i64 z] w fun e w' => e = .returned (.agg #[.int .i64 z, .int .i64 0, .string ⟨#[]⟩]) ∧ Below w.heap.size w w' := by
 go_enter Tryz.func26, Tryz.ntmps26
 go_wp2_with (fail)
 refine bodyPost_ret (by simp [results, Tryz.results26, go_sem, *]; try with_reducible rfl) rfl ?_
 exact ⟨rfl, (Below.refl _ w).alloc (Nat.le_refl _) _⟩
theorem of_any (y : Ef) (ph : Int) (w : World) : Calls Tryz.prog 65 #[.agg #[.int .i64 y.1, .int .i64 y.2.1, .int .i64 y.2.2], .int .i64 ph] w fun e w' => e = .returned (.agg #[.int .i64 y.1, .int .i64 y.2.1, .int .i64 ph]) ∧ Below w.heap.size w w' := by
 go_enter Tryz.func65, Tryz.ntmps65
 go_wp2_with (fail)
 refine bodyPost_ret (by simp [results, Tryz.results65, go_sem, *]; try with_reducible rfl) rfl ?_
 exact ⟨rfl, ((Below.refl _ w).alloc (Nat.le_refl _) _).alloc (by simp) _⟩
theorem shApplied_any {base : Nat} {p : Pl} {x : Sh} {w : World} (h : ShW base p x w) : Calls Tryz.prog 12 #[.pointer (some ⟨p.S, 0, none⟩)] w fun e w' => e = .returned (.int .i64 x.app) ∧ w' = w := by
 have hv := shValid_any h
 have c1 : w.cell? ⟨p.S, 1, none⟩ = some (.int .i64 x.app) := blkC h.blk 1
 have hlt := h.lt
 replace h := Lh h
 go_enter Tryz.func12, Tryz.ntmps12
 go_wp2_with (fail)
 refine hv.mono ?_
 rintro e w2 ⟨rfl, rfl⟩
 go_wp2_with (fail)
 go_ret
 exact ⟨rfl, rfl⟩
end Go.Proofs.YtgnjnpddehdmcaaGreatDoor

namespace Go.Proofs.YtgnjnpddehdmcaaGreatDoor
open Go.RowKit Go.Shelf
set_option linter.unusedSimpArgs false
set_option linter.unusedVariables false
set_option linter.unusedSectionVars false
set_option maxRecDepth 10000
def encS1 (s : ByteArray) : List Value := [.string s]
abbrev KS (w : World) (A : Option Addr) (n : Nat) (l : List ByteArray) : Prop := SL encS1 1 w A n l
def encC (c : Cn) : List Value := [.int .i64 c.1, .int .i64 c.2.1, .int .i64 c.2.2.1, .int .i64 c.2.2.2.1, .int .i64 c.2.2.2.2]
abbrev CS (w : World) (A : Option Addr) (n : Nat) (l : List Cn) : Prop := SL encC 5 w A n l
def fitsB (r : Rg) (ks : List ByteArray) (cs : List Cn) : Bool := decide (ks.length = cs.length) && okG r && decide ks.Nodup && ks.all (hasG r) && cs.all ckC
structure FitI (r : Rg) (ks : List ByteArray) (cs : List Cn) (i : Nat) : Prop where
 le : i ≤ ks.length
 lc : i ≤ cs.length
 nd : (ks.take i).Nodup
 has : ∀ k ∈ ks.take i, hasG r k = true
 ck : ∀ c ∈ cs.take i, ckC c = true
theorem FitI.zero (r : Rg) (ks : List ByteArray) (cs : List Cn) : FitI r ks cs 0 := ⟨by omega, by omega, by simp, by simp, by simp⟩
theorem FitI.next {r : Rg} {ks : List ByteArray} {cs : List Cn} {i : Nat} (h : FitI r ks cs i) {k : ByteArray} {c : Cn} (hk : ks[i]? = some k) (hc : cs[i]? = some c) (hs : k ∉ ks.take i) (h1 : hasG r k = true) (h2 : ckC c = true) : FitI r ks cs (i + 1) := by
 have e1 : ks.take (i + 1) = ks.take i ++ [k] := by rw [List.take_add_one, hk]; rfl
 have e2 : cs.take (i + 1) = cs.take i ++ [c] := by rw [List.take_add_one, hc]; rfl
 refine ⟨(List.getElem?_eq_some_iff.1 hk).1, (List.getElem?_eq_some_iff.1 hc).1, ?_, ?_, ?_⟩
 ·
  rw [e1, List.nodup_append]
  exact ⟨h.nd, by simp, fun a ha b hb => by simp at hb; subst hb; rintro rfl; exact hs ha⟩
 ·
  intro x hx
  rw [e1] at hx
  rcases List.mem_append.1 hx with q | q
  ·
   exact h.has x q
  ·
   simp at q; rw [q]; exact h1
 ·
  intro x hx
  rw [e2] at hx
  rcases List.mem_append.1 hx with q | q
  ·
   exact h.ck x q
  ·
   simp at q; rw [q]; exact h2
theorem fits_seen {r : Rg} {ks : List ByteArray} {cs : List Cn} {i : Nat} {k : ByteArray} (hk : ks[i]? = some k) (hs : k ∈ ks.take i) : fitsB r ks cs = false := by
 have : ¬ ks.Nodup := fun hn => by
  have hi := (List.getElem?_eq_some_iff.1 hk)
  rw [← List.take_append_drop i ks, List.nodup_append] at hn
  refine hn.2.2 k hs k ?_ rfl
  rw [List.mem_iff_getElem?]
  exact ⟨0, by rw [List.getElem?_drop]; simpa using hk⟩
 unfold fitsB
 rw [decide_eq_false this]; simp
theorem fits_len {r : Rg} {ks : List ByteArray} {cs : List Cn} (h : ks.length ≠ cs.length) : fitsB r ks cs = false := by
 unfold fitsB
 rw [decide_eq_false h]; simp
theorem fits_has {r : Rg} {ks : List ByteArray} {cs : List Cn} {i : Nat} {k : ByteArray} (hk : ks[i]? = some k) (h : hasG r k = false) : fitsB r ks cs = false := by
 have : ks.all (hasG r) = false := by
  rw [List.all_eq_false]
  exact ⟨k, List.mem_of_getElem? hk, by simp [h]⟩
 unfold fitsB
 rw [this]; simp
theorem fits_ck {r : Rg} {ks : List ByteArray} {cs : List Cn} {i : Nat} {c : Cn} (hc : cs[i]? = some c) (h : ckC c = false) : fitsB r ks cs = false := by
 have : cs.all ckC = false := by
  rw [List.all_eq_false]
  exact ⟨c, List.mem_of_getElem? hc, by simp [h]⟩
 unfold fitsB
 rw [this]; simp
theorem fits_end {r : Rg} {ks : List ByteArray} {cs : List Cn} (h : FitI r ks cs ks.length) (hl : ks.length = cs.length) : fitsB r ks cs = okG r := by
 have a := h.nd
 have b := h.has
 have c := h.ck
 rw [List.take_length] at a b
 rw [hl, List.take_length] at c
 unfold fitsB
 rw [decide_eq_true hl, decide_eq_true a, List.all_eq_true.2 b, List.all_eq_true.2 c]; simp
def inL (ks : List ByteArray) (k : ByteArray) : Bool := ks.any fun x => decide (x = k)
theorem inL_iff {ks : List ByteArray} {k : ByteArray} : inL ks k = true ↔ k ∈ ks := by
 unfold inL
 rw [List.any_eq_true]
 constructor
 ·
  rintro ⟨x, hx, e⟩
  have : x = k := by simpa using e
  exact this ▸ hx
 ·
  intro h
  exact ⟨k, h, by simp⟩
theorem inL_not {ks : List ByteArray} {k : ByteArray} (h : inL ks k = false) : k ∉ ks := fun q => by rw [inL_iff.2 q] at h; cases h
theorem inL_cons (a k : ByteArray) (ks : List ByteArray) : inL (a :: ks) k = (decide (a = k) || inL ks k) := rfl
def seenL (ks : List ByteArray) : List (ByteArray × Unit) := ks.foldl (fun l k => putA lessB l k ()) []
theorem seenL_snoc (ks : List ByteArray) (k : ByteArray) : seenL (ks ++ [k]) = putA lessB (seenL ks) k () := by unfold seenL; rw [List.foldl_append]; rfl
theorem look_foldl : ∀ (ks : List ByteArray) (l : List (ByteArray × Unit)) (k : ByteArray), lookA (ks.foldl (fun l k => putA lessB l k ()) l) k = if inL ks k then some () else lookA l k
 | [], l, k => by simp [inL]
 | a :: ks, l, k => by
  rw [List.foldl_cons, look_foldl ks, look_putA, inL_cons]
  cases h : inL ks k with
  | true => simp
  | false =>
   by_cases e : k = a
   ·
    subst e; simp
   ·
    rw [decide_eq_false (fun q => e q.symm), if_neg e]; simp
theorem look_seen (ks : List ByteArray) (k : ByteArray) : (lookA (seenL ks) k).isSome = inL ks k := by
 unfold seenL
 rw [look_foldl]
 cases h : inL ks k <;> simp [lookA]
theorem len_seen (ks : List ByteArray) : (seenL ks).length ≤ ks.length := by
 have : ∀ (ks : List ByteArray) (l : List (ByteArray × Unit)), (ks.foldl (fun l k => putA lessB l k ()) l).length ≤ l.length + ks.length := by
  intro ks
  induction ks with
  | nil => intro l; simp
  | cons a ks ih =>
   intro l
   rw [List.foldl_cons, List.length_cons]
   have h1 := ih (putA lessB l a ())
   have h2 := len_putA (lt := lessB) l a ()
   split at h2 <;> omega
 have := this ks []
 unfold seenL; simpa using this
abbrev seenE : Unit → Value := fun _ => .bool true
theorem zeroBool (w : World) : (zeroValue 4).run Tryz.prog w = .ok (.bool false) w := by kernel_rfl
theorem seen_look {W : World} {b : Nat} {ks : List ByteArray} (h : MapS Tryz.prog 9 seenE W b (seenL ks)) (k : ByteArray) (hk : k.size ≤ maxLen) :
  (Instr.lookup 157 (.map (some b)) (.string k) false).run Tryz.prog W = .ok (.bool (inL ks k)) W := by
 have hkey := Go.WideMaps.keyOf_string_mk undS hk
 obtain ⟨D, h1, h2, h3⟩ := h
 obtain ⟨v, ps, hr, hv⟩ := h1.lookup (Maps.string_keyed undS) Tryz.underlying157 (zeroBool W) (zd := .held (.bool false)) (zp := []) rfl hkey
 obtain ⟨a, c⟩ := h3 _ _ hkey
 rw [hr]
 have hs := look_seen ks k
 rw [sF_some, Option.isSome_map, hs] at a
 cases hm : inL ks k with
 | true =>
  rw [hm] at hs
  obtain ⟨u, hu⟩ := Option.isSome_iff_exists.1 hs
  rw [c _ (by rw [sF_some, hu]; rfl)] at hv
  simp only [heldE, Option.some.injEq, Prod.mk.injEq, DataW.held.injEq] at hv
  rw [hv.1]
 | false =>
  rw [hm] at a
  rw [Maps.atKey_of_not_has a] at hv
  simp only [heldE, Option.some.injEq, Prod.mk.injEq, DataW.held.injEq] at hv
  rw [hv.1]
end Go.Proofs.YtgnjnpddehdmcaaGreatDoor

namespace Go.Proofs.YtgnjnpddehdmcaaGreatDoor.Wi
def enc (n : Nat) : List UInt8 :=
 if n < 128 then [UInt8.ofNat n] else UInt8.ofNat (n % 128 + 128) :: enc (n / 128)
termination_by n
decreasing_by omega
theorem enc_lt {n : Nat} (h : n < 128) : enc n = [UInt8.ofNat n] := by rw [enc, if_pos h]
theorem enc_ge {n : Nat} (h : 128 ≤ n) : enc n = UInt8.ofNat (n % 128 + 128) :: enc (n / 128) := by rw [enc, if_neg (by omega)]
theorem ofNat_toNat {n : Nat} (h : n < 256) : (UInt8.ofNat n).toNat = n := by rw [UInt8.toNat_ofNat']; exact Nat.mod_eq_of_lt h

theorem enc_len_pow (k : Nat) : ∀ n, n < 128 ^ (k + 1) → (enc n).length ≤ k + 1 := by
 induction k with
 | zero => intro n h; rw [enc_lt (by simpa using h)]; simp
 | succ k ih =>
  intro n h
  rcases Nat.lt_or_ge n 128 with q | q
  ·
   rw [enc_lt q]; simp
  ·
   rw [enc_ge q, List.length_cons]
   have := ih (n / 128) (by rw [Nat.pow_succ] at h; exact Nat.div_lt_of_lt_mul (by rw [Nat.mul_comm]; exact h))
   omega
theorem enc_len {n : Nat} (h : n < 18446744073709551616) : (enc n).length ≤ 10 := enc_len_pow 9 n (by omega)

def zig (a : Int) : Nat := if a < 0 then (2 * (-(a + 1)) + 1).toNat else (2 * a).toNat
theorem zig_lt {a : Int} (h1 : -9223372036854775808 ≤ a) (h2 : a ≤ 9223372036854775807) : zig a < 18446744073709551616 := by unfold zig; split <;> omega
abbrev RS := Option (List UInt8)
def left : RS → List UInt8
 | none => []
 | some b => b
end Go.Proofs.YtgnjnpddehdmcaaGreatDoor.Wi

namespace Go.Proofs.YtgnjnpddehdmcaaGreatDoor
open Go.RowKit Go.Shelf
set_option linter.unusedSimpArgs false
set_option linter.unusedVariables false
set_option linter.unusedSectionVars false
set_option maxRecDepth 10000
def meetsB (x : Sh) (r : Rg) : Bool := x.own.any fun g => meetB g r
set_option maxHeartbeats 4000000 in
theorem shMeets_any {base : Nat} {p : Pl} {x : Sh} {w : World} (h : ShW base p x w) (hn : x.own.length ≤ 1000000) (r1 r2 : ByteArray) (hr : szG (r1, r2)) : Calls Tryz.prog 36 #[.pointer (some ⟨p.S, 0, none⟩), .agg #[.string r1, .string r2]] w fun e w' => e = .returned (.bool (meetsB x (r1, r2))) ∧ Below w.heap.size w w' := by
 obtain ⟨W1, hW1⟩ : ∃ W1, W1 = (w.alloc (.cells #[.string r1, .string r2] 32)) := ⟨_, rfl⟩
 have k1 : Below w.heap.size w W1 := by rw [hW1]; exact (Below.refl _ w).alloc (Nat.le_refl _) _
 have b0 : W1.heap[w.heap.size]? = some (.cells #[.string r1, .string r2] 32 (0, 0)) := by rw [hW1]; repeat (first | exact hpNewAt _ (by simp) | exact hpNew _ _ | refine (hpOld _ (by simp <;> omega)).trans ?_)
 have h1 := h.below k1
 have c2 : w.cell? ⟨p.S, 2, none⟩ = some (.slice p.A x.own.length p.c) := blkC h.blk 2
 have hlt := h.lt
 have hc := contG_any (g := 88) (lb := #[.pointer (some ⟨w.heap.size, 0, none⟩)]) (c := p.c) (p := fun g => meetB g (r1, r2)) (enters_of Tryz.func88 (by kernel_rfl) rfl) h1.gs hn (fun y hy W hb => meets1_any y.1 y.2 r1 r2 w.heap.size W (okG_sz (h.ok y hy)) hr ((hb.block _ (blkX b0)).trans b0))
 rw [show x.own.any (fun g => meetB g (r1, r2)) = meetsB x (r1, r2) from rfl] at hc
 generalize meetsB x (r1, r2) = r at *
 replace h := Lh h; replace h1 := Lh h1; replace k1 := Lh k1; replace b0 := Lh b0
 go_enter Tryz.func36, Tryz.ntmps36
 go_wp2_with (fail)
 rw [← hW1]
 replace hW1 := Lh hW1
 refine hc.mono ?_
 rintro e w3 ⟨rfl, b3⟩
 have k3 := Lh (k1.out.trans (b3.mono k1.out.size))
 clear b3 hc
 go_wp2_with (fail)
 go_ret
 exact ⟨rfl, k3.out⟩
def getV (x : Sh) (key : ByteArray) : Cn := if ownsB x key then stV x.cnt key else zCn
def getE (x : Sh) (key : ByteArray) : Int := if ownsB x key then stE x.cnt key else 16
set_option maxHeartbeats 4000000 in
theorem shGet_any {base : Nat} {p : Pl} {x : Sh} {w : World} (h : ShW base p x w) (hn : x.own.length ≤ 1000000) (key : ByteArray) (hk : key.size ≤ 140737488355328) : Calls Tryz.prog 71 #[.pointer (some ⟨p.S, 0, none⟩), .string key] w fun e w' => e = .returned (.tuple #[cnV (getV x key), .int .i64 (getE x key)]) ∧ Below w.heap.size w w' := by
 obtain ⟨W1, hW1⟩ : ∃ W1, W1 = (w.alloc (.cells #[.int .i64 0, .int .i64 0, .int .i64 0, .int .i64 0, .int .i64 0] 58)) := ⟨_, rfl⟩
 have k1 : Below w.heap.size w W1 := by rw [hW1]; exact (Below.refl _ w).alloc (Nat.le_refl _) _
 have b0 : W1.heap[w.heap.size]? = some (.cells #[.int .i64 0, .int .i64 0, .int .i64 0, .int .i64 0, .int .i64 0] 58 (0, 0)) := by rw [hW1]; repeat (first | exact hpNewAt _ (by simp) | exact hpNew _ _ | refine (hpOld _ (by simp <;> omega)).trans ?_)
 have h1 := h.below k1
 have hv := shValid_any h1
 have ho := shOwns_any h1 hn key hk
 obtain ⟨gv, hgv⟩ : ∃ z, z = getV x key := ⟨_, rfl⟩
 obtain ⟨ge, hge⟩ : ∃ z, z = getE x key := ⟨_, rfl⟩
 rw [← hgv, ← hge]
 unfold getV at hgv; unfold getE at hge
 have hx0 := blkX b0
 replace k1 := Lh k1; replace b0 := Lh b0
 cases hb : ownsB x key with
 | false =>
  rw [hb] at ho
  simp only [hb, Bool.false_eq_true, if_false] at hgv hge
  rw [hgv, hge]
  simp only [cnV, zCn]
  replace h := Lh h; replace h1 := Lh h1
  go_enter Tryz.func71, Tryz.ntmps71
  go_wp2_with (fail)
  rw [← hW1]
  replace hW1 := Lh hW1
  refine hv.mono ?_
  rintro e w2 ⟨rfl, rfl⟩
  go_wp2_with (fail)
  refine ho.mono ?_
  rintro e w3 ⟨rfl, b3⟩
  have k3 := Lh (k1.out.trans (b3.mono k1.out.size))
  have d0 := (b3.block _ (blkX b0.out)).trans b0.out
  have s0 := blkC d0 0
  have s1 := blkC d0 1
  have s2 := blkC d0 2
  have s3 := blkC d0 3
  have s4 := blkC d0 4
  have sf := blkF d0; have sx := blkX d0
  simp only [List.getElem?_toArray, List.getElem?_cons_zero, List.getElem?_cons_succ] at s0 s1 s2 s3 s4
  replace d0 := Lh d0
  clear b3 ho
  go_wp2_with (fail)
  refine bodyPost_ret (by simp [results, Tryz.results71, go_sem, *]; try with_reducible rfl) rfl ?_
  exact ⟨rfl, (((((k3.out.setCell (p := ⟨w.heap.size, 0, none⟩) (by simp only; omega) _).setCell (p := ⟨w.heap.size, 1, none⟩) (by simp only; omega) _).setCell (p := ⟨w.heap.size, 2, none⟩) (by simp only; omega) _).setCell (p := ⟨w.heap.size, 3, none⟩) (by simp only; omega) _).setCell (p := ⟨w.heap.size, 4, none⟩) (by simp only; omega) _)⟩
 | true =>
  rw [hb] at ho
  simp only [hb, if_true] at hgv hge
  obtain ⟨y1, y2, y3, y4, y5⟩ := gv
  simp only [cnV]
  replace h := Lh h
  go_enter Tryz.func71, Tryz.ntmps71
  go_wp2_with (fail)
  rw [← hW1]
  replace hW1 := Lh hW1
  refine hv.mono ?_
  rintro e w2 ⟨rfl, rfl⟩
  go_wp2_with (fail)
  refine ho.mono ?_
  rintro e w3 ⟨rfl, b3⟩
  have k3 := Lh (k1.out.trans (b3.mono k1.out.size))
  have d0 := Lh ((b3.block _ (blkX b0.out)).trans b0.out)
  have h3 := h1.below b3
  have c3 : w3.cell? ⟨p.S, 3, none⟩ = some (.pointer (some ⟨p.St, 0, none⟩)) := blkC h3.blk 3
  have hlt3 := h3.lt
  have hg := stGet_any h3.st key (by unfold maxLen; omega)
  rw [← hgv, ← hge] at hg
  simp only [cnV] at hg
  replace hgv := Lh hgv; replace hge := Lh hge
  replace h3 := Lh h3; replace h1 := Lh h1
  clear b3 ho
  go_wp2_with (fail)
  refine hg.mono ?_
  rintro e w4 ⟨rfl, b4⟩
  have k4 := Lh (k3.out.trans (b4.mono k3.out.size))
  have e0 := (b4.block _ (blkX d0.out)).trans d0.out
  have s0 := blkC e0 0
  have s1 := blkC e0 1
  have s2 := blkC e0 2
  have s3 := blkC e0 3
  have s4 := blkC e0 4
  have sf := blkF e0; have sx := blkX e0
  simp only [List.getElem?_toArray, List.getElem?_cons_zero, List.getElem?_cons_succ] at s0 s1 s2 s3 s4
  replace e0 := Lh e0
  clear b4 hg
  go_wp2_with (fail)
  refine bodyPost_ret (by simp [results, Tryz.results71, go_sem, *]; try with_reducible rfl) rfl ?_
  exact ⟨rfl, (((((k4.out.setCell (p := ⟨w.heap.size, 0, none⟩) (by simp only; omega) _).setCell (p := ⟨w.heap.size, 1, none⟩) (by simp only; omega) _).setCell (p := ⟨w.heap.size, 2, none⟩) (by simp only; omega) _).setCell (p := ⟨w.heap.size, 3, none⟩) (by simp only; omega) _).setCell (p := ⟨w.heap.size, 4, none⟩) (by simp only; omega) _)⟩
section
variable {base : Nat} {p p' : Pl} {x x' : Sh} {w w0 w' : World}
theorem ShW.out (h : ShW base p x w) {k : Nat} (hk : w.heap.size ≤ k) : ¬ p.foot k := fun q => by have := (h.foot_lt k q).2; omega
theorem ShTo.nfoot (h : ShTo base p p' x' w w') (h0 : ShW base p x w0) {k : Nat} (hk : w0.heap.size ≤ k) (hl : k < w.heap.size) : ¬ p'.foot k := fun q => (h.new k q).elim (h0.out hk) (by omega)
theorem ShTo.set (h : ShTo base p p' x' w w') {a : Addr} (ha : w.heap.size ≤ a.block) (hn : ¬ p'.foot a.block) (v : Value) : ShTo base p p' x' w (w'.setCell a v) := by
 have hk : ∀ k, k ≠ a.block → (w'.setCell a v).heap[k]? = w'.heap[k]? := fun k hk => hpFar hk
 refine ⟨h.sh.keep (by simp) fun k hf => hk k fun e => hn (e ▸ hf), ⟨?_, ?_, ?_, by rw [World.size_setCell]; exact h.chg.size, fun k hl hf => (hk k (by omega)).trans (h.chg.block k hl hf)⟩, h.new, h.same⟩
 ·
  rw [← h.chg.os]; rfl
 ·
  rw [← h.chg.tape]; rfl
 ·
  rw [← h.chg.output]; rfl
end
set_option maxHeartbeats 4000000 in
theorem shDone_any {base : Nat} {p : Pl} {x : Sh} {v : World} (h : ShW base p x v) (y : Ef) : Calls Tryz.prog 9 #[.pointer (some ⟨p.S, 0, none⟩), .agg #[.int .i64 y.1, .int .i64 y.2.1, .int .i64 y.2.2]] v fun e w' => e = .returned (.tuple #[.agg #[.int .i64 (getR x.mem y).1, .int .i64 (getR x.mem y).2.1, .string (getR x.mem y).2.2], .bool (hasB x.mem y)]) ∧ Below v.heap.size v w' := by
 obtain ⟨W1, hW1⟩ : ∃ W1, W1 = ((v.alloc (.cells #[.int .i64 y.1, .int .i64 y.2.1, .int .i64 y.2.2] 30)).alloc (.cells #[.int .i64 0, .int .i64 0, .string ⟨#[]⟩] 52)) := ⟨_, rfl⟩
 have k1 : Below v.heap.size v W1 := by rw [hW1]; exact ((Below.refl _ v).alloc (Nat.le_refl _) _).alloc (by simp <;> omega) _
 have b0 : W1.heap[v.heap.size]? = some (.cells #[.int .i64 y.1, .int .i64 y.2.1, .int .i64 y.2.2] 30 (0, 0)) := by rw [hW1]; repeat (first | exact hpNewAt _ (by simp) | exact hpNew _ _ | refine (hpOld _ (by simp <;> omega)).trans ?_)
 have b1 : W1.heap[v.heap.size + 1]? = some (.cells #[.int .i64 0, .int .i64 0, .string ⟨#[]⟩] 52 (0, 0)) := by rw [hW1]; repeat (first | exact hpNewAt _ (by simp) | exact hpNew _ _ | refine (hpOld _ (by simp <;> omega)).trans ?_)
 have h1 := h.below k1
 have hv := shValid_any h1
 obtain ⟨W2, hW2⟩ : ∃ W2, W2 = W1.drew := ⟨_, rfl⟩
 have b2 : Below W1.heap.size W1 W2 := by rw [hW2]; exact (Below.refl _ _).drew
 have k2 := k1.trans (b2.mono k1.size)
 have h2 := h1.below b2
 have d0 := (b2.block _ (blkX b0)).trans b0
 have d1 := (b2.block _ (blkX b1)).trans b1
 have hg := Get_any h2.mem h2.ord y
 generalize getR x.mem y = r at *
 obtain ⟨r1, r2, r3⟩ := r
 simp only at hg ⊢
 generalize hasB x.mem y = hb at *
 replace h := Lh h; replace k1 := Lh k1; replace b0 := Lh b0; replace b1 := Lh b1; replace b2 := Lh b2; replace k2 := Lh k2; replace h2 := Lh h2; replace d0 := Lh d0; replace d1 := Lh d1
 go_enter Tryz.func9, Tryz.ntmps9
 go_wp2_with (fail)
 rw [← hW1]
 replace hW1 := Lh hW1
 refine hv.mono ?_
 rintro e u ⟨rfl, rfl⟩
 replace hW2 := Lh hW2
 go_wp2_with (fail)
 refine wp_region_held_drew (S := (fun W' : World => W'.heap[p.S]? = some (.cells (shV p x) 88 (0, 0)) ∧ W'.heap[v.heap.size]? = some (.cells #[.int .i64 y.1, .int .i64 y.2.1, .int .i64 y.2.2] 30 (0, 0)))) (by kernel_rfl) ?_ (fun hH => ?_)
 ·
  rw [← hW2.out]
  exact ⟨h2.out.blk, d0.out⟩
 refine wpAnyH_take (i := 0) (v := ?_) rfl (by kernel_rfl) (by kernel_rfl) (by kernel_rfl) (fun _ _ _ h => h) (Or.inl ⟨by rfl, by intro w hSw; go_simp; first | done | with_reducible rfl⟩) hH ?_
 simp only [List.getElem_toArray, List.getElem_cons_succ, List.getElem_cons_zero, Act.put, List.setIfInBounds_toArray, List.set_cons_zero, List.set_cons_succ]
 refine wpAnyH_take (i := 1) (v := ?_) rfl (by kernel_rfl) (by kernel_rfl) (by kernel_rfl) (fun _ _ _ h => h) (Or.inl ⟨by rfl, by intro w hSw; go_simp; first | done | with_reducible rfl⟩) hH ?_
 simp only [List.getElem_toArray, List.getElem_cons_succ, List.getElem_cons_zero, Act.put, List.setIfInBounds_toArray, List.set_cons_zero, List.set_cons_succ]
 refine wpAnyH_take (i := 2) (v := ?_) rfl (by kernel_rfl) (by kernel_rfl) (by kernel_rfl) (fun _ _ _ h => h) (Or.inl ⟨by rfl, by intro w hSw; go_simp; first | done | with_reducible rfl⟩) hH ?_
 simp only [List.getElem_toArray, List.getElem_cons_succ, List.getElem_cons_zero, Act.put, List.setIfInBounds_toArray, List.set_cons_zero, List.set_cons_succ]
 refine wpAnyH_take (i := 3) (v := ?_) rfl (by kernel_rfl) (by kernel_rfl) (by kernel_rfl) (fun _ _ _ h => h) (Or.inl ⟨by rfl, by intro w hSw; obtain ⟨sS, sC⟩ := hSw; have t0 : w.cell? ⟨p.S, 4, none⟩ = some (.pointer (some ⟨p.D, 0, none⟩)) := blkC sS 4; go_simp; first | done | with_reducible rfl⟩) hH ?_
 simp only [List.getElem_toArray, List.getElem_cons_succ, List.getElem_cons_zero, Act.put, List.setIfInBounds_toArray, List.set_cons_zero, List.set_cons_succ]
 refine wpAnyH_take (i := 4) (v := ?_) rfl (by kernel_rfl) (by kernel_rfl) (by kernel_rfl) (fun _ _ _ h => h) (Or.inl ⟨by rfl, by intro w hSw; obtain ⟨sS, sC⟩ := hSw; have t0 : w.cell? ⟨v.heap.size, 0, none⟩ = some (.int .i64 y.1) := blkC sC 0; have t1 : w.cell? ⟨v.heap.size, 1, none⟩ = some (.int .i64 y.2.1) := blkC sC 1; have t2 : w.cell? ⟨v.heap.size, 2, none⟩ = some (.int .i64 y.2.2) := blkC sC 2; go_simp; first | done | with_reducible rfl⟩) hH ?_
 simp only [List.getElem_toArray, List.getElem_cons_succ, List.getElem_cons_zero, Act.put, List.setIfInBounds_toArray, List.set_cons_zero, List.set_cons_succ]
 refine wpAnyH_ready (rs := [5]) (by kernel_rfl) (by simp) ?_
 refine AllReadyH.cons rfl (fun K hK => ?_) ?_
 ·
  clear hH
  rw [← hW2.out]
  go_simp
  refine hg.mono ?_
  rintro e V1 ⟨rfl, c1⟩
  have k3 := Lh (k2.out.trans (c1.mono k2.out.size))
  have e1 := (c1.block _ (blkX d1.out)).trans d1.out
  have h3 := h2.out.below c1
  have e0 := (c1.block _ (blkX d0.out)).trans d0.out
  have s0 := blkC e1 0; have s1 := blkC e1 1; have s2 := blkC e1 2; have sf := blkF e1; have sx := blkX e1
  simp only [List.getElem?_toArray, List.getElem?_cons_zero, List.getElem?_cons_succ] at s0 s1 s2
  replace e1 := Lh e1
  refine hK.out _ _ ⟨h3.blk, e0⟩ (fun hH => ?_)
  clear hK K c1 hg
  refine wpAnyH_take (i := 6) (v := ?_) rfl (by kernel_rfl) (by kernel_rfl) (by kernel_rfl) (fun _ _ _ h => h) (Or.inl ⟨by rfl, by intro w hSw; go_simp; first | done | with_reducible rfl⟩) hH ?_
  simp only [List.getElem_toArray, List.getElem_cons_succ, List.getElem_cons_zero, Act.put, List.setIfInBounds_toArray, List.set_cons_zero, List.set_cons_succ]
  refine wpAnyH_take (i := 7) (v := ?_) rfl (by kernel_rfl) (by kernel_rfl) (by kernel_rfl) (fun _ _ _ h => h) (Or.inl ⟨by rfl, by intro w hSw; go_simp; first | done | with_reducible rfl⟩) hH ?_
  simp only [List.getElem_toArray, List.getElem_cons_succ, List.getElem_cons_zero, Act.put, List.setIfInBounds_toArray, List.set_cons_zero, List.set_cons_succ]
  refine wpAnyH_ready (rs := [8]) (by kernel_rfl) (by simp) ?_
  refine AllReadyH.cons rfl (fun K hK => ?_) ?_
  ·
   clear hH
   go_simp
   refine hK.out _ _ ⟨(hpFar (by simp only; have := h3.lt; have := h.out.lt; omega)).trans ((hpFar (by simp only; have := h.out.lt; omega)).trans ((hpFar (by simp only; have := h.out.lt; omega)).trans h3.blk)), (hpFar (by simp only; omega)).trans ((hpFar (by simp only; omega)).trans ((hpFar (by simp only; omega)).trans e0))⟩ (fun hH => ?_)
   clear hK K
   refine wpAnyH_take (i := 9) (v := ?_) rfl (by kernel_rfl) (by kernel_rfl) (by kernel_rfl) (fun _ _ _ h => h) (Or.inl ⟨by rfl, by intro w hSw; go_simp; first | done | with_reducible rfl⟩) hH ?_
   simp only [List.getElem_toArray, List.getElem_cons_succ, List.getElem_cons_zero, Act.put, List.setIfInBounds_toArray, List.set_cons_zero, List.set_cons_succ]
   refine wpAnyH_done (by kernel_rfl) ?_ _
   clear hH
   go_wp2_with (fail)
   refine bodyPost_ret (by simp [results, Tryz.results9, go_sem, *]; try with_reducible rfl) rfl ?_
   exact ⟨rfl, ((k3.out.setCell (p := ⟨v.heap.size + 1, 0, none⟩) (by simp only; omega) _).setCell (p := ⟨v.heap.size + 1, 1, none⟩) (by simp only; omega) _).setCell (p := ⟨v.heap.size + 1, 2, none⟩) (by simp only; omega) _⟩
  exact AllReadyH.nil
 exact AllReadyH.nil
end Go.Proofs.YtgnjnpddehdmcaaGreatDoor

namespace Go.Proofs.YtgnjnpddehdmcaaGreatDoor
open Go.RowKit Go.Shelf
set_option linter.unusedSimpArgs false
set_option linter.unusedVariables false
set_option linter.unusedSectionVars false
set_option maxRecDepth 10000
def cntX (x : Sh) (c : Cd) : Sh := { x with cnt := stApL x.cnt c.key c.e.2.2 c.dl }
set_option maxHeartbeats 8000000 in
theorem shChange_any {base : Nat} {p : Pl} {x : Sh} {v : World} (h : ShW base p x v) (c : Cd) (hk : c.key.size ≤ 140737488355328) (hd1 : -9223372036854775808 ≤ c.dl) (hd2 : c.dl ≤ 9223372036854775807) : Calls Tryz.prog 167 #[.pointer (some ⟨p.S, 0, none⟩), .agg (cdV c)] v fun e w' => e = .returned (.tuple #[.agg #[.int .i64 (stApE x.cnt c.key c.e.2.2 c.dl), .int .i64 (stApN x.cnt c.key c.e.2.2 c.dl), .string ⟨#[]⟩], .bool (stApE x.cnt c.key c.e.2.2 c.dl == 0)]) ∧ ShTo base p p (cntX x c) v w' := by
 obtain ⟨W1, hW1⟩ : ∃ W1, W1 = ((v.alloc (.cells (cdV c) 40)).alloc (.cells #[.int .i64 0, .int .i64 0, .string ⟨#[]⟩] 52)) := ⟨_, rfl⟩
 have k1 : Below v.heap.size v W1 := by rw [hW1]; exact ((Below.refl _ v).alloc (Nat.le_refl _) _).alloc (by simp <;> omega) _
 have b0 : W1.heap[v.heap.size]? = some (.cells (cdV c) 40 (0, 0)) := by rw [hW1]; repeat (first | exact hpNewAt _ (by simp) | exact hpNew _ _ | refine (hpOld _ (by simp <;> omega)).trans ?_)
 have b1 : W1.heap[v.heap.size + 1]? = some (.cells #[.int .i64 0, .int .i64 0, .string ⟨#[]⟩] 52 (0, 0)) := by rw [hW1]; repeat (first | exact hpNewAt _ (by simp) | exact hpNew _ _ | refine (hpOld _ (by simp <;> omega)).trans ?_)
 have h1 := h.below k1
 obtain ⟨W2, hW2⟩ : ∃ W, W = W1.drew := ⟨_, rfl⟩
 have bd : Below W1.heap.size W1 W2 := by rw [hW2]; exact (Below.refl _ _).drew
 have k1D := k1.trans (bd.mono k1.size)
 have h1D := h1.below bd
 have b0D := (bd.block _ (blkX b0)).trans b0
 have b1D := (bd.block _ (blkX b1)).trans b1
 clear bd
 have hg := stApply_any h1D.st c.key hk c.e.2.2 c.dl hd1 hd2
 obtain ⟨x', hx'⟩ : ∃ z, z = cntX x c := ⟨_, rfl⟩
 rw [← hx']
 have hto0 : ∀ W', StTo base p.St p.M (stApL x.cnt c.key c.e.2.2 c.dl) W2 W' → ShTo base p p x' W2 W' := fun W' q => by rw [hx']; exact h1D.setCnt q
 have hsv : shV p x' = shV p x := by rw [hx']; rfl
 generalize stApE x.cnt c.key c.e.2.2 c.dl = ee at *
 generalize stApN x.cnt c.key c.e.2.2 c.dl = nn at *
 generalize stApL x.cnt c.key c.e.2.2 c.dl = ll at *
 clear hx'
 replace h := Lh h; replace h1 := Lh h1; replace k1 := Lh k1; replace b0 := Lh b0; replace b1 := Lh b1; replace k1D := Lh k1D; replace h1D := Lh h1D; replace b0D := Lh b0D; replace b1D := Lh b1D; replace hto0 := Lh hto0; replace hsv := Lh hsv
 have hW1u := hW1
 unfold cdV at hW1u
 unfold cdV
 go_enter Tryz.func167, Tryz.ntmps167
 go_wp2_with (fail)
 rw [← hW1u]
 replace hW1 := Lh hW1; replace hW1u := Lh hW1u; replace hW2 := Lh hW2
 refine wp_region_held_drew (S := (fun W' : World => W'.heap[p.S]? = some (.cells (shV p x) 88 (0, 0)) ∧ W'.heap[v.heap.size]? = some (.cells (cdV c) 40 (0, 0)))) (by kernel_rfl) ?_ (fun hH => ?_)
 ·
  rw [← hW2.out]
  exact ⟨h1D.out.blk, b0D.out⟩
 refine wpAnyH_take (i := 0) (v := ?_) rfl (by kernel_rfl) (by kernel_rfl) (by kernel_rfl) (fun _ _ _ h => h) (Or.inl ⟨by rfl, by intro w hSw; go_simp; first | done | with_reducible rfl⟩) hH ?_
 simp only [List.getElem_toArray, List.getElem_cons_succ, List.getElem_cons_zero, Act.put, List.setIfInBounds_toArray, List.set_cons_zero, List.set_cons_succ]
 refine wpAnyH_take (i := 1) (v := ?_) rfl (by kernel_rfl) (by kernel_rfl) (by kernel_rfl) (fun _ _ _ h => h) (Or.inl ⟨by rfl, by intro w hSw; go_simp; first | done | with_reducible rfl⟩) hH ?_
 simp only [List.getElem_toArray, List.getElem_cons_succ, List.getElem_cons_zero, Act.put, List.setIfInBounds_toArray, List.set_cons_zero, List.set_cons_succ]
 refine wpAnyH_take (i := 2) (v := ?_) rfl (by kernel_rfl) (by kernel_rfl) (by kernel_rfl) (fun _ _ _ h => h) (Or.inl ⟨by rfl, by intro w hSw; go_simp; first | done | with_reducible rfl⟩) hH ?_
 simp only [List.getElem_toArray, List.getElem_cons_succ, List.getElem_cons_zero, Act.put, List.setIfInBounds_toArray, List.set_cons_zero, List.set_cons_succ]
 refine wpAnyH_take (i := 3) (v := ?_) rfl (by kernel_rfl) (by kernel_rfl) (by kernel_rfl) (fun _ _ _ h => h) (Or.inl ⟨by rfl, by intro w hSw; obtain ⟨sS, sC⟩ := hSw; have t0 : w.cell? ⟨p.S, 3, none⟩ = some (.pointer (some ⟨p.St, 0, none⟩)) := blkC sS 3; go_simp; first | done | with_reducible rfl⟩) hH ?_
 simp only [List.getElem_toArray, List.getElem_cons_succ, List.getElem_cons_zero, Act.put, List.setIfInBounds_toArray, List.set_cons_zero, List.set_cons_succ]
 refine wpAnyH_take (i := 4) (v := ?_) rfl (by kernel_rfl) (by kernel_rfl) (by kernel_rfl) (fun _ _ _ h => h) (Or.inl ⟨by rfl, by intro w hSw; go_simp; first | done | with_reducible rfl⟩) hH ?_
 simp only [List.getElem_toArray, List.getElem_cons_succ, List.getElem_cons_zero, Act.put, List.setIfInBounds_toArray, List.set_cons_zero, List.set_cons_succ]
 refine wpAnyH_take (i := 5) (v := ?_) rfl (by kernel_rfl) (by kernel_rfl) (by kernel_rfl) (fun _ _ _ h => h) (Or.inl ⟨by rfl, by intro w hSw; obtain ⟨sS, sC⟩ := hSw; have t0 : w.cell? ⟨v.heap.size, 6, none⟩ = some (.string c.key) := blkC sC 6; go_simp; first | done | with_reducible rfl⟩) hH ?_
 simp only [List.getElem_toArray, List.getElem_cons_succ, List.getElem_cons_zero, Act.put, List.setIfInBounds_toArray, List.set_cons_zero, List.set_cons_succ]
 refine wpAnyH_take (i := 6) (v := ?_) rfl (by kernel_rfl) (by kernel_rfl) (by kernel_rfl) (fun _ _ _ h => h) (Or.inl ⟨by rfl, by intro w hSw; go_simp; first | done | with_reducible rfl⟩) hH ?_
 simp only [List.getElem_toArray, List.getElem_cons_succ, List.getElem_cons_zero, Act.put, List.setIfInBounds_toArray, List.set_cons_zero, List.set_cons_succ]
 refine wpAnyH_take (i := 7) (v := ?_) rfl (by kernel_rfl) (by kernel_rfl) (by kernel_rfl) (fun _ _ _ h => h) (Or.inl ⟨by rfl, by intro w hSw; go_simp; first | done | with_reducible rfl⟩) hH ?_
 simp only [List.getElem_toArray, List.getElem_cons_succ, List.getElem_cons_zero, Act.put, List.setIfInBounds_toArray, List.set_cons_zero, List.set_cons_succ]
 refine wpAnyH_take (i := 8) (v := ?_) rfl (by kernel_rfl) (by kernel_rfl) (by kernel_rfl) (fun _ _ _ h => h) (Or.inl ⟨by rfl, by intro w hSw; obtain ⟨sS, sC⟩ := hSw; have t0 : w.cell? ⟨v.heap.size, 5, none⟩ = some (.int .i64 c.e.2.2) := blkC sC 5; go_simp; first | done | with_reducible rfl⟩) hH ?_
 simp only [List.getElem_toArray, List.getElem_cons_succ, List.getElem_cons_zero, Act.put, List.setIfInBounds_toArray, List.set_cons_zero, List.set_cons_succ]
 refine wpAnyH_take (i := 9) (v := ?_) rfl (by kernel_rfl) (by kernel_rfl) (by kernel_rfl) (fun _ _ _ h => h) (Or.inl ⟨by rfl, by intro w hSw; go_simp; first | done | with_reducible rfl⟩) hH ?_
 simp only [List.getElem_toArray, List.getElem_cons_succ, List.getElem_cons_zero, Act.put, List.setIfInBounds_toArray, List.set_cons_zero, List.set_cons_succ]
 refine wpAnyH_take (i := 10) (v := ?_) rfl (by kernel_rfl) (by kernel_rfl) (by kernel_rfl) (fun _ _ _ h => h) (Or.inl ⟨by rfl, by intro w hSw; obtain ⟨sS, sC⟩ := hSw; have t0 : w.cell? ⟨v.heap.size, 7, none⟩ = some (.int .i64 c.dl) := blkC sC 7; go_simp; first | done | with_reducible rfl⟩) hH ?_
 simp only [List.getElem_toArray, List.getElem_cons_succ, List.getElem_cons_zero, Act.put, List.setIfInBounds_toArray, List.set_cons_zero, List.set_cons_succ]
 refine wpAnyH_ready (rs := [11]) (by kernel_rfl) (by simp) ?_
 refine AllReadyH.cons rfl (fun K hK => ?_) ?_
 ·
  clear hH
  rw [← hW2.out]
  go_simp
  refine hg.mono ?_
  rintro e V1 ⟨rfl, hto⟩
  have sh := hto0.out V1 hto
  skip
  have e0 := sh.blk b0D.out (h.out.out (Nat.le_refl _))
  have e1 := sh.blk b1D.out (h.out.out (by omega))
  have s0 := blkC e1 0
  have s1 := blkC e1 1
  have s2 := blkC e1 2
  have sf := blkF e1; have sx := blkX e1
  simp only [List.getElem?_toArray, List.getElem?_cons_zero, List.getElem?_cons_succ] at s0 s1 s2
  have hbk := sh.sh.blk
  rw [hsv.out] at hbk
  refine hK.out _ _ ⟨hbk, e0⟩ (fun hH => ?_)
  clear hK K hg hto
  replace e0 := Lh e0; replace e1 := Lh e1; replace sh := Lh sh; replace hbk := Lh hbk
  refine wpAnyH_take (i := 12) (v := ?_) rfl (by kernel_rfl) (by kernel_rfl) (by kernel_rfl) (fun _ _ _ h => h) (Or.inl ⟨by rfl, by intro w hSw; go_simp; first | done | with_reducible rfl⟩) hH ?_
  simp only [List.getElem_toArray, List.getElem_cons_succ, List.getElem_cons_zero, Act.put, List.setIfInBounds_toArray, List.set_cons_zero, List.set_cons_succ]
  refine wpAnyH_take (i := 13) (v := ?_) rfl (by kernel_rfl) (by kernel_rfl) (by kernel_rfl) (fun _ _ _ h => h) (Or.inl ⟨by rfl, by intro w hSw; go_simp; first | done | with_reducible rfl⟩) hH ?_
  simp only [List.getElem_toArray, List.getElem_cons_succ, List.getElem_cons_zero, Act.put, List.setIfInBounds_toArray, List.set_cons_zero, List.set_cons_succ]
  refine wpAnyH_take (i := 14) (v := ?_) rfl (by kernel_rfl) (by kernel_rfl) (by kernel_rfl) (fun _ _ _ h => h) (Or.inl ⟨by rfl, by intro w hSw; go_simp; first | done | with_reducible rfl⟩) hH ?_
  simp only [List.getElem_toArray, List.getElem_cons_succ, List.getElem_cons_zero, Act.put, List.setIfInBounds_toArray, List.set_cons_zero, List.set_cons_succ]
  refine wpAnyH_take (i := 15) (v := ?_) rfl (by kernel_rfl) (by kernel_rfl) (by kernel_rfl) (fun _ _ _ h => h) (Or.inl ⟨by rfl, by intro w hSw; go_simp; first | done | with_reducible rfl⟩) hH ?_
  simp only [List.getElem_toArray, List.getElem_cons_succ, List.getElem_cons_zero, Act.put, List.setIfInBounds_toArray, List.set_cons_zero, List.set_cons_succ]
  refine wpAnyH_take (i := 16) (v := ?_) rfl (by kernel_rfl) (by kernel_rfl) (by kernel_rfl) (fun _ _ _ h => h) (Or.inl ⟨by rfl, by intro w hSw; go_simp; first | done | with_reducible rfl⟩) hH ?_
  simp only [List.getElem_toArray, List.getElem_cons_succ, List.getElem_cons_zero, Act.put, List.setIfInBounds_toArray, List.set_cons_zero, List.set_cons_succ]
  refine wpAnyH_done (by kernel_rfl) ?_ _
  clear hH
  go_wp2_with (fail)
  refine bodyPost_ret (by simp [results, Tryz.results167, go_sem, *]; try with_reducible rfl) rfl ?_
  exact ⟨rfl, (ShTo.set (ShTo.set (ShTo.set (sh.out.pre k1D.out) (a := ⟨v.heap.size + 1, 0, none⟩) (by simp only; omega) (h.out.out (by simp only; omega)) _) (a := ⟨v.heap.size + 1, 1, none⟩) (by simp only; omega) (h.out.out (by simp only; omega)) _) (a := ⟨v.heap.size + 1, 2, none⟩) (by simp only; omega) (h.out.out (by simp only; omega)) _)⟩
 exact AllReadyH.nil
attribute [local go_sem ↓] hideAppend
theorem eql_nilG (W : World) (A : Option Addr) (n c : Nat) : (binOp .eql 42 (.slice A n c) (.slice none 0 0)).run Tryz.prog W = .ok (.bool A.isNone) W := by
 have h : ∀ d : Nat, (Op.equalIn (d + 1) 42 (.slice A n c) (.slice none 0 0)).run Tryz.prog W = .ok A.isNone W := fun d => by
  cases A <;> simp [Op.equalIn, run_underlying Tryz.underlying42]
 simp only [binOp]
 simp [Op.equal, Op.maxDepth, h 9999]
set_option maxHeartbeats 4000000 in
theorem cloneG_any {A : Option Addr} {n c : Nat} {l : List Rg} {w : World} (h : GS w A n l) (hn : n ≤ 1000000) :
  Calls Tryz.prog 40 #[.slice A n c] w fun e w' => ∃ A' c', e = .returned (.slice A' n c') ∧ w'.ownsRow w.heap.size 32 2 (.slice A' n c') n (flat encG l) ∧ Below w.heap.size w w' := by
 have hl := h.1
 cases A with
 | none =>
  have h0 : n = 0 := by
   rcases Nat.eq_zero_or_pos n with q | q
   ·
    exact q
   ·
    obtain ⟨b, o, e, _⟩ := h.2 q
    cases e
  subst h0
  have hl0 : l = [] := List.length_eq_zero_iff.1 hl
  subst hl0
  replace h := Lh h
  have hq := fun W => eql_nilG W none 0 c
  go_enter Tryz.func40, Tryz.ntmps40
  go_wp2_with (fail)
  go_ret
  exact ⟨none, 0, rfl, ⟨rfl, .inl ⟨rfl, rfl⟩⟩, Below.refl _ _⟩
 | some a =>
  have hq := fun W => eql_nilG W (some a) n c
  have kb := (Below.refl w.heap.size w).alloc (Nat.le_refl _) (.cells #[] 32)
  have hnew := hpNew w (.cells #[] 32)
  have hown : (w.alloc (.cells #[] 32)).ownsRow w.heap.size 32 2 (.slice (some ⟨w.heap.size, 0, none⟩) 0 0) 0 (flat encG []) := own_mk (Nat.le_refl _) hnew (Nat.le_refl _) (by unfold maxLen; omega) (by simp) (by simp [flat]) (by simp [flat])
  obtain ⟨A', c', w1, hrun, hcap, hown1, hgr, hat⟩ := append_sl elemG encG_len encG_one (ty := 42) (d := c) hown (by simp) (SL.keep h kb) (by omega) (by omega)
  simp only [Nat.zero_add, List.nil_append] at hrun hown1
  have hbel : Below w.heap.size w w1 := ⟨(hgr.os).trans kb.os, hgr.tape.trans kb.tape, hgr.output.trans kb.output, Nat.le_trans kb.size hgr.size, fun k hk => (hgr.block k (by have := kb.size; omega) fun e => by have e2 : some k = some w.heap.size := e; injection e2 with e2; omega).trans (kb.block k hk)⟩
  replace hown1 := Lh hown1; replace hbel := Lh hbel; replace hgr := Lh hgr; replace hat := Lh hat; replace hown := Lh hown; replace h := Lh h; replace kb := Lh kb; replace hnew := Lh hnew
  go_enter Tryz.func40, Tryz.ntmps40
  go_wp2_with (fail)
  go_ret
  exact ⟨A', c', rfl, hown1.out, hbel.out⟩

theorem shRanges_any {base : Nat} {p : Pl} {x : Sh} {w : World} (h : ShW base p x w) (hn : x.own.length ≤ 1000000) : Calls Tryz.prog 17 #[.pointer (some ⟨p.S, 0, none⟩)] w fun e w' => ∃ A' c', e = .returned (.slice A' x.own.length c') ∧ GOwn w.heap.size w' A' x.own.length c' x.own ∧ Below w.heap.size w w' := by
 have hv := shValid_any h
 have c2 : w.cell? ⟨p.S, 2, none⟩ = some (.slice p.A x.own.length p.c) := blkC h.blk 2
 have hlt := h.lt
 have hc := cloneG_any (c := p.c) h.gs hn
 replace h := Lh h
 go_enter Tryz.func17, Tryz.ntmps17
 go_wp2_with (fail)
 refine hv.mono ?_
 rintro e w2 ⟨rfl, rfl⟩
 go_wp2_with (fail)
 refine hc.mono ?_
 rintro e w3 ⟨A', c', rfl, ho, b3⟩
 replace ho := Lh ho; replace b3 := Lh b3
 go_wp2_with (fail)
 go_ret
 exact ⟨A', c', rfl, ho.out, b3.out⟩
end Go.Proofs.YtgnjnpddehdmcaaGreatDoor

namespace Go.Proofs.YtgnjnpddehdmcaaGreatDoor
open Go.RowKit Go.Shelf
set_option linter.unusedSimpArgs false
set_option linter.unusedVariables false
set_option linter.unusedSectionVars false
set_option maxRecDepth 10000
theorem StW.weak {base base' St M : Nat} {l : Ct} {w : World} (h : StW base St M l w) (hb : base' ≤ base) : StW base' St M l w := ⟨Nat.le_trans hb h.ge, Nat.le_trans hb h.gm, h.blk, h.map, h.ord, h.len, h.ok⟩
def newS (group : Int) : Sh := ⟨group, 0, [], [], [], [], []⟩
set_option maxHeartbeats 4000000 in
theorem shNew_any (group : Int) (h1 : 1 ≤ group) (h2 : group < 8) (v : World) : Calls Tryz.prog 14 #[.int .i64 group] v fun e w' => ∃ p, e = .returned (.tuple #[.pointer (some ⟨p.S, 0, none⟩), .int .i64 0]) ∧ ShW v.heap.size p (newS group) w' ∧ Below v.heap.size v w' := by
 have hm := new_ok 2048 v.heap.size v (by omega) (by omega) (Nat.le_refl _)
 have q1 : ¬ group < 1 := by omega
 have q2 : ¬ 8 ≤ group := by omega
 go_enter Tryz.func14, Tryz.ntmps14
 go_wp2_with (fail)
 refine hm.mono ?_
 rintro e W1 ⟨rfl, ht, b1⟩
 replace ht := Lh ht
 clear hm
 go_wp2_with (fail)
 refine (stNew_any W1).mono ?_
 rintro e W2 ⟨St, M, rfl, hs, b2⟩
 have k2 := Lh (b1.trans (b2.mono b1.size))
 have hmk1 : (Instr.makeMap 85 none).run Tryz.prog W2 = .ok (.map (some W2.heap.size)) (W2.alloc (.map #[] 0)) := run_makeMap _ W2
 have hmk2 : (Instr.makeMap 86 none).run Tryz.prog (W2.alloc (.map #[] 0)) = .ok (.map (some (W2.heap.size + 1))) ((W2.alloc (.map #[] 0)).alloc (.map #[] 0)) := by
  have := run_makeMap (P := Tryz.prog) 86 (W2.alloc (.map #[] 0))
  simpa using this
 replace hs := Lh hs; replace b1 := Lh b1; replace b2 := Lh b2
 go_wp2_with (fail)
 refine bodyPost_ret (results_tmp2 rfl _ _ _) rfl ?_
 have bm1 : Below W2.heap.size W2 (W2.alloc (.map #[] 0)) := (Below.refl _ _).alloc (Nat.le_refl _) _
 have bm2 : Below W2.heap.size W2 ((W2.alloc (.map #[] 0)).alloc (.map #[] 0)) := bm1.alloc (by simp) _
 obtain ⟨Wf, hWf⟩ : ∃ Z, Z = ((W2.alloc (.map #[] 0)).alloc (.map #[] 0)).alloc (.cells #[.int .i64 group, .int .i64 0, .slice none 0 0, .pointer (some ⟨St, 0, none⟩), .pointer (some ⟨v.heap.size, 0, none⟩), .map (some W2.heap.size), .map (some (W2.heap.size + 1))] 88) := ⟨_, rfl⟩
 have bf : Below W2.heap.size W2 Wf := by rw [hWf]; exact bm2.alloc bm2.size _
 have bf1 : Below (W2.alloc (.map #[] 0)).heap.size (W2.alloc (.map #[] 0)) Wf := by rw [hWf]; exact ((Below.refl _ _).alloc (Nat.le_refl _) _).alloc (by simp) _
 have bf2 : Below ((W2.alloc (.map #[] 0)).alloc (.map #[] 0)).heap.size ((W2.alloc (.map #[] 0)).alloc (.map #[] 0)) Wf := by rw [hWf]; exact (Below.refl _ _).alloc (Nat.le_refl _) _
 have hblk : Wf.heap[W2.heap.size + 1 + 1]? = some (.cells #[.int .i64 group, .int .i64 0, .slice none 0 0, .pointer (some ⟨St, 0, none⟩), .pointer (some ⟨v.heap.size, 0, none⟩), .map (some W2.heap.size), .map (some (W2.heap.size + 1))] 88 (0, 0)) := by rw [hWf]; exact hpNewAt _ (by simp)
 have hks := k2.out.size
 have hmt := hs.out.mlt
 have g1 : MapI Tryz.prog 3 givE Wf W2.heap.size [] := (MapOf.congr (MapOf.made W2 Tryz.prog 3) (f' := iF givE []) (fun key kl hk => by unfold iF; split <;> rfl)).below bf1
 have g2 : MapI Tryz.prog 3 takE Wf (W2.heap.size + 1) [] := by
  have h0 := MapOf.made (W2.alloc (.map #[] 0)) Tryz.prog 3
  rw [World.size_alloc] at h0
  exact (MapOf.congr h0 (f' := iF takE []) (fun key kl hk => by unfold iF; split <;> rfl)).below bf2
 refine ⟨⟨W2.heap.size + 1 + 1, St, M, v.heap.size, W2.heap.size, W2.heap.size + 1, none, 0, none, 0⟩, rfl, ?_, ?_⟩
 ·
  show ShW v.heap.size _ _ _
  rw [← hWf]
  exact ⟨(by show v.heap.size ≤ W2.heap.size + 1 + 1; omega), hks, (by show v.heap.size ≤ W2.heap.size + 1; omega), hblk, GOwn.nil _ _, (hs.out.weak b1.out.size).below bf, ht.out.below (b2.out.trans (bf.mono b2.out.size)), g1, g2, (fun g hg => by cases hg), List.Pairwise.nil, (fun y hy => by cases hy), List.Pairwise.nil, List.Pairwise.nil, (by show M ≠ W2.heap.size; omega), (by show M ≠ W2.heap.size + 1; omega), (by show W2.heap.size ≠ W2.heap.size + 1; omega)⟩
 ·
  rw [← hWf]
  exact k2.out.trans (bf.mono k2.out.size)
theorem at_key (b : Nat) (w : World) : Calls Tryz.prog 106 #[.pointer (some ⟨b, 0, none⟩)] w fun e w' => e = .returned (.pointer (some ⟨b, 6, none⟩)) ∧ w' = w := by
 go_enter Tryz.func106, Tryz.ntmps106
 go_wp2_with (fail)
 go_ret
 exact ⟨rfl, rfl⟩
theorem at_call (b : Nat) (w : World) : Calls Tryz.prog 118 #[.pointer (some ⟨b, 0, none⟩)] w fun e w' => e = .returned (.pointer (some ⟨b, 1, none⟩)) ∧ w' = w := by
 go_enter Tryz.func118, Tryz.ntmps118
 go_wp2_with (fail)
 go_ret
 exact ⟨rfl, rfl⟩
theorem at_move (b : Nat) (w : World) : Calls Tryz.prog 119 #[.pointer (some ⟨b, 0, none⟩)] w fun e w' => e = .returned (.pointer (some ⟨b, 8, none⟩)) ∧ w' = w := by
 go_enter Tryz.func119, Tryz.ntmps119
 go_wp2_with (fail)
 go_ret
 exact ⟨rfl, rfl⟩
theorem at_data (b : Nat) (w : World) : Calls Tryz.prog 128 #[.pointer (some ⟨b, 0, none⟩)] w fun e w' => e = .returned (.pointer (some ⟨b, 23, none⟩)) ∧ w' = w := by
 go_enter Tryz.func128, Tryz.ntmps128
 go_wp2_with (fail)
 go_ret
 exact ⟨rfl, rfl⟩
theorem eff_ok {b : Nat} {c : Cd} {w : World} (h : w.heap[b]? = some (.cells (cdV c) 40 (0, 0))) : Calls Tryz.prog 96 #[.pointer (some ⟨b, 0, none⟩)] w fun e w' => e = .returned (.bool (okE c.e)) ∧ Below w.heap.size w w' := by
 have z3 : w.cell? ⟨b, 3, none⟩ = some (.int .i64 c.e.1) := blkC h 3
 have z4 : w.cell? ⟨b, 4, none⟩ = some (.int .i64 c.e.2.1) := blkC h 4
 have z5 : w.cell? ⟨b, 5, none⟩ = some (.int .i64 c.e.2.2) := blkC h 5
 have hx := blkX h
 have hc := checkE_any c.e.1 c.e.2.1 c.e.2.2 w
 unfold chkE at hc
 rw [show okE (c.e.1, c.e.2.1, c.e.2.2) = okE c.e from rfl] at hc
 replace h := Lh h
 cases ho : okE c.e with
 | true =>
  rw [ho] at hc
  simp only [if_true, Bool.false_eq_true, if_false] at hc
  replace ho := Lh ho
  go_enter Tryz.func96, Tryz.ntmps96
  go_wp2_with (fail)
  refine hc.mono ?_
  rintro e w' ⟨rfl, b2⟩
  replace b2 := Lh b2
  go_wp2_with (fail)
  go_ret
  exact ⟨rfl, b2.out⟩
 | false =>
  rw [ho] at hc
  simp only [if_true, Bool.false_eq_true, if_false] at hc
  replace ho := Lh ho
  go_enter Tryz.func96, Tryz.ntmps96
  go_wp2_with (fail)
  refine hc.mono ?_
  rintro e w' ⟨rfl, b2⟩
  replace b2 := Lh b2
  go_wp2_with (fail)
  go_ret
  exact ⟨rfl, b2.out⟩
theorem range_ok {b : Nat} {c : Cd} {w : World} (h : w.heap[b]? = some (.cells (cdV c) 40 (0, 0))) (hs : szG c.r) : Calls Tryz.prog 120 #[.pointer (some ⟨b, 0, none⟩)] w fun e w' => e = .returned (.bool (okG c.r)) ∧ Below w.heap.size w w' := by
 have z9 : w.cell? ⟨b, 9, none⟩ = some (.string c.r.1) := blkC h 9
 have z10 : w.cell? ⟨b, 10, none⟩ = some (.string c.r.2) := blkC h 10
 have hx := blkX h
 have hc := rng_any c.r.1 c.r.2 w hs.1 hs.2
 rw [show takeC (c.r.1, c.r.2) = takeC c.r from rfl] at hc
 replace h := Lh h
 cases ho : okG c.r with
 | true =>
  rw [takeC_ok ho] at hc
  replace ho := Lh ho
  go_enter Tryz.func120, Tryz.ntmps120
  go_wp2_with (fail)
  refine hc.mono ?_
  rintro e w' ⟨rfl, b2⟩
  replace b2 := Lh b2
  go_wp2_with (fail)
  go_ret
  exact ⟨rfl, b2.out⟩
 | false =>
  rw [takeC_bad ho] at hc
  replace ho := Lh ho
  go_enter Tryz.func120, Tryz.ntmps120
  go_wp2_with (fail)
  refine hc.mono ?_
  rintro e w' ⟨rfl, b2⟩
  replace b2 := Lh b2
  go_wp2_with (fail)
  go_ret
  exact ⟨rfl, b2.out⟩
def okD (d : Int) : Bool := !decide (d = 0) && Co.inNum d
theorem delta_ok {b : Nat} {c : Cd} {w : World} (h : w.heap[b]? = some (.cells (cdV c) 40 (0, 0))) : Calls Tryz.prog 108 #[.pointer (some ⟨b, 0, none⟩)] w fun e w' => e = .returned (.bool (okD c.dl)) ∧ Below w.heap.size w w' := by
 have z7 : w.cell? ⟨b, 7, none⟩ = some (.int .i64 c.dl) := blkC h 7
 have hx := blkX h
 have hc := Co.numCheck_any c.dl w
 replace h := Lh h
 by_cases hz : c.dl = 0
 ·
  have ho : okD c.dl = false := by unfold okD; rw [hz]; rfl
  rw [ho]
  have hz1 : (c.dl != 0) = false := by rw [hz]; rfl
  replace hz := Lh hz; replace ho := Lh ho; clear hc
  go_enter Tryz.func108, Tryz.ntmps108
  go_wp2_with (fail)
  go_ret
  exact ⟨rfl, Below.refl _ _⟩
 ·
  have ho : okD c.dl = Co.inNum c.dl := by unfold okD; rw [decide_eq_false hz]; rfl
  rw [ho]
  have hz1 : (c.dl != 0) = true := by simpa using hz
  replace hz := Lh hz; replace ho := Lh ho
  unfold Co.ncE at hc
  cases hi : Co.inNum c.dl with
  | true =>
   rw [hi] at hc
   simp only [if_true, Bool.false_eq_true, if_false] at hc
   replace hi := Lh hi
   go_enter Tryz.func108, Tryz.ntmps108
   go_wp2_with (fail)
   refine hc.mono ?_
   rintro e w' ⟨rfl, hw⟩
   go_wp2_with (fail)
   go_ret
   exact ⟨rfl, by rw [hw]; exact Below.refl _ _⟩
  | false =>
   rw [hi] at hc
   simp only [if_true, Bool.false_eq_true, if_false] at hc
   replace hi := Lh hi
   go_enter Tryz.func108, Tryz.ntmps108
   go_wp2_with (fail)
   refine hc.mono ?_
   rintro e w' ⟨rfl, hw⟩
   go_wp2_with (fail)
   go_ret
   exact ⟨rfl, by rw [hw]; exact Below.refl _ _⟩
theorem data_ok (s : ByteArray) (w : World) : Calls Tryz.prog 129 #[.string s] w fun e w' => e = .returned (.bool (decide (s.size ≤ 65536))) ∧ w' = w := by
 by_cases hs : s.size ≤ 65536
 ·
  have hi : (s.size : Int) ≤ 65536 := by omega
  rw [decide_eq_true hs]
  go_enter Tryz.func129, Tryz.ntmps129
  go_wp2_with (fail)
  go_ret
  exact ⟨by simp <;> omega, rfl⟩
 ·
  have hi : ¬ (s.size : Int) ≤ 65536 := by omega
  rw [decide_eq_false hs]
  go_enter Tryz.func129, Tryz.ntmps129
  go_wp2_with (fail)
  go_ret
  exact ⟨by simp <;> omega, rfl⟩
structure CdTo (b : Nat) (c' : Cd) (w w' : World) : Prop where
 blk : w'.heap[b]? = some (.cells (cdV c') 40 (0, 0))
 chg : Chg (fun k => k = b) w w'
theorem chg_set {w : World} {b i : Nat} {v : Value} : Chg (fun k => k = b) w (w.setCell ⟨b, i, none⟩ v) := ⟨rfl, rfl, rfl, by simp, fun k hk hn => hpFar (by simp only; exact hn)⟩
theorem eff_clear {b : Nat} {c : Cd} {w : World} (h : w.heap[b]? = some (.cells (cdV c) 40 (0, 0))) : Calls Tryz.prog 104 #[.pointer (some ⟨b, 0, none⟩)] w fun e w' => e = .returned (.tuple #[]) ∧ CdTo b { c with e := (0, 0, 0) } w w' := by
 have z3 : w.cell? ⟨b, 3, none⟩ = some (.int .i64 c.e.1) := blkC h 3
 have z4 : w.cell? ⟨b, 4, none⟩ = some (.int .i64 c.e.2.1) := blkC h 4
 have z5 : w.cell? ⟨b, 5, none⟩ = some (.int .i64 c.e.2.2) := blkC h 5
 have hx := blkX h
 have hf := blkF h
 have hq := hpSet (i := 5) (v := .int .i64 0) (hpSet (i := 4) (v := .int .i64 0) (hpSet (i := 3) (v := .int .i64 0) (h)))
 replace h := Lh h
 replace hq := Lh hq
 go_enter Tryz.func104, Tryz.ntmps104
 go_wp2_with (fail)
 go_end0
 exact ⟨rfl, hq.out, ((chg_set).trans chg_set (fun _ _ q => q)).trans chg_set (fun _ _ q => q)⟩
theorem delta_clear {b : Nat} {c : Cd} {w : World} (h : w.heap[b]? = some (.cells (cdV c) 40 (0, 0))) : Calls Tryz.prog 116 #[.pointer (some ⟨b, 0, none⟩)] w fun e w' => e = .returned (.tuple #[]) ∧ CdTo b { c with dl := 0 } w w' := by
 have z7 : w.cell? ⟨b, 7, none⟩ = some (.int .i64 c.dl) := blkC h 7
 have hx := blkX h
 have hf := blkF h
 have hq := hpSet (i := 7) (v := .int .i64 0) (h)
 replace h := Lh h
 replace hq := Lh hq
 go_enter Tryz.func116, Tryz.ntmps116
 go_wp2_with (fail)
 go_end0
 exact ⟨rfl, hq.out, chg_set⟩
theorem range_clear {b : Nat} {c : Cd} {w : World} (h : w.heap[b]? = some (.cells (cdV c) 40 (0, 0))) : Calls Tryz.prog 127 #[.pointer (some ⟨b, 0, none⟩)] w fun e w' => e = .returned (.tuple #[]) ∧ CdTo b { c with r := (noText, noText) } w w' := by
 have z9 : w.cell? ⟨b, 9, none⟩ = some (.string c.r.1) := blkC h 9
 have z10 : w.cell? ⟨b, 10, none⟩ = some (.string c.r.2) := blkC h 10
 have hx := blkX h
 have hf := blkF h
 have hq := hpSet (i := 10) (v := .string ⟨#[]⟩) (hpSet (i := 9) (v := .string ⟨#[]⟩) (h))
 replace h := Lh h
 replace hq := Lh hq
 go_enter Tryz.func127, Tryz.ntmps127
 go_wp2_with (fail)
 go_end0
 exact ⟨rfl, hq.out, (chg_set).trans chg_set (fun _ _ q => q)⟩
theorem mk_eff (w : World) : Calls Tryz.prog 41 #[] w fun e w' => e = .returned (.agg #[.func (.func 96) #[] #[], .func (.func 98) #[] #[], .func (.func 100) #[] #[], .func (.func 102) #[] #[], .func (.func 104) #[] #[]]) ∧ Below w.heap.size w w' := by
 go_enter Tryz.func41, Tryz.ntmps41
 go_wp2_with (fail)
 refine bodyPost_ret (by simp [results, Tryz.results41, go_sem, *]; try with_reducible rfl) rfl ?_
 exact ⟨rfl, (Below.refl _ w).alloc (Nat.le_refl _) _⟩
theorem mk_delta (w : World) : Calls Tryz.prog 43 #[] w fun e w' => e = .returned (.agg #[.func (.func 108) #[] #[], .func (.func 110) #[] #[], .func (.func 112) #[] #[], .func (.func 114) #[] #[], .func (.func 116) #[] #[]]) ∧ Below w.heap.size w w' := by
 go_enter Tryz.func43, Tryz.ntmps43
 go_wp2_with (fail)
 refine bodyPost_ret (by simp [results, Tryz.results43, go_sem, *]; try with_reducible rfl) rfl ?_
 exact ⟨rfl, (Below.refl _ w).alloc (Nat.le_refl _) _⟩
theorem mk_range (w : World) : Calls Tryz.prog 46 #[] w fun e w' => e = .returned (.agg #[.func (.func 120) #[] #[], .func (.func 121) #[] #[], .func (.func 123) #[] #[], .func (.func 125) #[] #[], .func (.func 127) #[] #[]]) ∧ Below w.heap.size w w' := by
 go_enter Tryz.func46, Tryz.ntmps46
 go_wp2_with (fail)
 refine bodyPost_ret (by simp [results, Tryz.results46, go_sem, *]; try with_reducible rfl) rfl ?_
 exact ⟨rfl, (Below.refl _ w).alloc (Nat.le_refl _) _⟩
set_option maxHeartbeats 16000000 in
theorem fits_any (r1 r2 : ByteArray) (A : Option Addr) (n c : Nat) (ks : List ByteArray) (A2 : Option Addr) (n2 c2 : Nat) (cs : List Cn) (v : World) (hks : KS v A n ks) (hcs : CS v A2 n2 cs) (hn : n ≤ 1000000) (hn2 : n2 ≤ 1000000) (hr : szG (r1, r2)) (hsz : ∀ k ∈ ks, k.size ≤ 140737488355328) : Calls Tryz.prog 35 #[.agg #[.string r1, .string r2], .slice A n c, .slice A2 n2 c2] v fun e w' => e = .returned (.bool (fitsB (r1, r2) ks cs)) ∧ Below v.heap.size v w' := by
 obtain ⟨fb, hfb⟩ : ∃ z, z = fitsB (r1, r2) ks cs := ⟨_, rfl⟩
 rw [← hfb]
 obtain ⟨W1, hW1⟩ : ∃ W1, W1 = v.alloc (.cells #[.string r1, .string r2] 32) := ⟨_, rfl⟩
 obtain ⟨W2, hW2⟩ : ∃ W2, W2 = W1.alloc (.map #[] 0) := ⟨_, rfl⟩
 have hsz1 : W1.heap.size = v.heap.size + 1 := by rw [hW1]; simp
 have k2 : Below v.heap.size v W2 := by rw [hW2, hW1]; exact ((Below.refl _ v).alloc (Nat.le_refl _) _).alloc (by simp) _
 have q2 : W2.heap[v.heap.size]? = some (.cells #[.string r1, .string r2] 32 (0, 0)) := by rw [hW2, hW1]; repeat (first | exact hpNewAt _ (by simp) | exact hpNew _ _ | refine (hpOld _ (by simp <;> omega)).trans ?_)
 have hm2 : MapS Tryz.prog 9 seenE W2 (v.heap.size + 1) (seenL []) := by
  have h0 := MapOf.made W1 Tryz.prog 9
  rw [hsz1, ← hW2] at h0
  exact MapOf.congr h0 (f' := sF seenE []) (fun key kl hk => by unfold sF; split <;> rfl)
 have hmk : (Instr.makeMap 157 none).run Tryz.prog W1 = .ok (.map (some (v.heap.size + 1))) W2 := by rw [hW2, ← hsz1]; exact run_makeMap _ W1
 rw [hW1] at hmk
 replace hks := Lh hks; replace hcs := Lh hcs; replace hr := Lh hr; replace hsz := Lh hsz; replace hfb := Lh hfb; replace k2 := Lh k2; replace q2 := Lh q2; replace hm2 := Lh hm2; replace hW1 := Lh hW1; replace hW2 := Lh hW2; replace hsz1 := Lh hsz1
 go_enter Tryz.func35, Tryz.ntmps35
 go_wp2_with (fail)
 go_loopw [13] (fun i wr => ∃ j : Nat, j ≤ n ∧ i = .int .i64 j ∧ FitI (r1, r2) ks cs j ∧ Below v.heap.size v wr ∧ wr.heap[v.heap.size]? = some (.cells #[.string r1, .string r2] 32 (0, 0)) ∧ MapS Tryz.prog 9 seenE wr (v.heap.size + 1) (seenL (ks.take j))) (fun i _ => n - (intOf i).toNat)
 case atStart => exact ⟨0, by omega, rfl, FitI.zero _ _ _, k2.out, q2.out, hm2.out⟩
 case round =>
  clear hmk
  revert wr
  intro X hrel
  obtain ⟨j, hj, rfl, hI, hbw, hq, hm⟩ := hrel
  have hkl := hks.out.1
  have hcl := hcs.out.1
  by_cases hlt : j < n
  ·
   obtain ⟨b, o, k, rfl, hbl, hx, hc⟩ := SL.at_ hks.out hlt
   have s0 := (hbw.cell (p := ⟨b, _, none⟩) hbl).trans (hc 0 _ rfl)
   rw [Nat.mul_one, Nat.add_zero] at s0
   clear hc
   have hks2 := hsz.out k (List.mem_of_getElem? hx)
   have hlk := seen_look hm k (by unfold maxLen; omega)
   have z0 := blkC hq 0; have z1 := blkC hq 1; have zx := blkX hq
   simp only [List.getElem?_toArray, List.getElem?_cons_zero, List.getElem?_cons_succ] at z0 z1
   have j0 : (0 : Int) ≤ j := by omega
   have j1 : (j : Int) < (n : Int) := by omega
   replace hq := Lh hq; replace hbw := Lh hbw; replace hm := Lh hm; replace hI := Lh hI; replace hx := Lh hx; replace hks2 := Lh hks2; replace hkl := Lh hkl; replace hcl := Lh hcl
   cases hin : inL (ks.take j) k with
   | true =>
    rw [hin] at hlk
    have hno : fb = false := by rw [hfb.out]; exact fits_seen hx.out (inL_iff.1 hin)
    subst hno
    go_wp2_with (fail)
    go_ret
    exact ⟨rfl, hbw.out⟩
   | false =>
    rw [hin] at hlk
    replace hin := Lh hin
    by_cases hjn : j < n2
    ·
     have i1 : ¬ (n2 : Int) ≤ (j : Int) := by omega
     obtain ⟨b2, o2, cc, rfl, hbl2, hx2, hc2⟩ := SL.at_ hcs.out hjn
     have hh := fun W => hasG_any r1 r2 k W hr.out.1 hr.out.2 hks2.out
     replace hx2 := Lh hx2
     cases hhas : hasG (r1, r2) k with
     | false =>
      rw [hhas] at hh
      replace hhas := Lh hhas
      have hno : fb = false := by rw [hfb.out]; exact fits_has hx.out hhas.out
      subst hno
      go_wp2_with (fail)
      refine (hh _).mono ?_
      rintro e W3 ⟨rfl, b3⟩
      have k3 := Lh (hbw.out.trans (b3.mono hbw.out.size))
      clear b3
      go_wp2_with (fail)
      go_ret
      exact ⟨rfl, k3.out⟩
     | true =>
      rw [hhas] at hh
      replace hhas := Lh hhas
      obtain ⟨y1, y2, y3, y4, y5⟩ := cc
      have hck := fun W => Co.check_any y1 y2 y3 y4 y5 W
      have hcke : Co.ckE y1 y2 y3 y4 y5 = if ckC (y1, y2, y3, y4, y5) then 0 else 2 := rfl
      generalize Co.ckE y1 y2 y3 y4 y5 = ke at *
      replace hc2 := Lh hc2
      replace hcke := Lh hcke
      go_wp2_with (fail)
      refine (hh _).mono ?_
      rintro e W3 ⟨rfl, b3⟩
      have k3 := Lh (hbw.out.trans (b3.mono hbw.out.size))
      have m3 := Lh (MapOf.below hm.out b3)
      have q3 := Lh ((b3.block _ (blkX hq.out)).trans hq.out)
      have t0 := (k3.out.cell (p := ⟨b2, _, none⟩) hbl2).trans (hc2.out 0 _ rfl)
      have t1 := (k3.out.cell (p := ⟨b2, _, none⟩) hbl2).trans (hc2.out 1 _ rfl)
      have t2 := (k3.out.cell (p := ⟨b2, _, none⟩) hbl2).trans (hc2.out 2 _ rfl)
      have t3 := (k3.out.cell (p := ⟨b2, _, none⟩) hbl2).trans (hc2.out 3 _ rfl)
      have t4 := (k3.out.cell (p := ⟨b2, _, none⟩) hbl2).trans (hc2.out 4 _ rfl)
      rw [Nat.add_zero] at t0
      clear b3 hh z0 z1 zx s0 hlk
      go_wp2_with (fail)
      refine (hck _).mono ?_
      rintro e W4 ⟨rfl, b4⟩
      have k4 := Lh (k3.out.trans (b4.mono k3.out.size))
      have m4 := Lh (MapOf.below m3.out b4)
      have q4 := Lh ((b4.block _ (blkX q3.out)).trans q3.out)
      clear b4 hck t0 t1 t2 t3 t4
      cases hcc : ckC (y1, y2, y3, y4, y5) with
      | false =>
       have hke : ke = 2 := by rw [hcke.out, hcc]; rfl
       subst hke
       have hno : fb = false := by rw [hfb.out]; exact fits_ck hx2.out hcc
       subst hno
       replace hcc := Lh hcc
       go_wp2_with (fail)
       go_ret
       exact ⟨rfl, k4.out⟩
      | true =>
       have hke : ke = 0 := by rw [hcke.out, hcc]; rfl
       subst hke
       replace hcc := Lh hcc
       obtain ⟨W5, hrun, m5, hmt⟩ := MapS.store (enc := seenE) (lt := lessB) m4.out undS Tryz.underlying157 (by have := len_seen (ks.take j); rw [List.length_take] at this; unfold maxLen; omega) k (by have := hks2.out; unfold maxLen; omega) ()
       have hch := turned_chg hmt
       have k5 : Below v.heap.size v W5 := Chg.belowAfter k4.out hch k4.out.size (fun q hq' e => by omega)
       have q5 := (hch.block _ (blkX q4.out) (by omega)).trans q4.out
       rw [← seenL_snoc] at m5
       have hnx := hI.out.next hx.out hx2.out (inL_not hin.out) hhas.out hcc.out
       have hsn : ks.take j ++ [k] = ks.take (j + 1) := by rw [List.take_add_one, hx.out]; rfl
       rw [hsn] at m5
       replace m5 := Lh m5; replace hch := Lh hch; replace k5 := Lh k5; replace q5 := Lh q5; replace hnx := Lh hnx; replace hsn := Lh hsn
       clear hmt
       go_wp2_with (fail)
       exact ⟨⟨j + 1, by omega, by go_num, hnx.out, k5.out, q5.out, m5.out⟩, by simp [intOf]; omega⟩
    ·
     have i1 : (n2 : Int) ≤ (j : Int) := by omega
     have hno : fb = false := by rw [hfb.out]; exact fits_len (by have := hkl.out; have := hcl.out; omega)
     subst hno
     go_wp2_with (fail)
     go_ret
     exact ⟨rfl, hbw.out⟩
  ·
   obtain rfl : j = n := by omega
   have j1 : ¬ (j : Int) < (j : Int) := by omega
   have z0 := blkC hq 0; have z1 := blkC hq 1; have zx := blkX hq
   simp only [List.getElem?_toArray, List.getElem?_cons_zero, List.getElem?_cons_succ] at z0 z1
   replace hq := Lh hq; replace hbw := Lh hbw; replace hm := Lh hm; replace hI := Lh hI; replace hkl := Lh hkl; replace hcl := Lh hcl
   by_cases hl : j = n2
   ·
    have hrg := fun W => rng_any r1 r2 W hr.out.1 hr.out.2
    have hend : fb = okG (r1, r2) := by rw [hfb.out]; exact fits_end (by rw [hkl.out]; exact hI.out) (by rw [hkl.out, hcl.out]; exact hl)
    subst hl
    cases hok : okG (r1, r2) with
    | true =>
     rw [takeC_ok hok] at hrg
     rw [hok] at hend
     subst hend
     replace hok := Lh hok
     go_wp2_with (fail)
     refine (hrg _).mono ?_
     rintro e W3 ⟨rfl, b3⟩
     have k3 := Lh (hbw.out.trans (b3.mono hbw.out.size))
     clear b3
     go_wp2_with (fail)
     go_ret
     exact ⟨rfl, k3.out⟩
    | false =>
     rw [takeC_bad hok] at hrg
     rw [hok] at hend
     subst hend
     replace hok := Lh hok
     go_wp2_with (fail)
     refine (hrg _).mono ?_
     rintro e W3 ⟨rfl, b3⟩
     have k3 := Lh (hbw.out.trans (b3.mono hbw.out.size))
     clear b3
     go_wp2_with (fail)
     go_ret
     exact ⟨rfl, k3.out⟩
   ·
    have hni : ((j : Int) == (n2 : Int)) = false := by simp; omega
    have hni2 : ¬ (j : Int) = (n2 : Int) := by omega
    have hno : fb = false := by rw [hfb.out]; exact fits_len (by have := hkl.out; have := hcl.out; omega)
    subst hno
    go_wp2_with (fail)
    go_ret
    exact ⟨rfl, hbw.out⟩
def encS2 (x : ByteArray × Int) : List Value := [.string x.1, .int .i64 x.2]
def IsB (e : Ending) : Prop := ∃ b, e = .returned (.bool b)
abbrev SS2 (w : World) (A : Option Addr) (n : Nat) (l : List (ByteArray × Int)) : Prop := SL encS2 2 w A n l
set_option maxHeartbeats 8000000 in
theorem short_any (nm : ByteArray) (r dl : Int) (A : Option Addr) (n c : Nat) (l : List (ByteArray × Int)) (w : World) (hs : SS2 w A n l) : Calls Tryz.prog 32 #[.agg #[.string nm, .int .i64 r, .int .i64 dl, .slice A n c]] w fun e w' => IsB e ∧ Below w.heap.size w w' := by
 obtain ⟨W1, hW1⟩ : ∃ W, W = w.alloc (.cells #[.string nm, .int .i64 r, .int .i64 dl, .slice A n c] 35) := ⟨_, rfl⟩
 have k1 : Below w.heap.size w W1 := by rw [hW1]; exact (Below.refl _ w).alloc (Nat.le_refl _) _
 have b1 : W1.heap[w.heap.size]? = some (.cells #[.string nm, .int .i64 r, .int .i64 dl, .slice A n c] 35 (0, 0)) := by rw [hW1]; exact hpNew _ _
 have hs1 := SL.keep hs k1
 replace k1 := Lh k1; replace b1 := Lh b1; replace hs1 := Lh hs1
 clear hs
 by_cases h20 : 20 < n
 ·
  have q : ((20 : Int) < (n : Int)) = True := eq_true (by omega)
  replace hW1 := Lh hW1
  go_enter Tryz.func32, Tryz.ntmps32
  go_wp2_with (fail)
  all_goals (go_ret; exact ⟨⟨_, rfl⟩, by have := k1.out; rw [hW1.out] at this; exact this⟩)
 ·
  have q : ((20 : Int) < (n : Int)) = False := eq_false (by omega)
  by_cases h40 : 40 < nm.size
  ·
   have q2 : ((40 : Int) < (nm.size : Int)) = True := eq_true (by omega)
   replace hW1 := Lh hW1; replace h20 := Lh h20; replace h40 := Lh h40
   go_enter Tryz.func32, Tryz.ntmps32
   go_wp2_with (fail)
   all_goals (go_ret; exact ⟨⟨_, rfl⟩, by have := k1.out; rw [hW1.out] at this; exact this⟩)
  ·
   have q2 : ((40 : Int) < (nm.size : Int)) = False := eq_false (by omega)
   replace h40 := Lh h40
   replace hW1 := Lh hW1
   go_enter Tryz.func32, Tryz.ntmps32
   go_wp2_with (fail)
   rw [← hW1.out]
   go_loopw [3] (fun i wr => wr = W1 ∧ ∃ j : Nat, j ≤ n ∧ i = .int .i64 j) (fun i _ => n - (intOf i).toNat)
   case atStart => exact ⟨by first | rfl | trivial | exact hW1.out.symm, 0, by omega, rfl⟩
   case round =>
    clear q q2
    revert wr
    intro X hrel
    obtain ⟨hX, j, hj, rfl⟩ := hrel
    obtain rfl : X = W1 := hX
    have c3 : X.cell? ⟨w.heap.size, 3, none⟩ = some (.slice A n c) := blkC b1.out 3
    have cx := blkX b1.out
    by_cases hlt : j < n
    ·
     obtain ⟨b, o, y, rfl, hbl, hx, hc⟩ := SL.at_ hs1.out hlt
     have s0 := hc 0 _ rfl
     rw [Nat.add_zero] at s0
     clear hc hx
     obtain ⟨yk, yd⟩ := y
     simp only at s0
     have j0 : (0 : Int) ≤ j := by omega
     have j1 : (j : Int) < (n : Int) := by omega
     by_cases hk : 40 < yk.size
     ·
      have q3 : ((40 : Int) < (yk.size : Int)) = True := eq_true (by omega)
      replace hk := Lh hk
      go_wp2_with (fail)
      go_ret
      exact ⟨⟨_, rfl⟩, k1.out⟩
     ·
      have q3 : ((40 : Int) < (yk.size : Int)) = False := eq_false (by omega)
      replace hk := Lh hk
      go_wp2_with (fail)
      exact ⟨⟨by trivial, j + 1, by omega, by go_num⟩, by simp [intOf]; omega⟩
    ·
     obtain rfl : j = n := by omega
     go_wp2_with (fail)
     go_ret
     exact ⟨⟨_, rfl⟩, k1.out⟩
end Go.Proofs.YtgnjnpddehdmcaaGreatDoor
