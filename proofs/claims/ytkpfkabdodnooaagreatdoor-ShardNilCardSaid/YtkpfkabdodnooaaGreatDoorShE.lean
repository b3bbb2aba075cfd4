/- Behind a step of a shard; refused, of, Applied. -/
import Derived.Test.YtkpfkabdodnooaaGreatDoorChgW
import Derived.Test.YtkpfkabdodnooaaGreatDoorStA
import Derived.Test.YtkpfkabdodnooaaGreatDoorStR
import Derived.Test.YtkpfkabdodnooaaGreatDoorCopy
import Derived.Test.YtkpfkabdodnooaaGreatDoorGet
namespace Go.Proofs.YtkpfkabdodnooaaGreatDoor
open Go.RowKit Go.Shelf
set_option linter.unusedSimpArgs false
set_option linter.unusedVariables false
set_option linter.unusedSectionVars false
set_option maxRecDepth 10000
structure Sh where
  group : Int
  app : Int
  own : List Rg
  cnt : Ct
  mem : List En
  giv : List (Int × ByteArray)
  tak : List (Int × Unit)
structure Pl where
  S : Nat
  St : Nat
  M : Nat
  D : Nat
  G : Nat
  T : Nat
  A : Option Addr
  c : Nat
  AD : Option Addr
  cD : Nat
def Pl.foot (p : Pl) (k : Nat) : Prop := k = p.S ∨ k = p.St ∨ k = p.M ∨ k = p.D ∨ k = p.G ∨ k = p.T ∨ rowOf p.A = some k ∨ rowOf p.AD = some k
def ltZ (a b : Int) : Bool := decide (a < b)
def shV (p : Pl) (x : Sh) : Array Value := #[.int .i64 x.group, .int .i64 x.app, .slice p.A x.own.length p.c, .pointer (some ⟨p.St, 0, none⟩), .pointer (some ⟨p.D, 0, none⟩), .map (some p.G), .map (some p.T)]
abbrev givE : ByteArray → Value := fun s => .string s
abbrev takE : Unit → Value := fun _ => .bool true
structure ShW (base : Nat) (p : Pl) (x : Sh) (W : World) : Prop where
  ge : base ≤ p.S
  gg : base ≤ p.G
  gt : base ≤ p.T
  blk : W.heap[p.S]? = some (.cells (shV p x) 43 (0, 0))
  own : GOwn base W p.A x.own.length p.c x.own
  st : StW base p.St p.M x.cnt W
  mem : TabP base p.D 2048 p.AD p.cD x.mem W
  giv : MapI Tryz.prog 3 givE W p.G x.giv
  tak : MapI Tryz.prog 3 takE W p.T x.tak
  ok : ∀ g ∈ x.own, okG g = true
  ord : Ord x.mem
  okm : ∀ y ∈ x.mem, okP y = true
  ogiv : AOrd ltZ x.giv
  otak : AOrd ltZ x.tak
  nMG : p.M ≠ p.G
  nMT : p.M ≠ p.T
  nGT : p.G ≠ p.T
theorem okG_sz {g : Rg} (h : okG g = true) : szG g := by
  unfold okG at h
  simp only [Bool.and_eq_true] at h
  have e : ∀ s, endB s = true → s.size ≤ 140737488355328 := fun s hs => by
    unfold endB at hs
    rw [Bool.or_eq_true] at hs
    rcases hs with q | q
    · have : s = noText := by simpa using q
      rw [this]; decide
    · exact name_sz q
  exact ⟨e _ h.1.1, e _ h.1.2⟩
section
variable {base : Nat} {p : Pl} {x : Sh} {w W W' : World}
theorem ShW.gs (h : ShW base p x W) : GS W p.A x.own.length x.own := h.own.gs rfl
theorem ShW.lt (h : ShW base p x W) : p.S < W.heap.size := blkX h.blk
theorem ShW.foot_lt (h : ShW base p x W) : ∀ k, p.foot k → base ≤ k ∧ k < W.heap.size := by
  rintro k (rfl | rfl | rfl | rfl | rfl | rfl | q | q)
  · exact ⟨h.ge, blkX h.blk⟩
  · exact ⟨h.st.ge, h.st.lt⟩
  · exact ⟨h.st.gm, h.st.mlt⟩
  · exact ⟨h.mem.ge, h.mem.lt⟩
  · exact ⟨h.gg, h.giv.lt⟩
  · exact ⟨h.gt, h.tak.lt⟩
  · exact own_row h.own k q
  · exact h.mem.rowLt k q
theorem ShW.keep (h : ShW base p x W) (hs : W.heap.size ≤ W'.heap.size) (hk : ∀ k, p.foot k → W'.heap[k]? = W.heap[k]?) : ShW base p x W' where
  ge := h.ge
  gg := h.gg
  gt := h.gt
  blk := (hk _ (.inl rfl)).trans h.blk
  own := by
    rcases h.own.2 with e | ⟨g, cp, cur, e1, e2, hh, r⟩
    · exact ⟨h.own.1, .inl e⟩
    · exact ⟨h.own.1, .inr ⟨g, cp, cur, e1, e2, (hk g (.inr (.inr (.inr (.inr (.inr (.inr (.inl (by injection e1 with e1; rw [e1]; rfl))))))))).trans hh, r⟩⟩
  st := h.st.keep (hk _ (.inr (.inl rfl))) (hk _ (.inr (.inr (.inl rfl))))
  mem := h.mem.keep hs fun k hk' q => hk k (by
    rcases q with q | q
    · exact .inr (.inr (.inr (.inl q)))
    · exact .inr (.inr (.inr (.inr (.inr (.inr (.inr q)))))))
  giv := MapOf.keep h.giv (hk _ (.inr (.inr (.inr (.inr (.inl rfl))))))
  tak := MapOf.keep h.tak (hk _ (.inr (.inr (.inr (.inr (.inr (.inl rfl)))))))
  ok := h.ok
  ord := h.ord
  okm := h.okm
  ogiv := h.ogiv
  otak := h.otak
  nMG := h.nMG
  nMT := h.nMT
  nGT := h.nGT
theorem ShW.below (h : ShW base p x W) (hb : Below W.heap.size W W') : ShW base p x W' := h.keep hb.size fun k hk => hb.block k (h.foot_lt k hk).2
theorem ShW.chg {S : Nat → Prop} (h : ShW base p x W) (hc : Chg S W W') (hS : ∀ k, p.foot k → ¬ S k) : ShW base p x W' := h.keep hc.size fun k hk => hc.block k (h.foot_lt k hk).2 (hS k hk)
end
theorem shValid_any {base : Nat} {p : Pl} {x : Sh} {w : World} (h : ShW base p x w) : Calls Tryz.prog 20 #[.pointer (some ⟨p.S, 0, none⟩)] w fun e w' => e = .returned (.bool true) ∧ w' = w := by
  have c3 : w.cell? ⟨p.S, 3, none⟩ = some (.pointer (some ⟨p.St, 0, none⟩)) := blkC h.blk 3
  have hlt := h.lt
  replace h := Lib.hid h
  go_enter Tryz.func20, Tryz.ntmps20
  go_wp2_with (fail)
  go_ret
  exact ⟨rfl, rfl⟩
theorem owns1_any (a b key : ByteArray) (kb : Nat) (w : World) (hs : szG (a, b)) (hk : key.size ≤ 140737488355328) (hb : w.heap[kb]? = some (.cells #[.string key] 9 (0, 0))) :
    Calls Tryz.prog 36 #[.agg #[.string a, .string b], .pointer (some ⟨kb, 0, none⟩)] w fun e w' => e = .returned (.bool (hasG (a, b) key)) ∧ Below w.heap.size w w' := by
  obtain ⟨W1, hW1⟩ : ∃ W1, W1 = w.alloc (.cells #[.string a, .string b] 25) := ⟨_, rfl⟩
  have k1 : Below w.heap.size w W1 := by rw [hW1]; exact (Below.refl _ w).alloc (Nat.le_refl _) _
  have hh := hasG_any a b key W1 hs.1 hs.2 hk
  have s0 := blkC hb 0
  simp only [List.getElem?_toArray, List.getElem?_cons_zero] at s0
  have hx := blkX hb
  generalize hasG (a, b) key = r at *
  replace hb := Lib.hid hb; replace k1 := Lib.hid k1; replace hs := Lib.hid hs
  go_enter Tryz.func36, Tryz.ntmps36
  go_wp2_with (fail)
  rw [← hW1]
  replace hW1 := Lib.hid hW1
  refine hh.mono ?_
  rintro e w2 ⟨rfl, b2⟩
  have k2 := Lib.hid (k1.out.trans (b2.mono k1.out.size))
  clear b2 hh
  go_wp2_with (fail)
  go_ret
  exact ⟨rfl, k2.out⟩
theorem meets1_any (a b c d : ByteArray) (rb : Nat) (w : World) (hs : szG (a, b)) (hs2 : szG (c, d)) (hb : w.heap[rb]? = some (.cells #[.string c, .string d] 25 (0, 0))) :
    Calls Tryz.prog 54 #[.agg #[.string a, .string b], .pointer (some ⟨rb, 0, none⟩)] w fun e w' => e = .returned (.bool (meetB (a, b) (c, d))) ∧ Below w.heap.size w w' := by
  obtain ⟨W1, hW1⟩ : ∃ W1, W1 = w.alloc (.cells #[.string a, .string b] 25) := ⟨_, rfl⟩
  have k1 : Below w.heap.size w W1 := by rw [hW1]; exact (Below.refl _ w).alloc (Nat.le_refl _) _
  have hh := meet_any a b c d W1 hs hs2
  have s0 := blkC hb 0; have s1 := blkC hb 1
  simp only [List.getElem?_toArray, List.getElem?_cons_zero, List.getElem?_cons_succ] at s0 s1
  have hx := blkX hb
  generalize meetB (a, b) (c, d) = r at *
  replace hb := Lib.hid hb; replace k1 := Lib.hid k1; replace hs := Lib.hid hs
  go_enter Tryz.func54, Tryz.ntmps54
  go_wp2_with (fail)
  rw [← hW1]
  replace hW1 := Lib.hid hW1
  refine hh.mono ?_
  rintro e w2 ⟨u1, u2, v, rfl, b2⟩
  have k2 := Lib.hid (k1.out.trans (b2.mono k1.out.size))
  clear b2 hh
  go_wp2_with (fail)
  go_ret
  exact ⟨rfl, k2.out.alloc k2.out.size _⟩
def ownsB (x : Sh) (key : ByteArray) : Bool := x.own.any fun g => hasG g key
set_option maxHeartbeats 4000000 in
theorem shOwns_any {base : Nat} {p : Pl} {x : Sh} {w : World} (h : ShW base p x w) (hn : x.own.length ≤ 1000000) (key : ByteArray) (hk : key.size ≤ 140737488355328) : Calls Tryz.prog 10 #[.pointer (some ⟨p.S, 0, none⟩), .string key] w fun e w' => e = .returned (.bool (ownsB x key)) ∧ Below w.heap.size w w' := by
  obtain ⟨W1, hW1⟩ : ∃ W1, W1 = w.alloc (.cells #[.string key] 9) := ⟨_, rfl⟩
  have k1 : Below w.heap.size w W1 := by rw [hW1]; exact (Below.refl _ w).alloc (Nat.le_refl _) _
  have q1 : W1.heap[w.heap.size]? = some (.cells #[.string key] 9 (0, 0)) := by rw [hW1]; exact hpNew _ _
  have h1 := h.below k1
  have hv := shValid_any h1
  have c2 : W1.cell? ⟨p.S, 2, none⟩ = some (.slice p.A x.own.length p.c) := blkC h1.blk 2
  have hlt := h1.lt
  have hc := contG_any (g := 36) (lb := #[.pointer (some ⟨w.heap.size, 0, none⟩)]) (c := p.c) (p := fun g => hasG g key) (enters_of Tryz.func36 (by kernel_rfl) rfl) h1.gs hn (fun y hy W hb => owns1_any y.1 y.2 key w.heap.size W (okG_sz (h.ok y hy)) hk ((hb.block _ (blkX q1)).trans q1))
  rw [show x.own.any (fun g => hasG g key) = ownsB x key from rfl] at hc
  generalize ownsB x key = r at *
  replace h := Lib.hid h; replace h1 := Lib.hid h1; replace k1 := Lib.hid k1; replace q1 := Lib.hid q1
  go_enter Tryz.func10, Tryz.ntmps10
  go_wp2_with (fail)
  rw [← hW1]
  replace hW1 := Lib.hid hW1
  refine hv.mono ?_
  rintro e w2 ⟨rfl, rfl⟩
  go_wp2_with (fail)
  refine hc.mono ?_
  rintro e w3 ⟨rfl, b3⟩
  have k3 := Lib.hid (k1.out.trans (b3.mono k1.out.size))
  clear b3 hc
  go_wp2_with (fail)
  go_ret
  exact ⟨rfl, k3.out⟩
end Go.Proofs.YtkpfkabdodnooaaGreatDoor

namespace Go.Proofs.YtkpfkabdodnooaaGreatDoor
open Go.RowKit Go.Shelf
set_option linter.unusedSimpArgs false
set_option linter.unusedVariables false
set_option linter.unusedSectionVars false
set_option maxRecDepth 10000
structure Cd where
  k : Int
  call : Int
  saga : Int
  e : Ef
  key : ByteArray
  dl : Int
  mv : Int
  r : Rg
  gr : Int
  dn : ByteArray
  dr : Int
  dd : Int
  dA : Option Addr
  dl' : Nat
  dc : Nat
  ie : Ef
  im : Int
  ii : Bool
  ig : Int
  res : Int
  dat : ByteArray
def cdV (c : Cd) : Array Value := #[.int .i64 c.k, .int .i64 c.call, .int .i64 c.saga, .int .i64 c.e.1, .int .i64 c.e.2.1, .int .i64 c.e.2.2, .string c.key, .int .i64 c.dl, .int .i64 c.mv, .string c.r.1, .string c.r.2, .int .i64 c.gr, .string c.dn, .int .i64 c.dr, .int .i64 c.dd, .slice c.dA c.dl' c.dc, .int .i64 c.ie.1, .int .i64 c.ie.2.1, .int .i64 c.ie.2.2, .int .i64 c.im, .bool c.ii, .int .i64 c.ig, .int .i64 c.res, .string c.dat]
structure ShTo (base : Nat) (p p' : Pl) (x' : Sh) (w w' : World) : Prop where
  sh : ShW base p' x' w'
  chg : Chg p.foot w w'
  new : ∀ k, p'.foot k → p.foot k ∨ w.heap.size ≤ k
  same : p'.S = p.S
section
variable {base : Nat} {p p' p'' : Pl} {x x' x'' : Sh} {w w0 w' w'' : World}
theorem ShTo.below (h : ShW base p x w) (hb : Below w.heap.size w w') : ShTo base p p x w w' := ⟨h.below hb, Chg.of_below hb _, fun k hk => .inl hk, rfl⟩
theorem ShTo.pre (h : ShTo base p p' x' w w') (hb : Below w0.heap.size w0 w) : ShTo base p p' x' w0 w' :=
  ⟨h.sh, (Chg.of_below hb _).trans h.chg (fun _ _ q => q), fun k hk => (h.new k hk).imp id fun q => Nat.le_trans hb.size q, h.same⟩
theorem ShTo.trans (h : ShTo base p p' x' w w') (h2 : ShTo base p' p'' x'' w' w'') : ShTo base p p'' x'' w w'' :=
  ⟨h2.sh, h.chg.trans h2.chg fun k hk q => (h.new k q).elim id fun q => absurd hk (by omega), fun k hk => (h2.new k hk).elim (h.new k) fun q => .inr (Nat.le_trans h.chg.size q), h2.same.trans h.same⟩
theorem ShTo.thenB (h : ShTo base p p' x' w w') (hb : Below w'.heap.size w' w'') : ShTo base p p' x' w w'' := h.trans (ShTo.below h.sh hb)
theorem ShTo.blk (h : ShTo base p p' x' w w') {k : Nat} {o : Obj} (hk : w.heap[k]? = some o) (hn : ¬ p.foot k) : w'.heap[k]? = some o := (h.chg.block k (Array.getElem?_eq_some_iff.1 hk).1 hn).trans hk
theorem MapOf.ncell {P : Program} {k : TypeId} {b n : Nat} {f : Value → Option Value} (h : MapOf P k w b n f) {cs : Array Value} {T : TypeId} {fr : Nat × Nat} : w.heap[b]? ≠ some (.cells cs T fr) := by
  obtain ⟨D, ⟨es, clock, hb, _⟩, _⟩ := h
  rw [hb]
  intro q; cases q
theorem ne_cells {a b : Nat} {cs ds : Array Value} {T U : TypeId} {f g : Nat × Nat} (ha : w.heap[a]? = some (Obj.cells cs T f)) (hb : w.heap[b]? = some (Obj.cells ds U g)) (h : T ≠ U) : a ≠ b := by
  rintro rfl
  rw [ha] at hb
  injection hb with hb
  injection hb with _ hb
  exact h hb
theorem row_cells {base n c size : Nat} {e : TypeId} {A : Option Addr} {xs : List Value} (h : w.ownsRow base e size (.slice A n c) n xs) {g : Nat} (hg : rowOf A = some g) : ∃ cs, w.heap[g]? = some (.cells cs e (0, 0)) := by
  rcases h.2 with ⟨q, _⟩ | ⟨g', cap, cur, e1, e2, hh, _⟩
  · injection q with q; rw [q] at hg; cases hg
  · injection e1 with e1
    rw [e1] at hg
    injection hg with hg
    subst hg
    exact ⟨_, hh⟩
theorem ShW.setCnt (h : ShW base p x w) {l : Ct} (hs : StTo base p.St p.M l w w') : ShTo base p p { x with cnt := l } w w' := by
  have hM : ∀ (k : Nat) (cs : Array Value) (T : TypeId) (f : Nat × Nat), w.heap[k]? = some (.cells cs T f) → k ≠ p.M := fun k cs T f hk q => MapOf.ncell h.st.map (q ▸ hk)
  have hk : ∀ k, k ≠ p.M → k < w.heap.size → w'.heap[k]? = w.heap[k]? := fun k hk hl => hs.chg.block k hl hk
  refine ⟨⟨h.ge, h.gg, h.gt, (hk _ (hM _ _ _ _ h.blk) (blkX h.blk)).trans h.blk, ?_, hs.st, h.mem.keep hs.chg.size fun k hl q => ?_, MapOf.keep h.giv (hk _ h.nMG.symm h.giv.lt), MapOf.keep h.tak (hk _ h.nMT.symm h.tak.lt), h.ok, h.ord, h.okm, h.ogiv, h.otak, h.nMG, h.nMT, h.nGT⟩, ⟨hs.chg.os, hs.chg.tape, hs.chg.output, hs.chg.size, fun k hl q => hs.chg.block k hl fun e => q (.inr (.inr (.inl e)))⟩, fun k hk => .inl hk, rfl⟩
  · rcases h.own.2 with e | ⟨g, cp, cur, e1, e2, hh, r⟩
    · exact ⟨h.own.1, .inl e⟩
    · exact ⟨h.own.1, .inr ⟨g, cp, cur, e1, e2, (hk g (hM _ _ _ _ hh) (blkX hh)).trans hh, r⟩⟩
  · rcases q with rfl | q
    · exact hk _ (hM _ _ _ _ h.mem.blk) hl
    · obtain ⟨cs, hc⟩ := row_cells h.mem.own q
      exact hk _ (hM _ _ _ _ hc) hl
theorem ShW.setMem (h : ShW base p x w) {A' : Option Addr} {c' : Nat} {P : List En} (ht : TabP base p.D 2048 A' c' P w') (hm : Mv p.D p.AD A' w w') (ho : Ord P) (hk : ∀ y ∈ P, okP y = true) : ShTo base p { p with AD := A', cD := c' } { x with mem := P } w w' := by
  have hn : ∀ k, k < w.heap.size → k ≠ p.D → rowOf p.AD ≠ some k → w'.heap[k]? = w.heap[k]? := fun k hl q1 q2 => hm.chg.block k hl fun q => q.elim q1 q2
  have hty : ∀ (k : Nat) (cs : Array Value) (T : TypeId) (f : Nat × Nat), w.heap[k]? = some (.cells cs T f) → T ≠ 172 → T ≠ 111 → w'.heap[k]? = some (.cells cs T f) := fun k cs T f hc h1 h2 =>
    (hn k (blkX hc) (ne_cells hc h.mem.blk h1) (h.mem.rowNe hc h2)).trans hc
  have hmp : ∀ {kt : TypeId} {b n : Nat} {f : Value → Option Value}, MapOf Tryz.prog kt w b n f → w'.heap[b]? = w.heap[b]? := fun hb => hn _ hb.lt (fun q => MapOf.ncell hb (q ▸ h.mem.blk)) fun q => by
    obtain ⟨cs, hc⟩ := row_cells h.mem.own q
    exact MapOf.ncell hb hc
  refine ⟨⟨h.ge, h.gg, h.gt, hty _ _ _ _ h.blk (by decide) (by decide), ?_, h.st.keep ((hty _ _ _ _ h.st.blk (by decide) (by decide)).trans h.st.blk.symm) (hmp h.st.map), ht, MapOf.keep h.giv (hmp h.giv), MapOf.keep h.tak (hmp h.tak), h.ok, ho, hk, h.ogiv, h.otak, h.nMG, h.nMT, h.nGT⟩, ⟨hm.chg.os, hm.chg.tape, hm.chg.output, hm.chg.size, fun k hl q => hm.chg.block k hl fun e => q ?_⟩, fun k hk => ?_, rfl⟩
  · rcases h.own.2 with e | ⟨g, cp, cur, e1, e2, hh, r⟩
    · exact ⟨h.own.1, .inl e⟩
    · exact ⟨h.own.1, .inr ⟨g, cp, cur, e1, e2, hty _ _ _ _ hh (by decide) (by decide), r⟩⟩
  · rcases e with e | e
    · exact .inr (.inr (.inr (.inl e)))
    · exact .inr (.inr (.inr (.inr (.inr (.inr (.inr e))))))
  · rcases hk with q | q | q | q | q | q | q | q
    · exact .inl (.inl q)
    · exact .inl (.inr (.inl q))
    · exact .inl (.inr (.inr (.inl q)))
    · exact .inl (.inr (.inr (.inr (.inl q))))
    · exact .inl (.inr (.inr (.inr (.inr (.inl q)))))
    · exact .inl (.inr (.inr (.inr (.inr (.inr (.inl q))))))
    · exact .inl (.inr (.inr (.inr (.inr (.inr (.inr (.inl q)))))))
    · rcases hm.at_ with e | ⟨g, e, hg⟩
      · exact .inl (.inr (.inr (.inr (.inr (.inr (.inr (.inr (e ▸ q))))))))
      · rw [show ({ p with AD := A', cD := c' } : Pl).AD = A' from rfl, e] at q
        injection q with q
        exact .inr (q ▸ hg)
end
theorem refused_any (z : Int) (w : World) : Calls Tryz.prog 28 #[.int .i64 z] w fun e w' => e = .returned (.agg #[.int .i64 z, .int .i64 0, .string ⟨#[]⟩]) ∧ Below w.heap.size w w' := by
  go_enter Tryz.func28, Tryz.ntmps28
  go_wp2_with (fail)
  refine bodyPost_ret (by simp [results, Tryz.results28, go_sem, *]; try with_reducible rfl) rfl ?_
  exact ⟨rfl, (Below.refl _ w).alloc (Nat.le_refl _) _⟩
theorem of_any (y : Ef) (ph : Int) (w : World) : Calls Tryz.prog 62 #[.agg #[.int .i64 y.1, .int .i64 y.2.1, .int .i64 y.2.2], .int .i64 ph] w fun e w' => e = .returned (.agg #[.int .i64 y.1, .int .i64 y.2.1, .int .i64 ph]) ∧ Below w.heap.size w w' := by
  go_enter Tryz.func62, Tryz.ntmps62
  go_wp2_with (fail)
  refine bodyPost_ret (by simp [results, Tryz.results62, go_sem, *]; try with_reducible rfl) rfl ?_
  exact ⟨rfl, ((Below.refl _ w).alloc (Nat.le_refl _) _).alloc (by simp) _⟩
theorem shApplied_any {base : Nat} {p : Pl} {x : Sh} {w : World} (h : ShW base p x w) : Calls Tryz.prog 13 #[.pointer (some ⟨p.S, 0, none⟩)] w fun e w' => e = .returned (.int .i64 x.app) ∧ w' = w := by
  have hv := shValid_any h
  have c1 : w.cell? ⟨p.S, 1, none⟩ = some (.int .i64 x.app) := blkC h.blk 1
  have hlt := h.lt
  replace h := Lib.hid h
  go_enter Tryz.func13, Tryz.ntmps13
  go_wp2_with (fail)
  refine hv.mono ?_
  rintro e w2 ⟨rfl, rfl⟩
  go_wp2_with (fail)
  go_ret
  exact ⟨rfl, rfl⟩
end Go.Proofs.YtkpfkabdodnooaaGreatDoor
