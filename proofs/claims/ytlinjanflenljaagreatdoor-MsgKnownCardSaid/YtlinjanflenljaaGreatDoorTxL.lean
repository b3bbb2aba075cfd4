/- The text of a list of entries. -/
import Derived.Test.YtlinjanflenljaaGreatDoorSome
import Derived.OrdersHeld
import Derived.Deep.RegionHeld
namespace Go.Proofs.YtlinjanflenljaaGreatDoor
open Go.RowKit
set_option linter.unusedSimpArgs false
set_option linter.unusedVariables false
set_option linter.unusedSectionVars false
set_option maxRecDepth 10000
def encS (s : ByteArray) : List Value := [.string s]
theorem encS_len (s : ByteArray) : (encS s).length = 1 := rfl
theorem encS_one (s : ByteArray) : ∀ u ∈ encS s, u.oneCell' = true := by intro u hu; simp [encS] at hu; subst hu; rfl
theorem elemStr : Elem Tryz.prog 43 9 1 16 := elem_of (z := .string ⟨#[]⟩) Tryz.underlying43 (by kernel_rfl) rfl (by omega)
theorem str_one (W : World) (R : ByteArray) : SL encS 1 (W.alloc (.cells #[.string R] 9)) (some ⟨W.heap.size, 0, none⟩) 1 [R] := by
  refine ⟨rfl, fun _ => ⟨W.heap.size, 0, rfl, by simp, fun i x hx j u hu => ?_⟩⟩
  have hi : i = 0 := by have := (List.getElem?_eq_some_iff.1 hx).1; simp at this; omega
  subst hi
  simp only [List.getElem?_cons_zero, Option.some.injEq] at hx
  subst hx
  have hj : j = 0 := by have := (List.getElem?_eq_some_iff.1 hu).1; simp [encS] at this; omega
  subst hj
  simp only [encS, List.getElem?_cons_zero, Option.some.injEq] at hu
  subst hu
  exact blkC (hpNew W _) 0
theorem own_keep {w w' : World} {B e size n : Nat} {A : Option Addr} {c : Nat} {xs : List Value} (h : w.ownsRow B e size (.slice A n c) n xs) (hb : Below w.heap.size w w') : w'.ownsRow B e size (.slice A n c) n xs := by
  refine ⟨h.1, ?_⟩
  rcases h.2 with e | ⟨k, cp, cur, e, hbk, hh, rest⟩
  · exact .inl e
  · exact .inr ⟨k, cp, cur, e, hbk, (hb.block k (blkX hh)).trans hh, rest⟩
/-- A row of texts that the call made. -/
structure LT (w : World) (xs : List ByteArray) (A : Option Addr) (n c : Nat) (W : World) : Prop where
  bel : Below w.heap.size w W
  own : W.ownsRow w.heap.size 9 1 (.slice A n c) n (flat encS xs)
  len : xs.length = n
theorem LT.keep {w W W' : World} {xs : List ByteArray} {A : Option Addr} {n c : Nat} (h : LT w xs A n c W) (hb : Below W.heap.size W W') : LT w xs A n c W' := ⟨h.bel.trans (hb.mono h.bel.size), own_keep h.own hb, h.len⟩
theorem LT.castL {w W : World} {xs ys : List ByteArray} {A : Option Addr} {n c : Nat} (h : LT w xs A n c W) (e : ys = xs) : LT w ys A n c W := e ▸ h
theorem LT.app {w W W' : World} {xs : List ByteArray} {R : ByteArray} {A A' : Option Addr} {n c c' : Nat} (h : LT w xs A n c W) (ho : W'.ownsRow w.heap.size 9 1 (.slice A' (n + 1) c') (n + 1) (flat encS (xs ++ [R]))) (hg : W.grownBy W' (rowOf A)) : LT w (xs ++ [R]) A' (n + 1) c' W' :=
  ⟨h.bel.grown hg h.bel.size fun g e => (own_row h.own g e).1, ho, by simp [h.len]⟩
theorem LT.ne {w W : World} {xs : List ByteArray} {A : Option Addr} {n c E : Nat} {cs : Array Value} (h : LT w xs A n c W) (hE : W.heap[E]? = some (.cells cs 45 (0, 0))) : ¬ some E = rowOf A := fun e => by
  rcases h.own.2 with ⟨e2, _⟩ | ⟨k, cp, cur, e2, _, hh, _⟩
  · injection e2 with e2; subst e2; cases e
  · injection e2 with e2
    subst e2
    injection e with e
    have e : E = k := e
    subst e
    rw [hE] at hh
    injection hh with hh
    injection hh with _ ht
    exact absurd ht (by decide)
/-- An entry whose text can be written. -/
def txtE (e : Ent) : Prop := (0 ≤ e.sl ∧ e.sl ≤ 4096) ∧ vld e.ro e.no 7 = true ∧ e.v.length ≤ 65536
theorem some_len (v : List UInt8) (h : v.length ≤ 65536) : (someV v).length ≤ 29 := by
  have h1 := dec_len20 v.length (by omega)
  have h2 := hex8_len (crcN v)
  simp only [someV, List.length_append, List.length_cons]; omega
theorem tEnt_len {e : Ent} (h : txtE e) : (tEnt e).length ≤ 80 := by
  obtain ⟨h1, h2, h3⟩ := h
  have a := dec_len20 e.sl.toNat (by omega)
  have b := (txt_len h2).1
  have c := some_len e.v h3
  simp only [tEnt, List.length_append, List.length_cons]; omega
theorem tail_len : ∀ {l : List Ent}, (∀ e ∈ l, txtE e) → (Lib.joinTail [32] (l.map tEnt)).length ≤ 100 * l.length
  | [], _ => by simp [Lib.joinTail]
  | e :: l, h => by
    have h1 := tEnt_len (h e (by simp))
    have h2 := tail_len (l := l) fun x hx => h x (by simp [hx])
    have h3 : Lib.joinTail [32] (List.map tEnt (e :: l)) = 32 :: tEnt e ++ Lib.joinTail [32] (l.map tEnt) := by simp [Lib.joinTail]
    rw [h3]
    simp only [List.length_append, List.length_cons]; omega
theorem join_len {l : List Ent} (h : ∀ e ∈ l, txtE e) : (Lib.join (l.map tEnt) [32]).length ≤ 100 * l.length + 100 := by
  cases l with
  | nil => simp [Lib.join_nil]
  | cons e l =>
    rw [List.map_cons, Lib.join_cons]
    have h1 := tEnt_len (h e (by simp))
    have h2 := tail_len (l := l) fun x hx => h x (by simp [hx])
    simp only [List.length_append, List.length_cons]; omega
attribute [-go_sem] run_string_add_if
attribute [local go_sem ↓] hideAppend
set_option maxHeartbeats 16000000 in
theorem tx4_any (m : Mg) (A : Option Addr) (c : Nat) (w : World) (hL : Ldr w) (hE : ES w A m.l.length m.l) (hn : m.l.length ≤ 4096) (hf : ∀ e ∈ m.l, txtE e) : Calls Tryz.prog 87 #[.agg #[.int .i64 m.k, .int .i64 m.fr, .int .i64 m.tt, .int .i64 m.ro, .int .i64 m.no, .int .i64 m.sl, .int .i64 m.nu, .string (sOf m.v), .slice A m.l.length c]] w fun e w' => e = .returned (.string (sOf (fText 4 m))) ∧ Below w.heap.size w w' := by
  have kb := (Below.refl _ w).alloc (Nat.le_refl _) (.cells #[.int .i64 m.k, .int .i64 m.fr, .int .i64 m.tt, .int .i64 m.ro, .int .i64 m.no, .int .i64 m.sl, .int .i64 m.nu, .string (sOf m.v), .slice A m.l.length c] 28)
  have hjl := join_len hf
  have hfin : fText 4 m = Lib.join (m.l.map tEnt) [32] := rfl
  obtain ⟨n, hN⟩ : ∃ n, n = m.l.length := ⟨_, rfl⟩
  rw [← hN] at hE hn hjl kb
  replace kb := Lib.hid kb; replace hN := Lib.hid hN; replace hE := Lib.hid hE; replace hL := Lib.hid hL; replace hf := Lib.hid hf; replace hfin := Lib.hid hfin; replace hjl := Lib.hid hjl
  go_enter Tryz.func87, Tryz.ntmps87
  rw [← hN.out]
  go_wp2_with (fail)
  go_loopw [3, 9] (fun ll i wr => ∃ (k : Nat) (A1 : Option Addr) (c1 : Nat), k ≤ n ∧ i = .int .i64 k ∧ ll = .slice A1 k c1 ∧ LT w ((m.l.take k).map fun e => sOf (tEnt e)) A1 k c1 wr) (fun _ i _ => n - (intOf i).toNat)
  case atStart => exact ⟨0, none, 0, by omega, rfl, rfl, ⟨kb.out, World.ownsRow_nil _ _ _ _, rfl⟩⟩
  case round =>
    clear kb
    revert wr
    intro W1 hrel
    obtain ⟨k, A1, cq, hk, rfl, rfl, hT⟩ := hrel
    by_cases hlt : k < n
    · obtain ⟨b, o, x, rfl, hbl, hx, c0, c1, c2, c3⟩ := ES.at_ (SL.keep hE.out hT.bel) hlt
      obtain ⟨f1, f2, f3⟩ := hf.out x (List.mem_of_getElem? hx)
      have hsn := Lib.hid (show ((m.l.take (k + 1)).map fun e => sOf (tEnt e)) = ((m.l.take k).map fun e => sOf (tEnt e)) ++ [sOf (tEnt x)] from by rw [List.take_add_one, hx]; simp)
      have hci := fun W hW => itoa_any x.sl f1.1 (by omega) W hW
      have hcn := fun W hW => name_any x.ro x.no f2 W hW
      have hcs := fun W hW => some_any x.v (by omega) W hW
      have d1 := dec_len20 x.sl.toNat (by omega)
      have d2 := (txt_len f2).1
      have d3 := some_len x.v f3
      obtain ⟨S1, hS1⟩ : ∃ S, S = sOf (Lib.decDigits x.sl.toNat) := ⟨_, rfl⟩
      rw [show (⟨(Lib.decDigits x.sl.toNat).toArray⟩ : ByteArray) = S1 from hS1.symm] at hci
      obtain ⟨S2, hS2⟩ : ∃ S, S = sOf (txt x.ro x.no) := ⟨_, rfl⟩
      rw [← hS2] at hcn
      obtain ⟨S3, hS3⟩ : ∃ S, S = sOf (someV x.v) := ⟨_, rfl⟩
      rw [← hS3] at hcs
      obtain ⟨T1, hT1⟩ : ∃ S, S = sOf (Lib.decDigits x.sl.toNat ++ [47]) := ⟨_, rfl⟩
      obtain ⟨T2, hT2⟩ : ∃ S, S = sOf (Lib.decDigits x.sl.toNat ++ [47] ++ txt x.ro x.no) := ⟨_, rfl⟩
      obtain ⟨T3, hT3⟩ : ∃ S, S = sOf (Lib.decDigits x.sl.toNat ++ [47] ++ txt x.ro x.no ++ [47]) := ⟨_, rfl⟩
      obtain ⟨R, hR⟩ : ∃ S, S = sOf (tEnt x) := ⟨_, rfl⟩
      have a1 := add_run (T := ⟨#[47]⟩) hS1 rfl hT1 (by simp; omega)
      have a2 := add_run hT1 hS2 hT2 (by simp; omega)
      have a3 := add_run (T := ⟨#[47]⟩) hT2 rfl hT3 (by simp; omega)
      have a4 := add_run hT3 hS3 (hR.trans (by simp [tEnt])) (by simp; omega)
      have k0 : (0 : Int) ≤ k := by omega
      have k1 : (k : Int) < (n : Int) := by omega
      obtain ⟨W0, hW0⟩ : ∃ W0, W0 = W1.alloc (.cells #[.int .i64 x.sl, .int .i64 x.ro, .int .i64 x.no, .string (sOf x.v)] 45) := ⟨_, rfl⟩
      have hE0 : W0.drew.heap[W1.heap.size]? = some (.cells #[.int .i64 x.sl, .int .i64 x.ro, .int .i64 x.no, .string (sOf x.v)] 45 (0, 0)) := by rw [hW0]; exact hpNew W1 _
      have hT0 : LT w ((m.l.take k).map fun e => sOf (tEnt e)) A1 k cq W0.drew := hT.keep (by rw [hW0]; exact ((Below.refl _ W1).alloc (Nat.le_refl _) _).drew)
      have hS : ∀ W' : World, W'.heap[W1.heap.size]? = some (.cells #[.int .i64 x.sl, .int .i64 x.ro, .int .i64 x.no, .string (sOf x.v)] 45 (0, 0)) → (W'.cell? ⟨W1.heap.size, 0, none⟩ = some (.int .i64 x.sl) ∧ W'.cell? ⟨W1.heap.size, 1, none⟩ = some (.int .i64 x.ro) ∧ W'.cell? ⟨W1.heap.size, 2, none⟩ = some (.int .i64 x.no) ∧ W'.cell? ⟨W1.heap.size, 3, none⟩ = some (.string (sOf x.v))) := fun W' h => ⟨blkC h 0, blkC h 1, blkC h 2, blkC h 3⟩
      replace hS := Lib.hid hS; replace hE0 := Lib.hid hE0; replace hR := Lib.hid hR
      clear hT hx f1 f2 f3 d1 d2 d3 hS1 hS2 hS3 hT1 hT2 hT3
      have hT := Lib.hid hT0
      have hE := hE0
      clear hT0
      go_wp2_with (fail)
      rw [← hW0]
      clear hW0
      refine wp_region_held_drew (S := (fun W' => W'.cell? ⟨W1.heap.size, 0, none⟩ = some (.int .i64 x.sl) ∧ W'.cell? ⟨W1.heap.size, 1, none⟩ = some (.int .i64 x.ro) ∧ W'.cell? ⟨W1.heap.size, 2, none⟩ = some (.int .i64 x.no) ∧ W'.cell? ⟨W1.heap.size, 3, none⟩ = some (.string (sOf x.v)))) (by kernel_rfl) ?_ (fun hH => ?_)
      · exact hS.out _ hE0.out
      generalize W0.drew = V0 at *
      refine wpAnyH_take (i := 0) (v := ?_) rfl (by kernel_rfl) (by kernel_rfl) (by kernel_rfl) (fun _ _ _ h => h) (Or.inl ⟨by rfl, by intro w hSw; go_simp; first | done | with_reducible rfl⟩) hH ?_
      simp only [List.getElem_toArray, List.getElem_cons_succ, List.getElem_cons_zero, Act.put, List.setIfInBounds_toArray, List.set_cons_zero, List.set_cons_succ]
      refine wpAnyH_take (i := 1) (v := ?_) rfl (by kernel_rfl) (by kernel_rfl) (by kernel_rfl) (fun _ _ _ h => h) (Or.inl ⟨by rfl, by intro w hSw; go_simp; first | done | with_reducible rfl⟩) hH ?_
      simp only [List.getElem_toArray, List.getElem_cons_succ, List.getElem_cons_zero, Act.put, List.setIfInBounds_toArray, List.set_cons_zero, List.set_cons_succ]
      refine wpAnyH_take (i := 2) (v := ?_) rfl (by kernel_rfl) (by kernel_rfl) (by kernel_rfl) (fun _ _ _ h => h) (Or.inl ⟨by rfl, by intro w hSw; obtain ⟨s0, s1, s2, s3⟩ := hSw; go_simp; first | done | with_reducible rfl⟩) hH ?_
      simp only [List.getElem_toArray, List.getElem_cons_succ, List.getElem_cons_zero, Act.put, List.setIfInBounds_toArray, List.set_cons_zero, List.set_cons_succ]
      refine wpAnyH_take (i := 5) (v := ?_) rfl (by kernel_rfl) (by kernel_rfl) (by kernel_rfl) (fun _ _ _ h => h) (Or.inl ⟨by rfl, by intro w hSw; go_simp; first | done | with_reducible rfl⟩) hH ?_
      simp only [List.getElem_toArray, List.getElem_cons_succ, List.getElem_cons_zero, Act.put, List.setIfInBounds_toArray, List.set_cons_zero, List.set_cons_succ]
      refine wpAnyH_take (i := 6) (v := ?_) rfl (by kernel_rfl) (by kernel_rfl) (by kernel_rfl) (fun _ _ _ h => h) (Or.inl ⟨by rfl, by intro w hSw; obtain ⟨s0, s1, s2, s3⟩ := hSw; go_simp; first | done | with_reducible rfl⟩) hH ?_
      simp only [List.getElem_toArray, List.getElem_cons_succ, List.getElem_cons_zero, Act.put, List.setIfInBounds_toArray, List.set_cons_zero, List.set_cons_succ]
      refine wpAnyH_take (i := 10) (v := ?_) rfl (by kernel_rfl) (by kernel_rfl) (by kernel_rfl) (fun _ _ _ h => h) (Or.inl ⟨by rfl, by intro w hSw; go_simp; first | done | with_reducible rfl⟩) hH ?_
      simp only [List.getElem_toArray, List.getElem_cons_succ, List.getElem_cons_zero, Act.put, List.setIfInBounds_toArray, List.set_cons_zero, List.set_cons_succ]
      refine wpAnyH_take (i := 11) (v := ?_) rfl (by kernel_rfl) (by kernel_rfl) (by kernel_rfl) (fun _ _ _ h => h) (Or.inl ⟨by rfl, by intro w hSw; obtain ⟨s0, s1, s2, s3⟩ := hSw; go_simp; first | done | with_reducible rfl⟩) hH ?_
      simp only [List.getElem_toArray, List.getElem_cons_succ, List.getElem_cons_zero, Act.put, List.setIfInBounds_toArray, List.set_cons_zero, List.set_cons_succ]
      refine wpAnyH_ready (rs := [3]) (by kernel_rfl) (by simp) ?_
      refine AllReadyH.cons rfl (fun K hK => ?_) ?_
      · clear hH
        go_simp
        refine (hci _ (hL.out.keep hT.out.bel)).mono ?_
        rintro e' V1 ⟨rfl, bb⟩
        have hT1 := Lib.hid (hT.out.keep bb)
        have hE1 := Lib.hid ((bb.block _ (blkX hE.out)).trans hE.out)
        clear hT hE; have hT := hT1; have hE := hE1; clear hT1 hE1 bb
        refine hK.out _ _ (hS.out _ hE.out) (fun hH => ?_)
        clear hK K
        refine wpAnyH_take (i := 4) (v := ?_) rfl (by kernel_rfl) (by kernel_rfl) (by kernel_rfl) (fun _ _ _ h => h) (Or.inl ⟨by rfl, by intro w hSw; go_simp; first | done | with_reducible rfl⟩) hH ?_
        simp only [List.getElem_toArray, List.getElem_cons_succ, List.getElem_cons_zero, Act.put, List.setIfInBounds_toArray, List.set_cons_zero, List.set_cons_succ]
        refine wpAnyH_ready (rs := [7]) (by kernel_rfl) (by simp) ?_
        refine AllReadyH.cons rfl (fun K hK => ?_) ?_
        · clear hH
          go_simp
          refine (hcn _ (hL.out.keep hT.out.bel)).mono ?_
          rintro e' V2 ⟨rfl, bb⟩
          have hT1 := Lib.hid (hT.out.keep bb)
          have hE1 := Lib.hid ((bb.block _ (blkX hE.out)).trans hE.out)
          clear hT hE; have hT := hT1; have hE := hE1; clear hT1 hE1 bb
          refine hK.out _ _ (hS.out _ hE.out) (fun hH => ?_)
          clear hK K
          refine wpAnyH_take (i := 8) (v := ?_) rfl (by kernel_rfl) (by kernel_rfl) (by kernel_rfl) (fun _ _ _ h => h) (Or.inl ⟨by rfl, by intro w hSw; go_simp; first | done | with_reducible rfl⟩) hH ?_
          simp only [List.getElem_toArray, List.getElem_cons_succ, List.getElem_cons_zero, Act.put, List.setIfInBounds_toArray, List.set_cons_zero, List.set_cons_succ]
          refine wpAnyH_take (i := 9) (v := ?_) rfl (by kernel_rfl) (by kernel_rfl) (by kernel_rfl) (fun _ _ _ h => h) (Or.inl ⟨by rfl, by intro w hSw; go_simp; first | done | with_reducible rfl⟩) hH ?_
          simp only [List.getElem_toArray, List.getElem_cons_succ, List.getElem_cons_zero, Act.put, List.setIfInBounds_toArray, List.set_cons_zero, List.set_cons_succ]
          refine wpAnyH_ready (rs := [12]) (by kernel_rfl) (by simp) ?_
          refine AllReadyH.cons rfl (fun K hK => ?_) ?_
          · clear hH
            go_simp
            refine (hcs _ (hL.out.keep hT.out.bel)).mono ?_
            rintro e' V3 ⟨rfl, bb⟩
            have hT1 := Lib.hid (hT.out.keep bb)
            have hE1 := Lib.hid ((bb.block _ (blkX hE.out)).trans hE.out)
            clear hT hE; have hT := hT1; have hE := hE1; clear hT1 hE1 bb
            refine hK.out _ _ (hS.out _ hE.out) (fun hH => ?_)
            clear hK K
            refine wpAnyH_take (i := 13) (v := ?_) rfl (by kernel_rfl) (by kernel_rfl) (by kernel_rfl) (fun _ _ _ h => h) (Or.inl ⟨by rfl, by intro w hSw; go_simp; first | done | with_reducible rfl⟩) hH ?_
            simp only [List.getElem_toArray, List.getElem_cons_succ, List.getElem_cons_zero, Act.put, List.setIfInBounds_toArray, List.set_cons_zero, List.set_cons_succ]
            refine wpAnyH_ready (rs := [14]) (by kernel_rfl) (by simp) ?_
            refine AllReadyH.cons rfl (fun K hK => ?_) ?_
            · clear hH
              have bb := (Below.refl _ V3).alloc (Nat.le_refl _) (.cells #[.string R] 9)
              have hN := str_one V3 R
              go_simp
              have hT1 := Lib.hid (hT.out.keep bb)
              have hE1 := Lib.hid ((bb.block _ (blkX hE.out)).trans hE.out)
              clear hT hE; have hT := hT1; have hE := hE1; clear hT1 hE1 bb
              generalize V3.alloc (.cells #[.string R] 9) = V4 at *
              replace hN := Lib.hid hN
              refine hK.out _ _ (hS.out _ hE.out) (fun hH => ?_)
              clear hK K
              refine wpAnyH_ready (rs := [15]) (by kernel_rfl) (by simp) ?_
              refine AllReadyH.cons rfl (fun K hK => ?_) ?_
              · clear hH
                obtain ⟨A', c', V5, hrun, hcap, hown, hgr, hat⟩ := append_sl elemStr encS_len encS_one (ty := 43) (d := 1) hT.out.own hT.out.bel.size hN.out (by omega) (by omega)
                have hT1 := hT.out.app hown hgr
                have hE1 := Lib.hid ((hgr.block _ (blkX hE.out) (hT.out.ne hE.out)).trans hE.out)
                clear hE hown hgr hat hcap hT; have hT := Lib.hid hT1; have hE := hE1; clear hT1 hE1
                go_simp
                refine hK.out _ _ (hS.out _ hE.out) (fun hH => ?_)
                clear hK K
                refine wpAnyH_take (i := 16) (v := ?_) rfl (by kernel_rfl) (by kernel_rfl) (by kernel_rfl) (fun _ _ _ h => h) (Or.inl ⟨by rfl, by intro w hSw; go_simp; first | done | with_reducible rfl⟩) hH ?_
                simp only [List.getElem_toArray, List.getElem_cons_succ, List.getElem_cons_zero, Act.put, List.setIfInBounds_toArray, List.set_cons_zero, List.set_cons_succ]
                refine wpAnyH_done (by kernel_rfl) ?_ _
                clear hH
                go_wp2_with (fail)
                refine ⟨⟨k + 1, A', c', by omega, by go_num, rfl, hT.out.castL ?_⟩, by simp [intOf]; omega⟩
                rw [hsn.out, ← hR.out]
              exact AllReadyH.nil
            exact AllReadyH.nil
          exact AllReadyH.nil
        exact AllReadyH.nil
      exact AllReadyH.nil
    · obtain rfl : k = n := by omega
      have hall : (m.l.take k).map (fun e => sOf (tEnt e)) = m.l.map fun e => sOf (tEnt e) := by rw [hN.out, List.take_length]
      rw [hall] at hT
      have hmm : (m.l.map fun e => sOf (tEnt e)).map (·.data.toList) = m.l.map tEnt := by rw [List.map_map]; exact List.map_congr_left fun e _ => sOf_list _
      rcases Nat.eq_zero_or_pos k with rfl | hk0
      · have h0 : m.l = [] := List.length_eq_zero_iff.1 hN.out.symm
        have hf0 := Lib.hid (show sOf (fText 4 m) = ⟨#[]⟩ from by rw [hfin.out, h0]; rfl)
        have hj := fun W => Tryz.strings_Join_none A1 cq ⟨#[32]⟩ W
        replace hT := Lib.hid hT.bel
        clear hall hmm h0
        go_wp2_with (fail)
        refine (hj _).mono ?_
        rintro e w2 ⟨rfl, rfl⟩
        go_wp2_with (fail)
        go_ret
        exact ⟨by rw [hf0.out]; rfl, hT.out⟩
      · have hsl := SL.of_own encS_len hT.own hT.len
        obtain ⟨b, o, hb1, hb2, hb3⟩ := hsl.2 hk0
        have hjn := hjl.out
        rw [← hmm] at hjn
        obtain ⟨A', c', hsh, hcp⟩ := own_shape hT.own
        have hcap : k ≤ cq := by injection hsh with _ _ e; omega
        have hj := Tryz.strings_Join b o cq (m.l.map fun e => sOf (tEnt e)) ⟨#[32]⟩ W1 (fun j s hs => by have := hb3 j s hs 0 _ rfl; simpa using this) hb2 (by rw [hT.len]; omega) (by rw [hT.len]; exact hcap) (by show (Lib.join _ [32]).length ≤ _; omega)
        rw [hT.len, hmm, show (⟨#[32]⟩ : ByteArray).data.toList = [32] from rfl, ← hfin.out, ← hb1] at hj
        rw [show (⟨(fText 4 m).toArray⟩ : ByteArray) = sOf (fText 4 m) from rfl] at hj
        obtain ⟨S, hSe⟩ : ∃ S, S = sOf (fText 4 m) := ⟨_, rfl⟩
        rw [← hSe] at hj
        replace hSe := Lib.hid hSe
        replace hT := Lib.hid hT.bel
        clear hall hmm hsl hb1 hb2 hb3 hjn hsh
        go_wp2_with (fail)
        refine hj.mono ?_
        rintro e w2 ⟨rfl, b2⟩
        have hb := Lib.hid (hT.out.trans (b2.mono hT.out.size))
        clear b2
        go_wp2_with (fail)
        go_ret
        exact ⟨by rw [← hSe.out]; rfl, hb.out⟩
end Go.Proofs.YtlinjanflenljaaGreatDoor
