/- Definitions and their effects: whether they are allowed: the program's. -/
import Derived.Test.YthmkfbabacehnaaDoorDefn
namespace Go.Proofs.YthmkfbabacehnaaDoor
open Go.RowKit Go.Shelf
set_option linter.unusedSimpArgs false
set_option linter.unusedVariables false
set_option linter.unusedSectionVars false
set_option maxRecDepth 10000
set_option maxHeartbeats 1000000 in
theorem contF_none (B : Option Addr) (d : Nat) (fv : Value) (w : World) : Calls Tryd.prog 31 #[.slice B 0 d, fv] w fun e w' => e = .returned (.bool false) ∧ Below w.heap.size w w' := by
  have hI : ∀ W : World, Calls Tryd.prog 51 #[.slice B 0 d, fv] W fun e w' => e = .returned (.int .i64 (-1)) ∧ w' = W := fun W => by
    go_enter Tryd.func51, Tryd.ntmps51
    go_wp2_with (fail)
    go_loop [8] (fun i => i = .int .i64 0) (fun _ => 0)
    case atStart => rfl
    case round =>
      subst hrel
      go_wp2_with (fail)
      go_ret
      exact ⟨rfl, rfl⟩
  go_enter Tryd.func31, Tryd.ntmps31
  go_wp2_with (fail)
  refine (hI _).mono ?_
  rintro e w' ⟨rfl, rfl⟩
  go_wp2_with (fail)
  go_ret
  exact ⟨rfl, Below.refl _ _⟩
theorem okA_iff2 (n : Nat) (x : Ef) : okA n x = true ↔ okE x = true ∧ x.2.1 < n := by simp [okA]
/-- What the closure of check asks. -/
theorem chk1_any (g : Nat) (A : Option Addr) (n c : Nat) (w : World) (hg : g < w.heap.size) (h3 : w.cell? ⟨g, 3, none⟩ = some (.slice A n c)) : PredBelow Tryd.prog 32 #[.pointer (some ⟨g, 0, none⟩)] (fun x => .agg (encE x).toArray) (fun x => !okA n x) w := fun W x hbw => by
  obtain ⟨a, b, e⟩ := x
  have h3W := (hbw.cell (p := ⟨g, 3, none⟩) hg).trans h3
  have hgW := Nat.lt_of_lt_of_le hg hbw.size
  have kb := (Below.refl W.heap.size W).alloc (Nat.le_refl _) (.cells #[.int .i64 a, .int .i64 b, .int .i64 e] 56)
  have hc := fun V => checkE_any a b e V
  show Calls Tryd.prog 32 #[.agg #[.int .i64 a, .int .i64 b, .int .i64 e], .pointer (some ⟨g, 0, none⟩)] W fun e' w' => e' = .returned (.bool (!okA n (a, b, e))) ∧ Below w.heap.size w w'
  by_cases hE : okE (a, b, e) = true
  · rw [chkE_ok hE] at hc
    have hx : (!okA n (a, b, e)) = decide ((n : Int) ≤ b) := by
      rw [Bool.eq_iff_iff, decide_eq_true_eq, Bool.not_eq_true', Bool.eq_false_iff, Ne, okA_iff2]
      simp only [hE, true_and]; omega
    rw [hx]
    clear hx hE
    replace hbw := Lib.hid hbw; replace kb := Lib.hid kb
    go_enter Tryd.func32, Tryd.ntmps32
    go_wp2_with (fail)
    refine (hc _).mono ?_
    rintro e' w1 ⟨rfl, b1⟩
    have s1 := (b1.cell (p := ⟨W.heap.size, 1, none⟩) (by simp)).trans (blkC (hpNew W _) 1)
    have q3 := (b1.cell (p := ⟨g, 3, none⟩) (by simp; omega)).trans ((kb.out.cell (p := ⟨g, 3, none⟩) hgW).trans h3W)
    simp only [List.getElem?_toArray, List.getElem?_cons_zero, List.getElem?_cons_succ] at s1
    have hbb := Lib.hid (kb.out.trans (b1.mono kb.out.size))
    clear b1 hc
    go_wp2_with (fail)
    go_ret
    exact ⟨rfl, hbw.out.trans (hbb.out.mono hbw.out.size)⟩
  · rw [chkE_bad hE] at hc
    have hx : (!okA n (a, b, e)) = true := by
      rw [Bool.not_eq_true', Bool.eq_false_iff, Ne, okA_iff2]; exact fun q => hE q.1
    rw [hx]
    clear hx
    replace hE := Lib.hid hE
    replace hbw := Lib.hid hbw; replace kb := Lib.hid kb
    go_enter Tryd.func32, Tryd.ntmps32
    go_wp2_with (fail)
    refine (hc _).mono ?_
    rintro e' w1 ⟨rfl, b1⟩
    have hbb := Lib.hid (kb.out.trans (b1.mono kb.out.size))
    clear b1 hc
    go_wp2_with (fail)
    go_ret
    exact ⟨rfl, hbw.out.trans (hbb.out.mono hbw.out.size)⟩
theorem chkC_def {nm : ByteArray} {r dl : Int} {ss : List St} {l : List Ef} (h : defC nm r dl ss ≠ 0) : chkC nm r dl ss l = defC nm r dl ss := by
  unfold chkC defC at *
  by_cases q : defOK nm r dl ss = true
  · rw [if_pos q] at h; exact absurd rfl h
  · rw [if_neg q, if_neg q]
theorem defC_zero {nm : ByteArray} {r dl : Int} {ss : List St} (h : defC nm r dl ss = 0) : defOK nm r dl ss = true := by
  unfold defC at h; split at h
  · assumption
  · cases h
theorem chkC_many {nm : ByteArray} {r dl : Int} {ss : List St} {l : List Ef} (h : defC nm r dl ss = 0) (hm : 10000 < l.length) : chkC nm r dl ss l = 12 := by
  unfold chkC; rw [if_pos (defC_zero h), if_pos hm]
theorem chkC_fine {nm : ByteArray} {r dl : Int} {ss : List St} {l : List Ef} (h : defC nm r dl ss = 0) (hm : ¬ 10000 < l.length) (ha : l.all (okA ss.length) = true) : chkC nm r dl ss l = 0 := by
  unfold chkC; rw [if_pos (defC_zero h), if_neg hm, if_pos ha]
theorem chkC_no {nm : ByteArray} {r dl : Int} {ss : List St} {l : List Ef} (h : defC nm r dl ss = 0) (hm : ¬ 10000 < l.length) (ha : l.all (okA ss.length) = false) : chkC nm r dl ss l = 2 := by
  unfold chkC; rw [if_pos (defC_zero h), if_neg hm, if_neg (by rw [ha]; simp)]
theorem any_all (n : Nat) : ∀ l : List Ef, (l.any fun x => !okA n x) = !l.all (okA n)
  | [] => rfl
  | x :: l => by rw [List.any_cons, List.all_cons, any_all n l, Bool.not_and]
set_option maxHeartbeats 4000000 in
theorem chk_any (nm : ByteArray) (r dl : Int) (A : Option Addr) (n c : Nat) (ss : List St) (B : Option Addr) (m d : Nat) (l : List Ef) (w : World) (hnm : nm.size ≤ 140737488355328) (h : SS w A n ss) (hn : n ≤ 140737488355328) (hnc : n ≤ c) (hkeys : ∀ x ∈ ss, x.1.size ≤ 140737488355328) (hE : ES w B m l) (hm : m ≤ 140737488355328) :
    Calls Tryd.prog 18 #[.agg #[.string nm, .int .i64 r, .int .i64 dl, .slice A n c], .slice B m d] w fun e w' => e = .returned (.int .i64 (chkC nm r dl ss l)) ∧ Below w.heap.size w w' := by
  have hl := hE.1
  have hsl := h.1
  have kb := (Below.refl w.heap.size w).alloc (Nat.le_refl _) (.cells #[.string nm, .int .i64 r, .int .i64 dl, .slice A n c] 24)
  have hD := fun (V : World) (hV : Below w.heap.size w V) => defn_any nm r dl A n c ss V hnm (SL.keep h hV) hn hnc hkeys
  have hD0 := hD _ kb
  have hnew := hpNew w (.cells #[.string nm, .int .i64 r, .int .i64 dl, .slice A n c] 24)
  replace h := Lib.hid h; replace hkeys := Lib.hid hkeys; replace hE := Lib.hid hE; replace hl := Lib.hid hl; replace hsl := Lib.hid hsl; replace kb := Lib.hid kb; replace hnew := Lib.hid hnew
  clear hD
  by_cases hz : defC nm r dl ss = 0
  · rw [hz] at hD0
    by_cases hmany : 10000 < m
    · have hmi : (10000 : Int) < m := by omega
      have hf := Lib.hid (chkC_many (l := l) hz (by rw [hl.out]; exact hmany))
      replace hz := Lib.hid hz
      go_enter Tryd.func18, Tryd.ntmps18
      go_wp2_with (fail)
      refine hD0.mono ?_
      rintro e w1 ⟨rfl, b1⟩
      go_wp2_with (fail)
      go_ret
      exact ⟨by rw [hf.out]; rfl, kb.out.trans (b1.mono kb.out.size)⟩
    · have hmi : ¬ (10000 : Int) < m := by omega
      go_enter Tryd.func18, Tryd.ntmps18
      go_wp2_with (fail)
      refine hD0.mono ?_
      rintro e w1 ⟨rfl, b1⟩
      have hh1 := (b1.block _ (by simp)).trans hnew.out
      have g3 := blkC hh1 3
      simp only [List.getElem?_toArray, List.getElem?_cons_zero, List.getElem?_cons_succ] at g3
      have hb1 := kb.out.trans (b1.mono kb.out.size)
      have hE1 := SL.keep hE.out hb1
      have hp := chk1_any w.heap.size A n c w1 (blkX hh1) g3
      by_cases h0 : 0 < m
      · obtain ⟨bb, o, rfl, hbl, hcc⟩ := hE1.2 h0
        have hC2 := Tryd.slices_ContainsFunc_E encE encE_len (fun x => !okA n x) 32 #[.pointer (some ⟨w.heap.size, 0, none⟩)] (enters_of Tryd.func32 (by kernel_rfl) rfl) bb o m d l w1 hp (by have := hl.out; omega) (by omega) hbl (fun j hj i v hv => hcc j _ (by rw [List.getElem!_eq_getElem?_getD, List.getElem?_eq_getElem hj]; rfl) i v hv)
        rw [List.take_of_length_le (by have := hl.out; omega), any_all] at hC2
        cases hall : l.all (okA n) with
        | true =>
          rw [hall] at hC2
          have hf := Lib.hid (chkC_fine (l := l) hz (by rw [hl.out]; exact hmany) (by rw [hsl.out]; exact hall))
          replace hz := Lib.hid hz; replace hall := Lib.hid hall; replace hp := Lib.hid hp; replace hcc := Lib.hid hcc; replace hE1 := Lib.hid hE1; replace hh1 := Lib.hid hh1; replace hb1 := Lib.hid hb1
          clear b1
          go_wp2_with (fail)
          refine hC2.mono ?_
          rintro e w2 ⟨rfl, b2⟩
          go_wp2_with (fail)
          go_ret
          exact ⟨by rw [hf.out]; rfl, hb1.out.trans (b2.mono hb1.out.size)⟩
        | false =>
          rw [hall] at hC2
          have hf := Lib.hid (chkC_no (l := l) hz (by rw [hl.out]; exact hmany) (by rw [hsl.out]; exact hall))
          replace hz := Lib.hid hz; replace hall := Lib.hid hall; replace hp := Lib.hid hp; replace hcc := Lib.hid hcc; replace hE1 := Lib.hid hE1; replace hh1 := Lib.hid hh1; replace hb1 := Lib.hid hb1
          clear b1
          go_wp2_with (fail)
          refine hC2.mono ?_
          rintro e w2 ⟨rfl, b2⟩
          go_wp2_with (fail)
          go_ret
          exact ⟨by rw [hf.out]; rfl, hb1.out.trans (b2.mono hb1.out.size)⟩
      · obtain rfl : m = 0 := by omega
        have hnil : l = [] := List.eq_nil_of_length_eq_zero hl.out
        have hf := Lib.hid (chkC_fine (l := l) hz (by rw [hl.out]; exact hmany) (by rw [hnil]; rfl))
        replace hz := Lib.hid hz; replace hp := Lib.hid hp; replace hE1 := Lib.hid hE1; replace hh1 := Lib.hid hh1; replace hb1 := Lib.hid hb1; replace hnil := Lib.hid hnil
        clear b1
        go_wp2_with (fail)
        refine (contF_none B d _ w1).mono ?_
        rintro e w2 ⟨rfl, b2⟩
        go_wp2_with (fail)
        go_ret
        exact ⟨by rw [hf.out]; rfl, hb1.out.trans (b2.mono hb1.out.size)⟩
  · have hzb : (defC nm r dl ss != 0) = true := by simp [hz]
    have hf := Lib.hid (chkC_def (l := l) hz)
    replace hz := Lib.hid hz
    generalize defC nm r dl ss = q at *
    go_enter Tryd.func18, Tryd.ntmps18
    go_wp2_with (fail)
    refine hD0.mono ?_
    rintro e w1 ⟨rfl, b1⟩
    go_wp2_with (fail)
    go_ret
    exact ⟨by rw [hf.out]; rfl, kb.out.trans (b1.mono kb.out.size)⟩
end Go.Proofs.YthmkfbabacehnaaDoor
