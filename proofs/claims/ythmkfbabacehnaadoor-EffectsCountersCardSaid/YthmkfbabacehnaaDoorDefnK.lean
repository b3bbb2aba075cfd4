/- Definitions: steps, small functions. -/
import Derived.Test.YthmkfbabacehnaaDoorRNum
import Derived.Test.YthmkfbabacehnaaDoorNm
import Derived.Test.YthmkfbabacehnaaDoorDefP
import Derived.Test.YthmkfbabacehnaaDoorEf
namespace Go.Proofs.YthmkfbabacehnaaDoor
open Go.RowKit Go.Shelf
set_option linter.unusedSimpArgs false
set_option linter.unusedVariables false
set_option linter.unusedSectionVars false
set_option maxRecDepth 10000
def encSt (x : St) : List Value := [.string x.1, .int .i64 x.2]
theorem encSt_len (x : St) : (encSt x).length = 2 := rfl
/-- A slice reads as steps. -/
def SS (w : World) (A : Option Addr) (n : Nat) (l : List St) : Prop := SL encSt 2 w A n l
theorem SS.at_ {w : World} {A : Option Addr} {n : Nat} {l : List St} (h : SS w A n l) {i : Nat} (hi : i < n) : ∃ b o x, A = some ⟨b, o, none⟩ ∧ b < w.heap.size ∧ l[i]? = some x ∧ w.cell? ⟨b, o + i * 2, none⟩ = some (.string x.1) ∧ w.cell? ⟨b, o + i * 2 + 1, none⟩ = some (.int .i64 x.2) := by
  obtain ⟨b, o, x, e, hl, hx, hc⟩ := SL.at_ h hi
  exact ⟨b, o, x, e, hl, hx, hc 0 _ rfl, hc 1 _ rfl⟩
theorem in_any (a b : Int) (w : World) : Calls Tryd.prog 48 #[.int .i64 a, .int .i64 b] w fun e w' => e = .returned (.bool (decide (0 ≤ a) && decide (a ≤ b))) ∧ w' = w := by
  go_enter Tryd.func48, Tryd.ntmps48
  go_wp2
  all_goals
    go_ret
    exact ⟨ret_bool (by simp [*] <;> omega), rfl⟩
theorem str_eq (a b : ByteArray) : (a.toList == b.toList) = decide (a = b) := by
  rw [Bool.eq_iff_iff, beq_iff_eq, decide_eq_true_eq, ByteArray.toList_eq, ByteArray.toList_eq]
  constructor
  · intro e
    cases a; cases b
    simp only at e
    congr 1
    exact Array.toList_inj.1 e
  · rintro rfl; rfl
/-- What the closure of Check asks: whether a step has this key. -/
theorem again_any (b o : Nat) (key : ByteArray) (w : World) (hb : b < w.heap.size) (hc : w.cell? ⟨b, o, none⟩ = some (.string key)) : PredBelow Tryd.prog 50 #[.pointer (some ⟨b, o, none⟩)] (fun x => .agg (encSt x).toArray) (fun x => decide (x.1 = key)) w := fun W x hbw => by
  have hcW := (hbw.cell (p := ⟨b, o, none⟩) hb).trans hc
  have hbW := Nat.lt_of_lt_of_le hb hbw.size
  obtain ⟨k, d⟩ := x
  show Calls Tryd.prog 50 #[.agg #[.string k, .int .i64 d], .pointer (some ⟨b, o, none⟩)] W _
  replace hbw := Lib.hid hbw
  go_enter Tryd.func50, Tryd.ntmps50
  go_wp2
  go_ret
  exact ⟨ret_bool (str_eq k key), hbw.out.alloc hbw.out.size _⟩
theorem goodAt_false {l : List St} {k : Nat} {s : St} (h : l[k]? = some s) (hb : (l.take k).any (fun x => decide (x.1 = s.1)) = true ∨ nameB s.1 = false ∨ s.2 = 0 ∨ ¬ okV s.2 = true) : goodAt l k = false := by
  rw [goodAt_some h]
  rcases hb with h | h | h | h <;> simp [h]
theorem goodAt_true {l : List St} {k : Nat} {s : St} (h : l[k]? = some s) (h1 : (l.take k).any (fun x => decide (x.1 = s.1)) = false) (h2 : nameB s.1 = true) (h3 : s.2 ≠ 0) (h4 : okV s.2 = true) : goodAt l k = true := by
  rw [goodAt_some h, h1, h2, h4]; simp [h3]
theorem defC_bad {nm : ByteArray} {r dl : Int} {l : List St} (h : defOK nm r dl l = false) : defC nm r dl l = 15 := by unfold defC; rw [h]; rfl
theorem defC_ok {nm : ByteArray} {r dl : Int} {l : List St} (h : defOK nm r dl l = true) : defC nm r dl l = 0 := by unfold defC; rw [h]; rfl
end Go.Proofs.YthmkfbabacehnaaDoor
