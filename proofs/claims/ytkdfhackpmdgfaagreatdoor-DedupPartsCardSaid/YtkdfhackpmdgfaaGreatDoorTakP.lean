/- What is taken and what stays: the plain part. No program in sight. -/
import Derived.Test.YtkdfhackpmdgfaaGreatDoorMemP
namespace Go.Proofs.YtkdfhackpmdgfaaGreatDoor
set_option linter.unusedSimpArgs false
set_option linter.unusedVariables false
theorem look_self {P : List En} (hd : Dist P) {x : En} (hx : x ∈ P) : look P x.e = some x := by
  unfold look
  induction P with
  | nil => cases hx
  | cons a P ih =>
    have hd' := List.pairwise_cons.1 hd
    rw [List.find?_cons]
    rcases List.mem_cons.1 hx with rfl | hx
    · rw [decide_eq_true rfl]
    · rw [decide_eq_false fun q => hd'.1 x hx q]
      exact ih hd'.2 hx
section
variable {size : Int} {P : List En} {Q : List Mo} {g : Rg}
theorem Fil.dist (h : Fil size P Q) : Dist P := ord_dist h.same.ord
theorem Fil.mem (h : Fil size P Q) {x : En} (hx : x ∈ P) : ∃ m, mof Q x.e = some m ∧ enM m = x ∧ okM m := by
  have h1 := look_self h.dist hx
  rw [h.look] at h1
  obtain ⟨m, hm, e⟩ := Option.map_eq_some_iff.1 h1
  exact ⟨m, hm, e, h.ok m (mof_some hm).1⟩
theorem mem_takeL (hg : okG g = true) {x : En} : x ∈ takeL g P ↔ x ∈ P ∧ inG g x.k = false := by
  unfold takeL
  rw [if_pos hg, List.mem_filter]
  simp
theorem mem_takeO (hg : okG g = true) {y : Ef} : y ∈ takeO g P ↔ ∃ x ∈ P, inG g x.k = true ∧ x.e = y := by
  unfold takeO
  rw [if_pos hg, List.mem_map]
  simp [and_assoc]
theorem take_len (hg : okG g = true) : ∀ P : List En, (takeO g P).length + (takeL g P).length = P.length := by
  intro P
  unfold takeO takeL
  rw [if_pos hg, if_pos hg, List.length_map]
  induction P with
  | nil => rfl
  | cons a P ih =>
    cases h : inG g a.k <;> simp [List.filter_cons, h] <;> omega
theorem Fil.distL (h : Fil size P Q) (hg : okG g = true) : Dist (takeL g P) := by
  unfold takeL; rw [if_pos hg]; exact dist_filter h.dist _
theorem Fil.taken (h : Fil size P Q) (hg : okG g = true) {y : Ef} (hy : y ∈ takeO g P) : ∃ m, mof Q y = some m ∧ moE m = y ∧ okM m ∧ inG g (moK m) = true ∧ hasB (takeL g P) y = false ∧ getR (takeL g P) y = (0, 0, noText) := by
  obtain ⟨x, hx, hi, rfl⟩ := (mem_takeO hg).1 hy
  obtain ⟨m, hm, rfl, hok⟩ := h.mem hx
  have hn : (Go.Proofs.YtkdfhackpmdgfaaGreatDoor.look (takeL g P) (enM m).e).isSome = false := look_not fun z hz q => by
    obtain ⟨hz1, hz2⟩ := (mem_takeL hg).1 hz
    have h1 := look_self h.dist hz1
    rw [q, look_self h.dist hx] at h1
    injection h1 with h1
    rw [← h1, hi] at hz2
    cases hz2
  refine ⟨m, hm, rfl, hok, hi, hn, ?_⟩
  unfold getR
  rw [Option.isSome_eq_false_iff, Option.isNone_iff_eq_none] at hn
  rw [hn]
theorem Fil.stays (h : Fil size P Q) (hg : okG g = true) {y : Ef} (hy : y ∈ (takeL g P).map En.e) : ∃ m, mof Q y = some m ∧ moE m = y ∧ okM m ∧ inG g (moK m) = false ∧ hasB (takeL g P) y = true ∧ getR (takeL g P) y = moR m ∧ getK (takeL g P) y = moK m := by
  obtain ⟨x, hx, rfl⟩ := List.mem_map.1 hy
  obtain ⟨hx1, hi⟩ := (mem_takeL hg).1 hx
  obtain ⟨m, hm, rfl, hok⟩ := h.mem hx1
  have hl := look_self (h.distL hg) hx
  refine ⟨m, hm, rfl, hok, hi, by unfold hasB; rw [hl]; rfl, by unfold getR; rw [hl]; rfl, by unfold getK; rw [hl]; rfl⟩
theorem take_twice (hg : okG g = true) : takeO g (takeL g P) = [] ∧ takeL g (takeL g P) = takeL g P := by
  unfold takeO takeL
  rw [if_pos hg, if_pos hg, if_pos hg]
  constructor
  · rw [List.filter_filter]
    rw [List.filter_eq_nil_iff.2 (fun a _ => by cases inG g a.k <;> simp)]; rfl
  · rw [List.filter_filter]
    congr 1
    funext a
    cases inG g a.k <;> rfl
theorem Fil.again (h : Fil 200 P Q) (hQ : Q.length ≤ 100) (hg : okG g = true) {y : Ef} (hy : y ∈ takeO g P) {m : Mo} (hm : mof Q y = some m) : putC 200 (takeL g P) (enM m) = 0 ∧ (putL 200 (takeL g P) (enM m)).length = (takeL g P).length + 1 := by
  obtain ⟨m', hm', hme, hok, hi, hn, _⟩ := h.taken hg hy
  obtain rfl : m' = m := Option.some.inj (hm'.symm.trans hm)
  have hl := take_len hg P
  have hc : putC 200 (takeL g P) (enM m') = 0 := by
    unfold putC
    rw [if_pos (okP_enM hok), show (Go.Proofs.YtkdfhackpmdgfaaGreatDoor.look (takeL g P) (enM m').e).isSome = false from by rw [← hme] at hn; exact hn, if_neg (by decide), if_neg (by have := h.len; omega)]
  exact ⟨hc, by unfold putL; rw [if_pos hc, ins_len]⟩
theorem take_next (ho : Ord P) (hg : okG g = true) {k : Nat} {x y : Ef} (hx : (takeO g P)[k]? = some x) (hy : (takeO g P)[k + 1]? = some y) : efLt x y = true := by
  unfold takeO at hx hy
  rw [if_pos hg] at hx hy
  rw [List.getElem?_map, Option.map_eq_some_iff] at hx hy
  obtain ⟨a, ha, rfl⟩ := hx
  obtain ⟨b, hb, rfl⟩ := hy
  obtain ⟨h1, rfl⟩ := List.getElem?_eq_some_iff.1 ha
  obtain ⟨h2, rfl⟩ := List.getElem?_eq_some_iff.1 hb
  exact List.pairwise_iff_getElem.1 (ord_filter ho (fun x => inG g x.k)) k (k + 1) h1 h2 (by omega)
end
/-- The ranges of letters. -/
theorem rangeA : ∀ lo : Nat, lo < 26 → okG (letB lo, noText) = true := by decide +kernel
theorem rangeB : ∀ lo : Nat, lo < 26 → ∀ hi : Nat, hi < 26 → lo < hi → okG (letB lo, letB hi) = true := by decide +kernel
end Go.Proofs.YtkdfhackpmdgfaaGreatDoor
