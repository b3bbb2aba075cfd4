/- Tables of what was done, in plain Lean: the program's (kept in order), the document's (in the order in which things were put); that they say the same. No program in sight. -/
import Derived.Test.YtkdfhackpmdgfaaGreatDoorPlain
namespace Go.Proofs.YtkdfhackpmdgfaaGreatDoor
set_option linter.unusedSimpArgs false
set_option linter.unusedVariables false
/-- A reply: its error, its number, its data. -/
abbrev Rp := Int × Int × ByteArray
/-- What is remembered: the effect, the key, the reply. -/
structure En where
  e : Ef
  k : ByteArray
  r : Rp
instance : Inhabited En := ⟨⟨(0, 0, 0), ⟨#[]⟩, (0, 0, ⟨#[]⟩)⟩⟩
/-- Put at its place. -/
def ins (x : En) (P : List En) : List En := P.takeWhile (fun y => efLt y.e x.e) ++ x :: P.dropWhile (fun y => efLt y.e x.e)
def srt (R : List En) : List En := R.foldl (fun P x => ins x P) []
def insE (x : Ef) (P : List Ef) : List Ef := P.takeWhile (fun y => efLt y x) ++ x :: P.dropWhile (fun y => efLt y x)
def srtE (R : List Ef) : List Ef := R.foldl (fun P x => insE x P) []
theorem map_ins (x : En) : ∀ P : List En, (ins x P).map En.e = insE x.e (P.map En.e) := by
  intro P
  unfold ins insE
  rw [List.map_append, List.map_cons, List.takeWhile_map, List.dropWhile_map]
  rfl
theorem map_foldl_ins : ∀ (R P : List En), (R.foldl (fun P x => ins x P) P).map En.e = (R.map En.e).foldl (fun P x => insE x P) (P.map En.e)
  | [], P => rfl
  | x :: R, P => by rw [List.foldl_cons, map_foldl_ins R, map_ins]; rfl
theorem map_srt (R : List En) : (srt R).map En.e = srtE (R.map En.e) := map_foldl_ins R []
theorem srt_snoc (R : List En) (x : En) : srt (R ++ [x]) = ins x (srt R) := by unfold srt; rw [List.foldl_append]; rfl
theorem srtE_snoc (R : List Ef) (x : Ef) : srtE (R ++ [x]) = insE x (srtE R) := by unfold srtE; rw [List.foldl_append]; rfl
theorem insE_len (x : Ef) (P : List Ef) : (insE x P).length = P.length + 1 := by
  unfold insE
  have := congrArg List.length (List.takeWhile_append_dropWhile (p := fun y => efLt y x) (l := P))
  rw [List.length_append] at this ⊢
  rw [List.length_cons]; omega
theorem ins_len (x : En) (P : List En) : (ins x P).length = P.length + 1 := by
  have := congrArg List.length (map_ins x P)
  rw [List.length_map, insE_len, List.length_map] at this; exact this
theorem foldl_ins_len : ∀ (R P : List En), (R.foldl (fun P x => ins x P) P).length = P.length + R.length
  | [], P => rfl
  | x :: R, P => by rw [List.foldl_cons, foldl_ins_len R, ins_len, List.length_cons]; omega
theorem srt_len (R : List En) : (srt R).length = R.length := by unfold srt; rw [foldl_ins_len]; simp
theorem mem_ins {x y : En} {P : List En} : y ∈ ins x P ↔ y = x ∨ y ∈ P := by
  unfold ins
  have h := List.takeWhile_append_dropWhile (p := fun z : En => efLt z.e x.e) (l := P)
  constructor
  · intro hm
    rcases List.mem_append.1 hm with hm | hm
    · exact .inr (by rw [← h]; exact List.mem_append_left _ hm)
    · rcases List.mem_cons.1 hm with rfl | hm
      · exact .inl rfl
      · exact .inr (by rw [← h]; exact List.mem_append_right _ hm)
  · rintro (rfl | hm)
    · exact List.mem_append_right _ (by simp)
    · rw [← h] at hm
      rcases List.mem_append.1 hm with hm | hm
      · exact List.mem_append_left _ hm
      · exact List.mem_append_right _ (List.mem_cons_of_mem _ hm)
theorem mem_foldl_ins {y : En} : ∀ (R P : List En), y ∈ R.foldl (fun P x => ins x P) P ↔ y ∈ P ∨ y ∈ R
  | [], P => by simp
  | x :: R, P => by
    rw [List.foldl_cons, mem_foldl_ins R, mem_ins, List.mem_cons]
    constructor
    · rintro ((h | h) | h)
      · exact .inr (.inl h)
      · exact .inl h
      · exact .inr (.inr h)
    · rintro (h | h | h)
      · exact .inl (.inr h)
      · exact .inl (.inl h)
      · exact .inr h
theorem mem_srt {y : En} {R : List En} : y ∈ srt R ↔ y ∈ R := by unfold srt; rw [mem_foldl_ins]; simp
theorem efLt_ii (x y : Ef) : efLt x y = true ↔ (x.1 < y.1 ∨ (x.1 = y.1 ∧ (x.2.1 < y.2.1 ∨ (x.2.1 = y.2.1 ∧ x.2.2 < y.2.2)))) := by
  simp [efLt]
theorem efLt_irr (x : Ef) : efLt x x = false := by
  rw [Bool.eq_false_iff, Ne, efLt_ii]; omega
theorem efLt_trn {x y z : Ef} (h1 : efLt x y = true) (h2 : efLt y z = true) : efLt x z = true := by
  rw [efLt_ii] at *; omega
theorem efLt_tot {x y : Ef} (h1 : efLt x y = false) (h2 : x ≠ y) : efLt y x = true := by
  rw [efLt_ii]
  rw [Bool.eq_false_iff, Ne, efLt_ii] at h1
  obtain ⟨a, b, c⟩ := x
  obtain ⟨a', b', c'⟩ := y
  simp only [ne_eq, Prod.mk.injEq, not_and] at h1 h2 ⊢
  by_cases e1 : a = a'
  · by_cases e2 : b = b'
    · have := h2 e1 e2; omega
    · omega
  · omega
/-- In order, each effect once. -/
def Ord (P : List En) : Prop := P.Pairwise fun x y => efLt x.e y.e = true
theorem tw_all {x : Ef} : ∀ (P : List En) (y : En), y ∈ P.takeWhile (fun z => efLt z.e x) → efLt y.e x = true
  | [], y, h => by simp at h
  | a :: P, y, h => by
    by_cases ha : efLt a.e x = true
    · rw [List.takeWhile_cons_of_pos (p := fun z : En => efLt z.e x) ha] at h
      rcases List.mem_cons.1 h with rfl | h
      · exact ha
      · exact tw_all P y h
    · rw [List.takeWhile_cons_of_neg (p := fun z : En => efLt z.e x) ha] at h; cases h
theorem dw_all {x : Ef} : ∀ (P : List En), Ord P → ∀ y, y ∈ P.dropWhile (fun z => efLt z.e x) → efLt y.e x = false
  | [], _, y, h => by simp at h
  | a :: P, ho, y, h => by
    by_cases ha : efLt a.e x = true
    · rw [List.dropWhile_cons_of_pos (p := fun z : En => efLt z.e x) ha] at h
      exact dw_all P (List.pairwise_cons.1 ho).2 y h
    · rw [List.dropWhile_cons_of_neg (p := fun z : En => efLt z.e x) ha] at h
      rcases List.mem_cons.1 h with rfl | h
      · simpa using ha
      · have h1 := (List.pairwise_cons.1 ho).1 y h
        cases h2 : efLt y.e x with
        | false => rfl
        | true => exact absurd (efLt_trn h1 h2) ha
theorem ord_ins {x : En} {P : List En} (ho : Ord P) (hx : ∀ y ∈ P, y.e ≠ x.e) : Ord (ins x P) := by
  unfold ins Ord
  have h := List.takeWhile_append_dropWhile (p := fun z : En => efLt z.e x.e) (l := P)
  have ho' := ho
  unfold Ord at ho'
  rw [← h, List.pairwise_append] at ho'
  obtain ⟨h1, h2, h3⟩ := ho'
  rw [List.pairwise_append]
  refine ⟨h1, List.pairwise_cons.2 ⟨fun y hy => ?_, h2⟩, fun a ha b hb => ?_⟩
  · have hy' := hx y (by rw [← h]; exact List.mem_append_right _ hy)
    exact efLt_tot (dw_all P ho y hy) hy'
  · rcases List.mem_cons.1 hb with rfl | hb
    · exact tw_all P a ha
    · exact h3 a ha b hb
/-- Each effect once. -/
def Dist (R : List En) : Prop := R.Pairwise fun x y => x.e ≠ y.e
theorem ord_foldl : ∀ (R P : List En), Ord P → Dist R → (∀ x ∈ R, ∀ y ∈ P, y.e ≠ x.e) → Ord (R.foldl (fun P x => ins x P) P)
  | [], P, ho, _, _ => ho
  | x :: R, P, ho, hd, hx => by
    rw [List.foldl_cons]
    refine ord_foldl R _ (ord_ins ho (hx x (by simp))) (List.pairwise_cons.1 hd).2 fun z hz y hy => ?_
    rcases mem_ins.1 hy with rfl | hy
    · exact (List.pairwise_cons.1 hd).1 z hz
    · exact hx z (List.mem_cons_of_mem _ hz) y hy
theorem ord_srt {R : List En} (hd : Dist R) : Ord (srt R) := ord_foldl R [] List.Pairwise.nil hd (by simp)
theorem dist_snoc {R : List En} {x : En} (hd : Dist R) (hx : ∀ y ∈ R, y.e ≠ x.e) : Dist (R ++ [x]) := by
  unfold Dist
  rw [List.pairwise_append]
  exact ⟨hd, List.pairwise_singleton .., fun a ha b hb => by rw [List.mem_singleton] at hb; subst hb; exact hx a ha⟩
theorem dist_filter {R : List En} (hd : Dist R) (p : En → Bool) : Dist (R.filter p) := List.Pairwise.sublist List.filter_sublist hd
theorem ord_filter {R : List En} (hd : Ord R) (p : En → Bool) : Ord (R.filter p) := List.Pairwise.sublist List.filter_sublist hd
theorem ord_dist {R : List En} (h : Ord R) : Dist R := List.Pairwise.imp (fun {a b} h e => by rw [e, efLt_irr] at h; cases h) h
/-- Two lists in order with the same members are one. -/
theorem ord_eq : ∀ {P Q : List En}, Ord P → Ord Q → (∀ x, x ∈ P ↔ x ∈ Q) → P = Q
  | [], [], _, _, _ => rfl
  | [], y :: Q, _, _, h => absurd ((h y).2 (by simp)) (by simp)
  | x :: P, [], _, _, h => absurd ((h x).1 (by simp)) (by simp)
  | x :: P, y :: Q, hp, hq, h => by
    have hp' := List.pairwise_cons.1 hp
    have hq' := List.pairwise_cons.1 hq
    have hxy : x = y := by
      rcases List.mem_cons.1 ((h x).1 (by simp)) with e | hx
      · exact e
      · rcases List.mem_cons.1 ((h y).2 (by simp)) with e | hy
        · exact e.symm
        · have := efLt_trn (hq'.1 x hx) (hp'.1 y hy)
          rw [efLt_irr] at this; cases this
    subst hxy
    congr 1
    refine ord_eq hp'.2 hq'.2 fun z => ?_
    have hz := h z
    rw [List.mem_cons, List.mem_cons] at hz
    constructor
    · intro hm
      rcases hz.1 (.inr hm) with rfl | hm'
      · have := hp'.1 _ hm; rw [efLt_irr] at this; cases this
      · exact hm'
    · intro hm
      rcases hz.2 (.inr hm) with rfl | hm'
      · have := hq'.1 _ hm; rw [efLt_irr] at this; cases this
      · exact hm'
theorem filter_srt {R : List En} (hd : Dist R) (p : En → Bool) : (srt R).filter p = srt (R.filter p) := by
  refine ord_eq (ord_filter (ord_srt hd) p) (ord_srt (dist_filter hd p)) fun x => ?_
  rw [List.mem_filter, mem_srt, mem_srt, List.mem_filter]
/-- Looking up: the place, and what is there. -/
def pos (P : List En) (e : Ef) : Nat := (P.takeWhile (fun z => efLt z.e e)).length
def look (P : List En) (e : Ef) : Option En := P.find? (fun z => decide (z.e = e))
theorem look_dist {P Q : List En} (hd : Dist P) (hq : Dist Q) (h : ∀ x, x ∈ P ↔ x ∈ Q) (e : Ef) : look P e = look Q e := by
  have one : ∀ {P : List En}, Dist P → ∀ {x : En}, x ∈ P → x.e = e → look P e = some x := by
    intro P hd x hx he
    unfold look
    induction P with
    | nil => cases hx
    | cons a P ih =>
      rw [List.find?_cons]
      have hd' := List.pairwise_cons.1 hd
      rcases List.mem_cons.1 hx with rfl | hx
      · rw [decide_eq_true he]
      · have : ¬ a.e = e := fun q => hd'.1 x hx (q.trans he.symm)
        rw [decide_eq_false this]
        exact ih hd'.2 hx
  cases hp : look P e with
  | none =>
    cases hq' : look Q e with
    | none => rfl
    | some y =>
      have h1 := List.find?_some hq'
      have h2 := List.mem_of_find?_eq_some hq'
      have := one hd ((h y).2 h2) (by simpa using h1)
      rw [hp] at this; cases this
  | some x =>
    have h1 := List.find?_some hp
    have h2 := List.mem_of_find?_eq_some hp
    exact (one hq ((h x).1 h2) (by simpa using h1)).symm
theorem look_srt {R : List En} (hd : Dist R) (e : Ef) : look (srt R) e = look R e := look_dist (ord_dist (ord_srt hd)) hd (fun x => mem_srt) e
/-- In order: what stands at the place is what is looked for, or nothing is. -/
theorem look_pos {P : List En} (ho : Ord P) (e : Ef) : look P e = (match P[pos P e]? with | some x => if x.e = e then some x else none | none => none) := by
  unfold look pos
  induction P with
  | nil => rfl
  | cons a P ih =>
    have ho' := List.pairwise_cons.1 ho
    by_cases ha : efLt a.e e = true
    · have hne : ¬ a.e = e := fun q => by rw [q, efLt_irr] at ha; cases ha
      rw [List.takeWhile_cons_of_pos (p := fun z : En => efLt z.e e) ha, List.find?_cons, decide_eq_false hne, List.length_cons, List.getElem?_cons_succ]
      exact ih ho'.2
    · rw [List.takeWhile_cons_of_neg (p := fun z : En => efLt z.e e) ha, List.find?_cons]
      simp only [List.length_nil, List.getElem?_cons_zero]
      by_cases he : a.e = e
      · rw [decide_eq_true he, if_pos he]
      · rw [decide_eq_false he, if_neg he]
        rw [List.find?_eq_none]
        intro x hx
        have h1 := ho'.1 x hx
        have h2 := efLt_tot (by simpa using ha) he
        have h3 := efLt_trn h2 h1
        simp only [decide_eq_true_eq]
        intro q
        rw [q, efLt_irr] at h3; cases h3
theorem pos_le (P : List En) (e : Ef) : pos P e ≤ P.length := by
  unfold pos
  have := congrArg List.length (List.takeWhile_append_dropWhile (p := fun z : En => efLt z.e e) (l := P))
  rw [List.length_append] at this; omega
theorem take_pos (P : List En) (e : Ef) : P.take (pos P e) = P.takeWhile (fun z => efLt z.e e) := by
  have h := List.takeWhile_append_dropWhile (p := fun z : En => efLt z.e e) (l := P)
  unfold pos
  generalize P.takeWhile (fun z => efLt z.e e) = a at *
  generalize P.dropWhile (fun z => efLt z.e e) = b at *
  rw [← h]; simp
theorem drop_pos (P : List En) (e : Ef) : P.drop (pos P e) = P.dropWhile (fun z => efLt z.e e) := by
  have h := List.takeWhile_append_dropWhile (p := fun z : En => efLt z.e e) (l := P)
  unfold pos
  generalize P.takeWhile (fun z => efLt z.e e) = a at *
  generalize P.dropWhile (fun z => efLt z.e e) = b at *
  rw [← h]; simp
theorem ins_pos (x : En) (P : List En) : ins x P = P.take (pos P x.e) ++ x :: P.drop (pos P x.e) := by rw [take_pos, drop_pos]; rfl
end Go.Proofs.YtkdfhackpmdgfaaGreatDoor
