/- parcel. -/
import Derived.Test.YtgnjnpddehdmcaaGreatDoorRowK
import Derived.Test.YtgnjnpddehdmcaaGreatDoorTkI
namespace Go.Proofs.YtgnjnpddehdmcaaGreatDoor
open Go.RowKit Go.Shelf
set_option linter.unusedSimpArgs false
set_option linter.unusedVariables false
set_option linter.unusedSectionVars false
set_option maxRecDepth 10000
theorem look_memD {P : List En} (hd : Dist P) {y : En} (h : y ∈ P) : look P y.e = some y := by
 unfold look
 induction P with
 | nil => cases h
 | cons a P ih =>
  rw [List.find?_cons]
  have hd' := List.pairwise_cons.1 hd
  rcases List.mem_cons.1 h with rfl | h
  ·
   simp
  ·
   rw [decide_eq_false (hd'.1 y h)]
   exact ih hd'.2 h
theorem look_mem {P : List En} (hd : Ord P) {y : En} (h : y ∈ P) : look P y.e = some y := look_memD (ord_dist hd) h
attribute [local go_sem ↓] hideAppend
set_option maxHeartbeats 16000000 in
theorem shParcel_any {base : Nat} {p : Pl} {x : Sh} {v : World} (h : ShW base p x v) (r1 r2 : ByteArray) (hr : okG (r1, r2) = true) : Calls Tryz.prog 21 #[.pointer (some ⟨p.S, 0, none⟩), .agg #[.string r1, .string r2]] v fun e w' => ∃ A1 c1 A2 c2 A3 c3, e = .returned (.agg #[.slice A1 (keysR x (r1, r2)).length c1, .slice A2 (keysR x (r1, r2)).length c2, .slice A3 (doneR x (r1, r2)).length c3]) ∧ ParW v (keysR x (r1, r2)) (doneR x (r1, r2)) A1 c1 A2 c2 A3 c3 w' := by
 obtain ⟨kv, hkv⟩ : ∃ l, l = keysR x (r1, r2) := ⟨_, rfl⟩
 obtain ⟨dn, hdn⟩ : ∃ l, l = doneR x (r1, r2) := ⟨_, rfl⟩
 rw [← hkv, ← hdn]
 have hkl : kv.length ≤ 64 := by rw [hkv]; exact Nat.le_trans (List.length_filter_le _ _) h.st.len
 have hko : ∀ y ∈ kv, y ∈ x.cnt ∧ hasG (r1, r2) y.1 = true := fun y hy => by rw [hkv] at hy; exact List.mem_filter.1 hy
 have hin := fun (W : World) (hb : Below v.heap.size v W) => stIn_any (h.below hb).st r1 r2 hr
 have hget := fun (W : World) (hb : Below v.heap.size v W) (k : ByteArray) (hk : k.size ≤ maxLen) => stGet_any (h.below hb).st k hk
 have hsz := okG_sz hr
 have hord := h.ord
 have hord := h.ord
 have hks : (kv.map (·.1)).length = kv.length := by simp
 have hcs : (kv.map (·.2)).length = kv.length := by simp
 have hin2 : ∀ W, Below v.heap.size v W → Calls Tryz.prog 54 #[.pointer (some ⟨p.St, 0, none⟩), .agg #[.string r1, .string r2]] W fun e w' => ∃ A c, e = .returned (.tuple #[.slice A kv.length c, .int .i64 0]) ∧ w'.ownsRow W.heap.size 9 1 (.slice A kv.length c) kv.length (flat encS1 (kv.map (·.1))) ∧ Below W.heap.size W w' := fun W hb => by rw [hkv]; exact hin W hb
 clear hin
 obtain ⟨W1, hW1⟩ : ∃ W1, W1 = (((v.alloc (.cells #[.string r1, .string r2] 32)).alloc (.cells #[.slice none 0 0, .slice none 0 0, .slice none 0 0] 81)).alloc (.cells #[.slice none 0 0, .slice none 0 0, .slice none 0 0] 81)) := ⟨_, rfl⟩
 have k1 : Below v.heap.size v W1 := by rw [hW1]; exact (((Below.refl _ v).alloc (Nat.le_refl _) _).alloc (by simp <;> omega) _).alloc (by simp <;> omega) _
 have b0 : W1.heap[v.heap.size]? = some (.cells #[.string r1, .string r2] 32 (0, 0)) := by rw [hW1]; repeat (first | exact hpNewAt _ (by simp) | exact hpNew _ _ | refine (hpOld _ (by simp <;> omega)).trans ?_)
 have b1 : W1.heap[v.heap.size + 1]? = some (.cells #[.slice none 0 0, .slice none 0 0, .slice none 0 0] 81 (0, 0)) := by rw [hW1]; exact (hpOld _ (by simp <;> omega)).trans (hpNewAt _ (by simp))
 have b2 : W1.heap[v.heap.size + 1 + 1]? = some (.cells #[.slice none 0 0, .slice none 0 0, .slice none 0 0] 81 (0, 0)) := by rw [hW1]; repeat (first | exact hpNewAt _ (by simp) | exact hpNew _ _ | refine (hpOld _ (by simp <;> omega)).trans ?_)
 have h1 := h.below k1
 have hP0 : PaI v (r1, r2) [] [] [] none 0 none 0 none 0 W1 := ⟨k1, b0, b1, b2, World.ownsRow_nil _ _ _ _, World.ownsRow_nil _ _ _ _, World.ownsRow_nil _ _ _ _⟩
 have hlt := h.lt
 have hSv : ∀ W : World, Below v.heap.size v W → W.heap[v.heap.size]? = some (.cells #[.string r1, .string r2] 32 (0, 0)) → (fun W' : World => W'.heap[p.S]? = some (.cells (shV p x) 88 (0, 0)) ∧ W'.heap[v.heap.size]? = some (.cells #[.string r1, .string r2] 32 (0, 0))) W := fun W hb q => ⟨(hb.block _ hlt).trans h.blk, q⟩
 obtain ⟨Y, hY⟩ : ∃ W, W = W1.drew := ⟨_, rfl⟩
 have hPY : PaI v (r1, r2) [] [] [] none 0 none 0 none 0 Y := hP0.below (by rw [hY]; exact (Below.refl _ _).drew)
 replace h := Lh h; replace h1 := Lh h1; replace k1 := Lh k1; replace b0 := Lh b0; replace b1 := Lh b1; replace b2 := Lh b2; replace hP0 := Lh hP0; replace hSv := Lh hSv; replace hPY := Lh hPY; replace hY := Lh hY; replace hkv := Lh hkv; replace hdn := Lh hdn; replace hko := Lh hko; replace hord := Lh hord; replace hr := Lh hr; replace hsz := Lh hsz; replace hget := Lh hget; replace hin2 := Lh hin2; replace hks := Lh hks; replace hcs := Lh hcs
 go_enter Tryz.func21, Tryz.ntmps21
 go_wp2_with (fail)
 rw [← hW1]
 replace hW1 := Lh hW1
 apply joinArms3 (F := fun V (A1 : Option Addr) (c1 : Nat) => PaI v (r1, r2) (kv.map (·.1)) [] [] A1 c1 none 0 none 0 V)
 ·
  intro hfin
  refine wp_region_held_drew (S := (fun W' : World => W'.heap[p.S]? = some (.cells (shV p x) 88 (0, 0)) ∧ W'.heap[v.heap.size]? = some (.cells #[.string r1, .string r2] 32 (0, 0)))) (by kernel_rfl) ?_ (fun hH => ?_)
  ·
   try rw [← hY.out]
   exact hSv.out _ hPY.out.bel hPY.out.rng
  refine tl 0 hH ?_
  refine tl 1 hH ?_
  refine tl 2 hH ?_
  refine tk (i := 3) (v := ?_) (hy := .inl ⟨by rfl, by intro w hSw; obtain ⟨sS, sC⟩ := hSw; have t0 : w.cell? ⟨p.S, 3, none⟩ = some (.pointer (some ⟨p.St, 0, none⟩)) := blkC sS 3; go_simp; first | done | with_reducible rfl⟩) (hS := hH) (h := ?_)
  refine tk (i := 4) (v := ?_) (hy := .inl ⟨by rfl, by intro w hSw; obtain ⟨sS, sC⟩ := hSw; have t0 : w.cell? ⟨v.heap.size, 0, none⟩ = some (.string r1) := blkC sC 0; have t1 : w.cell? ⟨v.heap.size, 1, none⟩ = some (.string r2) := blkC sC 1; go_simp; first | done | with_reducible rfl⟩) (hS := hH) (h := ?_)
  refine wpAnyH_ready (rs := [5]) (by kernel_rfl) (by simp) ?_
  refine AllReadyH.cons rfl (fun K hK => ?_) ?_
  ·
   clear hH
   try rw [← hY.out]
   go_simp
   refine (hin2.out _ hPY.out.bel).mono ?_
   rintro e Z ⟨A1, c1, rfl, ho, bb⟩
   have hPZ := hPY.out.below bb
   have hok := own_row_re ho hPY.out.bel.size
   rw [← hks.out] at hok
   have hPK := hPZ.keys hok
   rw [hks.out] at hPK
   replace hPK := Lh hPK
   have g0 : Z.cell? ⟨v.heap.size + 2, 0, none⟩ = some (.slice none 0 0) := blkC hPZ.pbx 0
   have g2 := blkF hPZ.pbx 0; have gx := blkX hPZ.pbx
   replace hPZ := Lh hPZ
   clear bb ho hok
   refine hK _ _ (hSv.out _ hPZ.out.bel hPZ.out.rng) (fun hH => ?_)
   clear hK K
   refine tl 6 hH ?_
   refine tl 7 hH ?_
   refine tl 8 hH ?_
   refine tl 9 hH ?_
   refine wpAnyH_ready (rs := [10]) (by kernel_rfl) (by simp) ?_
   refine AllReadyH.cons rfl (fun K hK => ?_) ?_
   ·
    clear hH
    go_simp
    generalize hV9 : Z.setCell ⟨v.heap.size + 2, 0, none⟩ (.slice A1 kv.length c1) = V9 at hPK ⊢
    refine hK _ _ (hSv.out _ hPK.out.bel hPK.out.rng) (fun hH => ?_)
    clear hK K
    refine wpAnyH_done (by kernel_rfl) ?_ _
    clear hH
    exact hfin _ A1 c1 hPK.out
   exact AllReadyH.nil
  exact AllReadyH.nil
 ·
  rintro V A1 c1 hP
  have s0 : V.cell? ⟨v.heap.size + 2, 0, none⟩ = some (.slice A1 kv.length c1) := by have q := blkC hP.pbx 0; rw [hks.out] at q; exact q
  replace hP := Lh hP
  clear hP0 hPY hY hSv hin2
  go_wp2_with (fail)
  clear s0
  go_loopw [29] (fun i wr => ∃ (j : Nat) (A2 : Option Addr) (c2 : Nat), j ≤ kv.length ∧ i = .int .i64 j ∧ PaI v (r1, r2) (kv.map (·.1)) ((kv.map (·.2)).take j) [] A1 c1 A2 c2 none 0 wr) (fun i _ => kv.length - (intOf i).toNat)
  case atStart => exact ⟨0, none, 0, by omega, rfl, hP.out⟩
  case round =>
   clear hP
   revert wr
   intro X hrel
   obtain ⟨j, A2, c2, hj, rfl, hP⟩ := hrel
   have hcj : ((kv.map (·.2)).take j).length = j := by rw [List.length_take, hcs.out]; omega
   replace hcj := Lh hcj
   by_cases hlt2 : j < kv.length
   ·
    have hks1 : KS X A1 kv.length (kv.map (·.1)) := SL.of_own (fun _ => rfl) (by have q := hP.o1; rw [hks.out] at q; exact q) hks.out
    obtain ⟨b, o, k, rfl, hbl, hxk, hc⟩ := SL.at_ hks1 hlt2
    obtain ⟨y, hy, rfl⟩ : ∃ y, kv[j]? = some y ∧ y.1 = k := by rw [List.getElem?_map] at hxk; simpa [Option.map_eq_some_iff] using hxk
    clear hxk hks1
    have s9 := hc 0 _ rfl
    rw [Nat.mul_one, Nat.add_zero] at s9
    clear hc
    have hyc := (hko.out y (List.mem_of_getElem? hy)).1
    have hnm := name_max (h.out.st.ok y hyc).1
    have hst : stV x.cnt y.1 = y.2 := by unfold stV; rw [AOrd.look ltS h.out.st.ord hyc]; rfl
    have hse : stE x.cnt y.1 = 0 := by unfold stE; rw [show hasA x.cnt y.1 = true from by unfold hasA; rw [AOrd.look ltS h.out.st.ord hyc]; rfl]; rfl
    have hgt := hget.out
    have hgt2 := fun W hb => hgt W hb y.1 hnm
    rw [hst, hse] at hgt2
    clear hgt hst hse hyc hnm
    have hsn : (kv.map (·.2)).take j ++ [y.2] = (kv.map (·.2)).take (j + 1) := by rw [List.take_add_one, List.getElem?_map, hy]; rfl
    obtain ⟨k, y1, y2, y3, y4, y5⟩ := y
    simp only [cnV] at hgt2 s9 hsn
    have sS : X.cell? ⟨p.S, 3, none⟩ = some (.pointer (some ⟨p.St, 0, none⟩)) := blkC ((hP.bel.block _ hlt).trans h.out.blk) 3
    have xS := Nat.lt_of_lt_of_le hlt hP.bel.size
    have j0 : (0 : Int) ≤ j := by omega
    have j1 : (j : Int) < (kv.length : Int) := by omega
    replace hP := Lh hP; replace hgt2 := Lh hgt2; replace hsn := Lh hsn; replace hy := Lh hy
    go_wp2_with (fail)
    refine (hgt2.out _ hP.out.bel).mono ?_
    rintro e W4 ⟨rfl, b4⟩
    clear s9 sS xS
    have hP4 := Lh (hP.out.below b4)
    clear b4
    obtain ⟨W5, hW5⟩ : ∃ W, W = W4.alloc (.cells #[.int .i64 y1, .int .i64 y2, .int .i64 y3, .int .i64 y4, .int .i64 y5] 58) := ⟨_, rfl⟩
    have hP5 := hP4.out.below (show Below W4.heap.size W4 W5 by rw [hW5]; exact (Below.refl _ _).alloc (Nat.le_refl _) _)
    obtain ⟨W6, hW6⟩ : ∃ W, W = W5.alloc (.cells #[.int .i64 y1, .int .i64 y2, .int .i64 y3, .int .i64 y4, .int .i64 y5] 58) := ⟨_, rfl⟩
    have hP6 := hP5.below (show Below W5.heap.size W5 W6 by rw [hW6]; exact (Below.refl _ _).alloc (Nat.le_refl _) _)
    have hz5 : W5.heap.size = W4.heap.size + 1 := by rw [hW5]; simp
    have l6 : W6.heap[W4.heap.size + 1]? = some (.cells #[.int .i64 y1, .int .i64 y2, .int .i64 y3, .int .i64 y4, .int .i64 y5] 58 (0, 0)) := by rw [hW6, ← hz5]; exact hpNew _ _
    obtain ⟨A', c', V6, hrun, hVp, hPe⟩ := hP6.app2 (y := (y1, y2, y3, y4, y5)) l6 (by rw [hcj.out]; omega)
    rw [hsn.out, hcj.out] at hPe
    rw [hcj.out] at hrun
    replace hPe := Lh hPe
    replace hP6 := Lh hP6
    have s1 : W4.cell? ⟨v.heap.size + 2, 1, none⟩ = some (.slice A2 j c2) := by have q := blkC hP4.out.pbx 1; simp only [hcj.out, List.getElem?_toArray, List.getElem?_cons_zero, List.getElem?_cons_succ] at q; exact q
    have x4 := blkX hP4.out.pbx
    have v1 : V6.cell? ⟨v.heap.size + 2, 1, none⟩ = some (.slice A2 j c2) := by have q := blkC (hVp.trans hP6.out.pbx) 1; simp only [hcj.out, List.getElem?_toArray, List.getElem?_cons_zero, List.getElem?_cons_succ] at q; exact q
    have v2 := blkF (hVp.trans hP6.out.pbx) 1; have vx := blkX (hVp.trans hP6.out.pbx)
    rw [hW6, hW5] at hrun
    clear hVp hP5 hz5 l6 hP6
    replace hW5 := Lh hW5; replace hW6 := Lh hW6
    go_wp2_with (fail)
    exact ⟨⟨j + 1, A', c', by omega, by go_num, hPe.out⟩, by simp [intOf]; omega⟩
   ·
    obtain rfl : j = kv.length := by omega
    rw [List.take_of_length_le (by rw [hcs.out]; omega)] at hP
    have hall := all_any (h.out.below hP.bel).mem
    have sS : X.cell? ⟨p.S, 4, none⟩ = some (.pointer (some ⟨p.D, 0, none⟩)) := blkC ((hP.bel.block _ hlt).trans h.out.blk) 4
    have xS := Nat.lt_of_lt_of_le hlt hP.bel.size
    replace hP := Lh hP
    go_wp2_with (fail)
    refine hall.mono ?_
    rintro e W8 ⟨B, n8, d8, rfl, rfl, hes, hrw, b8⟩
    have hE8 : RowE B x.mem.length (x.mem.map En.e) W8 := ⟨hes, fun g hg => (hrw g hg).2⟩
    have hP8 := Lh (hP.out.below b8)
    replace hE8 := Lh hE8
    have hml : x.mem.length ≤ 2048 := by have := h.out.mem.le; have := h.out.mem.sz; omega
    clear hes hrw b8 hall sS xS
    go_wp2_with (fail)
    go_loopw [55] (fun i wr => ∃ (l : Nat) (A3 : Option Addr) (c3 : Nat), l ≤ x.mem.length ∧ i = .int .i64 l ∧ PaI v (r1, r2) (kv.map (·.1)) (kv.map (·.2)) ((x.mem.take l).filter fun y => hasG (r1, r2) y.k) A1 c1 A2 c2 A3 c3 wr ∧ RowE B x.mem.length (x.mem.map En.e) wr) (fun i _ => x.mem.length - (intOf i).toNat)
    case atStart => exact ⟨0, none, 0, by omega, rfl, hP8.out, hE8.out⟩
    case round =>
     clear hP8 hE8
     revert wr
     intro X2 hrel
     obtain ⟨l, A3, c3, hl, rfl, hP2, hE⟩ := hrel
     by_cases hlt3 : l < x.mem.length
     ·
      obtain ⟨b, o, e, rfl, hbl, hxk, hc⟩ := SL.at_ hE.es hlt3
      obtain ⟨y, hy, rfl⟩ : ∃ y, x.mem[l]? = some y ∧ y.e = e := by rw [List.getElem?_map] at hxk; simpa [Option.map_eq_some_iff] using hxk
      have hlk := look_mem hord.out (List.mem_of_getElem? hy)
      have hok := h.out.okm y (List.mem_of_getElem? hy)
      have hgk : getK x.mem y.e = y.k := by unfold getK; rw [hlk]
      have hgr : getR x.mem y.e = y.r := by unfold getR; rw [hlk]
      have hgb : hasB x.mem y.e = true := by unfold hasB; rw [hlk]; rfl
      have hnx : ∀ b, hasG (r1, r2) y.k = b → (x.mem.take (l + 1)).filter (fun y => hasG (r1, r2) y.k) = (x.mem.take l).filter (fun y => hasG (r1, r2) y.k) ++ (if b then [y] else []) := fun b hb => by rw [List.take_add_one, hy, List.filter_append]; cases b <;> simp [hb]
      have hky := fun (W : World) (hb : Below v.heap.size v W) => Key_any (h.out.below hb).mem hord.out y.e
      have hgt := fun (W : World) (hb : Below v.heap.size v W) => Get_any (h.out.below hb).mem hord.out y.e
      rw [hgk, hgb] at hky
      rw [hgr, hgb] at hgt
      have hkz : y.k.size ≤ 140737488355328 := by unfold okP at hok; simp only [Bool.and_eq_true] at hok; have := name_sz hok.1.2; omega
      clear hgk hgr hgb hlk hok
      have t0 := hc 0 _ rfl; have t1 := hc 1 _ rfl; have t2 := hc 2 _ rfl
      rw [Nat.add_zero] at t0
      obtain ⟨⟨e1, e2, e3⟩, k, q1, q2, q3⟩ := y
      simp only at t0 t1 t2 hkz hky hgt hnx
      clear hc hxk
      obtain ⟨W9, hW9⟩ : ∃ W, W = X2.alloc (.cells #[.int .i64 e1, .int .i64 e2, .int .i64 e3] 30) := ⟨_, rfl⟩
      have b9 : Below X2.heap.size X2 W9 := by rw [hW9]; exact (Below.refl _ _).alloc (Nat.le_refl _) _
      have hP9 := hP2.below b9
      have hE9 := hE.below b9
      have n9 : W9.heap[X2.heap.size]? = some (.cells #[.int .i64 e1, .int .i64 e2, .int .i64 e3] 30 (0, 0)) := by rw [hW9]; exact hpNew _ _
      obtain ⟨eb, heb⟩ : ∃ n, n = X2.heap.size := ⟨_, rfl⟩
      rw [← heb] at n9
      have hSS : ∀ W, Below v.heap.size v W → W.heap[eb]? = some (.cells #[.int .i64 e1, .int .i64 e2, .int .i64 e3] 30 (0, 0)) → (fun W' : World => W'.heap[p.S]? = some (.cells (shV p x) 88 (0, 0)) ∧ W'.heap[eb]? = some (.cells #[.int .i64 e1, .int .i64 e2, .int .i64 e3] 30 (0, 0))) W := fun W hb q => ⟨(hb.block _ hlt).trans h.out.blk, q⟩
      obtain ⟨Y, hY⟩ : ∃ W, W = W9.drew := ⟨_, rfl⟩
      have bY : Below W9.heap.size W9 Y := by rw [hY]; exact (Below.refl _ _).drew
      have hPY := hP9.below bY
      have hEY := hE9.below bY
      have nY := (bY.block _ (blkX n9)).trans n9
      have j0 : (0 : Int) ≤ l := by omega
      have j1 : (l : Int) < (x.mem.length : Int) := by omega
      replace hP2 := Lh hP2; replace hE := Lh hE; replace hPY := Lh hPY; replace hEY := Lh hEY; replace nY := Lh nY; replace hY := Lh hY; replace hW9 := Lh hW9; replace heb := Lh heb; replace hnx := Lh hnx; replace hky := Lh hky; replace hgt := Lh hgt; replace hSS := Lh hSS; replace hy := Lh hy
      clear b9 hP9 hE9 n9 bY
      go_wp2_with (fail)
      rw [← hW9.out, ← heb.out]
      clear t0 t1 t2
      apply joinArm (F := fun V => PaI v (r1, r2) (kv.map (·.1)) (kv.map (·.2)) ((x.mem.take l).filter fun y => hasG (r1, r2) y.k) A1 c1 A2 c2 A3 c3 V ∧ RowE (some ⟨b, o, none⟩) x.mem.length (x.mem.map En.e) V ∧ V.heap[eb]? = some (.cells #[.int .i64 e1, .int .i64 e2, .int .i64 e3] 30 (0, 0)))
      ·
       intro hfin
       refine wp_region_held_drew (S := (fun W' : World => W'.heap[p.S]? = some (.cells (shV p x) 88 (0, 0)) ∧ W'.heap[eb]? = some (.cells #[.int .i64 e1, .int .i64 e2, .int .i64 e3] 30 (0, 0)))) (by kernel_rfl) ?_ (fun hH => ?_)
       ·
        try rw [← hY.out]
        exact hSS.out _ hPY.out.bel nY.out
       refine tl 0 hH ?_
       refine tl 1 hH ?_
       refine tl 2 hH ?_
       refine tk (i := 3) (v := ?_) (hy := .inl ⟨by rfl, by intro w hSw; obtain ⟨sS, sC⟩ := hSw; have t0 : w.cell? ⟨p.S, 4, none⟩ = some (.pointer (some ⟨p.D, 0, none⟩)) := blkC sS 4; go_simp; first | done | with_reducible rfl⟩) (hS := hH) (h := ?_)
       refine tk (i := 4) (v := ?_) (hy := .inl ⟨by rfl, by intro w hSw; obtain ⟨sS, sC⟩ := hSw; have t0 : w.cell? ⟨eb, 0, none⟩ = some (.int .i64 e1) := blkC sC 0; have t1 : w.cell? ⟨eb, 1, none⟩ = some (.int .i64 e2) := blkC sC 1; have t2 : w.cell? ⟨eb, 2, none⟩ = some (.int .i64 e3) := blkC sC 2; go_simp; first | done | with_reducible rfl⟩) (hS := hH) (h := ?_)
       refine wpAnyH_ready (rs := [5]) (by kernel_rfl) (by simp) ?_
       refine AllReadyH.cons rfl (fun K hK => ?_) ?_
       ·
        clear hH
        try rw [← hY.out]
        go_simp
        refine (hky.out _ hPY.out.bel).mono ?_
        rintro e Z ⟨rfl, bb⟩
        have hPZ := hPY.out.below bb
        have hEZ := hEY.out.below bb
        have nZ := (bb.block _ (blkX nY.out)).trans nY.out
        replace hPZ := Lh hPZ; replace hEZ := Lh hEZ; replace nZ := Lh nZ
        clear bb
        refine hK _ _ (hSS.out _ hPZ.out.bel nZ.out) (fun hH => ?_)
        clear hK K
        refine tl 6 hH ?_
        refine tl 7 hH ?_
        refine tl 8 hH ?_
        refine tl 9 hH ?_
        refine tl 10 hH ?_
        refine wpAnyH_done (by kernel_rfl) ?_ _
        clear hH
        exact hfin _ ⟨hPZ.out, hEZ.out, nZ.out⟩
       exact AllReadyH.nil
      ·
       rintro V ⟨hP3, hE3, n3⟩
       have z0 := blkC hP3.rng 0; have z1 := blkC hP3.rng 1; have zx := blkX hP3.rng
       simp only [List.getElem?_toArray, List.getElem?_cons_zero, List.getElem?_cons_succ] at z0 z1
       have hh := fun Z => hasG_any r1 r2 k Z hsz.out.1 hsz.out.2 (by omega)
       replace hP3 := Lh hP3; replace hE3 := Lh hE3; replace n3 := Lh n3
       clear hPY hEY nY hY
       cases hb : hasG (r1, r2) k with
       | false =>
        rw [hb] at hh
        have hn2 := hnx.out _ hb
        simp only [Bool.false_eq_true, if_false, List.append_nil] at hn2
        replace hn2 := Lh hn2; replace hb := Lh hb
        go_wp2_with (fail)
        refine (hh _).mono ?_
        rintro e W13 ⟨rfl, b13⟩
        have hP13 := Lh (hP3.out.below b13)
        have hE13 := Lh (hE3.out.below b13)
        clear b13 hh z0 z1 zx
        go_wp2_with (fail)
        exact ⟨⟨l + 1, A3, c3, by omega, by go_num, by rw [hn2.out]; exact hP13.out, hE13.out⟩, by simp [intOf]; omega⟩
       | true =>
        rw [hb] at hh
        have hn2 := hnx.out _ hb
        simp only [if_true] at hn2
        replace hn2 := Lh hn2; replace hb := Lh hb
        go_wp2_with (fail)
        refine (hh _).mono ?_
        rintro e W13 ⟨rfl, b13⟩
        have hP13 := Lh (hP3.out.below b13)
        have hE13 := Lh (hE3.out.below b13)
        have n13 := Lh ((b13.block _ (blkX n3.out)).trans n3.out)
        clear b13 hh z0 z1 zx
        obtain ⟨Y, hY⟩ : ∃ W, W = W13.drew := ⟨_, rfl⟩
        have ky := Lh (show Below W13.heap.size W13 Y by rw [hY]; exact (Below.refl _ _).drew)
        replace hY := Lh hY
        have hS3 := Lh (show ∀ W, Below W13.heap.size W13 W → (fun W' : World => W'.heap[p.S]? = some (.cells (shV p x) 88 (0, 0)) ∧ W'.heap[eb]? = some (.cells #[.int .i64 e1, .int .i64 e2, .int .i64 e3] 30 (0, 0))) W from fun W hb => hSS.out W (hP13.out.bel.trans (hb.mono hP13.out.bel.size)) ((hb.block _ (blkX n13.out)).trans n13.out))
        have hg3 := Lh (fun (W : World) (hb : Below W13.heap.size W13 W) => hgt.out W (hP13.out.bel.trans (hb.mono hP13.out.bel.size)))
        go_wp2_with (fail)
        apply joinArms (F := fun V ab => Found W13 52 (q1, q2, q3) V ab)
        ·
         intro hfin
         refine wp_region_held_drew (S := (fun W' : World => W'.heap[p.S]? = some (.cells (shV p x) 88 (0, 0)) ∧ W'.heap[eb]? = some (.cells #[.int .i64 e1, .int .i64 e2, .int .i64 e3] 30 (0, 0)))) (by kernel_rfl) ?_ (fun hH => ?_)
         ·
          try rw [← hY.out]
          exact hS3.out _ ky.out
         refine tl 0 hH ?_
         refine tl 1 hH ?_
         refine tl 2 hH ?_
         refine tk (i := 3) (v := ?_) (hy := .inl ⟨by rfl, by intro w hSw; obtain ⟨sS, sC⟩ := hSw; have t0 : w.cell? ⟨p.S, 4, none⟩ = some (.pointer (some ⟨p.D, 0, none⟩)) := blkC sS 4; go_simp; first | done | with_reducible rfl⟩) (hS := hH) (h := ?_)
         refine tk (i := 4) (v := ?_) (hy := .inl ⟨by rfl, by intro w hSw; obtain ⟨sS, sC⟩ := hSw; have t0 : w.cell? ⟨eb, 0, none⟩ = some (.int .i64 e1) := blkC sC 0; have t1 : w.cell? ⟨eb, 1, none⟩ = some (.int .i64 e2) := blkC sC 1; have t2 : w.cell? ⟨eb, 2, none⟩ = some (.int .i64 e3) := blkC sC 2; go_simp; first | done | with_reducible rfl⟩) (hS := hH) (h := ?_)
         refine wpAnyH_ready (rs := [5, 9]) (by kernel_rfl) (by simp) ?_
         refine AllReadyH.cons rfl (fun K hK => ?_) ?_
         ·
          clear hH
          try rw [← hY.out]
          go_simp
          refine (hg3.out _ ky.out).mono ?_
          rintro e Y_5 ⟨rfl, bb⟩
          have kY_5 := Lh (ky.out.trans (bb.mono ky.out.size))
          clear bb
          refine hK _ _ (hS3.out _ kY_5.out) (fun hH => ?_)
          clear hK K
          refine tl 6 hH ?_
          refine tl 7 hH ?_
          refine tl 8 hH ?_
          refine wpAnyH_ready (rs := [9]) (by kernel_rfl) (by simp) ?_
          refine AllReadyH.cons rfl (fun K hK => ?_) ?_
          ·
           clear hH
           go_simp
           obtain ⟨Y_5_9, hVV⟩ : ∃ Z, Z = Y_5.alloc (.cells #[.int .i64 0, .int .i64 0, .string ⟨#[]⟩] 52) := ⟨_, rfl⟩
           have bb : Below Y_5.heap.size Y_5 Y_5_9 := by rw [hVV]; exact (Below.refl _ _).alloc (Nat.le_refl _) _
           obtain ⟨ab, hab⟩ : ∃ n, n = Y_5.heap.size := ⟨_, rfl⟩
           have qaY_5_9 := Lh (show Y_5_9.heap[ab]? = some (.cells #[.int .i64 0, .int .i64 0, .string ⟨#[]⟩] 52 (0, 0)) from by rw [hVV, hab]; exact hpNew _ _)
           have hga := Lh (show W13.heap.size ≤ ab from by rw [hab]; exact kY_5.out.size)
           have kY_5_9 := Lh (kY_5.out.trans (bb.mono kY_5.out.size))
           clear bb
           rw [← hVV, ← hab]
           replace hVV := Lh hVV; replace hab := Lh hab
           refine hK _ _ (hS3.out _ kY_5_9.out) (fun hH => ?_)
           clear hK K
           refine wpAnyH_ready (rs := [10]) (by kernel_rfl) (by simp) ?_
           refine AllReadyH.cons rfl (fun K hK => ?_) ?_
           ·
            clear hH
            have e0 := blkC qaY_5_9.out 0; have e1' := blkC qaY_5_9.out 1; have e2' := blkC qaY_5_9.out 2; have ef := blkF qaY_5_9.out; have ex := blkX qaY_5_9.out
            simp only [List.getElem?_toArray, List.getElem?_cons_zero, List.getElem?_cons_succ] at e0 e1' e2'
            go_simp
            have hfd := found_store kY_5_9.out hga.out qaY_5_9.out rfl (q1, q2, q3)
            simp only at hfd
            generalize hV9 : ((Y_5_9.setCell ⟨ab, 0, none⟩ (.int .i64 q1)).setCell ⟨ab, 1, none⟩ (.int .i64 q2)).setCell ⟨ab, 2, none⟩ (.string q3) = V9 at hfd ⊢
            refine hK _ _ (hS3.out _ hfd.bel) (fun hH => ?_)
            clear hK K e0 e1' e2' ef ex
            refine tl 11 hH ?_
            refine wpAnyH_done (by kernel_rfl) ?_ _
            clear hH
            exact hfin _ _ hfd
           exact AllReadyH.nil
          exact AllReadyH.nil
         refine AllReadyH.cons rfl (fun K hK => ?_) ?_
         ·
          clear hH
          try rw [← hY.out]
          go_simp
          obtain ⟨Y_9, hVV⟩ : ∃ Z, Z = Y.alloc (.cells #[.int .i64 0, .int .i64 0, .string ⟨#[]⟩] 52) := ⟨_, rfl⟩
          have bb : Below Y.heap.size Y Y_9 := by rw [hVV]; exact (Below.refl _ _).alloc (Nat.le_refl _) _
          obtain ⟨ab, hab⟩ : ∃ n, n = Y.heap.size := ⟨_, rfl⟩
          have qaY_9 := Lh (show Y_9.heap[ab]? = some (.cells #[.int .i64 0, .int .i64 0, .string ⟨#[]⟩] 52 (0, 0)) from by rw [hVV, hab]; exact hpNew _ _)
          have hga := Lh (show W13.heap.size ≤ ab from by rw [hab]; exact ky.out.size)
          have kY_9 := Lh (ky.out.trans (bb.mono ky.out.size))
          clear bb
          rw [← hVV, ← hab]
          replace hVV := Lh hVV; replace hab := Lh hab
          refine hK _ _ (hS3.out _ kY_9.out) (fun hH => ?_)
          clear hK K
          refine wpAnyH_ready (rs := [5]) (by kernel_rfl) (by simp) ?_
          refine AllReadyH.cons rfl (fun K hK => ?_) ?_
          ·
           clear hH
           go_simp
           refine (hg3.out _ kY_9.out).mono ?_
           rintro e Y_5_9 ⟨rfl, bb⟩
           have kY_5_9 := Lh (kY_9.out.trans (bb.mono kY_9.out.size))
           have qaY_5_9 := Lh ((bb.block _ (blkX qaY_9.out)).trans qaY_9.out)
           clear bb
           refine hK _ _ (hS3.out _ kY_5_9.out) (fun hH => ?_)
           clear hK K
           refine tl 6 hH ?_
           refine tl 7 hH ?_
           refine tl 8 hH ?_
           refine wpAnyH_ready (rs := [10]) (by kernel_rfl) (by simp) ?_
           refine AllReadyH.cons rfl (fun K hK => ?_) ?_
           ·
            clear hH
            have e0 := blkC qaY_5_9.out 0; have e1' := blkC qaY_5_9.out 1; have e2' := blkC qaY_5_9.out 2; have ef := blkF qaY_5_9.out; have ex := blkX qaY_5_9.out
            simp only [List.getElem?_toArray, List.getElem?_cons_zero, List.getElem?_cons_succ] at e0 e1' e2'
            go_simp
            have hfd := found_store kY_5_9.out hga.out qaY_5_9.out rfl (q1, q2, q3)
            simp only at hfd
            generalize hV9 : ((Y_5_9.setCell ⟨ab, 0, none⟩ (.int .i64 q1)).setCell ⟨ab, 1, none⟩ (.int .i64 q2)).setCell ⟨ab, 2, none⟩ (.string q3) = V9 at hfd ⊢
            refine hK _ _ (hS3.out _ hfd.bel) (fun hH => ?_)
            clear hK K e0 e1' e2' ef ex
            refine tl 11 hH ?_
            refine wpAnyH_done (by kernel_rfl) ?_ _
            clear hH
            exact hfin _ _ hfd
           exact AllReadyH.nil
          exact AllReadyH.nil
         exact AllReadyH.nil
        ·
         rintro V9 ab hfd
         have hP14 := hP13.out.below hfd.bel
         have hE14 := hE13.out.below hfd.bel
         have n14 := (hfd.bel.block _ (blkX n13.out)).trans n13.out
         have hab := hfd.blk
         obtain ⟨W14, hW14⟩ : ∃ W, W = V9.alloc (.cells #[.int .i64 e1, .int .i64 e2, .int .i64 e3, .string k, .int .i64 q1, .int .i64 q2, .string q3] 101) := ⟨_, rfl⟩
         have b14 : Below V9.heap.size V9 W14 := by rw [hW14]; exact (Below.refl _ _).alloc (Nat.le_refl _) _
         have l14 : W14.heap[V9.heap.size]? = some (.cells #[.int .i64 e1, .int .i64 e2, .int .i64 e3, .string k, .int .i64 q1, .int .i64 q2, .string q3] 101 (0, 0)) := by rw [hW14]; exact hpNew _ _
         have hP15 := hP14.below b14
         have hE15 := hE14.below b14
         obtain ⟨fl, hfl⟩ : ∃ l', l' = (x.mem.take l).filter (fun y => hasG (r1, r2) y.k) := ⟨_, rfl⟩
         rw [← hfl] at hP14 hP15 hn2
         have hfn : fl.length ≤ 2048 := by rw [hfl]; exact Nat.le_trans (List.length_filter_le _ _) (by rw [List.length_take]; omega)
         obtain ⟨A', c', V6, hrun, hVp, hPe, hkE⟩ := hP15.app3 (y := ⟨(e1, e2, e3), k, q1, q2, q3⟩) l14 (by omega)
         have hEe := Lh (hE15.same hkE)
         rw [← hn2.out] at hPe
         replace hPe := Lh hPe
         rw [hW14] at hrun
         have s2 : V9.cell? ⟨v.heap.size + 2, 2, none⟩ = some (.slice A3 fl.length c3) := blkC hP14.pbx 2
         have sx := blkX hP14.pbx
         have w0 := blkC n14 0; have w1 := blkC n14 1; have w2 := blkC n14 2; have wx := blkX n14
         have y0 := blkC hab 0; have y1 := blkC hab 1; have y2 := blkC hab 2; have yx := blkX hab
         simp only [List.getElem?_toArray, List.getElem?_cons_zero, List.getElem?_cons_succ] at w0 w1 w2 y0 y1 y2
         have v1 : V6.cell? ⟨v.heap.size + 2, 2, none⟩ = some (.slice A3 fl.length c3) := blkC (hVp.trans hP15.pbx) 2
         have v2 := blkF (hVp.trans hP15.pbx) 2; have vx := blkX (hVp.trans hP15.pbx)
         clear hVp hP15 hE15 l14 hP14 hE14 n14 hab hkE b14 hfd
         replace hW14 := Lh hW14; replace hfl := Lh hfl
         go_wp2_with (fail)
         exact ⟨⟨l + 1, A', c', by omega, by go_num, hPe.out, hEe.out⟩, by simp [intOf]; omega⟩
     ·
      obtain rfl : l = x.mem.length := by omega
      rw [List.take_length, show x.mem.filter (fun y => hasG (r1, r2) y.k) = dn from hdn.out.symm] at hP2
      have s0 : X2.cell? ⟨v.heap.size + 2, 0, none⟩ = some (.slice A1 kv.length c1) := by have q := blkC hP2.pbx 0; rw [hks.out] at q; exact q
      have s1 : X2.cell? ⟨v.heap.size + 2, 1, none⟩ = some (.slice A2 kv.length c2) := by have q := blkC hP2.pbx 1; rw [hcs.out] at q; exact q
      have s2 : X2.cell? ⟨v.heap.size + 2, 2, none⟩ = some (.slice A3 dn.length c3) := blkC hP2.pbx 2
      have sx := blkX hP2.pbx
      have g0 := blkC hP2.res 0; have g1 := blkC hP2.res 1; have g2 := blkC hP2.res 2; have gf := blkF hP2.res; have gx := blkX hP2.res
      simp only [List.getElem?_toArray, List.getElem?_cons_zero, List.getElem?_cons_succ] at g0 g1 g2
      have hfin := Lh hP2.fin
      clear hP2 hE
      go_wp2_with (fail)
      refine bodyPost_ret (by simp [results, Tryz.results21, go_sem, *]; try with_reducible rfl) rfl ?_
      exact ⟨A1, c1, A2, c2, A3, c3, rfl, hfin.out _ _ _⟩
end Go.Proofs.YtgnjnpddehdmcaaGreatDoor
