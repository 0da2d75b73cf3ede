/- The walk of set where the literal is open. -/
import Derived.Test.YtbnjbjcokkcfcaaA0
namespace Go.Proofs.Ytbnjbjcokkcfcaa.Sol
open Go.RowKit Go.Proofs.YtbnjbjcokkcfcaaW.PrintWords Go.Proofs.YtbnjbjcokkcfcaaW.PrintLast Go.Proofs.YtbnjbjcokkcfcaaW.PrintMore Go.Proofs.Ytbnjbjcokkcfcaa.PSearchOwn
set_option linter.unusedVariables false
set_option linter.unusedSimpArgs false


theorem St.put {w0 W : World} {g gv : Nat} {N : Int} {AL : Option Addr} {cL : Nat} {L : List (List Int)} {vs ts : List Int} {tv : Value} (h : St w0 W g gv N AL cL L vs ts tv) (i : Nat) (x : Int) (hx : -1 ≤ x ∧ x ≤ 1) :
    St w0 (W.setCell ⟨gv, i, none⟩ (.int .i64 x)) g gv N AL cL L (vs.set i x) ts tv := by
  have hne : g ≠ gv := blk_ne h.blk h.val (by decide)
  refine ⟨?_, ?_, ?_, h.ne, below_set h.below h.gev, h.geg, h.gev, h.rdL, h.capL, ?_, by simpa using h.len⟩
  · rw [List.length_set]; exact blk_far h.blk hne _
  · refine blk_put h.val i _ ?_
    simp [List.map_set]
  · exact own_move h.tr (fun k hk => Below.heap_setCell W ⟨gv, i, none⟩ _ k (fun e => h.ne (by rw [hk, e])))
  · intro y hy
    rcases List.mem_or_eq_of_mem_set hy with hy | rfl
    · exact h.small y hy
    · exact hx



section
variable {w0 W w1 : World} {g gv : Nat} {N : Int} {AL : Option Addr} {cL : Nat} {L : List (List Int)} {vs ts : List Int} {tv v1 : Value}
theorem own_neG {b e t n : Nat} {xs cs : _} (h : W.ownsRow b e 1 tv n xs) (hb : W.heap[g]? = some (.cells cs t (0, 0))) (ht : e ≠ t) : some g ≠ tv.ownBlock := by
  intro he
  obtain ⟨cells, hc⟩ := own_typed h g he.symm
  rw [hb] at hc
  injection hc with hc
  injection hc with _ hc
  exact ht hc.symm
theorem St.gblk (h : St w0 W g gv N AL cL L vs ts tv) (hg : W.grownBy w1 tv.ownBlock) : w1.heap[g]? = some (.cells #[.int .i64 N, .slice AL L.length cL, .slice (some ⟨gv, 0, none⟩) vs.length vs.length, tv] 89 (0, 0)) :=
  blk_grown h.blk hg (own_neG h.tr h.blk (by decide))
theorem St.push (h : St w0 W g gv N AL cL L vs ts tv) (x : Int) (hown : w1.ownsRow w0.heap.size 3 1 v1 (ts.length + 1) (nums .i64 ts ++ [.int .i64 x])) (hb : Below w0.heap.size w0 w1) (hg : W.grownBy w1 tv.ownBlock)
    (hat : v1.ownBlock = tv.ownBlock ∨ ∃ b, v1.ownBlock = some b ∧ W.heap.size ≤ b) :
    St w0 (w1.setCell ⟨g, 3, none⟩ v1) g gv N AL cL L vs (ts ++ [x]) v1 ∧ Moved W (w1.setCell ⟨g, 3, none⟩ v1) g gv tv v1 := by
  have hgb := h.gblk hg
  have hvb := blk_grown h.val hg (fun e => h.ne e.symm)
  have hne : gv ≠ g := Ne.symm (blk_ne h.blk h.val (by decide))
  refine ⟨⟨blk_put hgb 3 v1 rfl, blk_far hvb hne _, ?_, ?_, below_set hb h.geg, h.geg, h.gev, h.rdL, h.capL, h.small, h.len⟩, ⟨?_, hat⟩⟩
  · have h2 := own_move (w1 := w1.setCell ⟨g, 3, none⟩ v1) hown (fun k hk => Below.heap_setCell w1 ⟨g, 3, none⟩ v1 k (fun e => by
      have := own_neG hown hgb (by decide)
      exact this (by rw [hk, e])))
    simpa [nums] using h2
  · intro he
    rcases hat with e | ⟨b, e, hle⟩
    · exact h.ne (e ▸ he)
    · rw [e] at he
      injection he with he
      subst he
      exact absurd (blk_lt h.val) (by omega)
  · exact (Kept.of_grown hg (Kept.refl W _) (fun k hk => .inl (.inr (.inr hk)))).setCell (.inl (.inl rfl)) _
end

def setT9 : Bool × List (List Nat × List Nat) := (true, [([], []), ([], []), ([1], [1]), ([2], [2]), ([3], [3]), ([], []), ([5], [5]), ([6], [6]), ([4, 7, 6], [4, 7]), ([0, 0, 1, 2, 3, 4, 5, 6, 7, 8], [0]), ([9, 0, 1, 2, 3, 4, 5, 6, 7, 8], [9]), ([10, 8, 8, 0, 1, 2, 3, 4, 5, 6, 7, 8], [8, 10])])
def setB9 : List Nat := [0, 0, 2, 6, 14, 0, 32, 96, 254, 511, 1023, 2047]
theorem settab9 : rtab .any (opsOf Try.f66 9) = setT9 := by kernel_rfl
theorem setbits9 : waitsOk setT9.2 setB9 = true := by kernel_rfl

theorem St.drewN {w0 W : World} {g gv : Nat} {N : Int} {AL : Option Addr} {cL : Nat} {L : List (List Int)} {vs ts : List Int} {tv : Value} (h : St w0 W g gv N AL cL L vs ts tv) (n : Nat) : St w0 (W.drewN n) g gv N AL cL L vs ts tv :=
  ⟨h.blk, h.val, own_move h.tr (fun _ _ => rfl), h.ne, pw_below_drewN h.below n, h.geg, h.gev, h.rdL, h.capL, h.small, h.len⟩
theorem St.drew {w0 W : World} {g gv : Nat} {N : Int} {AL : Option Addr} {cL : Nat} {L : List (List Int)} {vs ts : List Int} {tv : Value} (h : St w0 W g gv N AL cL L vs ts tv) : St w0 W.drew g gv N AL cL L vs ts tv := h.drewN 1
theorem Moved.drewN {W W' : World} {g gv : Nat} {tv tv' : Value} (h : Moved W W' g gv tv tv') (n : Nat) : Moved W (W'.drewN n) g gv tv tv' := ⟨h.kept.drewN n, h.tail⟩
theorem Moved.drew {W W' : World} {g gv : Nat} {tv tv' : Value} (h : Moved W W' g gv tv tv') : Moved W W'.drew g gv tv tv' := ⟨h.kept.drew, h.tail⟩

set_option maxHeartbeats 2000000 in
set_option maxRecDepth 100000 in
theorem set_new {w0 W : World} {g gv : Nat} {N : Int} {AL : Option Addr} {cL : Nat} {L : List (List Int)} {vs ts : List Int} {tv : Value} (h : St w0 W g gv N AL cL L vs ts tv) (l : Int) (hl : -(vs.length : Int) < l ∧ l < vs.length) (h0 : l ≠ 0) (h128 : -128 ≤ l ∧ l ≤ 128) (hb : tru vs l = 0) (hts : ts.length ≤ 1000000) :
    Calls Try.prog 66 #[.pointer (some ⟨g, 0, none⟩), .int .i64 l] W (SetPost w0 W g gv N AL cL L vs ts tv (setB vs l) (setV vs l) (setT vs ts l)) := by
  have ht := truth_calls h l hl
  have e1 : setB vs l = true := by unfold setB; rw [hb]; rfl
  have e2 : setT vs ts l = ts ++ [(l.natAbs : Int)] := by unfold setT; rw [if_pos hb]
  rw [e1, e2]
  rw [hb] at ht
  have HA := Aside0.mk h
  clear h e1 e2
  have HT := Aside0.mk ht
  clear ht
  have HZ := Aside0.mk hb
  clear hb
  have HVar := Aside0.mk (fun w => var_calls l w h0 h128.1 h128.2)
  obtain ⟨h1, h2⟩ := hl
  clear h128
  have H0 := Aside0.mk h0
  clear h0
  generalize hvs : setV vs l = vs1
  have HV := Aside0.mk hvs
  clear hvs
  go_enter Try.func66, Try.ntmps66
  go_upto_if 13 with ((go_at_call 87; refine HT.out.mono ?_; rintro e w' ⟨rfl, rfl⟩))
  go_cut [] (fun wc => Aside0 (St w0 wc g gv N AL cL L vs1 ts tv) ∧ Aside0 (Moved W wc g gv tv tv))
  case first =>
    have hc2 : W.cell? ⟨g, 2, none⟩ = some (.slice (some ⟨gv, 0, none⟩) vs.length vs.length) := (blk_cell HA.out.blk 2).trans rfl
    have hlen := HA.out.len
    by_cases hp : 0 < l
    · have hi : W.cell? ⟨gv, l.toNat, none⟩ = some (.int .i64 (vat vs l)) := HA.out.cell l (by omega) (by omega)
      have hf : W.frozen? ⟨gv, l.toNat, none⟩ = false := blk_frozen HA.out.val _
      go_wp2
      go_meet
      case rel =>
        have e : vs1 = vs.set l.toNat 1 := by rw [← HV.out]; unfold setV; rw [if_pos HZ.out, if_pos hp]
        rw [e]
        exact ⟨⟨HA.out.put _ _ (by omega)⟩, ⟨⟨(Kept.refl W _).setCell (.inl (.inr (.inl rfl))) _, .inl rfl⟩⟩⟩
    · have hq : l < 0 := by have := H0.out; omega
      have hi : W.cell? ⟨gv, (-l).toNat, none⟩ = some (.int .i64 (vat vs (-l))) := HA.out.cell (-l) (by omega) (by omega)
      have hf : W.frozen? ⟨gv, (-l).toNat, none⟩ = false := blk_frozen HA.out.val _
      go_wp2
      go_meet
      case rel =>
        have e : vs1 = vs.set (-l).toNat (-1) := by rw [← HV.out]; unfold setV; rw [if_pos HZ.out, if_neg (by omega)]
        rw [e]
        exact ⟨⟨HA.out.put _ _ (by omega)⟩, ⟨⟨(Kept.refl W _).setCell (.inl (.inr (.inl rfl))) _, .inl rfl⟩⟩⟩
  case rest =>
    obtain ⟨HP, HM⟩ := hcut
    clear HA HT HZ
    try go_wp2
    replace HP := Aside0.mk HP.out.drew
    replace HM := Aside0.mk HM.out.drew
    refine start_ (n := 12) (S := fun w' => w'.cell? ⟨g, 3, none⟩ = some tv) (ds := [11]) #[false, false, false, false, false, false, false, false, false, false, false, false] (by kernel_rfl) rfl rfl ((blk_cell HP.out.blk 3).trans rfl) (fun hHeld => ?_)
    refine with_tabW settab9 setbits9 (fun HT_ HW_ => ?_)
    refine pure_ (i := 0) (N := some 27) (v := ?_) (a' := ?_) #[true, false, false, false, false, false, false, false, false, false, false, false] rfl rfl (any_of HT_.out (by kernel_rfl)) (fun _ _ _ h => h) (Or.inl ⟨by rfl, ?_⟩) ?_ ?_
    rotate_left
    · intro w'
      go_simp
      with_reducible rfl
    rotate_left
    · simp only [Act.put, List.setIfInBounds_toArray, List.set_cons_zero, List.set_cons_succ, i64_w, i32_w]
      rfl
    refine pure_ (i := 1) (N := some 28) (v := ?_) (a' := ?_) #[true, true, false, false, false, false, false, false, false, false, false, false] rfl rfl (any_of HT_.out (by kernel_rfl)) (fun _ _ _ h => h) (Or.inl ⟨by rfl, ?_⟩) ?_ ?_
    rotate_left
    · intro w'
      go_simp
      with_reducible rfl
    rotate_left
    · simp only [Act.put, List.setIfInBounds_toArray, List.set_cons_zero, List.set_cons_succ, i64_w, i32_w]
      rfl
    refine pure_ (i := 2) (N := some 29) (v := ?_) (a' := ?_) #[true, true, true, false, false, false, false, false, false, false, false, false] rfl rfl (any_of HT_.out (by kernel_rfl)) (fun _ _ _ h => h) (Or.inl ⟨by rfl, ?_⟩) ?_ ?_
    rotate_left
    · intro w'
      go_simp
      with_reducible rfl
    rotate_left
    · simp only [Act.put, List.setIfInBounds_toArray, List.set_cons_zero, List.set_cons_succ, i64_w, i32_w]
      rfl
    refine pure_ (i := 3) (N := some 30) (v := ?_) (a' := ?_) #[true, true, true, true, false, false, false, false, false, false, false, false] rfl rfl (any_of HT_.out (by kernel_rfl)) (fun _ _ _ h => h) (Or.inl ⟨by rfl, ?_⟩) ?_ ?_
    rotate_left
    · intro w'
      go_simp
      with_reducible rfl
    rotate_left
    · simp only [Act.put, List.setIfInBounds_toArray, List.set_cons_zero, List.set_cons_succ, i64_w, i32_w]
      rfl
    refine take_ (i := 4) (N := some 31) (v := ?_) (a' := ?_) #[true, true, true, true, true, false, false, false, false, false, false, false] rfl rfl (take_ofW HT_.out HW_.out (by kernel_rfl)) (fun _ _ _ h => h) (Or.inl ⟨by rfl, ?_⟩) hHeld ?_ ?_
    rotate_left
    · rintro w' s0
      go_simp
      with_reducible rfl
    rotate_left
    · simp only [Act.put, List.setIfInBounds_toArray, List.set_cons_zero, List.set_cons_succ, i64_w, i32_w]
      rfl
    refine pure_ (i := 5) (N := some 32) (v := ?_) (a' := ?_) #[true, true, true, true, true, true, false, false, false, false, false, false] rfl rfl (any_of HT_.out (by kernel_rfl)) (fun _ _ _ h => h) (Or.inl ⟨by rfl, ?_⟩) ?_ ?_
    rotate_left
    · intro w'
      go_simp
      with_reducible rfl
    rotate_left
    · simp only [Act.put, List.setIfInBounds_toArray, List.set_cons_zero, List.set_cons_succ, i64_w, i32_w]
      rfl
    refine one_ (i := 6) (N := some 33) #[true, true, true, true, true, true, true, false, false, false, false, false] rfl rfl (one_of HT_.out (by kernel_rfl)) (by decide) (fun K hK => ?_)
    refine goes_ Try.func28 (by kernel_rfl) rfl #[.int .i64 l] (by rfl) rfl rfl (by simp only [List.map_toArray, List.map_cons, List.map_nil]; rfl) ?_
    refine (HVar.out _).mono ?_
    rintro e_ w_ ⟨rfl, ⟨n_, rfl⟩⟩
    refine ⟨_, rfl, ?_⟩
    have HP2 := Aside0.mk (HP.out.drewN n_)
    have HM2 := Aside0.mk (HM.out.drewN n_)
    clear HP HM
    generalize wc.drew.drewN n_ = W2 at HP2 HM2 ⊢
    refine hK.out _ _ ((blk_cell HP2.out.blk 3).trans rfl) (fun hHeld => ?_)
    clear hK K
    refine norm_ (a' := ?_) ?_ ?_
    rotate_left
    · show Act.put _ (some 33) _ = _
      simp only [Act.put, List.setIfInBounds_toArray, List.set_cons_zero, List.set_cons_succ, i64_w, i32_w]
      rfl
    refine one_ (i := 7) (N := some 34) #[true, true, true, true, true, true, true, true, false, false, false, false] rfl rfl (one_of HT_.out (by kernel_rfl)) (by decide) (fun K hK => ?_)
    refine value_ (w1 := ?_) (v := ?_) (by rfl) rfl ?_ ?_
    rotate_left 2
    · go_simp
      (refine ⟨?_, ?_⟩ <;> rfl)
    refine hK.out _ _ ((blk_cell (blk_alloc HP2.out.blk _) 3).trans rfl) (fun hHeld => ?_)
    clear hK K
    refine norm_ (a' := ?_) ?_ ?_
    rotate_left
    · show Act.put _ (some 34) _ = _
      simp only [Act.put, List.setIfInBounds_toArray, List.set_cons_zero, List.set_cons_succ, i64_w, i32_w]
      rfl
    refine one_ (i := 8) (N := some 35) #[true, true, true, true, true, true, true, true, true, false, false, false] rfl rfl (one_of HT_.out (by kernel_rfl)) (by decide) (fun K hK => ?_)
    refine step_append_cells (w0 := w0) w0.heap.size (by rfl) (.tmp 31) (.tmp 34) 25 3 (.int .i64 0) 1 8 rfl Try.underlying25 info3 rfl (by decide) (by decide) tv ts.length (nums .i64 ts) [.int .i64 (l.natAbs : Int)] rfl rfl rfl (by intro u hu; simp at hu; subst hu; rfl) HP2.out.tr HP2.out.below HP2.out.below.size (by omega) ?_
    intro v1 w1 hown hbel hg hat
    obtain ⟨A1, c1, rfl⟩ := own_slice hown
    have HQ := Aside0.mk (HP2.out.push (l.natAbs : Int) hown hbel hg hat)
    have hgb := HP2.out.gblk hg
    refine hK.out _ _ ((blk_cell hgb 3).trans rfl) (fun hHeld => ?_)
    clear hK K
    refine norm_ (a' := ?_) ?_ ?_
    rotate_left
    · show Act.put _ (some 35) _ = _
      simp only [Act.put, List.setIfInBounds_toArray, List.set_cons_zero, List.set_cons_succ, i64_w, i32_w]
      rfl
    refine pure_ (i := 9) (N := some 36) (v := ?_) (a' := ?_) #[true, true, true, true, true, true, true, true, true, true, false, false] rfl rfl (any_of HT_.out (by kernel_rfl)) (fun _ _ _ h => h) (Or.inl ⟨by rfl, ?_⟩) ?_ ?_
    rotate_left
    · intro w'
      go_simp
      with_reducible rfl
    rotate_left
    · simp only [Act.put, List.setIfInBounds_toArray, List.set_cons_zero, List.set_cons_succ, i64_w, i32_w]
      rfl
    refine pure_ (i := 10) (N := some 37) (v := ?_) (a' := ?_) #[true, true, true, true, true, true, true, true, true, true, true, false] rfl rfl (any_of HT_.out (by kernel_rfl)) (fun _ _ _ h => h) (Or.inl ⟨by rfl, ?_⟩) ?_ ?_
    rotate_left
    · intro w'
      go_simp
      with_reducible rfl
    rotate_left
    · simp only [Act.put, List.setIfInBounds_toArray, List.set_cons_zero, List.set_cons_succ, i64_w, i32_w]
      rfl
    refine last_ (i := 11) (N := none) #[true, true, true, true, true, true, true, true, true, true, true, true] rfl rfl (one_of HT_.out (by kernel_rfl)) (by decide) (fun K hK => ?_)
    have hfz := blk_frozen hgb 3
    refine skip_ (w1 := ?_) (by rfl) rfl ?_ ?_
    rotate_left
    · go_simp
      rfl
    refine hK.out _ _ ?_
    clear hK K
    refine done_ (done_of HT_.out (by kernel_rfl)) ?_
    go_wp2
    go_ret
    exact ⟨_, rfl, HQ.out.1, HM2.out.trans HQ.out.2⟩
end Go.Proofs.Ytbnjbjcokkcfcaa.Sol
