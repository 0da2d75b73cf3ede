/- The search, walked, and that it is right. -/
import Derived.Test.YtbnjbjcokkcfcaaV2
import Derived.Laws.EntriesVeiled
namespace Go.Proofs.Ytbnjbjcokkcfcaa.Sol
open Go.RowKit Go.Proofs.YtbnjbjcokkcfcaaW.PrintWords Go.Proofs.YtbnjbjcokkcfcaaW.PrintLast Go.Proofs.YtbnjbjcokkcfcaaW.PrintMore Go.Proofs.Ytbnjbjcokkcfcaa.PSearchOwn
set_option linter.unusedVariables false
set_option linter.unusedSimpArgs false
/-- The value of a variable. -/
def vat (vs : List Int) (i : Int) : Int := vs.getD i.toNat 0
/-- The truth of a literal. -/
def tru (vs : List Int) (l : Int) : Int := if l < 0 then - vat vs (-l) else vat vs l
/-- The values are 1, -1 and 0. -/
def Small (vs : List Int) : Prop := ∀ x ∈ vs, -1 ≤ x ∧ x ≤ 1
theorem Small.vat {vs : List Int} (h : Small vs) (i : Int) : -1 ≤ vat vs i ∧ vat vs i ≤ 1 := by
  unfold Sol.vat
  rw [List.getD_eq_getElem?_getD]
  cases hx : vs[i.toNat]? with
  | none => simp
  | some x => simpa using h x (List.mem_of_getElem? hx)
/-- The solver's state: the pointer's block g, the values' block gv, the trail tv. -/
structure St (w0 W : World) (g gv : Nat) (N : Int) (AL : Option Addr) (cL : Nat) (L : List (List Int)) (vs ts : List Int) (tv : Value) : Prop where
  blk : W.heap[g]? = some (.cells #[.int .i64 N, .slice AL L.length cL, .slice (some ⟨gv, 0, none⟩) vs.length vs.length, tv] 89 (0, 0))
  val : W.heap[gv]? = some (.cells (vs.map (Value.int .i64)).toArray 3 (0, 0))
  tr : W.ownsRow w0.heap.size 3 1 tv ts.length (nums .i64 ts)
  ne : tv.ownBlock ≠ some gv
  below : Below w0.heap.size w0 W
  geg : w0.heap.size ≤ g
  gev : w0.heap.size ≤ gv
  rdL : Kd.C (Kd.slice 3 (Kd.int .i64)) w0 AL L.length L
  capL : L.length ≤ cL
  small : Small vs
  len : vs.length ≤ 1000
section
variable {w0 W : World} {g gv : Nat} {N : Int} {AL : Option Addr} {cL : Nat} {L : List (List Int)} {vs ts : List Int} {tv : Value}
theorem St.cell (h : St w0 W g gv N AL cL L vs ts tv) (i : Int) (h0 : 0 ≤ i) (h1 : i < vs.length) : W.cell? ⟨gv, i.toNat, none⟩ = some (.int .i64 (vat vs i)) := by
  rw [blk_cell h.val]
  unfold vat
  have : i.toNat < vs.length := by omega
  simp [List.getD_eq_getElem?_getD, List.getElem?_eq_getElem this]
end
set_option maxHeartbeats 1000000 in
theorem truth_calls {w0 W : World} {g gv : Nat} {N : Int} {AL : Option Addr} {cL : Nat} {L : List (List Int)} {vs ts : List Int} {tv : Value} (h : St w0 W g gv N AL cL L vs ts tv) (l : Int) (hl : -(vs.length : Int) < l ∧ l < vs.length) :
    Calls Try.prog 87 #[.pointer (some ⟨g, 0, none⟩), .int .i64 l] W fun e w' => e = .returned (.int .i64 (tru vs l)) ∧ W = w' := by
  obtain ⟨h1, h2⟩ := hl
  have hlen := h.len
  have hc2 : W.cell? ⟨g, 2, none⟩ = some (.slice (some ⟨gv, 0, none⟩) vs.length vs.length) := (blk_cell h.blk 2).trans rfl
  by_cases hn : l < 0
  · have hb := h.small.vat (-l)
    have hi : W.cell? ⟨gv, (-l).toNat, none⟩ = some (.int .i64 (vat vs (-l))) := h.cell (-l) (by omega) (by omega)
    have ht : tru vs l = - vat vs (-l) := by unfold tru; rw [if_pos hn]
    rw [ht]
    have HA := Aside0.mk h
    clear h ht
    generalize vat vs (-l) = x at hb hi ⊢
    obtain ⟨hb0, hb1⟩ := hb
    go_enter Try.func87, Try.ntmps87
    go_wp2
    go_ret
    exact ⟨rfl, rfl⟩
  · have hi : W.cell? ⟨gv, l.toNat, none⟩ = some (.int .i64 (vat vs l)) := h.cell l (by omega) (by omega)
    have ht : tru vs l = vat vs l := by unfold tru; rw [if_neg hn]
    rw [ht]
    have HA := Aside0.mk h
    clear h ht
    generalize vat vs l = x at hi ⊢
    go_enter Try.func87, Try.ntmps87
    go_wp2
    go_ret
    exact ⟨rfl, rfl⟩
theorem var_calls (l : Int) (w : World) (hl : l ≠ 0) (h1 : -128 ≤ l) (h2 : l ≤ 128) :
    Calls Try.prog 28 #[.int .i64 l] w fun e w' => e = .returned (.int .i64 (l.natAbs : Int)) ∧ Drawn0 w w' := by
  refine lit_Var.calls 2 l (l.natAbs : Int) w ?_
  unfold lit_Var.f
  by_cases h : l ≥ 1
  · rw [if_pos h]
    simp only [lit_Var.j0]
    rw [if_pos (by simpa using h2)]
    congr 1; omega
  · rw [if_neg h]
    simp only [lit_Var.j0]
    rw [if_neg (by simp), if_pos (by omega), if_pos (by omega)]
    congr 1; unfold wrap64; omega
/-- What a call on the state may have turned: the state's blocks, and what is new. -/
structure Moved (W W' : World) (g gv : Nat) (tv tv' : Value) : Prop where
  kept : Kept W W' (fun k => k = g ∨ k = gv ∨ tv.ownBlock = some k)
  tail : tv'.ownBlock = tv.ownBlock ∨ ∃ b, tv'.ownBlock = some b ∧ W.heap.size ≤ b
theorem Moved.refl (W : World) (g gv : Nat) (tv : Value) : Moved W W g gv tv tv := ⟨Kept.refl _ _, .inl rfl⟩
theorem Moved.trans {W W' W'' : World} {g gv : Nat} {tv tv' tv'' : Value} (h : Moved W W' g gv tv tv') (k : Moved W' W'' g gv tv' tv'') : Moved W W'' g gv tv tv'' := by
  refine ⟨h.kept.then_ k.kept ?_, ?_⟩
  · rintro b (rfl | rfl | hb)
    · exact .inl (.inl rfl)
    · exact .inl (.inr (.inl rfl))
    · rcases h.tail with e | ⟨b', e, hle⟩
      · exact .inl (.inr (.inr (by rw [← e]; exact hb)))
      · rw [e] at hb; injection hb with hb; subst hb; exact .inr hle
  · rcases k.tail with e | ⟨b', e, hle⟩
    · rw [e]; exact h.tail
    · exact .inr ⟨b', e, Nat.le_trans h.kept.1 hle⟩
def setB (vs : List Int) (l : Int) : Bool := decide (tru vs l ≠ -1)
def setV (vs : List Int) (l : Int) : List Int := if tru vs l = 0 then (if l > 0 then vs.set l.toNat 1 else vs.set (-l).toNat (-1)) else vs
def setT (vs ts : List Int) (l : Int) : List Int := if tru vs l = 0 then ts ++ [(l.natAbs : Int)] else ts
def SetPost (w0 W : World) (g gv : Nat) (N : Int) (AL : Option Addr) (cL : Nat) (L : List (List Int)) (vs ts : List Int) (tv : Value) (b : Bool) (vs' ts' : List Int) (e : Ending) (W' : World) : Prop :=
  ∃ tv', e = .returned (.bool b) ∧ St w0 W' g gv N AL cL L vs' ts' tv' ∧ Moved W W' g gv tv tv'
theorem set_same {w0 W : World} {g gv : Nat} {N : Int} {AL : Option Addr} {cL : Nat} {L : List (List Int)} {vs ts : List Int} {tv : Value} (h : St w0 W g gv N AL cL L vs ts tv) (l : Int) (hl : -(vs.length : Int) < l ∧ l < vs.length) (hb : tru vs l = 1 ∨ tru vs l = -1) :
    Calls Try.prog 66 #[.pointer (some ⟨g, 0, none⟩), .int .i64 l] W (SetPost w0 W g gv N AL cL L vs ts tv (setB vs l) (setV vs l) (setT vs ts l)) := by
  have ht := truth_calls h l hl
  have hv : setV vs l = vs := by unfold setV; rw [if_neg (by omega)]
  have hts : setT vs ts l = ts := by unfold setT; rw [if_neg (by omega)]
  rw [hv, hts]
  have HA := Aside0.mk h
  clear h hv hts
  have HT := Aside0.mk ht
  clear ht
  have hbb : setB vs l = decide (tru vs l ≠ -1) := rfl
  rw [hbb]
  clear hbb
  generalize tru vs l = t at hb HT ⊢
  rcases hb with rfl | rfl
  · go_enter Try.func66, Try.ntmps66
    go_wp2_with (go_at_call 87; refine HT.out.mono ?_; rintro e w' ⟨rfl, rfl⟩)
    go_ret
    exact ⟨tv, rfl, HA.out, Moved.refl _ _ _ _⟩
  · go_enter Try.func66, Try.ntmps66
    go_wp2_with (go_at_call 87; refine HT.out.mono ?_; rintro e w' ⟨rfl, rfl⟩)
    go_ret
    exact ⟨tv, rfl, HA.out, Moved.refl _ _ _ _⟩
end Go.Proofs.Ytbnjbjcokkcfcaa.Sol
namespace Go.Proofs.Ytbnjbjcokkcfcaa.Sol
open Go.RowKit Go.Proofs.YtbnjbjcokkcfcaaW.PrintWords Go.Proofs.YtbnjbjcokkcfcaaW.PrintLast Go.Proofs.YtbnjbjcokkcfcaaW.PrintMore Go.Proofs.Ytbnjbjcokkcfcaa.PSearchOwn
set_option linter.unusedVariables false
set_option linter.unusedSimpArgs false
theorem St.put {w0 W : World} {g gv : Nat} {N : Int} {AL : Option Addr} {cL : Nat} {L : List (List Int)} {vs ts : List Int} {tv : Value} (h : St w0 W g gv N AL cL L vs ts tv) (i : Nat) (x : Int) (hx : -1 ≤ x ∧ x ≤ 1) :
    St w0 (W.setCell ⟨gv, i, none⟩ (.int .i64 x)) g gv N AL cL L (vs.set i x) ts tv := by
  have hne : g ≠ gv := blk_ne h.blk h.val (by decide)
  refine ⟨?_, ?_, ?_, h.ne, below_set h.below h.gev, h.geg, h.gev, h.rdL, h.capL, ?_, by simpa using h.len⟩
  · rw [List.length_set]; exact blk_far h.blk hne _
  · refine blk_put h.val i _ ?_
    simp [List.map_set]
  · exact own_move h.tr (fun k hk => Below.heap_setCell W ⟨gv, i, none⟩ _ k (fun e => h.ne (by rw [hk, e])))
  · intro y hy
    rcases List.mem_or_eq_of_mem_set hy with hy | rfl
    · exact h.small y hy
    · exact hx
section
variable {w0 W w1 : World} {g gv : Nat} {N : Int} {AL : Option Addr} {cL : Nat} {L : List (List Int)} {vs ts : List Int} {tv v1 : Value}
theorem own_neG {b e t n : Nat} {xs cs : _} (h : W.ownsRow b e 1 tv n xs) (hb : W.heap[g]? = some (.cells cs t (0, 0))) (ht : e ≠ t) : some g ≠ tv.ownBlock := by
  intro he
  obtain ⟨cells, hc⟩ := own_typed h g he.symm
  rw [hb] at hc
  injection hc with hc
  injection hc with _ hc
  exact ht hc.symm
theorem St.gblk (h : St w0 W g gv N AL cL L vs ts tv) (hg : W.grownBy w1 tv.ownBlock) : w1.heap[g]? = some (.cells #[.int .i64 N, .slice AL L.length cL, .slice (some ⟨gv, 0, none⟩) vs.length vs.length, tv] 89 (0, 0)) :=
  blk_grown h.blk hg (own_neG h.tr h.blk (by decide))
theorem St.push (h : St w0 W g gv N AL cL L vs ts tv) (x : Int) (hown : w1.ownsRow w0.heap.size 3 1 v1 (ts.length + 1) (nums .i64 ts ++ [.int .i64 x])) (hb : Below w0.heap.size w0 w1) (hg : W.grownBy w1 tv.ownBlock)
    (hat : v1.ownBlock = tv.ownBlock ∨ ∃ b, v1.ownBlock = some b ∧ W.heap.size ≤ b) :
    St w0 (w1.setCell ⟨g, 3, none⟩ v1) g gv N AL cL L vs (ts ++ [x]) v1 ∧ Moved W (w1.setCell ⟨g, 3, none⟩ v1) g gv tv v1 := by
  have hgb := h.gblk hg
  have hvb := blk_grown h.val hg (fun e => h.ne e.symm)
  have hne : gv ≠ g := Ne.symm (blk_ne h.blk h.val (by decide))
  refine ⟨⟨blk_put hgb 3 v1 rfl, blk_far hvb hne _, ?_, ?_, below_set hb h.geg, h.geg, h.gev, h.rdL, h.capL, h.small, h.len⟩, ⟨?_, hat⟩⟩
  · have h2 := own_move (w1 := w1.setCell ⟨g, 3, none⟩ v1) hown (fun k hk => Below.heap_setCell w1 ⟨g, 3, none⟩ v1 k (fun e => by
      have := own_neG hown hgb (by decide)
      exact this (by rw [hk, e])))
    simpa [nums] using h2
  · intro he
    rcases hat with e | ⟨b, e, hle⟩
    · exact h.ne (e ▸ he)
    · rw [e] at he
      injection he with he
      subst he
      exact absurd (blk_lt h.val) (by omega)
  · exact (Kept.of_grown hg (Kept.refl W _) (fun k hk => .inl (.inr (.inr hk)))).setCell (.inl (.inl rfl)) _
end
def setT9 : Bool × List (List Nat × List Nat) := (true, [([], []), ([], []), ([1], [1]), ([2], [2]), ([3], [3]), ([], []), ([5], [5]), ([6], [6]), ([4, 7, 6], [4, 7]), ([0, 0, 1, 2, 3, 4, 5, 6, 7, 8], [0]), ([9, 0, 1, 2, 3, 4, 5, 6, 7, 8], [9]), ([10, 8, 8, 0, 1, 2, 3, 4, 5, 6, 7, 8], [8, 10])])
def setB9 : List Nat := [0, 0, 2, 6, 14, 0, 32, 96, 254, 511, 1023, 2047]
theorem settab9 : rtab .any (opsOf Try.f66 9) = setT9 := by kernel_rfl
theorem setbits9 : waitsOk setT9.2 setB9 = true := by kernel_rfl
theorem St.drewN {w0 W : World} {g gv : Nat} {N : Int} {AL : Option Addr} {cL : Nat} {L : List (List Int)} {vs ts : List Int} {tv : Value} (h : St w0 W g gv N AL cL L vs ts tv) (n : Nat) : St w0 (W.drewN n) g gv N AL cL L vs ts tv :=
  ⟨h.blk, h.val, own_move h.tr (fun _ _ => rfl), h.ne, pw_below_drewN h.below n, h.geg, h.gev, h.rdL, h.capL, h.small, h.len⟩
theorem St.drew {w0 W : World} {g gv : Nat} {N : Int} {AL : Option Addr} {cL : Nat} {L : List (List Int)} {vs ts : List Int} {tv : Value} (h : St w0 W g gv N AL cL L vs ts tv) : St w0 W.drew g gv N AL cL L vs ts tv := h.drewN 1
theorem Moved.drewN {W W' : World} {g gv : Nat} {tv tv' : Value} (h : Moved W W' g gv tv tv') (n : Nat) : Moved W (W'.drewN n) g gv tv tv' := ⟨h.kept.drewN n, h.tail⟩
theorem Moved.drew {W W' : World} {g gv : Nat} {tv tv' : Value} (h : Moved W W' g gv tv tv') : Moved W W'.drew g gv tv tv' := ⟨h.kept.drew, h.tail⟩
set_option maxHeartbeats 2000000 in
set_option maxRecDepth 100000 in
theorem set_new {w0 W : World} {g gv : Nat} {N : Int} {AL : Option Addr} {cL : Nat} {L : List (List Int)} {vs ts : List Int} {tv : Value} (h : St w0 W g gv N AL cL L vs ts tv) (l : Int) (hl : -(vs.length : Int) < l ∧ l < vs.length) (h0 : l ≠ 0) (h128 : -128 ≤ l ∧ l ≤ 128) (hb : tru vs l = 0) (hts : ts.length ≤ 1000000) :
    Calls Try.prog 66 #[.pointer (some ⟨g, 0, none⟩), .int .i64 l] W (SetPost w0 W g gv N AL cL L vs ts tv (setB vs l) (setV vs l) (setT vs ts l)) := by
  have ht := truth_calls h l hl
  have e1 : setB vs l = true := by unfold setB; rw [hb]; rfl
  have e2 : setT vs ts l = ts ++ [(l.natAbs : Int)] := by unfold setT; rw [if_pos hb]
  rw [e1, e2]
  rw [hb] at ht
  have HA := Aside0.mk h
  clear h e1 e2
  have HT := Aside0.mk ht
  clear ht
  have HZ := Aside0.mk hb
  clear hb
  have HVar := Aside0.mk (fun w => var_calls l w h0 h128.1 h128.2)
  obtain ⟨h1, h2⟩ := hl
  clear h128
  have H0 := Aside0.mk h0
  clear h0
  generalize hvs : setV vs l = vs1
  have HV := Aside0.mk hvs
  clear hvs
  go_enter Try.func66, Try.ntmps66
  go_upto_if 13 with ((go_at_call 87; refine HT.out.mono ?_; rintro e w' ⟨rfl, rfl⟩))
  go_cut [] (fun wc => Aside0 (St w0 wc g gv N AL cL L vs1 ts tv) ∧ Aside0 (Moved W wc g gv tv tv))
  case first =>
    have hc2 : W.cell? ⟨g, 2, none⟩ = some (.slice (some ⟨gv, 0, none⟩) vs.length vs.length) := (blk_cell HA.out.blk 2).trans rfl
    have hlen := HA.out.len
    by_cases hp : 0 < l
    · have hi : W.cell? ⟨gv, l.toNat, none⟩ = some (.int .i64 (vat vs l)) := HA.out.cell l (by omega) (by omega)
      have hf : W.frozen? ⟨gv, l.toNat, none⟩ = false := blk_frozen HA.out.val _
      go_wp2
      go_meet
      case rel =>
        have e : vs1 = vs.set l.toNat 1 := by rw [← HV.out]; unfold setV; rw [if_pos HZ.out, if_pos hp]
        rw [e]
        exact ⟨⟨HA.out.put _ _ (by omega)⟩, ⟨⟨(Kept.refl W _).setCell (.inl (.inr (.inl rfl))) _, .inl rfl⟩⟩⟩
    · have hq : l < 0 := by have := H0.out; omega
      have hi : W.cell? ⟨gv, (-l).toNat, none⟩ = some (.int .i64 (vat vs (-l))) := HA.out.cell (-l) (by omega) (by omega)
      have hf : W.frozen? ⟨gv, (-l).toNat, none⟩ = false := blk_frozen HA.out.val _
      go_wp2
      go_meet
      case rel =>
        have e : vs1 = vs.set (-l).toNat (-1) := by rw [← HV.out]; unfold setV; rw [if_pos HZ.out, if_neg (by omega)]
        rw [e]
        exact ⟨⟨HA.out.put _ _ (by omega)⟩, ⟨⟨(Kept.refl W _).setCell (.inl (.inr (.inl rfl))) _, .inl rfl⟩⟩⟩
  case rest =>
    obtain ⟨HP, HM⟩ := hcut
    clear HA HT HZ
    try go_wp2
    replace HP := Aside0.mk HP.out.drew
    replace HM := Aside0.mk HM.out.drew
    refine start_ (n := 12) (S := fun w' => w'.cell? ⟨g, 3, none⟩ = some tv) (ds := [11]) #[false, false, false, false, false, false, false, false, false, false, false, false] (by kernel_rfl) rfl rfl ((blk_cell HP.out.blk 3).trans rfl) (fun hHeld => ?_)
    refine with_tabW settab9 setbits9 (fun HT_ HW_ => ?_)
    refine pure_ (i := 0) (N := some 27) (v := ?_) (a' := ?_) #[true, false, false, false, false, false, false, false, false, false, false, false] rfl rfl (any_of HT_.out (by kernel_rfl)) (fun _ _ _ h => h) (Or.inl ⟨by rfl, ?_⟩) ?_ ?_
    rotate_left
    · intro w'
      go_simp
      with_reducible rfl
    rotate_left
    · simp only [Act.put, List.setIfInBounds_toArray, List.set_cons_zero, List.set_cons_succ, i64_w, i32_w]
      rfl
    refine pure_ (i := 1) (N := some 28) (v := ?_) (a' := ?_) #[true, true, false, false, false, false, false, false, false, false, false, false] rfl rfl (any_of HT_.out (by kernel_rfl)) (fun _ _ _ h => h) (Or.inl ⟨by rfl, ?_⟩) ?_ ?_
    rotate_left
    · intro w'
      go_simp
      with_reducible rfl
    rotate_left
    · simp only [Act.put, List.setIfInBounds_toArray, List.set_cons_zero, List.set_cons_succ, i64_w, i32_w]
      rfl
    refine pure_ (i := 2) (N := some 29) (v := ?_) (a' := ?_) #[true, true, true, false, false, false, false, false, false, false, false, false] rfl rfl (any_of HT_.out (by kernel_rfl)) (fun _ _ _ h => h) (Or.inl ⟨by rfl, ?_⟩) ?_ ?_
    rotate_left
    · intro w'
      go_simp
      with_reducible rfl
    rotate_left
    · simp only [Act.put, List.setIfInBounds_toArray, List.set_cons_zero, List.set_cons_succ, i64_w, i32_w]
      rfl
    refine pure_ (i := 3) (N := some 30) (v := ?_) (a' := ?_) #[true, true, true, true, false, false, false, false, false, false, false, false] rfl rfl (any_of HT_.out (by kernel_rfl)) (fun _ _ _ h => h) (Or.inl ⟨by rfl, ?_⟩) ?_ ?_
    rotate_left
    · intro w'
      go_simp
      with_reducible rfl
    rotate_left
    · simp only [Act.put, List.setIfInBounds_toArray, List.set_cons_zero, List.set_cons_succ, i64_w, i32_w]
      rfl
    refine take_ (i := 4) (N := some 31) (v := ?_) (a' := ?_) #[true, true, true, true, true, false, false, false, false, false, false, false] rfl rfl (take_ofW HT_.out HW_.out (by kernel_rfl)) (fun _ _ _ h => h) (Or.inl ⟨by rfl, ?_⟩) hHeld ?_ ?_
    rotate_left
    · rintro w' s0
      go_simp
      with_reducible rfl
    rotate_left
    · simp only [Act.put, List.setIfInBounds_toArray, List.set_cons_zero, List.set_cons_succ, i64_w, i32_w]
      rfl
    refine pure_ (i := 5) (N := some 32) (v := ?_) (a' := ?_) #[true, true, true, true, true, true, false, false, false, false, false, false] rfl rfl (any_of HT_.out (by kernel_rfl)) (fun _ _ _ h => h) (Or.inl ⟨by rfl, ?_⟩) ?_ ?_
    rotate_left
    · intro w'
      go_simp
      with_reducible rfl
    rotate_left
    · simp only [Act.put, List.setIfInBounds_toArray, List.set_cons_zero, List.set_cons_succ, i64_w, i32_w]
      rfl
    refine one_ (i := 6) (N := some 33) #[true, true, true, true, true, true, true, false, false, false, false, false] rfl rfl (one_of HT_.out (by kernel_rfl)) (by decide) (fun K hK => ?_)
    refine goes_ Try.func28 (by kernel_rfl) rfl #[.int .i64 l] (by rfl) rfl rfl (by simp only [List.map_toArray, List.map_cons, List.map_nil]; rfl) ?_
    refine (HVar.out _).mono ?_
    rintro e_ w_ ⟨rfl, ⟨n_, rfl⟩⟩
    refine ⟨_, rfl, ?_⟩
    have HP2 := Aside0.mk (HP.out.drewN n_)
    have HM2 := Aside0.mk (HM.out.drewN n_)
    clear HP HM
    generalize wc.drew.drewN n_ = W2 at HP2 HM2 ⊢
    refine hK.out _ _ ((blk_cell HP2.out.blk 3).trans rfl) (fun hHeld => ?_)
    clear hK K
    refine norm_ (a' := ?_) ?_ ?_
    rotate_left
    · show Act.put _ (some 33) _ = _
      simp only [Act.put, List.setIfInBounds_toArray, List.set_cons_zero, List.set_cons_succ, i64_w, i32_w]
      rfl
    refine one_ (i := 7) (N := some 34) #[true, true, true, true, true, true, true, true, false, false, false, false] rfl rfl (one_of HT_.out (by kernel_rfl)) (by decide) (fun K hK => ?_)
    refine value_ (w1 := ?_) (v := ?_) (by rfl) rfl ?_ ?_
    rotate_left 2
    · go_simp
      (refine ⟨?_, ?_⟩ <;> rfl)
    refine hK.out _ _ ((blk_cell (blk_alloc HP2.out.blk _) 3).trans rfl) (fun hHeld => ?_)
    clear hK K
    refine norm_ (a' := ?_) ?_ ?_
    rotate_left
    · show Act.put _ (some 34) _ = _
      simp only [Act.put, List.setIfInBounds_toArray, List.set_cons_zero, List.set_cons_succ, i64_w, i32_w]
      rfl
    refine one_ (i := 8) (N := some 35) #[true, true, true, true, true, true, true, true, true, false, false, false] rfl rfl (one_of HT_.out (by kernel_rfl)) (by decide) (fun K hK => ?_)
    refine step_append_cells (w0 := w0) w0.heap.size (by rfl) (.tmp 31) (.tmp 34) 25 3 (.int .i64 0) 1 8 rfl Try.underlying25 info3 rfl (by decide) (by decide) tv ts.length (nums .i64 ts) [.int .i64 (l.natAbs : Int)] rfl rfl rfl (by intro u hu; simp at hu; subst hu; rfl) HP2.out.tr HP2.out.below HP2.out.below.size (by omega) ?_
    intro v1 w1 hown hbel hg hat
    obtain ⟨A1, c1, rfl⟩ := own_slice hown
    have HQ := Aside0.mk (HP2.out.push (l.natAbs : Int) hown hbel hg hat)
    have hgb := HP2.out.gblk hg
    refine hK.out _ _ ((blk_cell hgb 3).trans rfl) (fun hHeld => ?_)
    clear hK K
    refine norm_ (a' := ?_) ?_ ?_
    rotate_left
    · show Act.put _ (some 35) _ = _
      simp only [Act.put, List.setIfInBounds_toArray, List.set_cons_zero, List.set_cons_succ, i64_w, i32_w]
      rfl
    refine pure_ (i := 9) (N := some 36) (v := ?_) (a' := ?_) #[true, true, true, true, true, true, true, true, true, true, false, false] rfl rfl (any_of HT_.out (by kernel_rfl)) (fun _ _ _ h => h) (Or.inl ⟨by rfl, ?_⟩) ?_ ?_
    rotate_left
    · intro w'
      go_simp
      with_reducible rfl
    rotate_left
    · simp only [Act.put, List.setIfInBounds_toArray, List.set_cons_zero, List.set_cons_succ, i64_w, i32_w]
      rfl
    refine pure_ (i := 10) (N := some 37) (v := ?_) (a' := ?_) #[true, true, true, true, true, true, true, true, true, true, true, false] rfl rfl (any_of HT_.out (by kernel_rfl)) (fun _ _ _ h => h) (Or.inl ⟨by rfl, ?_⟩) ?_ ?_
    rotate_left
    · intro w'
      go_simp
      with_reducible rfl
    rotate_left
    · simp only [Act.put, List.setIfInBounds_toArray, List.set_cons_zero, List.set_cons_succ, i64_w, i32_w]
      rfl
    refine last_ (i := 11) (N := none) #[true, true, true, true, true, true, true, true, true, true, true, true] rfl rfl (one_of HT_.out (by kernel_rfl)) (by decide) (fun K hK => ?_)
    have hfz := blk_frozen hgb 3
    refine skip_ (w1 := ?_) (by rfl) rfl ?_ ?_
    rotate_left
    · go_simp
      rfl
    refine hK.out _ _ ?_
    clear hK K
    refine done_ (done_of HT_.out (by kernel_rfl)) ?_
    go_wp2
    go_ret
    exact ⟨_, rfl, HQ.out.1, HM2.out.trans HQ.out.2⟩
end Go.Proofs.Ytbnjbjcokkcfcaa.Sol
namespace Go.Proofs.Ytbnjbjcokkcfcaa.Sol
open Go.RowKit Go.Proofs.YtbnjbjcokkcfcaaW.PrintWords Go.Proofs.YtbnjbjcokkcfcaaW.PrintLast Go.Proofs.YtbnjbjcokkcfcaaW.PrintMore Go.Proofs.Ytbnjbjcokkcfcaa.PSearchOwn
set_option linter.unusedVariables false
set_option linter.unusedSimpArgs false
/-- The open literal of a clause (0: none), or none: the clause is passed over. -/
def scan (vs : List Int) : List Int → Int → Option Int
  | [], o => some o
  | l :: r, o => if tru vs l = 1 then none else if tru vs l = 0 then (if o ≠ 0 ∧ o ≠ l then none else scan vs r l) else scan vs r o
/-- One pass over the clauses: ok, values, trail, changed. -/
def pass : List (List Int) → List Int → List Int → Bool → Bool × List Int × List Int × Bool
  | [], vs, ts, ch => (true, vs, ts, ch)
  | c :: r, vs, ts, ch => match scan vs c 0 with
    | none => pass r vs ts ch
    | some o => if o = 0 then (false, vs, ts, ch) else pass r (setV vs o) (setT vs ts o) true
def prop (L : List (List Int)) : Nat → List Int → List Int → Option (Bool × List Int × List Int)
  | 0, _, _ => none
  | k + 1, vs, ts => match pass L vs ts false with
    | (false, vs1, ts1, _) => some (false, vs1, ts1)
    | (true, vs1, ts1, true) => prop L k vs1 ts1
    | (true, vs1, ts1, false) => some (true, vs1, ts1)
/-- A literal of n - 1 variables. -/
def LitOk (n : Nat) (l : Int) : Prop := l ≠ 0 ∧ -(n : Int) < l ∧ l < n
def AllOk (n : Nat) (L : List (List Int)) : Prop := ∀ c ∈ L, ∀ l ∈ c, LitOk n l
/-- What bounds the trail. -/
def Room (vs ts : List Int) : Prop := ts.length + vs.count 0 ≤ 2000
theorem setV_length (vs : List Int) (l : Int) : (setV vs l).length = vs.length := by unfold setV; split <;> (try split) <;> simp
theorem vat_get {vs : List Int} {i : Nat} (h : i < vs.length) : vat vs i = vs[i] := by unfold vat; simp [List.getD_eq_getElem?_getD, h]
theorem count_set {vs : List Int} {i : Nat} (h : i < vs.length) (h0 : vs[i] = 0) (x : Int) (hx : x ≠ 0) : (vs.set i x).count 0 + 1 = vs.count 0 := by
  have e := List.count_set (a := x) (b := 0) h
  rw [e]
  have hp : 0 < vs.count 0 := List.count_pos_iff.2 (h0 ▸ List.getElem_mem h)
  simp [h0, hx]; omega
theorem Room.set {vs ts : List Int} {n : Nat} (h : Room vs ts) (hn : vs.length = n) {l : Int} (hl : LitOk n l) : Room (setV vs l) (setT vs ts l) := by
  unfold Room at *
  obtain ⟨h0, h1, h2⟩ := hl
  unfold setV setT
  by_cases ht : tru vs l = 0
  · rw [if_pos ht, if_pos ht]
    by_cases hp : l > 0
    · rw [if_pos hp]
      have hi : l.toNat < vs.length := by omega
      have hz : vs[l.toNat] = 0 := by
        unfold tru at ht
        rw [if_neg (by omega)] at ht
        have := vat_get hi
        rwa [Int.toNat_of_nonneg (by omega), ht, eq_comm] at this
      have := count_set hi hz 1 (by omega)
      simp; omega
    · rw [if_neg hp]
      have hi : (-l).toNat < vs.length := by omega
      have hz : vs[(-l).toNat] = 0 := by
        unfold tru at ht
        rw [if_pos (by omega)] at ht
        have := vat_get hi
        rw [Int.toNat_of_nonneg (by omega)] at this
        omega
      have := count_set hi hz (-1) (by omega)
      simp; omega
  · rw [if_neg ht, if_neg ht]; exact h
theorem rd_int {w : World} {A : Option Addr} {n : Nat} {xs : List Int} (h : (Kd.int .i64).C w A n xs) (j : Nat) (hj : j < n) : ∃ ad, A = some ad ∧ w.cell? (ad.add j) = some (.int .i64 (xs.getD j 0)) := by
  obtain ⟨ad, c, e, _, hK, hc0⟩ := Kd.C_get h (0 : Int) (j : Int) (by omega) (by omega)
  have hc : ∀ i u, c[i]? = some u → w.cell? (ad.add ((j : Int).toNat * 1 + i)) = some u := hc0
  have hK' : c = [.int .i64 (xs.getD (j : Int).toNat 0)] := hK
  refine ⟨ad, e, ?_⟩
  have := hc 0 (.int .i64 (xs.getD j 0)) (by rw [hK']; simp)
  simpa using this
theorem rd_row {w : World} {A : Option Addr} {n : Nat} {xs : List (List Int)} (h : (Kd.slice 3 (Kd.int .i64)).C w A n xs) (j : Nat) (hj : j < n) : ∃ ad A0 c0, A = some ad ∧ w.cell? (ad.add j) = some (.slice A0 (xs.getD j []).length c0) ∧ (xs.getD j []).length ≤ c0 ∧ (Kd.int .i64).C w A0 (xs.getD j []).length (xs.getD j []) := by
  obtain ⟨ad, A0, c0, e, h1, h2, h3⟩ := at_L1 h (j : Int) (by omega) (by omega)
  exact ⟨ad, A0, c0, e, by simpa [rd_L1] using h1, by simpa [rd_L1] using h2, by simpa [rd_L1] using h3⟩
theorem set_calls {w0 W : World} {g gv : Nat} {N : Int} {AL : Option Addr} {cL : Nat} {L : List (List Int)} {vs ts : List Int} {tv : Value} (h : St w0 W g gv N AL cL L vs ts tv) (l : Int) (hl : LitOk vs.length l) (h128 : vs.length ≤ 129) (hr : Room vs ts) :
    Calls Try.prog 66 #[.pointer (some ⟨g, 0, none⟩), .int .i64 l] W (SetPost w0 W g gv N AL cL L vs ts tv (setB vs l) (setV vs l) (setT vs ts l)) := by
  obtain ⟨h0, h1, h2⟩ := hl
  by_cases hb : tru vs l = 0
  · exact set_new h l ⟨h1, h2⟩ h0 (by omega) hb (by unfold Room at hr; omega)
  · refine set_same h l ⟨h1, h2⟩ ?_
    have hs : -1 ≤ tru vs l ∧ tru vs l ≤ 1 := by
      unfold tru
      split
      · have := h.small.vat (-l); omega
      · exact h.small.vat l
    omega
end Go.Proofs.Ytbnjbjcokkcfcaa.Sol
namespace Go.Proofs.Ytbnjbjcokkcfcaa.Sol
open Go.RowKit Go.Proofs.YtbnjbjcokkcfcaaW.PrintWords Go.Proofs.YtbnjbjcokkcfcaaW.PrintLast Go.Proofs.YtbnjbjcokkcfcaaW.PrintMore Go.Proofs.Ytbnjbjcokkcfcaa.PSearchOwn
set_option linter.unusedVariables false
set_option linter.unusedSimpArgs false
theorem tru_cases {vs : List Int} (h : Small vs) (l : Int) : tru vs l = 1 ∨ tru vs l = 0 ∨ tru vs l = -1 := by
  have hs : -1 ≤ tru vs l ∧ tru vs l ≤ 1 := by
    unfold tru
    split
    · have := h.vat (-l); omega
    · exact h.vat l
  omega
/-- What a pass that left R says of the whole. -/
def After (L : List (List Int)) (m : Nat) (b : Bool) (vs' ts' : List Int) (R : Bool × List Int × List Int × Bool) : Prop :=
  if R.1 then (if R.2.2.2 then prop L m R.2.1 R.2.2.1 = some (b, vs', ts') else (b, vs', ts') = (true, R.2.1, R.2.2.1)) else (b, vs', ts') = (false, R.2.1, R.2.2.1)
theorem after_of {L : List (List Int)} {m : Nat} {b : Bool} {vs1 ts1 vs' ts' : List Int} {R : Bool × List Int × List Int × Bool} (hR : pass L vs1 ts1 false = R) (h : prop L (m + 1) vs1 ts1 = some (b, vs', ts')) : After L m b vs' ts' R := by
  simp only [prop] at h
  rw [hR] at h
  obtain ⟨r1, r2, r3, r4⟩ := R
  unfold After
  cases r1 with
  | false => simp only [Option.some.injEq] at h; simp [h]
  | true =>
    cases r4 with
    | true => simpa using h
    | false => simp only [Option.some.injEq] at h; simp [h]
set_option maxHeartbeats 2000000 in
set_option maxRecDepth 100000 in
theorem prop_calls (k : Nat) {w0 W : World} {g gv : Nat} {N : Int} {AL : Option Addr} {cL : Nat} {L : List (List Int)} {vs ts : List Int} {tv : Value} (h : St w0 W g gv N AL cL L vs ts tv) (h128 : vs.length ≤ 129) (hok : AllOk vs.length L) (hr : Room vs ts)
    {b : Bool} {vs' ts' : List Int} (hp : prop L k vs ts = some (b, vs', ts')) :
    Calls Try.prog 68 #[.pointer (some ⟨g, 0, none⟩)] W (SetPost w0 W g gv N AL cL L vs ts tv b vs' ts') := by
  have hLm : L.length ≤ 9223372036854775807 := Kd.C_max h.rdL
  have HL := Aside0.mk hok
  have H1 := Aside0.mk h
  have H2 := Aside0.mk hr
  have H3 := Aside0.mk hp
  have h8 : vs.length ≤ 129 := h128
  clear hok h hr hp h128
  go_enter Try.func68, Try.ntmps68
  go_wp2_with fail
  go_loopg [3] k (fun kq v3 w' => ∃ (ch : Bool) (vs1 ts1 : List Int) (tv1 : Value), v3 = .bool ch ∧ Aside0 (St w0 w' g gv N AL cL L vs1 ts1 tv1) ∧ Aside0 (Moved W w' g gv tv tv1) ∧ Aside0 (vs1.length = vs.length) ∧ Aside0 (Room vs1 ts1) ∧ Aside0 (if ch then prop L kq vs1 ts1 = some (b, vs', ts') else (b, vs', ts') = (true, vs1, ts1)))
  case atStart => exact ⟨true, vs, ts, tv, rfl, H1, ⟨Moved.refl _ _ _ _⟩, ⟨rfl⟩, H2, H3⟩
  case round =>
    clear H1 H2 H3
    obtain ⟨ch, vs1, ts1, tv1, rfl, H1, HM, HN, HR, HP⟩ := hrel
    cases ch with
    | false =>
      obtain ⟨rfl, rfl, rfl⟩ : b = true ∧ vs' = vs1 ∧ ts' = ts1 := by
        have := HP.out
        simp only [Bool.false_eq_true, if_false, Prod.mk.injEq] at this
        exact this
      clear HP
      go_wp2
      go_ret
      exact ⟨tv1, rfl, H1.out, HM.out⟩
    | true =>
      cases gk with
      | zero => have := HP.out; simp [prop] at this
      | succ m =>
        have hpp : prop L (m + 1) vs1 ts1 = some (b, vs', ts') := by simpa using HP.out
        clear HP
        obtain ⟨R, hR⟩ : ∃ R, pass L vs1 ts1 false = R := ⟨_, rfl⟩
        have HQ : Aside0 (After L m b vs' ts' R) := ⟨after_of hR hpp⟩
        have HR0 := Aside0.mk hR
        clear hR hpp
        have hc1 : wr.cell? ⟨g, 1, none⟩ = some (.slice AL L.length cL) := (blk_cell H1.out.blk 1).trans rfl
        go_wp2_with fail
        go_step3
        go_wp2_with fail
        go_step3
        go_wp2_with fail
        clear hc1
        go_loopg [16, 3] L.length (fun g2 v16 v3 w' => ∃ (i : Nat) (ch : Bool) (vs2 ts2 : List Int) (tv2 : Value), i + g2 = L.length ∧ v16 = .int .i64 i ∧ v3 = .bool ch ∧ Aside0 (St w0 w' g gv N AL cL L vs2 ts2 tv2) ∧ Aside0 (Moved W w' g gv tv tv2) ∧ Aside0 (vs2.length = vs.length) ∧ Aside0 (Room vs2 ts2) ∧ Aside0 (pass (L.drop i) vs2 ts2 ch = R))
        case atStart => exact ⟨0, false, vs1, ts1, tv1, by omega, rfl, rfl, H1, HM, HN, HR, ⟨by rw [List.drop_zero]; exact HR0.out⟩⟩
        case round =>
          clear H1 HM HN HR HR0
          obtain ⟨i, ch, vs2, ts2, tv2, hig, rfl, rfl, H1, HM, HN, HR, HP⟩ := hrel
          cases gk with
          | zero =>
            have hi : ¬ ((i : Int) < (L.length : Int)) := by omega
            have hre : R = (true, vs2, ts2, ch) := by
              have := HP.out
              rw [List.drop_eq_nil_of_le (by omega)] at this
              rw [← this]; rfl
            have HE := Aside0.mk hre
            clear hre HP
            go_wp2_with fail
            go_roundg m
            case measure => omega
            case rel =>
              refine ⟨ch, vs2, ts2, tv2, rfl, H1, HM, HN, HR, ⟨?_⟩⟩
              have := HQ.out
              rw [HE.out] at this
              simpa [After] using this
          | succ g2 =>
            have hi : (i : Int) < (L.length : Int) := by omega
            obtain ⟨ad, A0, c0, rfl, hx, hl0, hi0⟩ := rd_row H1.out.rdL i (by omega)
            replace hx := (H1.out.below.cell (World.block_lt_of_cell? w0 _ hx)).trans hx
            obtain ⟨c, hc⟩ : ∃ c, L.getD i [] = c := ⟨_, rfl⟩
            rw [hc] at hx hl0 hi0
            have hdrop : L.drop i = c :: L.drop (i + 1) := by
              rw [List.drop_eq_getElem_cons (by omega)]
              congr 1
              rw [← hc]
              simp [List.getD_eq_getElem?_getD, List.getElem?_eq_getElem (show i < L.length by omega)]
            have HCm := Aside0.mk (HL.out c (by rw [← hc]; simp [List.getD_eq_getElem?_getD, List.getElem?_eq_getElem (show i < L.length by omega)]))
            have hpp := HP.out
            rw [hdrop] at hpp
            simp only [pass] at hpp
            have hcm : c.length ≤ 9223372036854775807 := Kd.C_max hi0
            have HI := Aside0.mk hi0
            obtain ⟨S, hS⟩ : ∃ S, scan vs2 c 0 = S := ⟨_, rfl⟩
            rw [hS] at hpp
            have HS := Aside0.mk hS
            have HP2 := Aside0.mk hpp
            clear hpp hS hdrop hi0 hc HP
            have hl1 := Aside0.mk hl0
            clear hl0
            go_wp2_with fail
            obtain ⟨wo, hwo⟩ : ∃ wo : World, wo = wr := ⟨_, rfl⟩
            subst hwo
            clear hx
            go_loopg [22, 6] c.length (fun g3 v22 v6 w' => ∃ (j : Nat) (o : Int), j + g3 = c.length ∧ v22 = .int .i64 j ∧ v6 = .int .i64 o ∧ Aside0 (w' = wo) ∧ Aside0 (o = 0 ∨ LitOk vs.length o) ∧ Aside0 (scan vs2 (c.drop j) o = S))
            case atStart => exact ⟨0, 0, by omega, rfl, rfl, ⟨rfl⟩, ⟨.inl rfl⟩, ⟨by rw [List.drop_zero]; exact HS.out⟩⟩
            case round =>
              clear HS
              obtain ⟨j, o, hjg, rfl, rfl, ⟨hw⟩, HO, HS⟩ := hrel
              subst hw
              cases gk with
              | zero =>
                have hj : ¬ ((j : Int) < (c.length : Int)) := by omega
                have hse : S = some o := by
                  have := HS.out
                  rw [List.drop_eq_nil_of_le (by omega)] at this
                  rw [← this]; rfl
                subst hse
                have hpp := HP2.out
                simp only [] at hpp
                clear HS HP2
                by_cases ho : o = 0
                · subst ho
                  rw [if_pos rfl] at hpp
                  have HE := Aside0.mk hpp
                  clear hpp
                  have hfin : (b, vs', ts') = (false, vs2, ts2) := by
                    have := HQ.out
                    rw [← HE.out] at this
                    simpa [After] using this
                  simp only [Prod.mk.injEq] at hfin
                  obtain ⟨rfl, rfl, rfl⟩ := hfin
                  go_wp2_with fail
                  try rw [Exit.noGoto_ret]
                  go_ret
                  exact ⟨tv2, rfl, H1.out, HM.out⟩
                · rw [if_neg ho] at hpp
                  have HE := Aside0.mk hpp
                  clear hpp
                  have ho1 : (o == 0) = false := by simpa using ho
                  have hcall := Aside0.mk (set_calls H1.out o (by rw [HN.out]; exact HO.out.resolve_left ho) (by rw [HN.out]; exact h8) HR.out)
                  have hlit := Aside0.mk (HO.out.resolve_left ho)
                  clear ho
                  go_wp2_with (go_at_call 66; refine hcall.out.mono ?_; rintro e w9 ⟨tv3, rfl, hst3, hmv3⟩; have HST3 := Aside0.mk hst3; have HMV3 := Aside0.mk hmv3; clear hst3 hmv3)
                  go_roundg g2
                  case measure => omega
                  case rel =>
                    exact ⟨i + 1, true, _, _, tv3, by omega, by go_num, rfl, HST3, ⟨HM.out.trans HMV3.out⟩, ⟨by rw [setV_length]; exact HN.out⟩, ⟨HR.out.set HN.out hlit.out⟩, HE⟩
              | succ g3 =>
                have hj : (j : Int) < (c.length : Int) := by omega
                obtain ⟨ad2, hA, hx2⟩ := rd_int HI.out j (by omega)
                subst hA
                replace hx2 := (H1.out.below.cell (World.block_lt_of_cell? w0 _ hx2)).trans hx2
                obtain ⟨l, hl⟩ : ∃ l, c.getD j 0 = l := ⟨_, rfl⟩
                rw [hl] at hx2
                have hge : c[j]? = some l := by
                  rw [← hl]
                  simp [List.getD_eq_getElem?_getD, List.getElem?_eq_getElem (show j < c.length by omega)]
                have hdrop : c.drop j = l :: c.drop (j + 1) := by
                  rw [List.drop_eq_getElem_cons (by omega)]
                  congr 1
                  rw [List.getElem?_eq_getElem (by omega)] at hge
                  exact Option.some.inj hge
                have HLit := Aside0.mk (HCm.out l (List.mem_of_getElem? hge))
                have hss := HS.out
                rw [hdrop] at hss
                simp only [scan] at hss
                have htr := truth_calls H1.out l (by obtain ⟨_, h1, h2⟩ := HLit.out; rw [HN.out]; exact ⟨h1, h2⟩)
                have HSS := Aside0.mk hss
                have HT := Aside0.mk htr
                clear hss htr hdrop hl hge HS
                have hsm : tru vs2 l = 1 ∨ tru vs2 l = 0 ∨ tru vs2 l = -1 := tru_cases H1.out.small l
                generalize tru vs2 l = t at HSS HT hsm
                rcases hsm with rfl | rfl | rfl
                · have hS0 : none = S := by have := HSS.out; rw [if_pos rfl] at this; exact this
                  subst hS0
                  clear HSS
                  have hpp := HP2.out
                  simp only [] at hpp
                  have HE := Aside0.mk hpp
                  clear hpp HP2
                  go_wp2_with (go_at_call 87; refine HT.out.mono ?_; rintro e w' ⟨rfl, rfl⟩)
                  go_roundg g2
                  case measure => omega
                  case rel => exact ⟨i + 1, ch, vs2, ts2, tv2, by omega, by go_num, rfl, H1, HM, HN, HR, HE⟩
                · have hs0 := HSS.out
                  rw [if_neg (by decide), if_pos rfl] at hs0
                  clear HSS
                  by_cases hoo : o ≠ 0 ∧ o ≠ l
                  · rw [if_pos hoo] at hs0
                    subst hs0
                    obtain ⟨ho1, ho2⟩ := hoo
                    have hb1 : (o != 0) = true := by simpa using ho1
                    have hb2 : (o != l) = true := by simpa using ho2
                    clear ho1 ho2
                    have hpp := HP2.out
                    simp only [] at hpp
                    have HE := Aside0.mk hpp
                    clear hpp HP2
                    go_wp2_with (go_at_call 87; refine HT.out.mono ?_; rintro e w' ⟨rfl, rfl⟩)
                    go_roundg g2
                    case measure => omega
                    case rel => exact ⟨i + 1, ch, vs2, ts2, tv2, by omega, by go_num, rfl, H1, HM, HN, HR, HE⟩
                  · rw [if_neg hoo] at hs0
                    have HS2 := Aside0.mk hs0
                    clear hs0
                    have HO2 : Aside0 (l = 0 ∨ LitOk vs.length l) := ⟨.inr HLit.out⟩
                    by_cases ho0 : o = 0
                    · have hb1 : (o != 0) = false := by simp [ho0]
                      clear ho0 hoo
                      go_wp2_with (go_at_call 87; refine HT.out.mono ?_; rintro e w' ⟨rfl, rfl⟩)
                      go_roundg g3
                      case measure => omega
                      case rel => exact ⟨j + 1, l, by omega, by go_num, rfl, ⟨rfl⟩, HO2, HS2⟩
                    · have hol : o = l := by
                        by_cases h : o = l
                        · exact h
                        · exact absurd ⟨ho0, h⟩ hoo
                      subst hol
                      have hb1 : (o != 0) = true := by simpa using ho0
                      have hb2 : (o != o) = false := by simp
                      clear ho0 hoo
                      go_wp2_with (go_at_call 87; refine HT.out.mono ?_; rintro e w' ⟨rfl, rfl⟩)
                      go_roundg g3
                      case measure => omega
                      case rel => exact ⟨j + 1, o, by omega, by go_num, rfl, ⟨rfl⟩, HO2, HS2⟩
                · have HS2 := Aside0.mk (by have := HSS.out; rw [if_neg (by decide), if_neg (by decide)] at this; exact this)
                  clear HSS
                  go_wp2_with (go_at_call 87; refine HT.out.mono ?_; rintro e w' ⟨rfl, rfl⟩)
                  go_roundg g3
                  case measure => omega
                  case rel => exact ⟨j + 1, o, by omega, by go_num, rfl, ⟨rfl⟩, HO, HS2⟩
end Go.Proofs.Ytbnjbjcokkcfcaa.Sol
namespace Go.Proofs.Ytbnjbjcokkcfcaa.Sol
open Go.RowKit Go.Proofs.YtbnjbjcokkcfcaaW.PrintWords Go.Proofs.YtbnjbjcokkcfcaaW.PrintLast Go.Proofs.YtbnjbjcokkcfcaaW.PrintMore Go.Proofs.Ytbnjbjcokkcfcaa.PSearchOwn
set_option linter.unusedVariables false
set_option linter.unusedSimpArgs false
def backV (vs : List Int) (l : List Int) : List Int := l.foldl (fun a v => a.set v.toNat 0) vs
def TrOk (n : Nat) (ts : List Int) : Prop := ∀ v ∈ ts, 0 ≤ v ∧ v < n
def BackPost (w0 W : World) (g gv : Nat) (N : Int) (AL : Option Addr) (cL : Nat) (L : List (List Int)) (tv : Value) (vs' ts' : List Int) (e : Ending) (W' : World) : Prop :=
  ∃ tv', e = .returned (.tuple #[]) ∧ St w0 W' g gv N AL cL L vs' ts' tv' ∧ Moved W W' g gv tv tv'
theorem backV_length (vs l : List Int) : (backV vs l).length = vs.length := by
  unfold backV
  induction l generalizing vs with
  | nil => rfl
  | cons a l ih => rw [List.foldl_cons, ih, List.length_set]
section
variable {w0 W : World} {g gv : Nat} {N : Int} {AL : Option Addr} {cL : Nat} {L : List (List Int)} {vs ts : List Int} {tv : Value}
theorem St.trCell {gt n cap : Nat} (h : St w0 W g gv N AL cL L vs ts (.slice (some ⟨gt, 0, none⟩) n cap)) (j : Nat) (v : Int) (hj : ts[j]? = some v) : W.cell? ⟨gt, j, none⟩ = some (.int .i64 v) := by
  have := h.tr.cells (g := gt) rfl j (.int .i64 v) (by simp [nums, hj])
  rwa [add_plain] at this
theorem St.cutTrail {A : Option Addr} {n cap : Nat} (h : St w0 W g gv N AL cL L vs ts (.slice A n cap)) (m : Nat) (hm : m ≤ ts.length) :
    St w0 (W.setCell ⟨g, 3, none⟩ (.slice A m cap)) g gv N AL cL L vs (ts.take m) (.slice A m cap) := by
  have hne : gv ≠ g := Ne.symm (blk_ne h.blk h.val (by decide))
  obtain rfl : n = ts.length := by
    rcases h.tr.2 with ⟨h1, h2⟩ | ⟨g', cap', cur, h1, _⟩
    · injection h1 with _ h1 _; omega
    · injection h1 with _ h1 _
  have ho := own_take h.tr hm
  have hl : (ts.take m).length = m := by simp; omega
  have hob : ∀ x y, Value.ownBlock (.slice A x cap) = Value.ownBlock (.slice A y cap) := fun x y => by cases A <;> rfl
  refine ⟨blk_put h.blk 3 _ rfl, blk_far h.val hne _, ?_, ?_, below_set h.below h.geg, h.geg, h.gev, h.rdL, h.capL, h.small, h.len⟩
  · rw [hl]
    have h2 := own_move (w1 := W.setCell ⟨g, 3, none⟩ (.slice A m cap)) ho (fun k hk => Below.heap_setCell W ⟨g, 3, none⟩ _ k (fun e => by
      have := own_neG h.tr h.blk (by decide)
      exact this (by rw [hob _ m, hk, e])))
    simpa [nums, List.map_take] using h2
  · rw [hob m ts.length]; exact h.ne
theorem Moved.setCell {W W' : World} {A : Option Addr} {n m cap : Nat} (h : Moved W W' g gv tv (.slice A n cap)) (u : Value) : Moved W (W'.setCell ⟨g, 3, none⟩ u) g gv tv (.slice A m cap) :=
  ⟨h.kept.setCell (.inl (.inl rfl)) u, by
    have hob : ∀ x y, Value.ownBlock (.slice A x cap) = Value.ownBlock (.slice A y cap) := fun x y => by cases A <;> rfl
    rw [hob m n]; exact h.tail⟩
theorem Moved.setCell2 {W W' : World} {tv' : Value} (h : Moved W W' g gv tv tv') (u : Value) {i : Nat} : Moved W (W'.setCell ⟨gv, i, none⟩ u) g gv tv tv' :=
  ⟨h.kept.setCell (.inl (.inr (.inl rfl))) u, h.tail⟩
end
set_option maxHeartbeats 2000000 in
set_option maxRecDepth 100000 in
theorem back_some {w0 W : World} {g gv gt cap : Nat} {N : Int} {AL : Option Addr} {cL : Nat} {L : List (List Int)} {vs ts : List Int} (m : Nat) (hm : m < ts.length) (h : St w0 W g gv N AL cL L vs ts (.slice (some ⟨gt, 0, none⟩) ts.length cap)) (hcap : ts.length ≤ cap) (hcm : cap ≤ 9223372036854775807) (ho : TrOk vs.length ts) :
    Calls Try.prog 69 #[.pointer (some ⟨g, 0, none⟩), .int .i64 (m : Int)] W (BackPost w0 W g gv N AL cL L (.slice (some ⟨gt, 0, none⟩) ts.length cap) (backV vs (ts.drop m)) (ts.take m)) := by
  have hc3 : W.cell? ⟨g, 3, none⟩ = some (.slice (some ⟨gt, 0, none⟩) ts.length cap) := (blk_cell h.blk 3).trans rfl
  have hne : ¬ (cap = m) := by omega
  have H1 := Aside0.mk h
  have H2 := Aside0.mk ho
  clear h ho
  go_enter Try.func69, Try.ntmps69
  go_wp2_with fail
  clear hc3 hne
  go_loopg [13] (ts.length - m) (fun gk v13 w' => ∃ i : Nat, i + gk = ts.length - m ∧ v13 = .int .i64 i ∧ Aside0 (St w0 w' g gv N AL cL L (backV vs ((ts.drop m).take i)) ts (.slice (some ⟨gt, 0, none⟩) ts.length cap)) ∧ Aside0 (Moved W w' g gv (.slice (some ⟨gt, 0, none⟩) ts.length cap) (.slice (some ⟨gt, 0, none⟩) ts.length cap)))
  case atStart => exact ⟨0, by omega, rfl, H1, ⟨Moved.refl _ _ _ _⟩⟩
  case round =>
    clear H1
    obtain ⟨i, hig, rfl, H1, HM⟩ := hrel
    have hc3 : wr.cell? ⟨g, 3, none⟩ = some (.slice (some ⟨gt, 0, none⟩) ts.length cap) := (blk_cell H1.out.blk 3).trans rfl
    have hc2 : wr.cell? ⟨g, 2, none⟩ = some (.slice (some ⟨gv, 0, none⟩) (backV vs ((ts.drop m).take i)).length (backV vs ((ts.drop m).take i)).length) := (blk_cell H1.out.blk 2).trans rfl
    cases gk with
    | zero =>
      have hi : ¬ ((i : Int) < ((ts.length - m : Nat) : Int)) := by omega
      have hf3 := blk_frozen H1.out.blk 3
      have HE : Aside0 (backV vs ((ts.drop m).take i) = backV vs (ts.drop m)) := ⟨by rw [List.take_of_length_le (by simp; omega)]⟩
      clear hc2
      go_wp2
      go_end0
      rw [← HE.out]
      exact ⟨_, rfl, H1.out.cutTrail m (by omega), HM.out.setCell _⟩
    | succ gk =>
      have hi : (i : Int) < ((ts.length - m : Nat) : Int) := by omega
      obtain ⟨v, hv⟩ : ∃ v, ts.getD (m + i) 0 = v := ⟨_, rfl⟩
      have hge : ts[m + i]? = some v := by
        rw [← hv]; simp [List.getD_eq_getElem?_getD, List.getElem?_eq_getElem (show m + i < ts.length by omega)]
      have hx : wr.cell? ⟨gt, m + i, none⟩ = some (.int .i64 v) := H1.out.trCell (m + i) v hge
      have hlen : (backV vs ((ts.drop m).take i)).length = vs.length := backV_length _ _
      rw [hlen] at hc2
      have hvo := H2.out v (List.mem_of_getElem? hge)
      have hvv : wr.cell? ⟨gv, v.toNat, none⟩ = some (.int .i64 (vat (backV vs ((ts.drop m).take i)) v)) := H1.out.cell v hvo.1 (by rw [hlen]; exact hvo.2)
      have hfv := blk_frozen H1.out.val v.toNat
      have HS := Aside0.mk (H1.out.put v.toNat 0 (by omega))
      have HT : Aside0 ((ts.drop m).take (i + 1) = (ts.drop m).take i ++ [v]) := ⟨by rw [List.take_add_one, List.getElem?_drop, hge]; rfl⟩
      obtain ⟨hvo1, hvo2⟩ := hvo
      have hlm := H1.out.len
      rw [hlen] at hlm
      clear hv hge hlen
      generalize vat (backV vs ((ts.drop m).take i)) v = y at hvv
      go_wp2
      go_roundg gk
      case measure => omega
      case rel =>
        refine ⟨i + 1, by omega, by go_num, ⟨?_⟩, ⟨HM.out.setCell2 _⟩⟩
        rw [HT.out]
        have e : backV vs ((ts.drop m).take i ++ [v]) = (backV vs ((ts.drop m).take i)).set v.toNat 0 := by unfold backV; rw [List.foldl_append]; rfl
        rw [e]
        exact HS.out
set_option maxHeartbeats 2000000 in
set_option maxRecDepth 100000 in
theorem back_none {w0 W : World} {g gv cap n : Nat} {A : Option Addr} {N : Int} {AL : Option Addr} {cL : Nat} {L : List (List Int)} {vs ts : List Int} (hn : n = ts.length) (h : St w0 W g gv N AL cL L vs ts (.slice A n cap)) (hcap : n ≤ cap) (hcm : cap ≤ 9223372036854775807) (hA : A = none → n = 0 ∧ cap = 0) :
    Calls Try.prog 69 #[.pointer (some ⟨g, 0, none⟩), .int .i64 (n : Int)] W (BackPost w0 W g gv N AL cL L (.slice A n cap) vs ts) := by
  have hc3 : W.cell? ⟨g, 3, none⟩ = some (.slice A n cap) := (blk_cell h.blk 3).trans rfl
  have hf3 := blk_frozen h.blk 3
  have HF := Aside0.mk (h.cutTrail n (by omega))
  have HN := Aside0.mk hn
  clear h hn
  cases A with
  | none =>
    obtain ⟨rfl, rfl⟩ := hA rfl
    go_enter Try.func69, Try.ntmps69
    go_wp2_with fail
    refine wp_loop_once ?_
    go_wp2
    go_end0
    exact ⟨_, rfl, by have := HF.out; rw [HN.out, List.take_length] at this; first | exact this | (rw [← HN.out] at this; exact this), (Moved.refl W g gv _).setCell _⟩
  | some a =>
    clear hA
    by_cases hc : cap = n
    · subst hc
      go_enter Try.func69, Try.ntmps69
      go_wp2_with fail
      refine wp_loop_once ?_
      go_wp2
      go_end0
      exact ⟨_, rfl, by have := HF.out; rw [HN.out, List.take_length] at this; first | exact this | (rw [← HN.out] at this; exact this), (Moved.refl W g gv _).setCell _⟩
    · go_enter Try.func69, Try.ntmps69
      go_wp2_with fail
      refine wp_loop_once ?_
      go_wp2
      go_end0
      exact ⟨_, rfl, by have := HF.out; rw [HN.out, List.take_length] at this; first | exact this | (rw [← HN.out] at this; exact this), (Moved.refl W g gv _).setCell _⟩
theorem back_calls {w0 W : World} {g gv : Nat} {N : Int} {AL : Option Addr} {cL : Nat} {L : List (List Int)} {vs ts : List Int} {tv : Value} (h : St w0 W g gv N AL cL L vs ts tv) (m : Nat) (hm : m ≤ ts.length) (ho : TrOk vs.length ts) :
    Calls Try.prog 69 #[.pointer (some ⟨g, 0, none⟩), .int .i64 (m : Int)] W (BackPost w0 W g gv N AL cL L tv (backV vs (ts.drop m)) (ts.take m)) := by
  have h2 : (tv = .slice none 0 0 ∧ ts.length = 0) ∨ ∃ gt cap, tv = .slice (some ⟨gt, 0, none⟩) ts.length cap ∧ ts.length ≤ cap ∧ cap ≤ 9223372036854775807 := by
    rcases h.tr.2 with ⟨h1, h2⟩ | ⟨g', cap, cur, h1, _, _, h2, h3, _⟩
    · exact .inl ⟨h1, h2⟩
    · exact .inr ⟨g', cap, h1, h2, h3⟩
  rcases h2 with ⟨rfl, h0⟩ | ⟨gt, cap, rfl, hc, hcm⟩
  · obtain rfl : ts = [] := List.eq_nil_of_length_eq_zero h0
    obtain rfl : m = 0 := by simpa using hm
    exact back_none (n := 0) (cap := 0) (A := none) rfl h (by omega) (by omega) (fun _ => ⟨rfl, rfl⟩)
  · by_cases hlt : m < ts.length
    · exact back_some m hlt h hc hcm ho
    · obtain rfl : m = ts.length := by omega
      rw [List.drop_length, List.take_length]
      exact back_none (A := some ⟨gt, 0, none⟩) rfl h hc hcm (fun h => by cases h)
end Go.Proofs.Ytbnjbjcokkcfcaa.Sol
namespace Go.Proofs.Ytbnjbjcokkcfcaa.Sol
open Go.RowKit Go.Proofs.YtbnjbjcokkcfcaaW.PrintWords Go.Proofs.YtbnjbjcokkcfcaaW.PrintLast Go.Proofs.YtbnjbjcokkcfcaaW.PrintMore Go.Proofs.Ytbnjbjcokkcfcaa.PSearchOwn
set_option linter.unusedVariables false
set_option linter.unusedSimpArgs false
/-- The first variable from v on (d at most are to come) that has no value. -/
def next (vs : List Int) : Nat → Nat → Nat
  | 0, v => v
  | d + 1, v => if vat vs v = 0 then v else next vs d (v + 1)
def undo (vs ts : List Int) (m : Nat) : List Int × List Int := (backV vs (ts.drop m), ts.take m)
/-- try(v); n: the number of variables and 1. -/
def tryF (L : List (List Int)) (n K : Nat) : Nat → Nat → List Int → List Int → Option (Bool × List Int × List Int)
  | 0, _, _, _ => none
  | f + 1, v, vs, ts => (prop L K vs ts).bind fun r =>
    if r.1 = false then some r else
    if n ≤ next r.2.1 (n - v) v then some r else
    (tryF L n K f (next r.2.1 (n - v) v + 1) (setV r.2.1 (-(next r.2.1 (n - v) v : Int))) (setT r.2.1 r.2.2 (-(next r.2.1 (n - v) v : Int)))).bind fun r2 =>
      if r2.1 then some r2 else
      (tryF L n K f (next r.2.1 (n - v) v + 1) (setV (undo r2.2.1 r2.2.2 r.2.2.length).1 (next r.2.1 (n - v) v)) (setT (undo r2.2.1 r2.2.2 r.2.2.length).1 (undo r2.2.1 r2.2.2 r.2.2.length).2 (next r.2.1 (n - v) v))).bind fun r3 =>
        if r3.1 then some r3 else some (false, undo r3.2.1 r3.2.2 r.2.2.length)
/-- What holds of values and trail at every step. -/
structure Inv (n : Nat) (vs ts : List Int) : Prop where
  len : vs.length = n
  room : Room vs ts
  tr : TrOk n ts
  zero : vat vs 0 = 0
theorem le_next (vs : List Int) : ∀ d v, v ≤ next vs d v
  | 0, v => by simp [next]
  | d + 1, v => by
    simp only [next]
    split
    · omega
    · have := le_next vs d (v + 1); omega
theorem vat_set (vs : List Int) (i : Nat) (x : Int) : vat (vs.set i x) 0 = if i = 0 ∧ 0 < vs.length then x else vat vs 0 := by
  unfold vat
  simp only [List.getD_eq_getElem?_getD, Int.toNat_zero, List.getElem?_set]
  by_cases h : i = 0
  · subst h
    by_cases h2 : 0 < vs.length
    · simp [h2]
    · simp at h2; simp [h2]
  · simp [h]
theorem zero_set {vs : List Int} {n : Nat} {l : Int} (hl : LitOk n l) (h : vat vs 0 = 0) : vat (setV vs l) 0 = 0 := by
  obtain ⟨h0, h1, h2⟩ := hl
  unfold setV
  split
  · split
    · rw [vat_set, if_neg (by omega)]; exact h
    · rw [vat_set, if_neg (by omega)]; exact h
  · exact h
theorem zero_back {vs : List Int} (l : List Int) (h : vat vs 0 = 0) : vat (backV vs l) 0 = 0 := by
  unfold backV
  induction l generalizing vs with
  | nil => exact h
  | cons a l ih =>
    rw [List.foldl_cons]
    refine ih ?_
    rw [vat_set]; split
    · rfl
    · exact h
theorem Inv.set {n : Nat} {vs ts : List Int} (h : Inv n vs ts) {l : Int} (hl : LitOk n l) : Inv n (setV vs l) (setT vs ts l) := by
  refine ⟨by rw [setV_length]; exact h.len, h.room.set h.len hl, ?_, zero_set hl h.zero⟩
  unfold setT
  split
  · intro v hv
    rcases List.mem_append.1 hv with hv | hv
    · exact h.tr v hv
    · obtain ⟨h0, h1, h2⟩ := hl
      simp at hv; omega
  · exact h.tr
theorem setT_le (vs ts : List Int) (l : Int) : ts.length ≤ (setT vs ts l).length := by unfold setT; split <;> simp
theorem count_back (vs : List Int) (l : List Int) : (backV vs l).count 0 ≤ vs.count 0 + l.length := by
  unfold backV
  induction l generalizing vs with
  | nil => simp
  | cons a l ih =>
    rw [List.foldl_cons]
    have h1 := ih (vs.set a.toNat 0)
    have h2 : (vs.set a.toNat 0).count 0 ≤ vs.count 0 + 1 := by
      by_cases hlt : a.toNat < vs.length
      · rw [List.count_set hlt]; simp
      · rw [List.set_eq_of_length_le (by omega)]; omega
    simp; omega
theorem Inv.undo {n : Nat} {vs ts : List Int} (h : Inv n vs ts) (m : Nat) : Inv n (undo vs ts m).1 (undo vs ts m).2 := by
  refine ⟨by simp [Sol.undo, backV_length, h.len], ?_, fun v hv => h.tr v (List.mem_of_mem_take hv), zero_back _ h.zero⟩
  have h1 := count_back vs (ts.drop m)
  have h2 := h.room
  unfold Room at *
  simp only [Sol.undo, List.length_take, List.length_drop] at *
  omega
theorem scan_lit {vs : List Int} {n : Nat} : ∀ (c : List Int) (o r : Int), (∀ l ∈ c, LitOk n l) → (o = 0 ∨ LitOk n o) → scan vs c o = some r → r = 0 ∨ LitOk n r
  | [], o, r, _, ho, h => by simp [scan] at h; subst h; exact ho
  | l :: c, o, r, hc, ho, h => by
    simp only [scan] at h
    have hc' : ∀ l ∈ c, LitOk n l := fun x hx => hc x (List.mem_cons_of_mem _ hx)
    split at h
    · cases h
    · split at h
      · split at h
        · cases h
        · exact scan_lit c l r hc' (.inr (hc l List.mem_cons_self)) h
      · exact scan_lit c o r hc' ho h
theorem pass_inv {n : Nat} : ∀ (L : List (List Int)) (vs ts : List Int) (ch : Bool), AllOk n L → Inv n vs ts → Inv n (pass L vs ts ch).2.1 (pass L vs ts ch).2.2.1 ∧ ts.length ≤ (pass L vs ts ch).2.2.1.length
  | [], vs, ts, ch, _, h => ⟨h, Nat.le_refl _⟩
  | c :: L, vs, ts, ch, hL, h => by
    have hL' : AllOk n L := fun x hx => hL x (List.mem_cons_of_mem _ hx)
    simp only [pass]
    cases hs : scan vs c 0 with
    | none => exact pass_inv L vs ts ch hL' h
    | some o =>
      simp only []
      by_cases ho : o = 0
      · rw [if_pos ho]; exact ⟨h, Nat.le_refl _⟩
      · rw [if_neg ho]
        have hlit := (scan_lit c 0 o (hL c List.mem_cons_self) (.inl rfl) hs).resolve_left ho
        obtain ⟨h1, h2⟩ := pass_inv L (setV vs o) (setT vs ts o) true hL' (h.set hlit)
        exact ⟨h1, Nat.le_trans (setT_le vs ts o) h2⟩
theorem prop_inv {n : Nat} {L : List (List Int)} (hL : AllOk n L) : ∀ (K : Nat) (vs ts : List Int) (r : Bool × List Int × List Int), Inv n vs ts → prop L K vs ts = some r → Inv n r.2.1 r.2.2 ∧ ts.length ≤ r.2.2.length
  | 0, vs, ts, r, _, h => by simp [prop] at h
  | K + 1, vs, ts, r, hi, h => by
    have hp := pass_inv L vs ts false hL hi
    simp only [prop] at h
    rcases hR : pass L vs ts false with ⟨b1, v1, t1, c1⟩
    rw [hR] at h hp
    cases b1 with
    | false => simp only [Option.some.injEq] at h; subst h; exact hp
    | true =>
      cases c1 with
      | false => simp only [Option.some.injEq] at h; subst h; exact hp
      | true =>
        obtain ⟨h1, h2⟩ := prop_inv hL K v1 t1 r hp.1 h
        exact ⟨h1, Nat.le_trans hp.2 h2⟩
theorem undo_len {vs ts : List Int} {m : Nat} (h : m ≤ ts.length) : (undo vs ts m).2.length = m := by simp [undo]; omega
theorem tryF_inv {n : Nat} {L : List (List Int)} (hL : AllOk n L) (K : Nat) : ∀ (f v : Nat) (vs ts : List Int) (r : Bool × List Int × List Int), 1 ≤ v → Inv n vs ts → tryF L n K f v vs ts = some r → Inv n r.2.1 r.2.2 ∧ ts.length ≤ r.2.2.length
  | 0, v, vs, ts, r, _, _, h => by simp [tryF] at h
  | f + 1, v, vs, ts, r, hv, hi, h => by
    simp only [tryF] at h
    obtain ⟨r1, hr1, h⟩ := Option.bind_eq_some_iff.1 h
    obtain ⟨hi1, hl1⟩ := prop_inv hL K vs ts r1 hi hr1
    split at h
    · simp only [Option.some.injEq] at h; subst h; exact ⟨hi1, hl1⟩
    split at h
    · simp only [Option.some.injEq] at h; subst h; exact ⟨hi1, hl1⟩
    · rename_i hn
      have hle := le_next r1.2.1 (n - v) v
      generalize next r1.2.1 (n - v) v = x at h hn hle
      obtain ⟨r2, hr2, h⟩ := Option.bind_eq_some_iff.1 h
      have hx1 : LitOk n (-(x : Int)) := ⟨by omega, by omega, by omega⟩
      have hx2 : LitOk n (x : Int) := ⟨by omega, by omega, by omega⟩
      obtain ⟨hi2, hl2⟩ := tryF_inv hL K f (x + 1) _ _ r2 (by omega) (hi1.set hx1) hr2
      have hl2' := Nat.le_trans (setT_le r1.2.1 r1.2.2 (-(x : Int))) hl2
      split at h
      · simp only [Option.some.injEq] at h; subst h; exact ⟨hi2, by omega⟩
      · obtain ⟨r3, hr3, h⟩ := Option.bind_eq_some_iff.1 h
        obtain ⟨hi3, hl3⟩ := tryF_inv hL K f (x + 1) _ _ r3 (by omega) ((hi2.undo _).set hx2) hr3
        have hl3' := Nat.le_trans (setT_le _ _ _) hl3
        rw [undo_len hl2'] at hl3'
        split at h
        · simp only [Option.some.injEq] at h; subst h; exact ⟨hi3, by omega⟩
        · simp only [Option.some.injEq] at h; subst h
          refine ⟨hi3.undo _, ?_⟩
          show ts.length ≤ (undo _ _ _).2.length
          rw [undo_len hl3']; exact hl1
end Go.Proofs.Ytbnjbjcokkcfcaa.Sol
namespace Go.Proofs.Ytbnjbjcokkcfcaa.Sol
open Go.RowKit Go.Proofs.YtbnjbjcokkcfcaaW.PrintWords Go.Proofs.YtbnjbjcokkcfcaaW.PrintLast Go.Proofs.YtbnjbjcokkcfcaaW.PrintMore Go.Proofs.Ytbnjbjcokkcfcaa.PSearchOwn
set_option linter.unusedVariables false
set_option linter.unusedSimpArgs false
/-- A block that the state's calls leave alone. -/
def Apart (W : World) (g gv : Nat) (tv : Value) (k : Nat) : Prop := k < W.heap.size ∧ k ≠ g ∧ k ≠ gv ∧ tv.ownBlock ≠ some k
theorem Moved.apart {W W' : World} {g gv k : Nat} {tv tv' : Value} (h : Moved W W' g gv tv tv') (ha : Apart W g gv tv k) : Apart W' g gv tv' k := by
  obtain ⟨h1, h2, h3, h4⟩ := ha
  refine ⟨Nat.lt_of_lt_of_le h1 h.kept.1, h2, h3, fun e => ?_⟩
  rcases h.tail with he | ⟨b, he, hle⟩
  · exact h4 (he ▸ e)
  · rw [he] at e; injection e with e; omega
theorem Moved.same {W W' : World} {g gv k : Nat} {tv tv' : Value} (h : Moved W W' g gv tv tv') (ha : Apart W g gv tv k) : W'.heap[k]? = W.heap[k]? := by
  obtain ⟨h1, h2, h3, h4⟩ := ha
  refine h.kept.2 k h1 ?_
  rintro (rfl | rfl | e)
  · exact h2 rfl
  · exact h3 rfl
  · exact h4 e
theorem Moved.blk {W W' : World} {g gv k : Nat} {tv tv' : Value} (h : Moved W W' g gv tv tv') (ha : Apart W g gv tv k) {o : Obj} (hb : W.heap[k]? = some o) : W'.heap[k]? = some o := (h.same ha).trans hb
/-- What the closure has captured. -/
structure Env (W : World) (g gv : Nat) (tv : Value) (gS gT gF : Nat) (N : Int) (AL : Option Addr) (cL nL : Nat) : Prop where
  s : W.heap[gS]? = some (.cells #[.pointer (some ⟨g, 0, none⟩)] 87 (0, 0))
  t : W.heap[gT]? = some (.cells #[.int .i64 N, .slice AL nL cL] 24 (0, 0))
  f : W.heap[gF]? = some (.cells #[.func (.func 67) #[] #[.pointer (some ⟨gS, 0, none⟩), .pointer (some ⟨gT, 0, none⟩), .pointer (some ⟨gF, 0, none⟩)]] 86 (0, 0))
  as_ : Apart W g gv tv gS
  at_ : Apart W g gv tv gT
  af_ : Apart W g gv tv gF
theorem Env.move {W W' : World} {g gv : Nat} {tv tv' : Value} {gS gT gF : Nat} {N : Int} {AL : Option Addr} {cL nL : Nat} (h : Env W g gv tv gS gT gF N AL cL nL) (hm : Moved W W' g gv tv tv') : Env W' g gv tv' gS gT gF N AL cL nL :=
  ⟨hm.blk h.as_ h.s, hm.blk h.at_ h.t, hm.blk h.af_ h.f, hm.apart h.as_, hm.apart h.at_, hm.apart h.af_⟩
theorem Env.alloc {W : World} {g gv : Nat} {tv : Value} {gS gT gF : Nat} {N : Int} {AL : Option Addr} {cL nL : Nat} (h : Env W g gv tv gS gT gF N AL cL nL) (o : Obj) : Env (W.alloc o) g gv tv gS gT gF N AL cL nL := by
  have hl : ∀ k, Apart W g gv tv k → Apart (W.alloc o) g gv tv k := fun k hk => ⟨by have := hk.1; simp; omega, hk.2⟩
  exact ⟨blk_alloc h.s o, blk_alloc h.t o, blk_alloc h.f o, hl _ h.as_, hl _ h.at_, hl _ h.af_⟩
theorem St.alloc {w0 W : World} {g gv : Nat} {N : Int} {AL : Option Addr} {cL : Nat} {L : List (List Int)} {vs ts : List Int} {tv : Value} (h : St w0 W g gv N AL cL L vs ts tv) (o : Obj) : St w0 (W.alloc o) g gv N AL cL L vs ts tv :=
  ⟨blk_alloc h.blk o, blk_alloc h.val o, h.tr.alloc o, h.ne, below_alloc h.below o, h.geg, h.gev, h.rdL, h.capL, h.small, h.len⟩
theorem Moved.alloc {W W' : World} {g gv : Nat} {tv tv' : Value} (h : Moved W W' g gv tv tv') (o : Obj) : Moved W (W'.alloc o) g gv tv tv' := ⟨h.kept.alloc o, h.tail⟩
/-- The literal of round i. -/
def litAt (x i : Nat) : Int := if i = 0 then -(x : Int) else x
/-- What is left of the two rounds. -/
def Rem (L : List (List Int)) (n K f x m : Nat) (res : Bool × List Int × List Int) : Nat → List Int → List Int → Prop
  | 0, vs, ts => ((tryF L n K f (x + 1) (setV vs (-(x : Int))) (setT vs ts (-(x : Int)))).bind fun r2 =>
      if r2.1 then some r2 else
      (tryF L n K f (x + 1) (setV (undo r2.2.1 r2.2.2 m).1 x) (setT (undo r2.2.1 r2.2.2 m).1 (undo r2.2.1 r2.2.2 m).2 x)).bind fun r3 =>
        if r3.1 then some r3 else some (false, undo r3.2.1 r3.2.2 m)) = some res
  | 1, vs, ts => ((tryF L n K f (x + 1) (setV vs x) (setT vs ts x)).bind fun r3 =>
        if r3.1 then some r3 else some (false, undo r3.2.1 r3.2.2 m)) = some res
  | _, vs, ts => (false, vs, ts) = res
theorem rem_step {L : List (List Int)} {n K f x m : Nat} {res : Bool × List Int × List Int} {i : Nat} {vs ts : List Int} (hi : i < 2) (h : Rem L n K f x m res i vs ts) :
    ∃ r2, tryF L n K f (x + 1) (setV vs (litAt x i)) (setT vs ts (litAt x i)) = some r2 ∧ (r2.1 = true → r2 = res) ∧ (r2.1 = false → Rem L n K f x m res (i + 1) (undo r2.2.1 r2.2.2 m).1 (undo r2.2.1 r2.2.2 m).2) := by
  match i, hi with
  | 0, _ =>
    simp only [Rem] at h
    obtain ⟨r2, h2, h⟩ := Option.bind_eq_some_iff.1 h
    refine ⟨r2, by simpa [litAt] using h2, fun e => ?_, fun e => ?_⟩
    · rw [e, if_pos rfl] at h; exact Option.some.inj h
    · rw [e, if_neg (by simp)] at h; exact h
  | 1, _ =>
    simp only [Rem] at h
    obtain ⟨r2, h2, h⟩ := Option.bind_eq_some_iff.1 h
    refine ⟨r2, by simpa [litAt] using h2, fun e => ?_, fun e => ?_⟩
    · rw [e, if_pos rfl] at h; exact Option.some.inj h
    · rw [e, if_neg (by simp)] at h; exact Option.some.inj h
set_option maxHeartbeats 2000000 in
set_option maxRecDepth 100000 in
theorem try_calls {w0 : World} {g gv gS gT gF : Nat} {N : Int} {AL : Option Addr} {cL n K : Nat} {L : List (List Int)} (hN : N + 1 = n) (hn : n ≤ 129) (hok : AllOk n L) (f : Nat) : ∀ (W : World) (v : Nat) (vs ts : List Int) (tv : Value) (b : Bool) (vs' ts' : List Int),
    St w0 W g gv N AL cL L vs ts tv → Env W g gv tv gS gT gF N AL cL L.length → Inv n vs ts → 1 ≤ v → v ≤ n → tryF L n K f v vs ts = some (b, vs', ts') →
    Calls Try.prog 67 #[.int .i64 (v : Int), .pointer (some ⟨gS, 0, none⟩), .pointer (some ⟨gT, 0, none⟩), .pointer (some ⟨gF, 0, none⟩)] W (SetPost w0 W g gv N AL cL L vs ts tv b vs' ts') := by
  induction f with
  | zero => intro W v vs ts tv b vs' ts' _ _ _ _ _ h; simp [tryF] at h
  | succ f ih =>
    intro W v vs ts tv b vs' ts' h he hi hv1 hvn hf0
    simp only [tryF] at hf0
    obtain ⟨⟨b1, vs1, ts1⟩, hr1, hf⟩ := Option.bind_eq_some_iff.1 hf0
    clear hf0
    obtain ⟨hi1, hl1⟩ := prop_inv hok K vs ts _ hi hr1
    have hprop := prop_calls K h (by rw [hi.len]; exact hn) (by rw [hi.len]; exact hok) hi.room hr1
    have IH := Aside0.mk ih
    clear ih
    simp only [] at hf hi1 hl1
    have H1 := Aside0.mk h
    have HE := Aside0.mk he
    have HP := Aside0.mk hprop
    have HI1 := Aside0.mk hi1
    have HF := Aside0.mk hf
    clear h he hi hprop hi1 hf hr1
    have hcs : W.cell? ⟨gS, 0, none⟩ = some (.pointer (some ⟨g, 0, none⟩)) := (blk_cell HE.out.s 0).trans rfl
    cases b1 with
    | false =>
      have hE := HF.out
      simp only [if_true, Option.some.injEq, Prod.mk.injEq] at hE
      obtain ⟨rfl, rfl, rfl⟩ := hE
      go_enter Try.func67, Try.ntmps67
      go_wp2_with (go_at_call 68; refine HP.out.mono ?_; rintro e w1 ⟨tv1, rfl, hst, hmv⟩; have HST := Aside0.mk hst; have HMV := Aside0.mk hmv; clear hst hmv)
      go_ret
      exact ⟨tv1, rfl, HST.out, HMV.out⟩
    | true =>
      go_enter Try.func67, Try.ntmps67
      go_wp2_with (go_at_call 68; refine HP.out.mono ?_; rintro e w1 ⟨tv1, rfl, hst, hmv⟩; have HST := Aside0.mk hst; have HMV := Aside0.mk hmv; clear hst hmv)
      obtain ⟨A1, c1, rfl⟩ := own_slice HST.out.tr
      clear hcs HP
      have HENV := Aside0.mk (HE.out.move HMV.out)
      clear H1 HE
      obtain ⟨x, hx⟩ : ∃ x, next vs1 (n - v) v = x := ⟨_, rfl⟩
      have hFx := HF.out
      rw [if_neg (by simp), hx] at hFx
      have HF2 := Aside0.mk hFx
      have HX := Aside0.mk hx
      clear hFx HF hx
      have hN1 : N + 1 ≤ n := by omega
      have hN2 : (n : Int) ≤ N + 1 := by omega
      have HN := Aside0.mk hN
      clear hN
      have hcs : w1.cell? ⟨gS, 0, none⟩ = some (.pointer (some ⟨g, 0, none⟩)) := (blk_cell HENV.out.s 0).trans rfl
      have hct : w1.cell? ⟨gT, 0, none⟩ = some (.int .i64 N) := (blk_cell HENV.out.t 0).trans rfl
      have hc2 : w1.cell? ⟨g, 2, none⟩ = some (.slice (some ⟨gv, 0, none⟩) n n) := by
        have := (blk_cell HST.out.blk 2).trans rfl
        rw [HI1.out.len] at this
        exact this
      go_loopg [0] (n - v) (fun gk v0 w' => ∃ u : Nat, u + gk = n ∧ v ≤ u ∧ v0 = .int .i64 u ∧ Aside0 (w' = w1) ∧ Aside0 (next vs1 (n - u) u = x))
      case atStart => exact ⟨v, by omega, by omega, rfl, ⟨rfl⟩, HX⟩
      case round =>
        clear HX
        obtain ⟨u, hu, hvu, rfl, ⟨hw⟩, HX⟩ := hrel
        subst hw
        by_cases hstep : u < n ∧ vat vs1 u ≠ 0
        · obtain ⟨hu2, hne⟩ := hstep
          obtain ⟨gk', rfl⟩ : ∃ k, gk = k + 1 := ⟨gk - 1, by omega⟩
          have hcv : wr.cell? ⟨gv, u, none⟩ = some (.int .i64 (vat vs1 u)) := by
            have := HST.out.cell (u : Int) (by omega) (by rw [HI1.out.len]; omega)
            simpa using this
          have hb : (vat vs1 u != 0) = true := by simpa using hne
          have HX2 : Aside0 (next vs1 (n - (u + 1)) (u + 1) = x) := ⟨by
            have := HX.out
            rw [show n - u = (n - (u + 1)) + 1 by omega] at this
            simp only [next] at this
            rwa [if_neg hne] at this⟩
          have hle : (u : Int) ≤ N := by omega
          clear hne
          generalize vat vs1 u = y at hcv hb
          go_wp2
          go_roundg gk'
          case measure => omega
          case rel => exact ⟨u + 1, by omega, by omega, by go_num, ⟨rfl⟩, HX2⟩
        · have hxu : x = u := by
            have := HX.out
            by_cases hu2 : u < n
            · have hz : vat vs1 u = 0 := by
                by_cases hz : vat vs1 u = 0
                · exact hz
                · exact absurd ⟨hu2, hz⟩ hstep
              rw [show n - u = (n - (u + 1)) + 1 by omega] at this
              simp only [next] at this
              rw [if_pos hz] at this
              exact this.symm
            · rw [show n - u = 0 by omega] at this
              simp only [next] at this
              exact this.symm
          subst hxu
          clear HX
          by_cases hge : n ≤ x
          · have hres := HF2.out
            rw [if_pos hge] at hres
            simp only [Option.some.injEq, Prod.mk.injEq] at hres
            obtain ⟨rfl, rfl, rfl⟩ := hres
            clear hstep HF2
            have hle : ¬ ((x : Int) ≤ N) := by omega
            have hgt : N < (x : Int) := by omega
            go_wp2
            go_ret
            exact ⟨_, rfl, HST.out, HMV.out⟩
          · have hz : vat vs1 x = 0 := by
              by_cases hz : vat vs1 x = 0
              · exact hz
              · exact absurd ⟨by omega, hz⟩ hstep
            have hcv : wr.cell? ⟨gv, x, none⟩ = some (.int .i64 0) := by
              have := HST.out.cell (x : Int) (by omega) (by rw [HI1.out.len]; omega)
              rw [hz] at this
              simpa using this
            have hres := HF2.out
            rw [if_neg hge] at hres
            have HRm : Aside0 (Rem L n K f x ts1.length (b, vs', ts') 0 vs1 ts1) := ⟨hres⟩
            clear hres HF2 hz hstep
            have hle : (x : Int) ≤ N := by omega
            have hgt : ¬ (N < (x : Int)) := by omega
            have hc3 : wr.cell? ⟨g, 3, none⟩ = some (.slice A1 ts1.length c1) := (blk_cell HST.out.blk 3).trans rfl
            go_wp2_with fail
            clear hcs hct hc2 hcv hc3
            obtain ⟨wo, hwo⟩ : ∃ wo : World, wo = wr := ⟨_, rfl⟩
            subst hwo
            have hi1 := HI1.out
            have hA0 : Apart (wo.alloc (.cells #[.int .i64 (-(x : Int)), .int .i64 (x : Int)] 3)) g gv (.slice A1 ts1.length c1) wo.heap.size := by
              refine ⟨by simp, fun e => ?_, fun e => ?_, fun e => ?_⟩
              · have := blk_lt HST.out.blk; omega
              · have := blk_lt HST.out.val; omega
              · have := own_lt HST.out.tr _ e; omega
            have HA0 := Aside0.mk hA0
            have HB0 : Aside0 ((wo.alloc (.cells #[.int .i64 (-(x : Int)), .int .i64 (x : Int)] 3)).heap[wo.heap.size]? = some (.cells #[.int .i64 (-(x : Int)), .int .i64 (x : Int)] 3 (0, 0))) := ⟨blk_new _ _⟩
            clear hi1 hA0
            go_loopg [42] 2 (fun gk v42 w' => ∃ (i : Nat) (vsx tsx : List Int) (tvx : Value), i + gk = 2 ∧ v42 = .int .i64 i ∧ Aside0 (St w0 w' g gv N AL cL L vsx tsx tvx) ∧ Aside0 (Moved W w' g gv tv tvx) ∧ Aside0 (Env w' g gv tvx gS gT gF N AL cL L.length) ∧ Aside0 (w'.heap[wo.heap.size]? = some (.cells #[.int .i64 (-(x : Int)), .int .i64 (x : Int)] 3 (0, 0))) ∧ Aside0 (Apart w' g gv tvx wo.heap.size) ∧ Aside0 (Inv n vsx tsx) ∧ Aside0 (tsx.length = ts1.length) ∧ Aside0 (Rem L n K f x ts1.length (b, vs', ts') i vsx tsx))
            case atStart => exact ⟨0, vs1, ts1, _, by omega, rfl, ⟨HST.out.alloc _⟩, ⟨HMV.out.alloc _⟩, ⟨HENV.out.alloc _⟩, HB0, HA0, HI1, ⟨rfl⟩, HRm⟩
            case round =>
              clear HST HMV HENV HB0 HA0 HI1 HRm
              obtain ⟨i, vsx, tsx, tvx, hig, rfl, HST, HMV, HENV, HBk, HAp, HI1, HTl, HRm⟩ := hrel
              cases gk with
              | zero =>
                have hi2 : ¬ ((i : Int) < 2) := by omega
                obtain rfl : i = 2 := by omega
                have hres := HRm.out
                simp only [Rem, Prod.mk.injEq] at hres
                obtain ⟨rfl, rfl, rfl⟩ := hres
                go_wp2_with fail
                go_ret
                exact ⟨_, rfl, HST.out, HMV.out⟩
              | succ gk =>
                have hi2 : (i : Int) < 2 := by omega
                have hi3 : i < 2 := by omega
                obtain ⟨⟨b2, vs2, ts2⟩, hr2, hr2t, hr2f⟩ := rem_step hi3 HRm.out
                simp only [] at hr2t hr2f
                have hlit : LitOk n (litAt x i) := by
                  unfold litAt; split
                  · exact ⟨by omega, by omega, by omega⟩
                  · exact ⟨by omega, by omega, by omega⟩
                have hcl : wr.cell? ⟨wo.heap.size, i, none⟩ = some (.int .i64 (litAt x i)) := by
                  refine (blk_cell HBk.out i).trans ?_
                  unfold litAt
                  match i, hi3 with
                  | 0, _ => rfl
                  | 1, _ => rfl
                have hset := set_calls HST.out (litAt x i) (by rw [HI1.out.len]; exact hlit) (by rw [HI1.out.len]; exact hn) HI1.out.room
                have hI2 := HI1.out.set hlit
                have hle2 : ts1.length ≤ (setT vsx tsx (litAt x i)).length := by have := setT_le vsx tsx (litAt x i); rw [HTl.out] at this; exact this
                obtain ⟨hi4, hl4⟩ := tryF_inv hok K f (x + 1) _ _ _ (by omega) hI2 hr2
                simp only [] at hi4 hl4
                have hcs : wr.cell? ⟨gS, 0, none⟩ = some (.pointer (some ⟨g, 0, none⟩)) := (blk_cell HENV.out.s 0).trans rfl
                have HSet := Aside0.mk hset
                have HI2 := Aside0.mk hI2
                have HI4 := Aside0.mk hi4
                have HL4 := Aside0.mk (Nat.le_trans hle2 hl4)
                have HR2 := Aside0.mk hr2
                have HR2T := Aside0.mk hr2t
                have HR2F := Aside0.mk hr2f
                clear hset hI2 hr2 hr2t hr2f hlit hle2 hi4 hl4 HRm
                generalize litAt x i = l at hcl HSet HI2 HR2
                generalize hvv : setV vsx l = vsy at HSet HI2 HR2
                generalize htt : setT vsx tsx l = tsy at HSet HI2 HR2
                clear hvv htt
                have IHx : ∀ w2 tv2, St w0 w2 g gv N AL cL L vsy tsy tv2 → Env w2 g gv tv2 gS gT gF N AL cL L.length → Calls Try.prog 67 #[.int .i64 ((x : Int) + 1), .pointer (some ⟨gS, 0, none⟩), .pointer (some ⟨gT, 0, none⟩), .pointer (some ⟨gF, 0, none⟩)] w2 (SetPost w0 w2 g gv N AL cL L vsy tsy tv2 b2 vs2 ts2) := by
                  intro w2 tv2 h1 h2
                  have := IH.out w2 (x + 1) vsy tsy tv2 b2 vs2 ts2 h1 h2 HI2.out (by omega) (by omega) HR2.out
                  rwa [show ((x + 1 : Nat) : Int) = (x : Int) + 1 by omega] at this
                have HTr : Aside0 (TrOk vs2.length ts2) := ⟨by rw [HI4.out.len]; exact HI4.out.tr⟩
                cases b2 with
                | true =>
                  have hres := HR2T.out rfl
                  simp only [Prod.mk.injEq] at hres
                  obtain ⟨rfl, rfl, rfl⟩ := hres
                  go_wp2_with (first | (go_at_call 66; refine HSet.out.mono ?_; rintro e w2 ⟨tv2, rfl, hst2, hmv2⟩; have HST2 := Aside0.mk hst2; have HMV2 := Aside0.mk hmv2; have HENV2 := Aside0.mk (HENV.out.move hmv2); have HCT := Aside0.mk (IHx w2 tv2 hst2 HENV2.out); clear hst2 hmv2; have hcf : w2.cell? ⟨gF, 0, none⟩ = some (.func (.func 67) #[] #[.pointer (some ⟨gS, 0, none⟩), .pointer (some ⟨gT, 0, none⟩), .pointer (some ⟨gF, 0, none⟩)]) := (blk_cell HENV2.out.f 0).trans rfl) | (go_at_call 67; refine HCT.out.mono ?_; rintro e w3 ⟨tv3, rfl, hst3, hmv3⟩; have HST3 := Aside0.mk hst3; have HMV3 := Aside0.mk (HMV2.out.trans hmv3); have HENV3 := Aside0.mk (HENV.out.move HMV3.out); clear hst3 hmv3 hcf HCT HENV2 HST2 HMV2; have hcs3 : w3.cell? ⟨gS, 0, none⟩ = some (.pointer (some ⟨g, 0, none⟩)) := (blk_cell HENV3.out.s 0).trans rfl; have HBC := Aside0.mk (back_calls HST3.out ts1.length HL4.out HTr.out)))
                  go_ret
                  exact ⟨tv3, rfl, HST3.out, HMV.out.trans HMV3.out⟩
                | false =>
                  have HRm2 := Aside0.mk (HR2F.out rfl)
                  go_wp2_with (first | (go_at_call 66; refine HSet.out.mono ?_; rintro e w2 ⟨tv2, rfl, hst2, hmv2⟩; have HST2 := Aside0.mk hst2; have HMV2 := Aside0.mk hmv2; have HENV2 := Aside0.mk (HENV.out.move hmv2); have HCT := Aside0.mk (IHx w2 tv2 hst2 HENV2.out); clear hst2 hmv2; have hcf : w2.cell? ⟨gF, 0, none⟩ = some (.func (.func 67) #[] #[.pointer (some ⟨gS, 0, none⟩), .pointer (some ⟨gT, 0, none⟩), .pointer (some ⟨gF, 0, none⟩)]) := (blk_cell HENV2.out.f 0).trans rfl) | (go_at_call 67; refine HCT.out.mono ?_; rintro e w3 ⟨tv3, rfl, hst3, hmv3⟩; have HST3 := Aside0.mk hst3; have HMV3 := Aside0.mk (HMV2.out.trans hmv3); have HENV3 := Aside0.mk (HENV.out.move HMV3.out); clear hst3 hmv3 hcf HCT HENV2 HST2 HMV2; have hcs3 : w3.cell? ⟨gS, 0, none⟩ = some (.pointer (some ⟨g, 0, none⟩)) := (blk_cell HENV3.out.s 0).trans rfl; have HBC := Aside0.mk (back_calls HST3.out ts1.length HL4.out HTr.out)) | (go_at_call 69; refine HBC.out.mono ?_; rintro e w4 ⟨tv4, rfl, hst4, hmv4⟩; have HST4 := Aside0.mk hst4; have HMV4 := Aside0.mk (HMV3.out.trans hmv4); clear hst4 hmv4))
                  go_roundg gk
                  case measure => omega
                  case rel => exact ⟨i + 1, _, _, tv4, by omega, by go_num, HST4, ⟨HMV.out.trans HMV4.out⟩, ⟨HENV.out.move HMV4.out⟩, ⟨HMV4.out.blk HAp.out HBk.out⟩, ⟨HMV4.out.apart HAp.out⟩, ⟨HI4.out.undo _⟩, ⟨undo_len (vs := vs2) HL4.out⟩, HRm2⟩
end Go.Proofs.Ytbnjbjcokkcfcaa.Sol
namespace Go.Proofs.Ytbnjbjcokkcfcaa.Sol
open Go.RowKit Go.Proofs.YtbnjbjcokkcfcaaW.PrintWords Go.Proofs.YtbnjbjcokkcfcaaW.PrintLast Go.Proofs.YtbnjbjcokkcfcaaW.PrintMore Go.Proofs.Ytbnjbjcokkcfcaa.PSearchOwn
set_option linter.unusedVariables false
set_option linter.unusedSimpArgs false
theorem place_calls (v : Nat) (h1 : 1 ≤ v) (h2 : v ≤ 128) (W : World) :
    Calls Try.prog 71 #[.int .i64 (v : Int)] W fun e w' => e = .returned (.tuple #[.int .i64 (((v - 1) / 64 : Nat) : Int), .int .u64 ((2 ^ ((v - 1) % 64) : Nat) : Int), .bool true]) ∧ Drawn0 W w' := by
  refine (vars_place.calls (v : Int) _ _ true W ?_)
  unfold vars_place.f
  rw [if_neg (by omega), if_neg (by omega)]
  have e1 : wrap64 ((v : Int) - 1) = ((v - 1 : Nat) : Int) := by unfold wrap64; omega
  rw [e1]
  have e2 : Int.tmod (((v - 1 : Nat) : Int)) 64 = (((v - 1) % 64 : Nat) : Int) := by rw [Int.tmod_eq_emod_of_nonneg (by omega)]; omega
  have e3 : Int.tdiv (((v - 1 : Nat) : Int)) 64 = (((v - 1) / 64 : Nat) : Int) := by rw [Int.tdiv_eq_ediv_of_nonneg (by omega)]; omega
  rw [e2, e3]
  have e4 : IntKind.u64.wrap ((((v - 1) % 64 : Nat) : Int)) = (((v - 1) % 64 : Nat) : Int) := by simp [IntKind.wrap, IntKind.bits, IntKind.signed]; omega
  rw [e4, if_pos (by omega)]
  have e5 : wrap64 ((((v - 1) / 64 : Nat) : Int)) = (((v - 1) / 64 : Nat) : Int) := by unfold wrap64; omega
  rw [e5]
  have e6 : shl .u64 1 ((((v - 1) % 64 : Nat) : Int)) = ((2 ^ ((v - 1) % 64) : Nat) : Int) := by
    have h64 : (v - 1) % 64 < 64 := Nat.mod_lt _ (by decide)
    generalize (v - 1) % 64 = k at h64
    unfold shl
    have : min (k : Int).toNat IntKind.u64.bits = k := by simp [IntKind.bits]; omega
    rw [this]
    have h3 : (2 : Nat) ^ k < 2 ^ 64 := Nat.pow_lt_pow_right (by decide) h64
    have h4 : (1 * 2 ^ k : Int) = ((2 ^ k : Nat) : Int) := by simp
    rw [h4]
    generalize (2 ^ k : Nat) = p at h3
    simp only [IntKind.wrap, IntKind.bits, IntKind.signed]
    simp
    omega
  rw [e6]
/-- A set with one more variable. -/
def withS (s : Nat × Nat) (v : Nat) : Nat × Nat := if v ≤ 64 then (s.1 ||| 2 ^ (v - 1), s.2) else (s.1, s.2 ||| 2 ^ (v - 65))
abbrev setV2 (s : Nat × Nat) : Value := .agg #[.int .u64 (s.1 : Int), .int .u64 (s.2 : Int)]
theorem wraps_u64 (n : Int) (h0 : 0 ≤ n) (h1 : n < 2 ^ 64) : IntKind.u64.wrap n = n := by simp [IntKind.wrap, IntKind.bits, IntKind.signed]; omega
theorem or_u64 (a b : Nat) (ha : a < 2 ^ 64) (hb : b < 2 ^ 64) : bits .or .u64 (a : Int) (b : Int) = ((a ||| b : Nat) : Int) := (bits_nat .u64 64 (by decide) wraps_u64 a b ha hb).2
theorem and_u64 (a b : Nat) (ha : a < 2 ^ 64) (hb : b < 2 ^ 64) : bits .and .u64 (a : Int) (b : Int) = ((a &&& b : Nat) : Int) := (bits_nat .u64 64 (by decide) wraps_u64 a b ha hb).1
theorem size34 : (Try.prog.info? 34).map (·.size) = some 2 := by kernel_rfl
set_option maxHeartbeats 1000000 in
theorem with_calls (s : Nat × Nat) (v : Nat) (h1 : 1 ≤ v) (h2 : v ≤ 128) (W : World) (ha : s.1 < 2 ^ 64) (hb : s.2 < 2 ^ 64) :
    Calls Try.prog 45 #[setV2 s, .int .i64 (v : Int)] W fun e w' => e = .returned (setV2 (withS s v)) ∧ Below W.heap.size W w' := by
  obtain ⟨a, b⟩ := s
  have HP := Aside0.mk (fun W => place_calls v h1 h2 W)
  by_cases h : v ≤ 64
  · have e1 : (v - 1) / 64 = 0 := by omega
    have e2 : (v - 1) % 64 = v - 1 := by omega
    rw [e1, e2] at HP
    have e3 : withS (a, b) v = (a ||| 2 ^ (v - 1), b) := by unfold withS; rw [if_pos h]
    rw [e3]
    have hp : (2 ^ (v - 1) : Nat) < 2 ^ 64 := Nat.pow_lt_pow_right (by decide) (by omega)
    clear e1 e2 e3
    generalize (2 ^ (v - 1) : Nat) = p at hp HP ⊢
    have HO := Aside0.mk (or_u64 a p ha hp)
    clear ha hb hp
    go_enter Try.func45, Try.ntmps45
    go_wp2_with (go_at_call 71; refine (HP.out _).mono ?_; rintro e w' ⟨rfl, ⟨n, rfl⟩⟩)
    rw [HO.out]
    refine bodyPost_ret (results_cell_row rfl _ _ (W.heap.size + 1) 34 #[.int .u64 ((a ||| p : Nat) : Int), .int .u64 (b : Int)] (0, 0) _ rfl ?_ Try.underlying34 rfl size34) rfl ⟨rfl, ?_⟩
    · have h0 : (W.alloc (.cells #[.int .u64 (a : Int), .int .u64 (b : Int)] 34)).heap.size = W.heap.size + 1 := by simp
      have hb1 := blk_new (W.alloc (.cells #[.int .u64 (a : Int), .int .u64 (b : Int)] 34)) (.cells #[.int .u64 0, .int .u64 0] 34)
      rw [h0] at hb1
      exact blk_put (blk_put (blk_far (p := ⟨W.heap.size, 0, none⟩) (blk_drewN hb1 n) (by show _ ≠ W.heap.size; omega) _) 0 _ rfl) 1 _ rfl
    · exact below_set (below_set (below_set (pw_below_drewN (below_alloc (below_alloc (Below.refl _ _) _) _) n) (Nat.le_refl _)) (Nat.le_succ _)) (Nat.le_succ _)
  · have e1 : (v - 1) / 64 = 1 := by omega
    have e2 : (v - 1) % 64 = v - 65 := by omega
    rw [e1, e2] at HP
    have e3 : withS (a, b) v = (a, b ||| 2 ^ (v - 65)) := by unfold withS; rw [if_neg h]
    rw [e3]
    have hp : (2 ^ (v - 65) : Nat) < 2 ^ 64 := Nat.pow_lt_pow_right (by decide) (by omega)
    clear e1 e2 e3
    generalize (2 ^ (v - 65) : Nat) = p at hp HP ⊢
    have HO := Aside0.mk (or_u64 b p hb hp)
    clear ha hb hp
    go_enter Try.func45, Try.ntmps45
    go_wp2_with (go_at_call 71; refine (HP.out _).mono ?_; rintro e w' ⟨rfl, ⟨n, rfl⟩⟩)
    rw [HO.out]
    refine bodyPost_ret (results_cell_row rfl _ _ (W.heap.size + 1) 34 #[.int .u64 (a : Int), .int .u64 ((b ||| p : Nat) : Int)] (0, 0) _ rfl ?_ Try.underlying34 rfl size34) rfl ⟨rfl, ?_⟩
    · have h0 : (W.alloc (.cells #[.int .u64 (a : Int), .int .u64 (b : Int)] 34)).heap.size = W.heap.size + 1 := by simp
      have hb1 := blk_new (W.alloc (.cells #[.int .u64 (a : Int), .int .u64 (b : Int)] 34)) (.cells #[.int .u64 0, .int .u64 0] 34)
      rw [h0] at hb1
      exact blk_put (blk_put (blk_far (p := ⟨W.heap.size, 1, none⟩) (blk_drewN hb1 n) (by show _ ≠ W.heap.size; omega) _) 0 _ rfl) 1 _ rfl
    · exact below_set (below_set (below_set (pw_below_drewN (below_alloc (below_alloc (Below.refl _ _) _) _) n) (Nat.le_refl _)) (Nat.le_succ _)) (Nat.le_succ _)
end Go.Proofs.Ytbnjbjcokkcfcaa.Sol
namespace Go.Proofs.Ytbnjbjcokkcfcaa.Sol
open Go.RowKit Go.Proofs.YtbnjbjcokkcfcaaW.PrintWords Go.Proofs.YtbnjbjcokkcfcaaW.PrintLast Go.Proofs.YtbnjbjcokkcfcaaW.PrintMore Go.Proofs.Ytbnjbjcokkcfcaa.PSearchOwn
set_option linter.unusedVariables false
set_option linter.unusedSimpArgs false
/-- The assumptions are set. -/
def asmF : List Int → List Int → List Int → Bool × List Int × List Int
  | [], vs, ts => (true, vs, ts)
  | l :: r, vs, ts => if setB vs l then asmF r (setV vs l) (setT vs ts l) else (false, vs, ts)
/-- The true variables from i on. -/
def modelFrom (vs : List Int) : Nat → Nat → Nat × Nat → Nat × Nat
  | 0, _, s => s
  | d + 1, i, s => modelFrom vs d (i + 1) (if vat vs i = 1 then withS s i else s)
def solveF (L : List (List Int)) (n K f : Nat) (asm : List Int) : Option (Bool × (Nat × Nat)) :=
  if (asmF asm (List.replicate n 0) []).1 = false then some (false, (0, 0)) else
  (tryF L n K f 1 (asmF asm (List.replicate n 0) []).2.1 (asmF asm (List.replicate n 0) []).2.2).map fun q => if q.1 then (true, modelFrom q.2.1 n 0 (0, 0)) else (false, (0, 0))
def SolvePost (W : World) (r : Bool × (Nat × Nat)) (e : Ending) (w' : World) : Prop :=
  e = .returned (.tuple #[setV2 r.2, .bool r.1]) ∧ Below W.heap.size W w'
theorem three_alloc (w : World) (o1 o2 o3 : Obj) :
    (((w.alloc o1).alloc o2).alloc o3).heap[w.heap.size]? = some o1 ∧ (((w.alloc o1).alloc o2).alloc o3).heap[w.heap.size + 1]? = some o2 ∧ (((w.alloc o1).alloc o2).alloc o3).heap[w.heap.size + 1 + 1]? = some o3 ∧ Below w.heap.size w (((w.alloc o1).alloc o2).alloc o3) := by
  have h1 : (w.alloc o1).heap.size = w.heap.size + 1 := by simp
  have h2 : ((w.alloc o1).alloc o2).heap.size = w.heap.size + 1 + 1 := by simp
  refine ⟨blk_alloc (blk_alloc (blk_new w o1) o2) o3, ?_, ?_, below_alloc (below_alloc (below_alloc (Below.refl _ _) _) _) _⟩
  · have := blk_alloc (blk_new (w.alloc o1) o2) o3
    rwa [h1] at this
  · have := blk_new ((w.alloc o1).alloc o2) o3
    rwa [h2] at this
/-- The state is laid: struct, values, the variable s. -/
structure Begun (wB wc : World) (g gv gS : Nat) (m : Nat) (AL : Option Addr) (nL cL : Nat) : Prop where
  blk : wc.heap[g]? = some (.cells #[.int .i64 (m : Int), .slice AL nL cL, .slice (some ⟨gv, 0, none⟩) (m + 1) (m + 1), .slice none 0 0] 89 (0, 0))
  val : wc.heap[gv]? = some (.cells (madeCells #[.int .i64 0] (m + 1)) 3 (0, 0))
  s : wc.heap[gS]? = some (.cells #[.pointer (some ⟨g, 0, none⟩)] 87 (0, 0))
  below : Below wB.heap.size wB wc
  geg : wB.heap.size ≤ g
  gev : wB.heap.size ≤ gv
  ges : wB.heap.size ≤ gS
theorem Begun.drew {wB wc : World} {g gv gS m : Nat} {AL : Option Addr} {nL cL : Nat} (h : Begun wB wc g gv gS m AL nL cL) : Begun wB wc.drew g gv gS m AL nL cL :=
  ⟨h.blk, h.val, h.s, below_drew h.below, h.geg, h.gev, h.ges⟩
theorem made_eq (n : Nat) : madeCells #[.int .i64 0] n = ((List.replicate n (0 : Int)).map (Value.int .i64)).toArray := by
  apply Array.ext'
  rw [toList_madeCells_one]; simp
/-- What solve holds beside the state. -/
structure Cx (W wx : World) (g gv gS m : Nat) (AL : Option Addr) (nL cL : Nat) (tv : Value) : Prop where
  s : wx.heap[gS]? = some (.cells #[.pointer (some ⟨g, 0, none⟩)] 87 (0, 0))
  t : wx.heap[W.heap.size]? = some (.cells #[.int .i64 (m : Int), .slice AL nL cL] 24 (0, 0))
  r : wx.heap[W.heap.size + 1]? = some (.cells #[.int .u64 0, .int .u64 0] 34 (0, 0))
  as_ : Apart wx g gv tv gS
  at_ : Apart wx g gv tv W.heap.size
  ar_ : Apart wx g gv tv (W.heap.size + 1)
section
variable {W wx wy : World} {g gv gS m : Nat} {AL : Option Addr} {nL cL : Nat} {tv tv' : Value}
theorem Cx.move (h : Cx W wx g gv gS m AL nL cL tv) (hm : Moved wx wy g gv tv tv') : Cx W wy g gv gS m AL nL cL tv' :=
  ⟨hm.blk h.as_ h.s, hm.blk h.at_ h.t, hm.blk h.ar_ h.r, hm.apart h.as_, hm.apart h.at_, hm.apart h.ar_⟩
theorem Moved.of_below (h : Below wx.heap.size wx wy) (g gv : Nat) (tv : Value) : Moved wx wy g gv tv tv := ⟨Kept.of_below h _, .inl rfl⟩
theorem begun_st {wB wc : World} {L : List (List Int)} (h : Begun wB wc g gv gS m AL L.length cL) (hB : Below W.heap.size W wB) (hL : Kd.C (Kd.slice 3 (Kd.int .i64)) W AL L.length L) (hcL : L.length ≤ cL) (hm : m ≤ 128) :
    St W wc g gv (m : Int) AL cL L (List.replicate (m + 1) 0) [] (.slice none 0 0) := by
  have hs := hB.size
  have h1 := h.geg
  have h2 := h.gev
  have h0 := h.blk
  have hv := h.val
  rw [made_eq] at hv
  have hl : (List.replicate (m + 1) (0 : Int)).length = m + 1 := by simp
  exact ⟨by rw [hl]; exact h0, hv, own_nil wc _ _ _, by simp [Value.ownBlock], below_step hB h.below, by omega, by omega, hL, hcL, fun x hx => by rw [List.eq_of_mem_replicate hx]; omega, by rw [hl]; omega⟩
theorem begun_cx {wB wc : World} (h : Begun wB wc g gv gS m AL nL cL) (hs : wB.heap.size = W.heap.size + 1 + 1) (hT : wB.heap[W.heap.size]? = some (.cells #[.int .i64 (m : Int), .slice AL nL cL] 24 (0, 0))) (hR : wB.heap[W.heap.size + 1]? = some (.cells #[.int .u64 0, .int .u64 0] 34 (0, 0))) :
    Cx W wc g gv gS m AL nL cL (.slice none 0 0) := by
  have h1 := h.geg
  have h2 := h.gev
  have h3 := h.ges
  have h4 := h.below.size
  have e1 : gS ≠ g := blk_ne h.s h.blk (by decide)
  have e2 : gS ≠ gv := blk_ne h.s h.val (by decide)
  exact ⟨h.s, blk_below hT h.below, blk_below hR h.below, ⟨blk_lt h.s, e1, e2, by simp [Value.ownBlock]⟩, ⟨by omega, by omega, by omega, by simp [Value.ownBlock]⟩, ⟨by omega, by omega, by omega, by simp [Value.ownBlock]⟩⟩
end
theorem inv_start (m : Nat) (hm : m ≤ 128) : Inv (m + 1) (List.replicate (m + 1) 0) [] :=
  ⟨by simp, by unfold Room; simp; omega, (fun v hv => by cases hv), by simp [vat, List.replicate_succ]⟩
theorem res35 {tmps : Array Value} {w : World} {gR : Nat} {a b : Nat} {ok : Bool} (h4 : tmps.getD 4 undef = .pointer (some ⟨gR, 0, none⟩)) (h5 : tmps.getD 5 undef = .bool ok) (hg : w.heap[gR]? = some (.cells #[.int .u64 (a : Int), .int .u64 (b : Int)] 34 (0, 0))) :
    (results Try.f35 tmps).run Try.prog w = .ok (.tuple #[.agg #[.int .u64 (a : Int), .int .u64 (b : Int)], .bool ok]) w := by
  have h := results_list (P := Try.prog) (fn := Try.f35) (tmps := tmps) (w := w) (rs := [.cell 4 34, .tmp 5]) rfl (by simp) (.cell gR 34 #[.int .u64 (a : Int), .int .u64 (b : Int)] (0, 0) _ h4 hg Try.underlying34 rfl size34 (.tmp .nil))
  rw [h5] at h
  exact h
/-- What the last loop of solve holds. -/
structure Fin (W wx : World) (g gv gS gA : Nat) (gb : Array Value) (vs : List Int) (s : Nat × Nat) : Prop where
  sp : wx.heap[gS]? = some (.cells #[.pointer (some ⟨g, 0, none⟩)] 87 (0, 0))
  b : wx.heap[g]? = some (.cells gb 89 (0, 0))
  v : wx.heap[gv]? = some (.cells (vs.map (Value.int .i64)).toArray 3 (0, 0))
  r : wx.heap[W.heap.size + 1]? = some (.cells #[.int .u64 0, .int .u64 0] 34 (0, 0))
  a : wx.heap[gA]? = some (.cells #[.int .u64 (s.1 : Int), .int .u64 (s.2 : Int)] 34 (0, 0))
  below : Below W.heap.size W wx
  ne : W.heap.size + 1 ≠ gA
  ge : W.heap.size ≤ gA
section
variable {W wx wy : World} {g gv gS gA : Nat} {gb : Array Value} {vs : List Int} {s : Nat × Nat}
theorem Fin.under (h : Fin W wx g gv gS gA gb vs s) (hb : Below wx.heap.size wx wy) : Fin W wy g gv gS gA gb vs s :=
  ⟨blk_below h.sp hb, blk_below h.b hb, blk_below h.v hb, blk_below h.r hb, blk_below h.a hb, below_step h.below hb, h.ne, h.ge⟩
theorem Fin.put (h : Fin W wx g gv gS gA gb vs s) (x y : Nat) : Fin W ((wx.setCell ⟨gA, 0, none⟩ (.int .u64 (x : Int))).setCell ⟨gA, 1, none⟩ (.int .u64 (y : Int))) g gv gS gA gb vs (x, y) := by
  have n1 : gS ≠ gA := blk_ne h.sp h.a (by decide)
  have n2 : g ≠ gA := blk_ne h.b h.a (by decide)
  have n3 : gv ≠ gA := blk_ne h.v h.a (by decide)
  exact ⟨blk_far (blk_far h.sp n1 _) n1 _, blk_far (blk_far h.b n2 _) n2 _, blk_far (blk_far h.v n3 _) n3 _, blk_far (blk_far h.r h.ne _) h.ne _, blk_put (blk_put h.a 0 _ rfl) 1 _ rfl, below_set (below_set h.below h.ge) h.ge, h.ne, h.ge⟩
end
theorem withS_lt (s : Nat × Nat) (v : Nat) (h1 : 1 ≤ v) (h2 : v ≤ 128) (ha : s.1 < 2 ^ 64) (hb : s.2 < 2 ^ 64) : (withS s v).1 < 2 ^ 64 ∧ (withS s v).2 < 2 ^ 64 := by
  unfold withS
  split
  · exact ⟨Nat.or_lt_two_pow ha (Nat.pow_lt_pow_right (by decide) (by omega)), hb⟩
  · exact ⟨ha, Nat.or_lt_two_pow hb (Nat.pow_lt_pow_right (by decide) (by omega))⟩
set_option maxHeartbeats 4000000 in
set_option maxRecDepth 100000 in
theorem solve_calls (K f m : Nat) (W : World) {AL : Option Addr} {cL : Nat} {L : List (List Int)} {A : Option Addr} {c : Nat} {asm : List Int} {r : Bool × (Nat × Nat)} (hL : Kd.C (Kd.slice 3 (Kd.int .i64)) W AL L.length L) (hcL : L.length ≤ cL) (hA : (Kd.int .i64).C W A asm.length asm) (hm : m ≤ 128)
    (hok : AllOk (m + 1) L) (hasm : ∀ l ∈ asm, LitOk (m + 1) l) (hr : solveF L (m + 1) K f asm = some r) :
    Calls Try.prog 35 #[.agg #[.int .i64 (m : Int), .slice AL L.length cL], .slice A asm.length c] W (SolvePost W r) := by
  have hmk := print_make (P := Try.prog) 25 3 .i64 8 Try.underlying25 info3 (by decide) (m + 1) (by omega)
  rw [show ((m + 1 : Nat) : Int) = (m : Int) + 1 by omega] at hmk
  have HL := Aside0.mk hL
  have HcL := Aside0.mk hcL
  have HA := Aside0.mk hA
  have HOk := Aside0.mk hok
  have HAsm := Aside0.mk hasm
  have HR := Aside0.mk hr
  have hAm : asm.length ≤ 9223372036854775807 := Kd.C_max hA
  clear hL hcL hA hok hasm hr
  go_enter Try.func35, Try.ntmps35
  go_wp2_with fail
  obtain ⟨wB, hwB⟩ : ∃ wB, wB = (W.alloc (.cells #[.int .i64 (m : Int), .slice AL L.length cL] 24)).alloc (.cells #[.int .u64 0, .int .u64 0] 34) := ⟨_, rfl⟩
  have hsB : wB.heap.size = W.heap.size + 1 + 1 := by rw [hwB]; simp
  have hbT : wB.heap[W.heap.size]? = some (.cells #[.int .i64 (m : Int), .slice AL L.length cL] 24 (0, 0)) := by rw [hwB]; exact blk_alloc (blk_new W _) _
  have hbR : wB.heap[W.heap.size + 1]? = some (.cells #[.int .u64 0, .int .u64 0] 34 (0, 0)) := by
    rw [hwB]
    have := blk_new (W.alloc (.cells #[.int .i64 (m : Int), .slice AL L.length cL] 24)) (.cells #[.int .u64 0, .int .u64 0] 34)
    rwa [show (W.alloc (.cells #[.int .i64 (m : Int), .slice AL L.length cL] 24)).heap.size = W.heap.size + 1 by simp] at this
  have hbB : Below W.heap.size W wB := by rw [hwB]; exact below_alloc (below_alloc (Below.refl _ _) _) _
  have HWB := Aside0.mk hwB
  have HSB := Aside0.mk hsB
  have HBT := Aside0.mk hbT
  have HBR := Aside0.mk hbR
  have HBB := Aside0.mk hbB
  clear hwB hsB hbT hbR hbB
  go_cut [6] (fun v6 wc => ∃ (g gv gS : Nat), v6 = .pointer (some ⟨gS, 0, none⟩) ∧ Aside0 (Begun wB wc g gv gS m AL L.length cL))
  case first =>
    go_region
    · go_wp2
      go_meet
      case rel =>
        obtain ⟨e1, e2, e3, hb⟩ := three_alloc wB (.cells (madeCells #[.int .i64 0] (m + 1)) 3) (.cells #[.int .i64 (m : Int), .slice AL L.length cL, .slice (some ⟨W.heap.size + 1 + 1, 0, none⟩) (m + 1) (m + 1), .slice none 0 0] 89) (.cells #[.pointer (some ⟨W.heap.size + 1 + 1 + 1, 0, none⟩)] 87)
        rw [HSB.out] at e1 e2 e3
        refine ⟨W.heap.size + 1 + 1 + 1, W.heap.size + 1 + 1, W.heap.size + 1 + 1 + 1 + 1, rfl, ⟨?_⟩⟩
        rw [← HWB.out]
        exact Begun.drew ⟨e2, e1, e3, hb, by rw [HSB.out]; omega, by rw [HSB.out]; omega, by rw [HSB.out]; omega⟩
    · go_wp2
      go_meet
      case rel =>
        obtain ⟨e1, e2, e3, hb⟩ := three_alloc wB (.cells (madeCells #[.int .i64 0] (m + 1)) 3) (.cells #[.pointer (some ⟨W.heap.size + 1 + 1 + 1 + 1, 0, none⟩)] 87) (.cells #[.int .i64 (m : Int), .slice AL L.length cL, .slice (some ⟨W.heap.size + 1 + 1, 0, none⟩) (m + 1) (m + 1), .slice none 0 0] 89)
        rw [HSB.out] at e1 e2 e3
        refine ⟨W.heap.size + 1 + 1 + 1 + 1, W.heap.size + 1 + 1, W.heap.size + 1 + 1 + 1, rfl, ⟨?_⟩⟩
        rw [← HWB.out]
        exact Begun.drew ⟨e3, e1, e2, hb, by rw [HSB.out]; omega, by rw [HSB.out]; omega, by rw [HSB.out]; omega⟩
    · go_wp2
      go_meet
      case rel =>
        obtain ⟨e1, e2, e3, hb⟩ := three_alloc wB (.cells #[.pointer (some ⟨W.heap.size + 1 + 1 + 1 + 1, 0, none⟩)] 87) (.cells (madeCells #[.int .i64 0] (m + 1)) 3) (.cells #[.int .i64 (m : Int), .slice AL L.length cL, .slice (some ⟨W.heap.size + 1 + 1 + 1, 0, none⟩) (m + 1) (m + 1), .slice none 0 0] 89)
        rw [HSB.out] at e1 e2 e3
        refine ⟨W.heap.size + 1 + 1 + 1 + 1, W.heap.size + 1 + 1 + 1, W.heap.size + 1 + 1, rfl, ⟨?_⟩⟩
        rw [← HWB.out]
        exact Begun.drew ⟨e3, e2, e1, hb, by rw [HSB.out]; omega, by rw [HSB.out]; omega, by rw [HSB.out]; omega⟩
  case rest =>
    obtain ⟨g, gv, gS, rfl, HBg⟩ := hcut
    clear hmk HWB
    have HST := Aside0.mk (begun_st HBg.out HBB.out HL.out HcL.out hm)
    have HCX := Aside0.mk (begun_cx HBg.out HSB.out HBT.out HBR.out)
    have HINV := Aside0.mk (inv_start m hm)
    clear HBg HSB HBT HBR HBB HL HcL
    have hr := HR.out
    unfold solveF at hr
    obtain ⟨RA, hRA⟩ : ∃ RA, asmF asm (List.replicate (m + 1) 0) [] = RA := ⟨_, rfl⟩
    rw [hRA] at hr
    have HRA := Aside0.mk hRA
    have HR2 := Aside0.mk hr
    clear hr hRA HR
    go_wp2_with fail
    go_loopg [21] asm.length (fun gk v21 w' => ∃ (i : Nat) (vs ts : List Int) (tv : Value), i + gk = asm.length ∧ v21 = .int .i64 i ∧ Aside0 (St W w' g gv (m : Int) AL cL L vs ts tv) ∧ Aside0 (Cx W w' g gv gS m AL L.length cL tv) ∧ Aside0 (Inv (m + 1) vs ts) ∧ Aside0 (asmF (asm.drop i) vs ts = RA))
    case atStart => exact ⟨0, _, _, _, by omega, rfl, HST, HCX, HINV, ⟨by rw [List.drop_zero]; exact HRA.out⟩⟩
    case round =>
      clear HST HCX HINV HRA
      obtain ⟨i, vs, ts, tv, hig, rfl, HST, HCX, HINV, HRA⟩ := hrel
      cases gk with
      | zero =>
        have hi : ¬ ((i : Int) < (asm.length : Int)) := by omega
        have hra : RA = (true, vs, ts) := by
          have := HRA.out
          rw [List.drop_eq_nil_of_le (by omega)] at this
          rw [← this]; rfl
        subst hra
        clear HRA HA HAsm
        have hr := HR2.out
        rw [if_neg (by simp)] at hr
        obtain ⟨⟨b2, vs2, ts2⟩, ht2, hr2⟩ := Option.map_eq_some_iff.1 hr
        have hF0 : Apart (wr.alloc (.cells #[.func (.func 67) #[] #[.pointer (some ⟨gS, 0, none⟩), .pointer (some ⟨W.heap.size, 0, none⟩), .pointer (some ⟨wr.heap.size, 0, none⟩)]] 86)) g gv tv wr.heap.size := by
          refine ⟨by simp, fun e => ?_, fun e => ?_, fun e => ?_⟩
          · have := blk_lt HST.out.blk; omega
          · have := blk_lt HST.out.val; omega
          · have := own_lt HST.out.tr _ e; omega
        have hcx2 := HCX.out.move (Moved.of_below (below_alloc (Below.refl _ _) (.cells #[.func (.func 67) #[] #[.pointer (some ⟨gS, 0, none⟩), .pointer (some ⟨W.heap.size, 0, none⟩), .pointer (some ⟨wr.heap.size, 0, none⟩)]] 86)) g gv tv)
        have hcall := try_calls (K := K) (gS := gS) (gT := W.heap.size) (gF := wr.heap.size) (n := m + 1) (by omega) (by omega) HOk.out f _ 1 vs ts tv b2 vs2 ts2 (HST.out.alloc (.cells #[.func (.func 67) #[] #[.pointer (some ⟨gS, 0, none⟩), .pointer (some ⟨W.heap.size, 0, none⟩), .pointer (some ⟨wr.heap.size, 0, none⟩)]] 86)) ⟨hcx2.s, hcx2.t, blk_new _ _, hcx2.as_, hcx2.at_, hF0⟩ HINV.out (by omega) (by omega) ht2
        obtain ⟨hinv2, _⟩ := tryF_inv HOk.out K f 1 vs ts _ (by omega) HINV.out ht2
        simp only [] at hinv2
        have HCall := Aside0.mk hcall
        have HCX2 := Aside0.mk hcx2
        have HI2 := Aside0.mk hinv2
        have HRes := Aside0.mk hr2
        clear hr ht2 hr2 hF0 hcx2 hcall hinv2 HR2 HOk
        cases b2 with
        | false =>
          have hre := HRes.out
          simp only [] at hre
          rw [if_neg (by simp)] at hre
          subst hre
          go_wp2_with (go_at_call 67; refine HCall.out.mono ?_; rintro e w2 ⟨tv2, rfl, hst2, hmv2⟩; have HST2 := Aside0.mk hst2; have HCX3 := Aside0.mk (HCX2.out.move hmv2); clear hst2 hmv2; have hr0 := blk_frozen HCX3.out.r 0; have hr1 := blk_frozen HCX3.out.r 1; have hq0 : w2.cell? ⟨W.heap.size + 1, 0, none⟩ = some (.int .u64 0) := (blk_cell HCX3.out.r 0).trans rfl; have hq1 : w2.cell? ⟨W.heap.size + 1, 1, none⟩ = some (.int .u64 0) := (blk_cell HCX3.out.r 1).trans rfl)
          refine bodyPost_ret (res35 (a := 0) (b := 0) rfl rfl (blk_put (blk_put HCX3.out.r 0 _ rfl) 1 _ rfl)) rfl ⟨rfl, ?_⟩
          exact below_set (below_set HST2.out.below (Nat.le_succ _)) (Nat.le_succ _)
        | true =>
          have hre := HRes.out
          simp only [if_true] at hre
          subst hre
          go_wp2_with (go_at_call 67; refine HCall.out.mono ?_; rintro e w2 ⟨tv2, rfl, hst2, hmv2⟩; have HST2 := Aside0.mk hst2; have HCX3 := Aside0.mk (HCX2.out.move hmv2); clear hst2 hmv2; have hcs : (w2.alloc (.cells #[.int .u64 0, .int .u64 0] 34)).cell? ⟨gS, 0, none⟩ = some (.pointer (some ⟨g, 0, none⟩)) := (blk_cell (blk_alloc HCX3.out.s _) 0).trans rfl; have hc2 : (w2.alloc (.cells #[.int .u64 0, .int .u64 0] 34)).cell? ⟨g, 2, none⟩ = some (.slice (some ⟨gv, 0, none⟩) vs2.length vs2.length) := (blk_cell (blk_alloc HST2.out.blk _) 2).trans rfl)
          clear hcs hc2
          have hgA0 : Fin W (w2.alloc (.cells #[.int .u64 0, .int .u64 0] 34)) g gv gS w2.heap.size #[.int .i64 (m : Int), .slice AL L.length cL, .slice (some ⟨gv, 0, none⟩) vs2.length vs2.length, tv2] vs2 (0, 0) :=
            ⟨blk_alloc HCX3.out.s _, blk_alloc HST2.out.blk _, blk_alloc HST2.out.val _, blk_alloc HCX3.out.r _, blk_new _ _, below_alloc HST2.out.below _, by have := HCX3.out.ar_.1; omega, by have := HCX3.out.ar_.1; omega⟩
          have HF := Aside0.mk hgA0
          clear hgA0 HCall
          generalize hgA : w2.heap.size = gA at HF ⊢
          generalize hwA : w2.alloc (.cells #[.int .u64 0, .int .u64 0] 34) = wA at HF ⊢
          have hsm := Aside0.mk HST2.out.small
          have hv1 := HI2.out.len
          have HV1 := Aside0.mk hv1
          have hv2 : vs2.length ≤ 129 := by omega
          clear hgA hwA HST2 HCX3 HCX2 HST HCX HINV hv1
          go_loopg [41] vs2.length (fun gk v41 w' => ∃ (i : Nat) (s : Nat × Nat), i + gk = vs2.length ∧ v41 = .int .i64 i ∧ Aside0 (Fin W w' g gv gS gA #[.int .i64 (m : Int), .slice AL L.length cL, .slice (some ⟨gv, 0, none⟩) vs2.length vs2.length, tv2] vs2 s) ∧ Aside0 (s.1 < 2 ^ 64 ∧ s.2 < 2 ^ 64) ∧ Aside0 (modelFrom vs2 gk i s = modelFrom vs2 (m + 1) 0 (0, 0)))
          case atStart => exact ⟨0, (0, 0), by omega, rfl, HF, ⟨by decide⟩, ⟨by rw [HV1.out]⟩⟩
          case round =>
            clear HF
            obtain ⟨i, s, hig2, rfl, HF, HB64, HM⟩ := hrel
            cases gk with
            | zero =>
              have hi2 : ¬ ((i : Int) < (vs2.length : Int)) := by omega
              have hms : s = modelFrom vs2 (m + 1) 0 (0, 0) := HM.out
              have HMS := Aside0.mk hms
              clear hms HM HRes
              have ha0 : wr.cell? ⟨gA, 0, none⟩ = some (.int .u64 (s.1 : Int)) := (blk_cell HF.out.a 0).trans rfl
              have ha1 : wr.cell? ⟨gA, 1, none⟩ = some (.int .u64 (s.2 : Int)) := (blk_cell HF.out.a 1).trans rfl
              have hq0 : wr.cell? ⟨W.heap.size + 1, 0, none⟩ = some (.int .u64 0) := (blk_cell HF.out.r 0).trans rfl
              have hq1 : wr.cell? ⟨W.heap.size + 1, 1, none⟩ = some (.int .u64 0) := (blk_cell HF.out.r 1).trans rfl
              have hr0 := blk_frozen HF.out.r 0
              have hr1 := blk_frozen HF.out.r 1
              go_wp2_with fail
              rw [← HMS.out]
              refine bodyPost_ret (res35 (a := s.1) (b := s.2) rfl rfl (blk_put (blk_put HF.out.r 0 _ rfl) 1 _ rfl)) rfl ⟨rfl, ?_⟩
              exact below_set (below_set HF.out.below (Nat.le_succ _)) (Nat.le_succ _)
            | succ gk =>
              have hi2 : (i : Int) < (vs2.length : Int) := by omega
              have hcs : wr.cell? ⟨gS, 0, none⟩ = some (.pointer (some ⟨g, 0, none⟩)) := (blk_cell HF.out.sp 0).trans rfl
              have hc2 : wr.cell? ⟨g, 2, none⟩ = some (.slice (some ⟨gv, 0, none⟩) vs2.length vs2.length) := (blk_cell HF.out.b 2).trans rfl
              have hcv : wr.cell? ⟨gv, i, none⟩ = some (.int .i64 (vat vs2 i)) := by
                rw [blk_cell HF.out.v]
                unfold vat
                simp [List.getD_eq_getElem?_getD, List.getElem?_eq_getElem (show i < vs2.length by omega)]
              have hmm := HM.out
              simp only [modelFrom] at hmm
              by_cases h1 : vat vs2 i = 1
              · have hi0 : i ≠ 0 := by
                  rintro rfl
                  have := HI2.out.zero
                  simp only [Int.ofNat_zero, Int.natCast_zero] at h1
                  omega
                rw [if_pos h1] at hmm
                rw [h1] at hcv
                have HM2 := Aside0.mk hmm
                have HW := Aside0.mk (fun w => with_calls s i (by omega) (by omega) w HB64.out.1 HB64.out.2)
                have HB2 := Aside0.mk (withS_lt s i (by omega) (by omega) HB64.out.1 HB64.out.2)
                clear h1 hmm HM hi0 HRes
                obtain ⟨s1, s2⟩ := s
                generalize withS (s1, s2) i = sn at HW HM2 HB2
                have ha0 : wr.cell? ⟨gA, 0, none⟩ = some (.int .u64 (s1 : Int)) := (blk_cell HF.out.a 0).trans rfl
                have ha1 : wr.cell? ⟨gA, 1, none⟩ = some (.int .u64 (s2 : Int)) := (blk_cell HF.out.a 1).trans rfl
                go_wp2_with (go_at_call 45; refine (HW.out _).mono ?_; rintro e w3 ⟨rfl, hb3⟩; have HF3 := Aside0.mk (HF.out.under hb3); clear hb3; have hk0 : w3.cell? ⟨gA, 0, none⟩ = some (.int .u64 (s1 : Int)) := (blk_cell HF3.out.a 0).trans rfl; have hk1 : w3.cell? ⟨gA, 1, none⟩ = some (.int .u64 (s2 : Int)) := (blk_cell HF3.out.a 1).trans rfl; have hf0 := blk_frozen HF3.out.a 0; have hf1 := blk_frozen HF3.out.a 1)
                go_roundg gk
                case measure => omega
                case rel => exact ⟨i + 1, sn, by omega, by go_num, ⟨HF3.out.put sn.1 sn.2⟩, HB2, HM2⟩
              · rw [if_neg h1] at hmm
                have hb1 : (vat vs2 i == 1) = false := by simpa using h1
                have HM2 := Aside0.mk hmm
                clear h1 hmm HM HRes
                generalize vat vs2 i = y at hcv hb1
                go_wp2_with fail
                go_roundg gk
                case measure => omega
                case rel => exact ⟨i + 1, s, by omega, by go_num, HF, HB64, HM2⟩
      | succ gk =>
        have hi : (i : Int) < (asm.length : Int) := by omega
        obtain ⟨ad, hA2, hx⟩ := rd_int HA.out i (by omega)
        subst hA2
        replace hx := (HST.out.below.cell (World.block_lt_of_cell? W _ hx)).trans hx
        obtain ⟨l, hl⟩ : ∃ l, asm.getD i 0 = l := ⟨_, rfl⟩
        rw [hl] at hx
        have hge : asm[i]? = some l := by
          rw [← hl]; simp [List.getD_eq_getElem?_getD, List.getElem?_eq_getElem (show i < asm.length by omega)]
        have hdrop : asm.drop i = l :: asm.drop (i + 1) := by
          rw [List.drop_eq_getElem_cons (by omega)]
          congr 1
          rw [List.getElem?_eq_getElem (by omega)] at hge
          exact Option.some.inj hge
        have hlit := HAsm.out l (List.mem_of_getElem? hge)
        have hra := HRA.out
        rw [hdrop] at hra
        simp only [asmF] at hra
        have hset := set_calls HST.out l (by rw [HINV.out.len]; exact hlit) (by rw [HINV.out.len]; omega) HINV.out.room
        have hcs : wr.cell? ⟨gS, 0, none⟩ = some (.pointer (some ⟨g, 0, none⟩)) := (blk_cell HCX.out.s 0).trans rfl
        have HS := Aside0.mk hset
        have HI2 := Aside0.mk (HINV.out.set hlit)
        clear hset hdrop hge hl HRA hlit
        cases hb : setB vs l with
        | true =>
          rw [hb] at HS
          rw [hb, if_pos rfl] at hra
          have HRA2 := Aside0.mk hra
          clear hra hb
          generalize setV vs l = vs2 at HS HI2 HRA2
          generalize setT vs ts l = ts2 at HS HI2 HRA2
          go_wp2_with (go_at_call 66; refine HS.out.mono ?_; rintro e w2 ⟨tv2, rfl, hst2, hmv2⟩; have HST2 := Aside0.mk hst2; have HCX2 := Aside0.mk (HCX.out.move hmv2); clear hst2 hmv2)
          go_roundg gk
          case measure => omega
          case rel => exact ⟨i + 1, vs2, ts2, tv2, by omega, by go_num, HST2, HCX2, HI2, HRA2⟩
        | false =>
          rw [hb] at HS
          rw [hb, if_neg (by simp)] at hra
          have hr := HR2.out
          rw [← hra] at hr
          simp only [if_true, Option.some.injEq] at hr
          subst hr
          clear hra hb HR2 HI2
          generalize setV vs l = vs2 at HS
          generalize setT vs ts l = ts2 at HS
          go_wp2_with (go_at_call 66; refine HS.out.mono ?_; rintro e w2 ⟨tv2, rfl, hst2, hmv2⟩; have HST2 := Aside0.mk hst2; have HCX2 := Aside0.mk (HCX.out.move hmv2); clear hst2 hmv2; have hr0 := blk_frozen HCX2.out.r 0; have hr1 := blk_frozen HCX2.out.r 1; have hq0 : w2.cell? ⟨W.heap.size + 1, 0, none⟩ = some (.int .u64 0) := (blk_cell HCX2.out.r 0).trans rfl; have hq1 : w2.cell? ⟨W.heap.size + 1, 1, none⟩ = some (.int .u64 0) := (blk_cell HCX2.out.r 1).trans rfl)
          refine bodyPost_ret (res35 (a := 0) (b := 0) rfl rfl (blk_put (blk_put HCX2.out.r 0 _ rfl) 1 _ rfl)) rfl ⟨rfl, ?_⟩
          exact below_set (below_set HST2.out.below (Nat.le_succ _)) (Nat.le_succ _)
end Go.Proofs.Ytbnjbjcokkcfcaa.Sol
namespace Go.Proofs.Ytbnjbjcokkcfcaa.Sol
open Go.RowKit
set_option linter.unusedVariables false
set_option linter.unusedSimpArgs false
theorem scan_open {vs : List Int} : ∀ (c : List Int) (o r : Int), (o = 0 ∨ tru vs o = 0) → scan vs c o = some r → r = 0 ∨ tru vs r = 0
  | [], o, r, ho, h => by simp [scan] at h; subst h; exact ho
  | l :: c, o, r, ho, h => by
    simp only [scan] at h
    split at h
    · cases h
    · split at h
      · rename_i h0
        split at h
        · cases h
        · exact scan_open c l r (.inr h0) h
      · exact scan_open c o r ho h
theorem count_setV {vs : List Int} {n : Nat} (hn : vs.length = n) {l : Int} (hl : LitOk n l) (ht : tru vs l = 0) : (setV vs l).count 0 + 1 = vs.count 0 := by
  obtain ⟨h0, h1, h2⟩ := hl
  unfold setV
  rw [if_pos ht]
  by_cases hp : l > 0
  · rw [if_pos hp]
    have hi : l.toNat < vs.length := by omega
    have hz : vs[l.toNat] = 0 := by
      unfold tru at ht
      rw [if_neg (by omega)] at ht
      have := vat_get hi
      rwa [Int.toNat_of_nonneg (by omega), ht, eq_comm] at this
    exact count_set hi hz 1 (by omega)
  · rw [if_neg hp]
    have hi : (-l).toNat < vs.length := by omega
    have hz : vs[(-l).toNat] = 0 := by
      unfold tru at ht
      rw [if_pos (by omega)] at ht
      have := vat_get hi
      rw [Int.toNat_of_nonneg (by omega)] at this
      omega
    exact count_set hi hz (-1) (by omega)
theorem pass_count {n : Nat} : ∀ (L : List (List Int)) (vs ts : List Int) (ch : Bool), AllOk n L → vs.length = n →
    (pass L vs ts ch).2.1.count 0 ≤ vs.count 0 ∧ (ch = false → (pass L vs ts ch).2.2.2 = true → (pass L vs ts ch).2.1.count 0 < vs.count 0)
  | [], vs, ts, ch, _, hn => by simp [pass]
  | c :: L, vs, ts, ch, hL, hn => by
    have hL' : AllOk n L := fun x hx => hL x (List.mem_cons_of_mem _ hx)
    simp only [pass]
    cases hs : scan vs c 0 with
    | none => exact pass_count L vs ts ch hL' hn
    | some o =>
      simp only []
      by_cases ho : o = 0
      · rw [if_pos ho]
        exact ⟨Nat.le_refl _, fun h1 h2 => by rw [h1] at h2; cases h2⟩
      · rw [if_neg ho]
        have hlit := (scan_lit c 0 o (hL c List.mem_cons_self) (.inl rfl) hs).resolve_left ho
        have hopen := (scan_open c 0 o (.inl rfl) hs).resolve_left ho
        have hc := count_setV hn hlit hopen
        obtain ⟨h1, _⟩ := pass_count L (setV vs o) (setT vs ts o) true hL' (by rw [setV_length]; exact hn)
        exact ⟨by omega, fun _ _ => by omega⟩
theorem prop_some {n : Nat} {L : List (List Int)} (hL : AllOk n L) : ∀ (K : Nat) (vs ts : List Int), Inv n vs ts → vs.count 0 < K → ∃ r, prop L K vs ts = some r
  | 0, vs, ts, _, h => by omega
  | K + 1, vs, ts, hi, h => by
    have hp := pass_inv L vs ts false hL hi
    have hc := pass_count L vs ts false hL hi.len
    simp only [prop]
    rcases hR : pass L vs ts false with ⟨b1, v1, t1, c1⟩
    rw [hR] at hp hc
    cases b1 with
    | false => exact ⟨_, rfl⟩
    | true =>
      cases c1 with
      | false => exact ⟨_, rfl⟩
      | true => exact prop_some hL K v1 t1 hp.1 (by have := hc.2 rfl rfl; simp only [] at this; omega)
theorem tryF_some {n K : Nat} {L : List (List Int)} (hL : AllOk n L) (hK : n < K) : ∀ (f v : Nat) (vs ts : List Int), 1 ≤ v → v ≤ n → n < f + v → Inv n vs ts → ∃ r, tryF L n K f v vs ts = some r
  | 0, v, vs, ts, _, _, h, _ => by omega
  | f + 1, v, vs, ts, hv, hvn, hf, hi => by
    obtain ⟨r1, hr1⟩ := prop_some hL K vs ts hi (by have := List.count_le_length (a := (0 : Int)) (l := vs); have := hi.len; omega)
    obtain ⟨hi1, hl1⟩ := prop_inv hL K vs ts r1 hi hr1
    simp only [tryF, hr1, Option.bind_some]
    by_cases h1 : r1.1 = false
    · rw [if_pos h1]; exact ⟨_, rfl⟩
    rw [if_neg h1]
    by_cases hn : n ≤ next r1.2.1 (n - v) v
    · rw [if_pos hn]; exact ⟨_, rfl⟩
    rw [if_neg hn]
    have hle := le_next r1.2.1 (n - v) v
    generalize next r1.2.1 (n - v) v = x at hn hle
    have hx1 : LitOk n (-(x : Int)) := ⟨by omega, by omega, by omega⟩
    have hx2 : LitOk n (x : Int) := ⟨by omega, by omega, by omega⟩
    obtain ⟨r2, hr2⟩ := tryF_some hL hK f (x + 1) _ _ (by omega) (by omega) (by omega) (hi1.set hx1)
    obtain ⟨hi2, _⟩ := tryF_inv hL K f (x + 1) _ _ r2 (by omega) (hi1.set hx1) hr2
    rw [hr2]
    simp only [Option.bind_some]
    by_cases h2 : r2.1 = true
    · rw [if_pos h2]; exact ⟨_, rfl⟩
    rw [if_neg h2]
    obtain ⟨r3, hr3⟩ := tryF_some hL hK f (x + 1) _ _ (by omega) (by omega) (by omega) ((hi2.undo r1.2.2.length).set hx2)
    rw [hr3]
    simp only [Option.bind_some]
    split
    · exact ⟨_, rfl⟩
    · exact ⟨_, rfl⟩
theorem asmF_inv {n : Nat} : ∀ (asm vs ts : List Int), (∀ l ∈ asm, LitOk n l) → Inv n vs ts → Inv n (asmF asm vs ts).2.1 (asmF asm vs ts).2.2
  | [], vs, ts, _, h => h
  | l :: r, vs, ts, hl, h => by
    simp only [asmF]
    split
    · exact asmF_inv r _ _ (fun x hx => hl x (List.mem_cons_of_mem _ hx)) (h.set (hl l List.mem_cons_self))
    · exact h
/-- What solve answers. -/
def satF (L : List (List Int)) (m : Nat) (asm : List Int) : Bool × (Nat × Nat) := (solveF L (m + 1) (m + 2) (m + 2) asm).getD (false, (0, 0))
theorem solveF_some {m : Nat} {L : List (List Int)} (hm : m ≤ 128) (hL : AllOk (m + 1) L) {asm : List Int} (ha : ∀ l ∈ asm, LitOk (m + 1) l) : solveF L (m + 1) (m + 2) (m + 2) asm = some (satF L m asm) := by
  have key : ∃ r, solveF L (m + 1) (m + 2) (m + 2) asm = some r := by
    unfold solveF
    split
    · exact ⟨_, rfl⟩
    · obtain ⟨r, hr⟩ := tryF_some hL (Nat.lt_succ_self _) (m + 2) 1 _ _ (by omega) (by omega) (by omega) (asmF_inv asm _ _ ha (inv_start m hm))
      rw [hr]
      exact ⟨_, rfl⟩
  obtain ⟨r, hr⟩ := key
  unfold satF
  rw [hr]; rfl
end Go.Proofs.Ytbnjbjcokkcfcaa.Sol
namespace Go.Proofs.Ytbnjbjcokkcfcaa.Sol
open Go.RowKit Go.Proofs.YtbnjbjcokkcfcaaW.PrintWords Go.Proofs.Ytbnjbjcokkcfcaa.PSearchOwn
set_option linter.unusedVariables false
def varOf (a : Int) : Int := if 1 ≤ a ∧ a ≤ 128 then a else if -128 ≤ a ∧ a ≤ -1 then -a else 0
def validB (a n : Int) : Bool := decide (varOf a ≠ 0 ∧ varOf a ≤ n)
theorem wrap_id {i : Int} (h0 : -9223372036854775808 ≤ i) (h1 : i ≤ 9223372036854775807) : wrap64 i = i := by unfold wrap64; omega
theorem ev_var (a : Int) : Ev (fun k => lit_Var.f k a) (varOf a) := by
  refine Ev.of (fun k => lit_Var.mono a k) (k := 1) ?_
  unfold lit_Var.f varOf
  by_cases h : a ≥ 1
  · rw [if_pos h]
    simp only [lit_Var.j0]
    by_cases h2 : a ≤ 128
    · rw [if_pos (by simpa using h2), if_pos ⟨h, h2⟩]
    · rw [if_neg (by simpa using h2), if_neg (by omega), if_neg (by omega), if_neg (by omega)]
  · rw [if_neg h]
    simp only [lit_Var.j0]
    rw [if_neg (by simp)]
    by_cases h1 : a ≤ -1
    · rw [if_pos h1]
      by_cases h2 : a ≥ -128
      · rw [if_pos h2, if_neg (by omega), if_pos ⟨h2, h1⟩, wrap_id (by omega) (by omega)]
      · rw [if_neg h2, if_neg (by omega), if_neg (by omega)]
    · rw [if_neg h1, if_neg (by omega), if_neg (by omega)]
theorem ev_valid (a n : Int) : Ev (fun k => lit_Valid.f k a n) (validB a n) := by
  unfold lit_Valid.f
  refine Ev.bind (f := fun k t => if t = 0 then some false else (lit_Var.f k a).bind fun t2 => some (decide (t2 ≤ n))) (ev_var a) ?_
  by_cases h : varOf a = 0
  · have e : validB a n = false := by unfold validB; simp [h]
    rw [e]
    simp only [if_pos h]; exact Ev.now _
  · have e : validB a n = decide (varOf a ≤ n) := by unfold validB; simp [h]
    rw [e]
    simp only [if_neg h]
    exact Ev.bind (f := fun _ t2 => some (decide (t2 ≤ n))) (ev_var a) (Ev.now _)
/-- The first error of clauses. -/
def clausesF (n : Int) : List (List Int) → Int
  | [] => 0
  | c :: r => if c.length > 128 then 2 else if c.all (fun l => validB l n) then clausesF n r else 1
def checkF (n : Int) (L : List (List Int)) : Int := if n < 0 ∨ n > 128 then 6 else if L.length > 4096 then 2 else clausesF n L
theorem rd_at {c : List Int} {j : Nat} (hj : j < c.length) : rd c (j : Int) = c[j] := by simp [rd, List.getD_eq_getElem?_getD, hj]
theorem rdL_at {L : List (List Int)} {i : Nat} (hi : i < L.length) : rd_L1 L (i : Int) = L[i] := by simp [rd_L1, List.getD_eq_getElem?_getD, hi]
theorem ev_check_l1 (L : List (List Int)) (i : Nat) (c : List Int) (hc : c.length ≤ 128) (n : Int) (r : Int) (hr : Ev (fun k => theory_Check.l0 k L (L.length : Int) (wrap64 ((i : Int) + 1)) n L) r) (d : Nat) :
    ∀ j : Nat, j + d = c.length → Ev (fun k => theory_Check.l1 k L (L.length : Int) i c (c.length : Int) j n L) (if (c.drop j).all (fun l => validB l n) then r else 1) := by
  induction d with
  | zero =>
    intro j hj
    rw [List.drop_eq_nil_of_le (by omega)]
    refine Ev.step (f := fun k => theory_Check.l0 k L (L.length : Int) (wrap64 ((i : Int) + 1)) n L) (fun k => ?_) hr
    simp only [theory_Check.l1]
    rw [if_neg (by omega)]
  | succ d ih =>
    intro j hj
    have hlt : j < c.length := by omega
    have hd : c.drop j = c[j] :: c.drop (j + 1) := List.drop_eq_getElem_cons hlt
    refine Ev.step (f := fun k => (lit_Valid.f k (rd c j) n).bind fun t => if t = true then theory_Check.l1 k L (L.length : Int) i c (c.length : Int) (wrap64 ((j : Int) + 1)) n L else some 1) (fun k => ?_) ?_
    · simp only [theory_Check.l1]
      rw [if_pos (by omega), if_pos (by omega), if_pos (by omega)]
    · refine Ev.bind (f := fun k t => if t = true then theory_Check.l1 k L (L.length : Int) i c (c.length : Int) (wrap64 ((j : Int) + 1)) n L else some 1) (ev_valid _ _) ?_
      rw [hd, List.all_cons, rd_at hlt, wrap_id (by omega) (by omega)]
      cases hv : validB c[j] n with
      | true =>
        simp only [if_true, Bool.true_and]
        exact ih (j + 1) (by omega)
      | false =>
        simp only [Bool.false_and, Bool.false_eq_true, if_false]
        exact Ev.now _
theorem ev_check_l0 (L : List (List Int)) (hL : L.length ≤ 9223372036854775807) (n : Int) (d : Nat) :
    ∀ i : Nat, i + d = L.length → Ev (fun k => theory_Check.l0 k L (L.length : Int) i n L) (clausesF n (L.drop i)) := by
  induction d with
  | zero =>
    intro i hi
    rw [List.drop_eq_nil_of_le (by omega)]
    refine Ev.step (f := fun _ => some 0) (fun k => ?_) (Ev.now _)
    simp only [theory_Check.l0]
    rw [if_neg (by omega)]
  | succ d ih =>
    intro i hi
    have hlt : i < L.length := by omega
    have hd : L.drop i = L[i] :: L.drop (i + 1) := List.drop_eq_getElem_cons hlt
    have ih' := ih (i + 1) (by omega)
    rw [hd]
    simp only [clausesF]
    refine Ev.step (f := fun k => if (L[i].length : Int) > 128 then some 2 else theory_Check.l1 k L (L.length : Int) i L[i] (L[i].length : Int) 0 n L) (fun k => ?_) ?_
    · simp only [theory_Check.l0]
      rw [if_pos (by omega), if_pos (by omega), if_pos (by omega), rdL_at hlt]
    · by_cases h : L[i].length > 128
      · simp only [if_pos (show (L[i].length : Int) > 128 by omega), if_pos h]; exact Ev.now _
      · simp only [if_neg (show ¬ (L[i].length : Int) > 128 by omega), if_neg h]
        have := ev_check_l1 L i L[i] (by omega) n (clausesF n (L.drop (i + 1))) (by rw [wrap_id (by omega) (by omega)]; exact ih') L[i].length 0 (by omega)
        rw [List.drop_zero] at this
        exact this
theorem ev_check (n : Int) (L : List (List Int)) (hL : L.length ≤ 9223372036854775807) : Ev (fun k => theory_Check.f k n L) (checkF n L) := by
  have key : ∀ b : Bool, Ev (fun k => theory_Check.j0 k b n L) (if b then 6 else if L.length > 4096 then 2 else clausesF n L) := by
    intro b
    refine Ev.step (f := fun k => if b = true then some 6 else if (L.length : Int) > 4096 then some 2 else theory_Check.l0 k L (L.length : Int) 0 n L) (fun k => ?_) ?_
    · simp only [theory_Check.j0]
    · cases b with
      | true => simp only [if_true]; exact Ev.now _
      | false =>
        simp only [Bool.false_eq_true, if_false]
        by_cases h : L.length > 4096
        · simp only [if_pos (show (L.length : Int) > 4096 by omega), if_pos h]; exact Ev.now _
        · simp only [if_neg (show ¬ (L.length : Int) > 4096 by omega), if_neg h]
          have := ev_check_l0 L hL n L.length 0 (by omega)
          rw [List.drop_zero] at this
          exact this
  unfold theory_Check.f checkF
  by_cases h : n < 0
  · simp only [if_pos h, if_pos (show n < 0 ∨ n > 128 from .inl h)]
    exact key true
  · simp only [if_neg h]
    by_cases h2 : n > 128
    · simp only [if_pos (show n < 0 ∨ n > 128 from .inr h2)]
      have := key (decide (n > 128))
      rw [decide_eq_true h2] at this ⊢
      exact this
    · simp only [if_neg (show ¬ (n < 0 ∨ n > 128) by omega)]
      have := key (decide (n > 128))
      rw [decide_eq_false h2] at this ⊢
      exact this
end Go.Proofs.Ytbnjbjcokkcfcaa.Sol
namespace Go.Proofs.Ytbnjbjcokkcfcaa.Sol
set_option linter.unusedVariables false
set_option linter.unusedSimpArgs false
def SOk (s : Nat × Nat) : Prop := s.1 < 2 ^ 64 ∧ s.2 < 2 ^ 64
def memS (s : Nat × Nat) (v : Nat) : Bool := if v ≤ 64 then s.1.testBit (v - 1) else s.2.testBit (v - 65)
def allS (n : Nat) : Nat × Nat := (List.range n).foldl (fun s i => withS s (i + 1)) (0, 0)
theorem SOk.zero : SOk (0, 0) := ⟨by decide, by decide⟩
theorem pow_lt64 {k : Nat} (h : k < 64) : 2 ^ k < 2 ^ 64 := Nat.pow_lt_pow_right (by decide) h
theorem SOk.with {s : Nat × Nat} (h : SOk s) {v : Nat} (h1 : 1 ≤ v) (h2 : v ≤ 128) : SOk (withS s v) := by
  unfold withS
  by_cases hv : v ≤ 64
  · rw [if_pos hv]; exact ⟨Nat.or_lt_two_pow h.1 (pow_lt64 (by omega)), h.2⟩
  · rw [if_neg hv]; exact ⟨h.1, Nat.or_lt_two_pow h.2 (pow_lt64 (by omega))⟩
theorem mem_zero (v : Nat) : memS (0, 0) v = false := by unfold memS; split <;> exact Nat.zero_testBit _
theorem mem_with (s : Nat × Nat) {v u : Nat} (h1 : 1 ≤ v) (h3 : 1 ≤ u) : memS (withS s v) u = (memS s u || decide (u = v)) := by
  unfold withS memS
  by_cases hv : v ≤ 64
  · rw [if_pos hv]
    by_cases hu : u ≤ 64
    · rw [if_pos hu, if_pos hu]
      simp only [Nat.testBit_or, Nat.testBit_two_pow]
      exact congrArg (fun b => s.1.testBit (u - 1) || b) (decide_eq_decide.2 (by omega))
    · rw [if_neg hu, if_neg hu, decide_eq_false (by omega), Bool.or_false]
  · rw [if_neg hv]
    by_cases hu : u ≤ 64
    · rw [if_pos hu, if_pos hu, decide_eq_false (by omega), Bool.or_false]
    · rw [if_neg hu, if_neg hu]
      simp only [Nat.testBit_or, Nat.testBit_two_pow]
      exact congrArg (fun b => s.2.testBit (u - 65) || b) (decide_eq_decide.2 (by omega))
theorem and_ne {a b : Nat} (ha : a < 2 ^ 64) : a &&& b ≠ 0 ↔ ∃ i, i < 64 ∧ a.testBit i = true ∧ b.testBit i = true := by
  constructor
  · intro h
    obtain ⟨i, hi⟩ := Nat.exists_testBit_of_ne_zero h
    rw [Nat.testBit_and, Bool.and_eq_true] at hi
    refine ⟨i, ?_, hi⟩
    refine Nat.lt_of_not_le fun h64 => ?_
    have hp : 2 ^ 64 ≤ 2 ^ i := Nat.pow_le_pow_right (by decide) h64
    rw [Nat.testBit_lt_two_pow (Nat.lt_of_lt_of_le ha hp)] at hi
    cases hi.1
  · rintro ⟨i, _, h1, h2⟩ h0
    have : (a &&& b).testBit i = true := by rw [Nat.testBit_and, h1, h2]; rfl
    rw [h0, Nat.zero_testBit] at this
    cases this
theorem allS_succ (n : Nat) : allS (n + 1) = withS (allS n) (n + 1) := by unfold allS; rw [List.range_succ, List.foldl_append]; rfl
theorem SOk.all (n : Nat) (h : n ≤ 128) : SOk (allS n) := by
  induction n with
  | zero => exact SOk.zero
  | succ n ih => rw [allS_succ]; exact (ih (by omega)).with (by omega) (by omega)
theorem mem_all (n u : Nat) (hu : 1 ≤ u) : memS (allS n) u = decide (u ≤ n) := by
  induction n with
  | zero => rw [show allS 0 = (0, 0) from rfl, mem_zero, decide_eq_false (by omega)]
  | succ n ih =>
    rw [allS_succ, mem_with _ (by omega) hu, ih]
    by_cases h : u ≤ n
    · rw [decide_eq_true h, decide_eq_true (show u ≤ n + 1 by omega)]; rfl
    · rw [decide_eq_false h, Bool.false_or]
      exact decide_eq_decide.2 (by omega)
/-- Literals. -/
def Lits (l : List Int) : Prop := ∀ x ∈ l, varOf x ≠ 0
theorem varOf_le (x : Int) : varOf x ≤ 128 ∧ 0 ≤ varOf x := by unfold varOf; split <;> (try split) <;> omega
end Go.Proofs.Ytbnjbjcokkcfcaa.Sol
namespace Go.Proofs.Ytbnjbjcokkcfcaa.Sol
open Go.RowKit
set_option linter.unusedVariables false
set_option linter.unusedSimpArgs false
/-- A literal in an assignment. -/
def sat1 (σ : Nat → Bool) (l : Int) : Bool := if l < 0 then !σ (-l).toNat else σ l.toNat
def satC (σ : Nat → Bool) (c : List Int) : Bool := c.any (sat1 σ)
def satL (σ : Nat → Bool) (L : List (List Int)) : Bool := L.all (satC σ)
def Agree (n : Nat) (vs : List Int) (σ : Nat → Bool) : Prop := ∀ v : Nat, 1 ≤ v → v < n → (vat vs v = 1 → σ v = true) ∧ (vat vs v = -1 → σ v = false)
theorem lit_nat {n : Nat} {l : Int} (hl : LitOk n l) : (l < 0 ∧ ∃ v : Nat, l = -(v : Int) ∧ 1 ≤ v ∧ v < n) ∨ (0 < l ∧ ∃ v : Nat, l = (v : Int) ∧ 1 ≤ v ∧ v < n) := by
  obtain ⟨h0, h1, h2⟩ := hl
  rcases Int.lt_or_lt_of_ne h0 with h | h
  · exact Or.inl ⟨h, (-l).toNat, by omega, by omega, by omega⟩
  · exact Or.inr ⟨h, l.toNat, by omega, by omega, by omega⟩
theorem tru_neg (vs : List Int) {v : Nat} (h : 1 ≤ v) : tru vs (-(v : Int)) = - vat vs v := by unfold tru; rw [if_pos (by omega), Int.neg_neg]
theorem tru_pos (vs : List Int) (v : Nat) : tru vs (v : Int) = vat vs v := by unfold tru; rw [if_neg (by omega)]
theorem sat_neg (σ : Nat → Bool) {v : Nat} (h : 1 ≤ v) : sat1 σ (-(v : Int)) = !σ v := by unfold sat1; rw [if_pos (by omega), Int.neg_neg, Int.toNat_natCast]
theorem sat_pos (σ : Nat → Bool) (v : Nat) : sat1 σ (v : Int) = σ v := by unfold sat1; rw [if_neg (by omega), Int.toNat_natCast]
theorem Agree.lit {n : Nat} {vs : List Int} {σ : Nat → Bool} (h : Agree n vs σ) {l : Int} (hl : LitOk n l) : (tru vs l = 1 → sat1 σ l = true) ∧ (tru vs l = -1 → sat1 σ l = false) := by
  rcases lit_nat hl with ⟨_, v, rfl, h1, h2⟩ | ⟨_, v, rfl, h1, h2⟩
  · rw [tru_neg vs h1, sat_neg σ h1]
    obtain ⟨a, b⟩ := h v h1 h2
    exact ⟨fun e => by rw [b (by omega)]; rfl, fun e => by rw [a (by omega)]; rfl⟩
  · rw [tru_pos, sat_pos]
    exact h v h1 h2
theorem vat_set' (vs : List Int) (i : Nat) (x : Int) (j : Nat) : vat (vs.set i x) j = if i = j ∧ i < vs.length then x else vat vs j := by
  unfold vat
  simp only [List.getD_eq_getElem?_getD, Int.toNat_natCast, List.getElem?_set]
  by_cases h : i = j
  · subst h
    by_cases h2 : i < vs.length
    · rw [if_pos rfl, if_pos h2, if_pos ⟨rfl, h2⟩]; rfl
    · rw [if_pos rfl, if_neg h2, if_neg (fun h => h2 h.2), List.getElem?_eq_none (by omega)]
  · rw [if_neg h, if_neg (fun k => h k.1)]
theorem abs_neg' (v : Nat) : (-(v : Int)).natAbs = v := by rw [Int.natAbs_neg, Int.natAbs_natCast]
theorem vat_setV {n : Nat} {vs : List Int} {l : Int} (hl : LitOk n l) (hn : vs.length = n) (j : Nat) : vat (setV vs l) j = if tru vs l = 0 ∧ l.natAbs = j then (if l > 0 then 1 else -1) else vat vs j := by
  unfold setV
  by_cases h0 : tru vs l = 0
  · rw [if_pos h0]
    rcases lit_nat hl with ⟨_, v, rfl, h1, h2⟩ | ⟨_, v, rfl, h1, h2⟩
    · rw [if_neg (show ¬ -(v : Int) > 0 by omega), vat_set', Int.neg_neg, Int.toNat_natCast, abs_neg']
      by_cases e : v = j
      · rw [if_pos ⟨e, by omega⟩, if_pos ⟨h0, e⟩, if_neg (show ¬ -(v : Int) > 0 by omega)]
      · rw [if_neg (fun h => e h.1), if_neg (fun h => e h.2)]
    · rw [if_pos (show (v : Int) > 0 by omega), vat_set', Int.toNat_natCast, Int.natAbs_natCast]
      by_cases e : v = j
      · rw [if_pos ⟨e, by omega⟩, if_pos ⟨h0, e⟩, if_pos (show (v : Int) > 0 by omega)]
      · rw [if_neg (fun h => e h.1), if_neg (fun h => e h.2)]
  · rw [if_neg h0, if_neg (fun h => h0 h.1)]
theorem agree_setV {n : Nat} {vs : List Int} {σ : Nat → Bool} (h : Agree n vs σ) {l : Int} (hl : LitOk n l) (hn : vs.length = n) (hs : sat1 σ l = true) : Agree n (setV vs l) σ := by
  intro v h1 h2
  rw [vat_setV hl hn]
  by_cases e : tru vs l = 0 ∧ l.natAbs = v
  · rw [if_pos e]
    rcases lit_nat hl with ⟨_, u, rfl, u1, u2⟩ | ⟨_, u, rfl, u1, u2⟩
    · rw [sat_neg σ u1] at hs
      have : u = v := by rw [abs_neg'] at e; exact e.2
      subst this
      rw [if_neg (show ¬ -(u : Int) > 0 by omega)]
      exact ⟨fun h => by omega, fun _ => by simpa using hs⟩
    · rw [sat_pos] at hs
      have : u = v := by rw [Int.natAbs_natCast] at e; exact e.2
      subst this
      rw [if_pos (show (u : Int) > 0 by omega)]
      exact ⟨fun _ => hs, fun h => by omega⟩
  · rw [if_neg e]; exact h v h1 h2
theorem small_setV {vs : List Int} (h : Small vs) (l : Int) : Small (setV vs l) := by
  unfold setV
  split
  · split
    · intro x hx
      rcases List.mem_or_eq_of_mem_set hx with hx | rfl
      · exact h x hx
      · omega
    · intro x hx
      rcases List.mem_or_eq_of_mem_set hx with hx | rfl
      · exact h x hx
      · omega
  · exact h
theorem small_v3 {vs : List Int} (h : Small vs) (i : Int) : vat vs i = -1 ∨ vat vs i = 0 ∨ vat vs i = 1 := by
  unfold vat
  rw [List.getD_eq_getElem?_getD]
  cases hx : vs[i.toNat]? with
  | none => exact Or.inr (Or.inl rfl)
  | some x =>
    have := h x (List.mem_of_getElem? hx)
    simp only [Option.getD_some]
    omega
theorem small_tru3 {vs : List Int} (h : Small vs) (l : Int) : tru vs l = -1 ∨ tru vs l = 0 ∨ tru vs l = 1 := by
  unfold tru
  split
  · have := small_v3 h (-l); omega
  · exact small_v3 h l
theorem scan_spec {n : Nat} {vs : List Int} (hs : Small vs) : ∀ (c : List Int) (o r : Int), (∀ l ∈ c, LitOk n l) → scan vs c o = some r → (o ≠ 0 → r = o) ∧ ∀ l ∈ c, tru vs l = -1 ∨ l = r
  | [], o, r, _, h => by simp [scan] at h; subst h; exact ⟨fun _ => rfl, fun l hl => by cases hl⟩
  | l :: c, o, r, hc, h => by
    have hc' : ∀ l ∈ c, LitOk n l := fun x hx => hc x (List.mem_cons_of_mem _ hx)
    have hl0 := (hc l List.mem_cons_self).1
    simp only [scan] at h
    split at h
    · cases h
    · rename_i h1
      split at h
      · rename_i h0
        split at h
        · cases h
        · rename_i ho
          obtain ⟨a, b⟩ := scan_spec hs c l r hc' h
          have e := a hl0
          refine ⟨fun hne => ?_, fun x hx => ?_⟩
          · rw [e]
            exact Classical.byContradiction fun hno => ho ⟨hne, fun h => hno h.symm⟩
          · rcases List.mem_cons.1 hx with rfl | hx
            · exact Or.inr e.symm
            · exact b x hx
      · rename_i h0
        obtain ⟨a, b⟩ := scan_spec hs c o r hc' h
        refine ⟨a, fun x hx => ?_⟩
        rcases List.mem_cons.1 hx with rfl | hx
        · have := small_tru3 hs x; omega
        · exact b x hx
theorem scan_full {vs : List Int} : ∀ (c : List Int) (o : Int), (∀ l ∈ c, tru vs l ≠ 0) → scan vs c o = none → ∃ l ∈ c, tru vs l = 1
  | [], o, _, h => by simp [scan] at h
  | l :: c, o, hc, h => by
    simp only [scan] at h
    split at h
    · rename_i h1; exact ⟨l, List.mem_cons_self, h1⟩
    · rw [if_neg (hc l List.mem_cons_self)] at h
      obtain ⟨x, hx, h2⟩ := scan_full c o (fun x hx => hc x (List.mem_cons_of_mem _ hx)) h
      exact ⟨x, List.mem_cons_of_mem _ hx, h2⟩
/-- A clause that an assignment makes true, and that is unit: its literal. -/
theorem unit_sat {n : Nat} {vs : List Int} {σ : Nat → Bool} (hs : Small vs) (ha : Agree n vs σ) {c : List Int} {r : Int} (hc : ∀ l ∈ c, LitOk n l) (h : scan vs c 0 = some r) (hσ : satC σ c = true) : r ∈ c ∧ sat1 σ r = true := by
  obtain ⟨_, b⟩ := scan_spec hs c 0 r hc h
  obtain ⟨l, hl, h1⟩ := List.any_eq_true.1 hσ
  rcases b l hl with h2 | rfl
  · rw [(ha.lit (hc l hl)).2 h2] at h1; cases h1
  · exact ⟨hl, h1⟩
/-- More is set, and the trail tells what. -/
def Ext (vs ts vs' ts' : List Int) : Prop := ∃ d : List Int, ts' = ts ++ d ∧ vs'.length = vs.length ∧ (∀ i : Nat, (i : Int) ∉ d → vat vs' i = vat vs i) ∧ ∀ v ∈ d, 0 ≤ v ∧ vat vs v = 0
theorem Ext.refl (vs ts : List Int) : Ext vs ts vs ts := ⟨[], by simp, rfl, fun _ _ => rfl, fun v hv => by cases hv⟩
theorem Ext.trans {a b c a' b' c' : List Int} (h : Ext a a' b b') (k : Ext b b' c c') : Ext a a' c c' := by
  obtain ⟨d, h1, h2, h3, h4⟩ := h
  obtain ⟨e, k1, k2, k3, k4⟩ := k
  refine ⟨d ++ e, by rw [k1, h1, List.append_assoc], k2.trans h2, fun i hi => ?_, fun v hv => ?_⟩
  · rw [List.mem_append] at hi
    rw [k3 i (fun h => hi (Or.inr h)), h3 i (fun h => hi (Or.inl h))]
  · rcases List.mem_append.1 hv with hv | hv
    · exact h4 v hv
    · obtain ⟨p, q⟩ := k4 v hv
      refine ⟨p, ?_⟩
      by_cases hd : v ∈ d
      · exact (h4 v hd).2
      · have := h3 v.toNat (by rwa [Int.toNat_of_nonneg p])
        rw [Int.toNat_of_nonneg p] at this
        rw [← this, q]
theorem Ext.set {n : Nat} {vs ts : List Int} {l : Int} (hl : LitOk n l) (hn : vs.length = n) : Ext vs ts (setV vs l) (setT vs ts l) := by
  unfold setT
  by_cases h0 : tru vs l = 0
  · rw [if_pos h0]
    refine ⟨[(l.natAbs : Int)], rfl, setV_length _ _, fun i hi => ?_, fun v hv => ?_⟩
    · rw [vat_setV hl hn, if_neg (fun h => hi (by rw [← h.2]; exact List.mem_singleton.2 rfl))]
    · rw [List.mem_singleton] at hv
      subst hv
      refine ⟨by omega, ?_⟩
      rcases lit_nat hl with ⟨_, u, rfl, u1, u2⟩ | ⟨_, u, rfl, u1, u2⟩
      · rw [tru_neg vs u1] at h0
        rw [abs_neg']; omega
      · rw [tru_pos] at h0
        rw [Int.natAbs_natCast]; exact h0
  · rw [if_neg h0]
    unfold setV
    rw [if_neg h0]
    exact Ext.refl _ _
theorem Ext.assigned {vs ts vs' ts' : List Int} (h : Ext vs ts vs' ts') (i : Nat) (hi : vat vs i ≠ 0) : vat vs' i = vat vs i := by
  obtain ⟨d, h1, h2, h3, h4⟩ := h
  exact h3 i (fun hd => hi (h4 _ hd).2)
theorem vat_back (l : List Int) : ∀ (vs : List Int) (i : Nat), (∀ v ∈ l, 0 ≤ v) → vat (backV vs l) i = if (i : Int) ∈ l then 0 else vat vs i := by
  unfold backV
  induction l with
  | nil => intro vs i _; simp
  | cons a l ih =>
    intro vs i hl
    have ha := hl a List.mem_cons_self
    rw [List.foldl_cons, ih _ i (fun v hv => hl v (List.mem_cons_of_mem _ hv)), vat_set']
    by_cases h1 : (i : Int) ∈ l
    · rw [if_pos h1, if_pos (List.mem_cons_of_mem _ h1)]
    · rw [if_neg h1]
      by_cases h2 : a.toNat = i
      · rw [if_pos (show (i : Int) ∈ a :: l by rw [show (i : Int) = a by omega]; exact List.mem_cons_self)]
        split
        · rfl
        · rename_i h3
          have : ¬ i < vs.length := fun h => h3 ⟨h2, by omega⟩
          unfold vat
          rw [List.getD_eq_getElem?_getD, Int.toNat_natCast, List.getElem?_eq_none (by omega)]; rfl
      · rw [if_neg (fun h => h2 h.1), if_neg (fun h => by rcases List.mem_cons.1 h with h | h; exact h2 (by omega); exact h1 h)]
theorem ext_vat {vs vs' : List Int} (hl : vs.length = vs'.length) (h : ∀ i : Nat, vat vs i = vat vs' i) : vs = vs' := by
  refine List.ext_getElem hl fun i h1 h2 => ?_
  have := h i
  unfold vat at this
  rwa [List.getD_eq_getElem?_getD, List.getD_eq_getElem?_getD, Int.toNat_natCast, List.getElem?_eq_getElem h1, List.getElem?_eq_getElem h2] at this
theorem Ext.undo {vs ts vs' ts' : List Int} (h : Ext vs ts vs' ts') : undo vs' ts' ts.length = (vs, ts) := by
  obtain ⟨d, h1, h2, h3, h4⟩ := h
  unfold Sol.undo
  rw [h1, List.drop_left, List.take_left]
  refine Prod.ext ?_ rfl
  refine ext_vat (by rw [backV_length, h2]) fun i => ?_
  rw [vat_back d _ i (fun v hv => (h4 v hv).1)]
  by_cases hd : (i : Int) ∈ d
  · rw [if_pos hd]; exact (h4 _ hd).2.symm
  · rw [if_neg hd]; exact h3 i hd
/-- One pass. -/
theorem pass_spec {n : Nat} : ∀ (L : List (List Int)) (vs ts : List Int) (ch : Bool), AllOk n L → vs.length = n → Small vs →
    Small (pass L vs ts ch).2.1 ∧ Ext vs ts (pass L vs ts ch).2.1 (pass L vs ts ch).2.2.1 ∧
    (∀ σ, Agree n vs σ → satL σ L = true → (pass L vs ts ch).1 = true ∧ Agree n (pass L vs ts ch).2.1 σ) ∧
    ((pass L vs ts ch).1 = true → (pass L vs ts ch).2.2.2 = false → ch = false ∧ (pass L vs ts ch).2.1 = vs ∧ ∀ c ∈ L, scan vs c 0 = none)
  | [], vs, ts, ch, _, hn, hs => ⟨hs, Ext.refl _ _, fun σ ha _ => ⟨rfl, ha⟩, fun _ h => ⟨h, rfl, fun c hc => (by cases hc)⟩⟩
  | c :: L, vs, ts, ch, hL, hn, hs => by
    have hL' : AllOk n L := fun x hx => hL x (List.mem_cons_of_mem _ hx)
    have hc := hL c List.mem_cons_self
    simp only [pass]
    cases hsc : scan vs c 0 with
    | none =>
      obtain ⟨a, b, d, e⟩ := pass_spec L vs ts ch hL' hn hs
      refine ⟨a, b, fun σ ha hσ => d σ ha (by unfold satL at hσ ⊢; rw [List.all_cons, Bool.and_eq_true] at hσ; exact hσ.2), fun h1 h2 => ?_⟩
      obtain ⟨e1, e2, e3⟩ := e h1 h2
      exact ⟨e1, e2, fun x hx => by rcases List.mem_cons.1 hx with rfl | hx; exact hsc; exact e3 x hx⟩
    | some o =>
      simp only []
      by_cases ho : o = 0
      · rw [if_pos ho]
        refine ⟨hs, Ext.refl _ _, fun σ ha hσ => ?_, fun h => by cases h⟩
        unfold satL at hσ
        rw [List.all_cons, Bool.and_eq_true] at hσ
        obtain ⟨h1, h2⟩ := unit_sat hs ha hc hsc hσ.1
        exact absurd ho (hc o h1).1
      · rw [if_neg ho]
        have hlit := (scan_lit c 0 o hc (.inl rfl) hsc).resolve_left ho
        obtain ⟨a, b, d, e⟩ := pass_spec L (setV vs o) (setT vs ts o) true hL' (by rw [setV_length]; exact hn) (small_setV hs o)
        refine ⟨a, (Ext.set hlit hn).trans b, fun σ ha hσ => ?_, fun h1 h2 => ?_⟩
        · unfold satL at hσ
          rw [List.all_cons, Bool.and_eq_true] at hσ
          obtain ⟨h1, h2⟩ := unit_sat hs ha hc hsc hσ.1
          exact d σ (agree_setV ha hlit hn h2) hσ.2
        · obtain ⟨e1, _⟩ := e h1 h2
          cases e1
theorem prop_spec {n : Nat} {L : List (List Int)} (hL : AllOk n L) : ∀ (K : Nat) (vs ts : List Int) (r : Bool × List Int × List Int), vs.length = n → Small vs → prop L K vs ts = some r →
    Small r.2.1 ∧ Ext vs ts r.2.1 r.2.2 ∧ (∀ σ, Agree n vs σ → satL σ L = true → r.1 = true ∧ Agree n r.2.1 σ) ∧ (r.1 = true → ∀ c ∈ L, scan r.2.1 c 0 = none)
  | 0, vs, ts, r, _, _, h => by simp [prop] at h
  | K + 1, vs, ts, r, hn, hs, h => by
    obtain ⟨a, b, d, e⟩ := pass_spec L vs ts false hL hn hs
    simp only [prop] at h
    rcases hR : pass L vs ts false with ⟨b1, v1, t1, c1⟩
    rw [hR] at h a b d e
    cases b1 with
    | false =>
      simp only [Option.some.injEq] at h; subst h
      exact ⟨a, b, d, fun h => by cases h⟩
    | true =>
      cases c1 with
      | false =>
        simp only [Option.some.injEq] at h; subst h
        obtain ⟨_, e2, e3⟩ := e rfl rfl
        exact ⟨a, b, d, fun _ => by show ∀ c ∈ L, scan v1 c 0 = none; rw [show v1 = vs from e2]; exact e3⟩
      | true =>
        have hl1 : v1.length = n := by obtain ⟨_, _, q, _⟩ := b; exact q.trans hn
        obtain ⟨a2, b2, d2, e4⟩ := prop_spec hL K v1 t1 r hl1 a h
        exact ⟨a2, Ext.trans b b2, fun σ ha hσ => d2 σ (d σ ha hσ).2 hσ, e4⟩
theorem next_all (vs : List Int) : ∀ (d v : Nat) (u : Nat), v ≤ u → u < next vs d v → vat vs u ≠ 0
  | 0, v, u, h1, h2 => by simp [next] at h2; omega
  | d + 1, v, u, h1, h2 => by
    simp only [next] at h2
    split at h2
    · omega
    · rename_i h
      rcases Nat.lt_or_eq_of_le h1 with h3 | rfl
      · exact next_all vs d (v + 1) u h3 h2
      · exact h
theorem next_zero (vs : List Int) : ∀ (d v : Nat), next vs d v < v + d → vat vs (next vs d v) = 0
  | 0, v, h => by simp [next] at h
  | d + 1, v, h => by
    simp only [next] at h ⊢
    split
    · rename_i h0; exact h0
    · rename_i h0
      rw [if_neg h0] at h
      exact next_zero vs d (v + 1) (by omega)
theorem tryF_spec {n : Nat} {L : List (List Int)} (hL : AllOk n L) (K : Nat) : ∀ (f v : Nat) (vs ts : List Int) (r : Bool × List Int × List Int), 1 ≤ v → v ≤ n → vs.length = n → Small vs → (∀ u : Nat, 1 ≤ u → u < v → vat vs u ≠ 0) → tryF L n K f v vs ts = some r →
    Small r.2.1 ∧ Ext vs ts r.2.1 r.2.2 ∧ (r.1 = true → (∀ u : Nat, 1 ≤ u → u < n → vat r.2.1 u ≠ 0) ∧ ∀ c ∈ L, scan r.2.1 c 0 = none) ∧ (r.1 = false → ∀ σ, Agree n vs σ → satL σ L = true → False)
  | 0, v, vs, ts, r, _, _, _, _, _, h => by simp [tryF] at h
  | f + 1, v, vs, ts, r, hv, hvn, hn, hs, hu, h => by
    simp only [tryF] at h
    obtain ⟨r1, hr1, h⟩ := Option.bind_eq_some_iff.1 h
    obtain ⟨s1, x1, g1, f1⟩ := prop_spec hL K vs ts r1 hn hs hr1
    have hn1 : r1.2.1.length = n := by obtain ⟨_, _, q, _⟩ := x1; exact q.trans hn
    have hu1 : ∀ u : Nat, 1 ≤ u → u < v → vat r1.2.1 u ≠ 0 := fun u a b => by rw [x1.assigned u (hu u a b)]; exact hu u a b
    split at h
    · rename_i h1
      simp only [Option.some.injEq] at h; subst h
      exact ⟨s1, x1, fun h => (by rw [h1] at h; cases h), fun _ σ ha hσ => by have := (g1 σ ha hσ).1; rw [h1] at this; cases this⟩
    · rename_i h1
      have h1' : r1.1 = true := by cases h : r1.1; exact absurd h h1; rfl
      split at h
      · rename_i h2
        simp only [Option.some.injEq] at h; subst h
        refine ⟨s1, x1, fun _ => ⟨fun u a b => ?_, f1 h1'⟩, fun h => absurd h h1⟩
        rcases Nat.lt_or_ge u v with h3 | h3
        · exact hu1 u a h3
        · exact next_all r1.2.1 (n - v) v u h3 (by omega)
      · rename_i h2
        have hle := le_next r1.2.1 (n - v) v
        have hzero := next_zero r1.2.1 (n - v) v (by omega)
        have hall := next_all r1.2.1 (n - v) v
        generalize next r1.2.1 (n - v) v = x at h h2 hle hzero hall
        obtain ⟨r2, hr2, h⟩ := Option.bind_eq_some_iff.1 h
        have hx1 : LitOk n (-(x : Int)) := ⟨by omega, by omega, by omega⟩
        have hx2 : LitOk n (x : Int) := ⟨by omega, by omega, by omega⟩
        have hux : ∀ u : Nat, 1 ≤ u → u < x → vat r1.2.1 u ≠ 0 := fun u a b => by
          rcases Nat.lt_or_ge u v with h3 | h3
          · exact hu1 u a h3
          · exact hall u h3 b
        have hset : ∀ l : Int, LitOk n l → l.natAbs = x → tru r1.2.1 l = 0 → ∀ u : Nat, 1 ≤ u → u < x + 1 → vat (setV r1.2.1 l) u ≠ 0 := fun l hl hla h0 u a b => by
          rw [vat_setV hl hn1]
          by_cases e : u = x
          · rw [if_pos ⟨h0, hla.trans e.symm⟩]; split <;> omega
          · rw [if_neg (fun h => e (h.2.symm.trans hla))]; exact hux u a (by omega)
        have t1 : tru r1.2.1 (-(x : Int)) = 0 := by rw [tru_neg _ (by omega), hzero]; rfl
        have t2 : tru r1.2.1 (x : Int) = 0 := by rw [tru_pos, hzero]
        obtain ⟨s2, x2, g2, f2⟩ := tryF_spec hL K f (x + 1) _ _ r2 (by omega) (by omega) (by rw [setV_length]; exact hn1) (small_setV s1 _) (hset _ hx1 (abs_neg' x) t1) hr2
        have x12 := (Ext.set (ts := r1.2.2) hx1 hn1).trans x2
        split at h
        · rename_i h3
          simp only [Option.some.injEq] at h; subst h
          exact ⟨s2, x1.trans x12, g2, fun h => (by rw [h3] at h; cases h)⟩
        · rename_i h3
          have h3' : r2.1 = false := by cases h : r2.1; rfl; exact absurd h h3
          have hun := x12.undo
          rw [hun] at h
          obtain ⟨r3, hr3, h⟩ := Option.bind_eq_some_iff.1 h
          obtain ⟨s3, x3, g3, f3⟩ := tryF_spec hL K f (x + 1) _ _ r3 (by omega) (by omega) (by rw [setV_length]; exact hn1) (small_setV s1 _) (hset _ hx2 (Int.natAbs_natCast x) t2) hr3
          have x13 := (Ext.set (ts := r1.2.2) hx2 hn1).trans x3
          split at h
          · rename_i h4
            simp only [Option.some.injEq] at h; subst h
            exact ⟨s3, x1.trans x13, g3, fun h => by rw [h4] at h; cases h⟩
          · rename_i h4
            have h4' : r3.1 = false := by cases h : r3.1; rfl; exact absurd h h4
            simp only [Option.some.injEq] at h; subst h
            have hun3 := x13.undo
            rw [hun3]
            refine ⟨s1, x1, fun h => (by cases h), fun _ σ ha hσ => ?_⟩
            have ha1 := (g1 σ ha hσ).2
            cases hb : σ x with
            | false => exact f2 h3' σ (agree_setV ha1 hx1 hn1 (by rw [sat_neg σ (by omega), hb]; rfl)) hσ
            | true => exact f3 h4' σ (agree_setV ha1 hx2 hn1 (by rw [sat_pos, hb])) hσ
theorem asmF_spec {n : Nat} : ∀ (asm vs ts : List Int), (∀ l ∈ asm, LitOk n l) → vs.length = n → Small vs →
    Small (asmF asm vs ts).2.1 ∧ Ext vs ts (asmF asm vs ts).2.1 (asmF asm vs ts).2.2 ∧ ((asmF asm vs ts).1 = true → (∀ l ∈ asm, tru (asmF asm vs ts).2.1 l = 1)) ∧ (∀ σ, Agree n vs σ → (∀ l ∈ asm, sat1 σ l = true) → (asmF asm vs ts).1 = true ∧ Agree n (asmF asm vs ts).2.1 σ)
  | [], vs, ts, _, hn, hs => ⟨hs, Ext.refl _ _, fun _ l hl => (by cases hl), fun σ ha _ => ⟨rfl, ha⟩⟩
  | l :: r, vs, ts, hl, hn, hs => by
    have hl1 := hl l List.mem_cons_self
    simp only [asmF]
    by_cases h : setB vs l = true
    · rw [if_pos h]
      have h' : tru vs l ≠ -1 := of_decide_eq_true h
      obtain ⟨a, b, d, e⟩ := asmF_spec r (setV vs l) (setT vs ts l) (fun x hx => hl x (List.mem_cons_of_mem _ hx)) (by rw [setV_length]; exact hn) (small_setV hs l)
      refine ⟨a, (Ext.set hl1 hn).trans b, fun hb x hx => ?_, fun σ ha hσ => e σ (agree_setV ha hl1 hn (hσ l List.mem_cons_self)) (fun x hx => hσ x (List.mem_cons_of_mem _ hx))⟩
      rcases List.mem_cons.1 hx with rfl | hx
      · have key : tru (setV vs x) x = 1 := by
          rcases lit_nat hl1 with ⟨_, u, rfl, u1, u2⟩ | ⟨_, u, rfl, u1, u2⟩
          · rw [tru_neg _ u1, vat_setV hl1 hn]
            by_cases h0 : tru vs (-(u : Int)) = 0
            · rw [if_pos ⟨h0, abs_neg' u⟩, if_neg (show ¬ -(u : Int) > 0 by omega)]; rfl
            · rw [if_neg (fun h => h0 h.1)]
              have := small_tru3 hs (-(u : Int))
              rw [tru_neg vs u1] at *; omega
          · rw [tru_pos, vat_setV hl1 hn]
            by_cases h0 : tru vs (u : Int) = 0
            · rw [if_pos ⟨h0, Int.natAbs_natCast u⟩, if_pos (show (u : Int) > 0 by omega)]
            · rw [if_neg (fun h => h0 h.1)]
              have := small_tru3 hs (u : Int)
              rw [tru_pos] at *; omega
        rcases lit_nat hl1 with ⟨_, u, rfl, u1, u2⟩ | ⟨_, u, rfl, u1, u2⟩
        · rw [tru_neg _ u1] at key ⊢
          rw [b.assigned u (by omega)]; exact key
        · rw [tru_pos] at key ⊢
          rw [b.assigned u (by omega)]; exact key
      · exact d hb x hx
    · rw [if_neg h]
      refine ⟨hs, Ext.refl _ _, fun h => (by cases h), fun σ ha hσ => ?_⟩
      have h1 : tru vs l = -1 := by
        have : setB vs l = false := by cases k : setB vs l; rfl; exact absurd k h
        exact Classical.not_not.1 (of_decide_eq_false this)
      have := (ha.lit hl1).2 h1
      rw [hσ l List.mem_cons_self] at this; cases this
theorem modelFrom_spec (vs : List Int) (h0 : vat vs 0 = 0) : ∀ (d i : Nat) (s : Nat × Nat), i + d ≤ 129 → SOk s → SOk (modelFrom vs d i s) ∧ ∀ u, 1 ≤ u → memS (modelFrom vs d i s) u = (memS s u || (decide (i ≤ u ∧ u < i + d) && decide (vat vs u = 1)))
  | 0, i, s, _, hs => ⟨hs, fun u _ => by rw [decide_eq_false (by omega)]; simp [modelFrom]⟩
  | d + 1, i, s, hd, hs => by
    have hs2 : SOk (if vat vs i = 1 then withS s i else s) := by
      split
      · rename_i h
        have : i ≠ 0 := fun e => by subst e; rw [show ((0 : Nat) : Int) = 0 from rfl, h0] at h; omega
        exact hs.with (by omega) (by omega)
      · exact hs
    obtain ⟨a, b⟩ := modelFrom_spec vs h0 d (i + 1) _ (by omega) hs2
    refine ⟨a, fun u hu => ?_⟩
    show memS (modelFrom vs d (i + 1) _) u = _
    rw [b u hu]
    by_cases h : vat vs i = 1
    · have hi : i ≠ 0 := fun e => by subst e; rw [show ((0 : Nat) : Int) = 0 from rfl, h0] at h; omega
      rw [if_pos h, mem_with s (by omega) hu, Bool.or_assoc]
      congr 1
      by_cases e : u = i
      · subst e; rw [decide_eq_true rfl, decide_eq_true h, decide_eq_true (show u ≤ u ∧ u < u + (d + 1) by omega)]; rfl
      · rw [decide_eq_false e, Bool.false_or, decide_eq_decide.2 (show (i + 1 ≤ u ∧ u < i + 1 + d) ↔ (i ≤ u ∧ u < i + (d + 1)) by omega)]
    · rw [if_neg h]
      congr 1
      by_cases e : u = i
      · subst e; rw [decide_eq_false h, Bool.and_false, Bool.and_false]
      · rw [decide_eq_decide.2 (show (i + 1 ≤ u ∧ u < i + 1 + d) ↔ (i ≤ u ∧ u < i + (d + 1)) by omega)]
/-- What solve answers is right. -/
theorem sat_spec {m : Nat} {L : List (List Int)} (hm : m ≤ 128) (hL : AllOk (m + 1) L) {asm : List Int} (ha : ∀ l ∈ asm, LitOk (m + 1) l) :
    SOk (satF L m asm).2 ∧ ((satF L m asm).1 = true → satL (memS (satF L m asm).2) L = true ∧ (∀ l ∈ asm, sat1 (memS (satF L m asm).2) l = true) ∧ ∀ u, m < u → memS (satF L m asm).2 u = false) ∧
    ((satF L m asm).1 = false → ∀ σ, satL σ L = true → (∀ l ∈ asm, sat1 σ l = true) → False) := by
  have hsf := solveF_some hm hL ha
  generalize satF L m asm = r at hsf
  unfold solveF at hsf
  have hz0 : vat (List.replicate (m + 1) 0) 0 = 0 := rfl
  have hvz : ∀ i : Int, vat (List.replicate (m + 1) 0) i = 0 := fun i => by
    unfold vat
    rw [List.getD_eq_getElem?_getD, List.getElem?_replicate]
    split <;> rfl
  have hag : ∀ σ, Agree (m + 1) (List.replicate (m + 1) 0) σ := fun σ v _ _ => ⟨fun h => by rw [hvz] at h; omega, fun h => by rw [hvz] at h; omega⟩
  have hsm : Small (List.replicate (m + 1) 0) := fun x hx => by have := List.eq_of_mem_replicate hx; omega
  obtain ⟨a1, a2, a3, a4⟩ := asmF_spec (n := m + 1) asm (List.replicate (m + 1) 0) [] ha (by simp) hsm
  split at hsf
  · rename_i h1
    simp only [Option.some.injEq] at hsf; subst hsf
    exact ⟨SOk.zero, fun h => (by cases h), fun _ σ _ hσ => by have := (a4 σ (hag σ) hσ).1; rw [h1] at this; cases this⟩
  · rename_i h1
    have h1' : (asmF asm (List.replicate (m + 1) 0) []).1 = true := by cases h : (asmF asm (List.replicate (m + 1) 0) []).1; exact absurd h h1; rfl
    obtain ⟨q, hq, hr⟩ := Option.map_eq_some_iff.1 hsf
    have hln : (asmF asm (List.replicate (m + 1) 0) []).2.1.length = m + 1 := by obtain ⟨_, _, h, _⟩ := a2; rw [h]; simp
    obtain ⟨s, x, g, f⟩ := tryF_spec hL (m + 2) (m + 2) 1 _ _ q (by omega) (by omega) hln a1 (fun u a b => by omega) hq
    have hz : vat q.2.1 0 = 0 := (tryF_inv hL (m + 2) (m + 2) 1 _ _ q (by omega) (asmF_inv asm _ _ ha (inv_start m hm)) hq).1.zero
    cases hb : q.1 with
    | false =>
      rw [hb] at hr
      subst hr
      exact ⟨SOk.zero, fun h => (by cases h), fun _ σ hσ hσ2 => f hb σ (a4 σ (hag σ) hσ2).2 hσ⟩
    | true =>
      rw [hb] at hr
      subst hr
      obtain ⟨m1, m2⟩ := modelFrom_spec q.2.1 hz (m + 1) 0 (0, 0) (by omega) SOk.zero
      obtain ⟨g1, g2⟩ := g hb
      have hmem : ∀ u : Nat, 1 ≤ u → u < m + 1 → memS (modelFrom q.2.1 (m + 1) 0 (0, 0)) u = decide (vat q.2.1 u = 1) := fun u h1 h2 => by
        rw [m2 u h1, mem_zero, Bool.false_or, decide_eq_true (show 0 ≤ u ∧ u < 0 + (m + 1) by omega), Bool.true_and]
      have hlit : ∀ l, LitOk (m + 1) l → tru q.2.1 l = 1 → sat1 (memS (modelFrom q.2.1 (m + 1) 0 (0, 0))) l = true := fun l hl ht => by
        rcases lit_nat hl with ⟨_, u, rfl, u1, u2⟩ | ⟨_, u, rfl, u1, u2⟩
        · rw [tru_neg _ u1] at ht
          rw [sat_neg _ u1, hmem u u1 u2, decide_eq_false (by omega)]; rfl
        · rw [tru_pos] at ht
          rw [sat_pos, hmem u u1 u2, decide_eq_true ht]
      refine ⟨m1, fun _ => ⟨?_, fun l hl => ?_, fun u hu => ?_⟩, fun h => by cases h⟩
      · unfold satL
        rw [List.all_eq_true]
        intro c hc
        obtain ⟨l, hl, ht⟩ := scan_full c 0 (fun l hl => by
          rcases lit_nat (hL c hc l hl) with ⟨_, u, rfl, u1, u2⟩ | ⟨_, u, rfl, u1, u2⟩
          · rw [tru_neg _ u1]; have := g1 u u1 u2; omega
          · rw [tru_pos]; exact g1 u u1 u2) (g2 c hc)
        exact List.any_eq_true.2 ⟨l, hl, hlit l (hL c hc l hl) ht⟩
      · refine hlit l (ha l hl) ?_
        have h3 := a3 h1' l hl
        rcases lit_nat (ha l hl) with ⟨_, u, rfl, u1, u2⟩ | ⟨_, u, rfl, u1, u2⟩
        · rw [tru_neg _ u1] at h3 ⊢
          rw [x.assigned u (by omega)]; exact h3
        · rw [tru_pos] at h3 ⊢
          rw [x.assigned u (by omega)]; exact h3
      · show memS (modelFrom q.2.1 (m + 1) 0 (0, 0)) u = false
        rw [m2 u (by omega), mem_zero, Bool.false_or, decide_eq_false (by omega), Bool.false_and]
end Go.Proofs.Ytbnjbjcokkcfcaa.Sol
namespace Go.Proofs.Ytbnjbjcokkcfcaa.Sol
open Go.RowKit Go.Proofs.YtbnjbjcokkcfcaaW.PrintWords Go.Proofs.Ytbnjbjcokkcfcaa.PSearchOwn
set_option linter.unusedVariables false
set_option linter.unusedSimpArgs false
theorem ev_lits {β : Type} {g : Nat → Int → Option β} {l : List Int} {n : Int} (good : β) (bad : β) (hl : l.length ≤ 9223372036854775807)
    (hstep : ∀ (k : Nat) (i : Nat), i < l.length → g (k + 1) i = (lit_Valid.f k (rd l i) n).bind fun t => if t = true then g k (wrap64 ((i : Int) + 1)) else some bad)
    (hend : ∀ (k : Nat), g (k + 1) (l.length : Int) = some good) (d : Nat) :
    ∀ i : Nat, i + d = l.length → Ev (fun k => g k i) (if (l.drop i).all (fun x => validB x n) then good else bad) := by
  induction d with
  | zero =>
    intro i hi
    rw [List.drop_eq_nil_of_le (by omega), show i = l.length by omega]
    exact Ev.step (f := fun _ => some good) (fun k => hend k) (Ev.now _)
  | succ d ih =>
    intro i hi
    have hlt : i < l.length := by omega
    refine Ev.step (f := fun k => (lit_Valid.f k (rd l i) n).bind fun t => if t = true then g k (wrap64 ((i : Int) + 1)) else some bad) (fun k => hstep k i hlt) ?_
    refine Ev.bind (f := fun k t => if t = true then g k (wrap64 ((i : Int) + 1)) else some bad) (ev_valid _ _) ?_
    rw [List.drop_eq_getElem_cons hlt, List.all_cons, rd_at hlt, wrap_id (by omega) (by omega)]
    cases hv : validB l[i] n with
    | true =>
      simp only [if_true, Bool.true_and]
      exact ih (i + 1) (by omega)
    | false =>
      simp only [Bool.false_and, Bool.false_eq_true, if_false]
      exact Ev.now _
def litsB (l : List Int) (n : Int) : Bool := l.all (fun x => validB x n)
def checkL (n : Int) (L : List (List Int)) (l : List Int) : Int := if checkF n L = 0 then (if litsB l n then 0 else 1) else checkF n L
theorem ev_checkL (n : Int) (L : List (List Int)) (l : List Int) (hL : L.length ≤ 9223372036854775807) (hl : l.length ≤ 9223372036854775807) : Ev (fun k => search_check.f k n L l) (checkL n L l) := by
  unfold search_check.f
  refine Ev.bind (f := fun k t => if t = 0 then search_check.l0 k l (l.length : Int) 0 n L else some t) (ev_check n L hL) ?_
  unfold checkL
  by_cases h0 : checkF n L = 0
  · simp only [if_pos h0]
    have := ev_lits (g := fun k i => search_check.l0 k l (l.length : Int) i n L) (n := n) (l := l) (0 : Int) 1 hl (fun k i hi => by
        simp only [search_check.l0]
        rw [if_pos (by omega), if_pos (by omega), if_pos (by omega)]) (fun k => by
        simp only [search_check.l0]
        rw [if_neg (by omega)]) l.length 0 (by omega)
    rw [List.drop_zero] at this
    exact this
  · simp only [if_neg h0]; exact Ev.now _
section
variable {W : World} {AL A B : Option Addr} {cL c c2 : Nat} {N : Int} {L : List (List Int)} {l l2 : List Int}
theorem checkL_calls (hL : Kd.C (Kd.slice 3 (Kd.int .i64)) W AL L.length L) (hcL : L.length ≤ cL) (hl : Kd.C (Kd.int .i64) W A l.length l) (hc : l.length ≤ c) :
    Calls Try.prog 34 #[.agg #[.int .i64 N, .slice AL L.length cL], .slice A l.length c] W fun e w' => e = .returned (.int .i64 (checkL N L l)) ∧ Below W.heap.size W w' := by
  obtain ⟨k, hk⟩ := (ev_checkL N L l (Kd.C_max hL) (Kd.C_max hl)).rounds
  exact search_check.calls k N AL cL L A c l _ W hL hcL hl hc hk
end
end Go.Proofs.Ytbnjbjcokkcfcaa.Sol
