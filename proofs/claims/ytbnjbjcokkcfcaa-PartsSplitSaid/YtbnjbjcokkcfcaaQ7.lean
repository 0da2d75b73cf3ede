/- The walks of given, Same, Alone. -/
import Derived.Test.YtbnjbjcokkcfcaaQ6
namespace Go.Proofs.Ytbnjbjcokkcfcaa.Sol
open Go.RowKit Go.Proofs.YtbnjbjcokkcfcaaW.PrintWords Go.Proofs.YtbnjbjcokkcfcaaW.PrintLast Go.Proofs.YtbnjbjcokkcfcaaW.PrintMore Go.Proofs.Ytbnjbjcokkcfcaa.PSearchOwn
set_option linter.unusedVariables false
set_option linter.unusedSimpArgs false
def q18r5T : Bool × List (List Nat × List Nat) := (true, [([], []), ([], []), ([], []), ([1, 2], [1, 2]), ([3], [3]), ([4], [4]), ([], []), ([], []), ([], []), ([7, 8], [7, 8]), ([9], [9]), ([10], [10]), ([6, 11], [6, 11]), ([5, 12], [5, 12]), ([13], [13]), ([0, 14, 12], [0, 14]), ([15, 15, 0, 1, 2, 3, 4, 5, 6, 7, 8, 9, 10, 11, 12, 13, 14, 15], [0, 15])])
def q18r5B : List Nat := [0, 0, 0, 6, 14, 30, 0, 0, 0, 384, 896, 1920, 4032, 8190, 16382, 32767, 65535]
theorem q18r5tab : rtab .any (opsOf Try.f18 5) = q18r5T := by kernel_rfl
theorem q18r5bits : waitsOk q18r5T.2 q18r5B = true := by kernel_rfl
def q17r6T : Bool × List (List Nat × List Nat) := (true, [([], []), ([], []), ([0, 1], [0, 1]), ([2], [2]), ([3], [3]), ([], []), ([], []), ([5, 6], [5, 6]), ([7], [7]), ([8], [8]), ([4, 9], [4, 9]), ([10], [10]), ([11], [11]), ([11], [11]), ([12, 13, 11], [11, 12, 13]), ([14, 11], [11, 14]), ([15, 11], [11, 15]), ([11], [11]), ([11], [11]), ([17, 18, 11], [11, 17, 18]), ([19, 11], [11, 19]), ([20, 11], [11, 20]), ([16, 21, 11, 11], [11, 16, 21]), ([22, 11], [11, 22]), ([11, 23], [11, 23])])
def q17r6B : List Nat := [0, 0, 3, 7, 15, 0, 0, 96, 224, 480, 1023, 2047, 4095, 4095, 16383, 32767, 65535, 4095, 4095, 397311, 921599, 1970175, 4194303, 8388607, 16777215]
theorem q17r6tab : rtab .any (opsOf Try.f17 6) = q17r6T := by kernel_rfl
theorem q17r6bits : waitsOk q17r6T.2 q17r6B = true := by kernel_rfl
theorem cell_gr {w w2 : World} {row : Option Nat} (hg : w.grownBy w2 row) {a : Addr} {v : Value} (h : w.cell? a = some v) (hne : some a.block ≠ row) : w2.cell? a = some v := by
  have := hg.block a.block (World.block_lt_of_cell? w a h) hne
  simpa [World.cell?, this] using h
theorem KP_lt {e : TypeId} {w : World} {base g n cap : Nat} {ok : Nat → Prop} {xs : List Part} (h : KP.R e w base ok (.slice (some ⟨g, 0, none⟩) n cap) xs) : g < w.heap.size := by
  obtain ⟨inner, ho⟩ := Kd.R_own h
  exact own_lt ho g (by simp [Value.ownBlock])
theorem KP_form {e : TypeId} {w : World} {base : Nat} {ok : Nat → Prop} {v : Value} {xs : List Part} (h : KP.R e w base ok v xs) : (v = .slice none 0 0 ∧ xs = []) ∨ ∃ g cap, v = .slice (some ⟨g, 0, none⟩) xs.length cap := by
  obtain ⟨inner, ho⟩ := Kd.R_own h
  rcases ho.2 with ⟨rfl, h0⟩ | ⟨g, cap, cur, rfl, _⟩
  · exact Or.inl ⟨rfl, List.eq_nil_of_length_eq_zero h0⟩
  · exact Or.inr ⟨g, cap, rfl⟩
section
variable {ops : Array Oper} {o : Oper} {a : Act} {Q : Exit → Act → World → Prop} {Kc : Act → World → Prop}
/-- A component is appended, in a region of open order. -/
theorem app_part_step {w : World} (base : Nat) {v : Value} {out : List Part} (hR : KP.R 69 w base (fun _ => True) v out) {gs : Nat × Nat} {gc : List Int} {A5 : Option Addr} {c5 : Nat} (hz : w.ownsRow base 3 1 (.slice A5 gc.length c5) gc.length (nums .i64 gc)) (hlen : out.length ≤ 4096) (hbase : base ≤ w.heap.size) (hw : Region.wanted o (yielded ops a.tmps) = true) (s x : Operand) (ho : o.op = .call { callee := .builtin .append, args := #[s, x], argTypes := #[43, 43] }) (hs : a.eval s = v) (hx : a.eval x = .slice (some ⟨w.heap.size, 0, none⟩) 1 1)
    (K : ∀ v2 w2, KP.R 69 w2 base (fun _ => True) v2 (out ++ [(gs, gc)]) → w.grownBy w2 v.ownBlock → Below base w w2 → Kc (a.put o.dst v2) w2) :
    if Region.wanted o (yielded ops a.tmps) = true then Oper.wp Try.prog o a (w.alloc (.cells #[.int .u64 (gs.1 : Int), .int .u64 (gs.2 : Int), .slice A5 gc.length c5] 69)) Kc Q else Kc (a.put o.dst undef) (w.alloc (.cells #[.int .u64 (gs.1 : Int), .int .u64 (gs.2 : Int), .slice A5 gc.length c5] 69)) := by
  obtain ⟨inner, ho4⟩ := Kd.R_own hR
  refine Kd.R_append_step KP (w0 := w) base hw s x 43 69 (.agg #[.int .u64 0, .int .u64 0, .slice none 0 0]) 40 ho Try.underlying43 info69 rfl (by decide) (by decide) v out (gs, gc) [.int .u64 (gs.1 : Int), .int .u64 (gs.2 : Int), .slice A5 gc.length c5] (fun _ => True) (fun k => (Value.slice A5 gc.length c5).ownBlock = some k) hs hx (KP_M (Kd.R_of_own hz (fun k hk => hk))) (fun k hk => ⟨trivial, fun he => ?_⟩) (fun _ _ => trivial) hR (Below.refl _ _ |>.mono hbase) hbase (by omega) ?_
  · rcases own_type_ne hz ho4 (by decide) with e | e
    · rw [e] at hk; cases hk
    · exact e (by rw [hk]; exact he)
  · intro v1 w1 hr hb hg hat
    exact K v1 w1 hr hg hb
end
section
variable {W : World} {base : Nat} {ok : Nat → Prop} {v : Value} {l : List Part}
set_option maxHeartbeats 2000000 in
set_option maxRecDepth 100000 in
theorem given_calls (h : KP.R 68 W base ok v l) (hlen : l.length ≤ 4096) (hin : ∀ p ∈ l, p.2.length ≤ 1000000) :
    Calls Try.prog 18 #[v] W fun e w' => ∃ v', e = .returned v' ∧ KP.R 69 w' W.heap.size (fun _ => True) v' l ∧ Below W.heap.size W w' := by
  rcases KP_form h with ⟨rfl, rfl⟩ | ⟨g, cap, rfl⟩
  · go_enter Try.func18, Try.ntmps18
    go_wp2
    go_loopg [3, 4] 1 (fun gk v3 v4 w' => v3 = .slice none 0 0 ∧ v4 = .int .i64 0 ∧ Aside0 (Below W.heap.size W w'))
    case atStart => exact ⟨rfl, rfl, ⟨Below.refl _ _⟩⟩
    case round =>
      obtain ⟨rfl, rfl, HB⟩ := hrel
      go_wp2
      go_ret
      exact ⟨_, rfl, Kd.R_nil _ _ _ _ _, HB.out⟩
  have HH := Aside0.mk h
  have HIn := Aside0.mk hin
  obtain ⟨m, hm⟩ : ∃ m, l.length = m := ⟨_, rfl⟩
  rw [hm] at h hlen HH ⊢
  have HM := Aside0.mk hm
  have hmI : (m : Int) ≤ 4096 := by omega
  clear hin h hm
  go_enter Try.func18, Try.ntmps18
  go_wp2
  go_loopg [3, 4] m (fun gk v3 v4 w' => ∃ (i : Nat), i + gk = m ∧ v4 = .int .i64 (i : Int) ∧ Aside0 (KP.R 69 w' W.heap.size (fun _ => True) v3 (l.take i)) ∧ Aside0 (Below W.heap.size W w'))
  case atStart => exact ⟨0, by omega, rfl, ⟨Kd.R_nil _ _ _ _ _⟩, ⟨Below.refl _ _⟩⟩
  case round =>
    obtain ⟨i, hig, rfl, HR, HB⟩ := hrel
    cases gk with
    | zero =>
      have hi : i = m := by omega
      subst hi
      have hi : ¬ ((i : Int) < (i : Int)) := by omega
      have HTk := Aside0.mk (show l.take i = l by rw [← HM.out]; exact List.take_length)
      go_wp2
      go_ret
      exact ⟨_, rfl, by rw [← HTk.out]; exact HR.out, HB.out⟩
    | succ gk =>
      have hiI : (i : Int) < (m : Int) := by omega
      have hil : i < l.length := by have := HM.out; omega
      obtain ⟨p, hp⟩ : ∃ p, l[i]? = some p := ⟨_, List.getElem?_eq_getElem hil⟩
      obtain ⟨A0, c0, hI, ⟨hp0, hp1, hp2⟩, _⟩ := KP_elem (Kd.R_below HH.out HB.out) i (by omega) hp
      have HI := Aside0.mk hI
      have HLt := Aside0.mk (KP_lt (Kd.R_below HH.out HB.out))
      have HTk := Aside0.mk (show l.take (i + 1) = l.take i ++ [p] by rw [List.take_add_one, hp]; rfl)
      have HTl := Aside0.mk (show (l.take i).length ≤ 4096 by rw [List.length_take]; omega)
      have HPl := Aside0.mk (show (([] : List Int).length + p.2.length) * 8 ≤ 140737488355328 by have := HIn.out p (List.mem_of_getElem? hp); rw [List.length_nil]; omega)
      have HGne := Aside0.mk (show some g ≠ u3.ownBlock from fun he => by
        have h1 := KP_lt HH.out
        obtain ⟨inner, ho⟩ := Kd.R_own HR.out
        have := own_base ho g he.symm
        omega)
      clear hI hp hil
      go_wp2_with fail
      try go_step3
      refine start_ (n := 17) (S := fun w' => w'.cell? ⟨g, i * 3, none⟩ = some (.int .u64 (p.1.1 : Int)) ∧ w'.cell? ⟨g, i * 3 + 1, none⟩ = some (.int .u64 (p.1.2 : Int)) ∧ w'.cell? ⟨g, i * 3 + 2, none⟩ = some (.slice A0 p.2.length c0)) (ds := []) #[false, false, false, false, false, false, false, false, false, false, false, false, false, false, false, false, false] (by kernel_rfl) rfl rfl (⟨hp0, hp1, hp2⟩) (fun hHeld => ?_)
      refine with_tabW q18r5tab q18r5bits (fun HT_ HW_ => ?_)
      replace HB := Aside0.mk (below_drew HB.out)
      replace HR := Aside0.mk (show KP.R 69 wr.drew W.heap.size (fun k => k < wr.drew.heap.size) u3 (l.take i) from Kd.R_mono (Kd.R_bound (Kd.R_drewN HR.out 1)) (fun k hk => hk.2.2.1))
      replace HI := Aside0.mk (show (Kd.int .i64).R 3 wr.drew base (fun k => k < wr.drew.heap.size) (.slice A0 p.2.length c0) p.2 from Kd.R_mono (Kd.R_bound (Kd.R_drewN HI.out 1)) (fun k hk => hk.2.2.1))
      replace hp0 : wr.drew.cell? ⟨g, i * 3, none⟩ = some (.int .u64 (p.1.1 : Int)) := hp0
      replace hp1 : wr.drew.cell? ⟨g, i * 3 + 1, none⟩ = some (.int .u64 (p.1.2 : Int)) := hp1
      replace hp2 : wr.drew.cell? ⟨g, i * 3 + 2, none⟩ = some (.slice A0 p.2.length c0) := hp2
      replace HLt : Aside0 (g < wr.drew.heap.size) := HLt
      generalize wr.drew = w1 at HB HR HI HLt hp0 hp1 hp2 hHeld ⊢
      refine pure_ (i := 0) (N := some 11) (v := ?_) (a' := ?_) #[true, false, false, false, false, false, false, false, false, false, false, false, false, false, false, false, false] rfl rfl (any_of HT_.out (by kernel_rfl)) (fun _ _ _ h => h) (Or.inl ⟨by rfl, ?_⟩) ?_ ?_
      rotate_left
      · intro w'
        go_simp
        with_reducible rfl
      rotate_left
      · simp only [Act.put, List.setIfInBounds_toArray, List.set_cons_zero, List.set_cons_succ, i64_w, i32_w]
        rfl
      refine pure_ (i := 1) (N := some 12) (v := ?_) (a' := ?_) #[true, true, false, false, false, false, false, false, false, false, false, false, false, false, false, false, false] rfl rfl (any_of HT_.out (by kernel_rfl)) (fun _ _ _ h => h) (Or.inl ⟨by rfl, ?_⟩) ?_ ?_
      rotate_left
      · intro w'
        go_simp
        with_reducible rfl
      rotate_left
      · simp only [Act.put, List.setIfInBounds_toArray, List.set_cons_zero, List.set_cons_succ, i64_w, i32_w]
        rfl
      refine pure_ (i := 2) (N := some 13) (v := ?_) (a' := ?_) #[true, true, true, false, false, false, false, false, false, false, false, false, false, false, false, false, false] rfl rfl (any_of HT_.out (by kernel_rfl)) (fun _ _ _ h => h) (Or.inl ⟨by rfl, ?_⟩) ?_ ?_
      rotate_left
      · intro w'
        go_simp
        with_reducible rfl
      rotate_left
      · simp only [Act.put, List.setIfInBounds_toArray, List.set_cons_zero, List.set_cons_succ, i64_w, i32_w]
        rfl
      refine pure_ (i := 3) (N := some 14) (v := ?_) (a' := ?_) #[true, true, true, true, false, false, false, false, false, false, false, false, false, false, false, false, false] rfl rfl (any_of HT_.out (by kernel_rfl)) (fun _ _ _ h => h) (Or.inl ⟨by rfl, ?_⟩) ?_ ?_
      rotate_left
      · intro w'
        go_simp
        with_reducible rfl
      rotate_left
      · simp only [Act.put, List.setIfInBounds_toArray, List.set_cons_zero, List.set_cons_succ, i64_w, i32_w]
        rfl
      refine pure_ (i := 4) (N := some 15) (v := ?_) (a' := ?_) #[true, true, true, true, true, false, false, false, false, false, false, false, false, false, false, false, false] rfl rfl (any_of HT_.out (by kernel_rfl)) (fun _ _ _ h => h) (Or.inl ⟨by rfl, ?_⟩) ?_ ?_
      rotate_left
      · intro w'
        go_simp
        with_reducible rfl
      rotate_left
      · simp only [Act.put, List.setIfInBounds_toArray, List.set_cons_zero, List.set_cons_succ, i64_w, i32_w]
        rfl
      refine take_ (i := 5) (N := some 16) (v := ?_) (a' := ?_) #[true, true, true, true, true, true, false, false, false, false, false, false, false, false, false, false, false] rfl rfl (take_ofW HT_.out HW_.out (by kernel_rfl)) (fun _ _ _ h => h) (Or.inl ⟨by rfl, ?_⟩) hHeld ?_ ?_
      rotate_left
      · rintro w' ⟨s0, s1, s2⟩
        go_simp
        with_reducible rfl
      rotate_left
      · simp only [Act.put, List.setIfInBounds_toArray, List.set_cons_zero, List.set_cons_succ, i64_w, i32_w]
        rfl
      refine pure_ (i := 7) (N := some 18) (v := ?_) (a' := ?_) #[true, true, true, true, true, true, false, true, false, false, false, false, false, false, false, false, false] rfl rfl (any_of HT_.out (by kernel_rfl)) (fun _ _ _ h => h) (Or.inl ⟨by rfl, ?_⟩) ?_ ?_
      rotate_left
      · intro w'
        go_simp
        with_reducible rfl
      rotate_left
      · simp only [Act.put, List.setIfInBounds_toArray, List.set_cons_zero, List.set_cons_succ, i64_w, i32_w]
        rfl
      refine pure_ (i := 8) (N := some 19) (v := ?_) (a' := ?_) #[true, true, true, true, true, true, false, true, true, false, false, false, false, false, false, false, false] rfl rfl (any_of HT_.out (by kernel_rfl)) (fun _ _ _ h => h) (Or.inl ⟨by rfl, ?_⟩) ?_ ?_
      rotate_left
      · intro w'
        go_simp
        with_reducible rfl
      rotate_left
      · simp only [Act.put, List.setIfInBounds_toArray, List.set_cons_zero, List.set_cons_succ, i64_w, i32_w]
        rfl
      refine pure_ (i := 9) (N := some 20) (v := ?_) (a' := ?_) #[true, true, true, true, true, true, false, true, true, true, false, false, false, false, false, false, false] rfl rfl (any_of HT_.out (by kernel_rfl)) (fun _ _ _ h => h) (Or.inl ⟨by rfl, ?_⟩) ?_ ?_
      rotate_left
      · intro w'
        go_simp
        with_reducible rfl
      rotate_left
      · simp only [Act.put, List.setIfInBounds_toArray, List.set_cons_zero, List.set_cons_succ, i64_w, i32_w]
        rfl
      refine pure_ (i := 10) (N := some 21) (v := ?_) (a' := ?_) #[true, true, true, true, true, true, false, true, true, true, true, false, false, false, false, false, false] rfl rfl (any_of HT_.out (by kernel_rfl)) (fun _ _ _ h => h) (Or.inl ⟨by rfl, ?_⟩) ?_ ?_
      rotate_left
      · intro w'
        go_simp
        with_reducible rfl
      rotate_left
      · simp only [Act.put, List.setIfInBounds_toArray, List.set_cons_zero, List.set_cons_succ, i64_w, i32_w]
        rfl
      refine take_ (i := 11) (N := some 22) (v := ?_) (a' := ?_) #[true, true, true, true, true, true, false, true, true, true, true, true, false, false, false, false, false] rfl rfl (take_ofW HT_.out HW_.out (by kernel_rfl)) (fun _ _ _ h => h) (Or.inl ⟨by rfl, ?_⟩) hHeld ?_ ?_
      rotate_left
      · rintro w' ⟨s0, s1, s2⟩
        go_simp
        with_reducible rfl
      rotate_left
      · simp only [Act.put, List.setIfInBounds_toArray, List.set_cons_zero, List.set_cons_succ, i64_w, i32_w]
        rfl
      refine one_ (i := 6) (N := some 17) #[true, true, true, true, true, true, true, true, true, true, true, true, false, false, false, false, false] rfl rfl (one_of HT_.out (by kernel_rfl)) (by decide) (fun K hK => ?_)
      refine Kd.R_lit_step (Kd.int .i64) (w0 := W) W.heap.size 3 (by rfl) (N := 17) rfl (xs := ([] : List Int)) (inner := []) (ok := fun k => w1.heap.size ≤ k) (okp := fun k => w1.heap.size ≤ k) (by first | (go_simp; done) | (go_simp; rfl)) (Reps.none _ _) (fun _ hk => hk) (Nat.le_refl _) HB.out HB.out.size (by simp) ?_
      intro v17 w17 ho17 hb17 hg17 _
      replace hp0 := cell_gr hg17 hp0 (by simp)
      replace hp1 := cell_gr hg17 hp1 (by simp)
      replace hp2 := cell_gr hg17 hp2 (by simp)
      replace HR := Aside0.mk (Kd.R_grown HR.out hg17 (fun _ _ => by simp))
      replace HI := Aside0.mk (Kd.R_grown HI.out hg17 (fun _ _ => by simp))
      have HSz := Aside0.mk hg17.size
      have HO17 := Aside0.mk ho17
      have HN17 := Aside0.mk (show ∀ k, k < w1.heap.size → some k ≠ v17.ownBlock from fun k hk he => Nat.not_le_of_lt hk (ho17.1 k he.symm))
      replace HB := Aside0.mk hb17
      clear ho17 hb17 hg17
      refine hK.out _ _ (⟨hp0, hp1, hp2⟩) (fun hHeld => ?_)
      clear hK K
      refine norm_ (a' := ?_) ?_ ?_
      rotate_left
      · show Act.put _ (some 17) _ = _
        simp only [Act.put, List.setIfInBounds_toArray, List.set_cons_zero, List.set_cons_succ, i64_w, i32_w]
        rfl
      refine one_ (i := 12) (N := some 23) #[true, true, true, true, true, true, true, true, true, true, true, true, true, false, false, false, false] rfl rfl (one_of HT_.out (by kernel_rfl)) (by decide) (fun K hK => ?_)
      obtain ⟨A0', c0', e0, hl0, hC0⟩ := Kd.R_reads HI.out
      injection e0 with e0a e0b e0c
      subst e0a; subst e0c
      refine Kd.R_append_rows_step (Kd.int .i64) (w0 := W) W.heap.size (by rfl) (.tmp 17) (.tmp 22) 25 3 (.int .i64 0) 8 rfl Try.underlying25 PPartsSplit.info3 rfl (by decide) (by decide) v17 [] p.2 A0 p.2.length c0 (fun k => w1.heap.size ≤ k) (fun _ => False) rfl rfl HO17.out hC0 (fun _ _ h => h) (fun _ h => h.elim) (fun k hk => Nat.le_trans HSz.out hk) HB.out HB.out.size HPl.out ?_
      intro v23 w23 ho23 hb23 hg23 _
      replace hp0 := cell_gr hg23 hp0 (HN17.out _ HLt.out)
      replace hp1 := cell_gr hg23 hp1 (HN17.out _ HLt.out)
      replace hp2 := cell_gr hg23 hp2 (HN17.out _ HLt.out)
      replace HR := Aside0.mk (Kd.R_grown HR.out hg23 HN17.out)
      rw [List.nil_append] at ho23
      obtain ⟨A23, c23, rfl⟩ := Kd.R_slice ho23
      have HO23 := Aside0.mk (Kd.own_of_R ho23)
      replace HB := Aside0.mk hb23
      clear ho23 hb23 hg23 hC0 hl0 e0b HI HO17 HN17
      refine hK.out _ _ (⟨hp0, hp1, hp2⟩) (fun hHeld => ?_)
      clear hK K
      refine norm_ (a' := ?_) ?_ ?_
      rotate_left
      · show Act.put _ (some 23) _ = _
        simp only [Act.put, List.setIfInBounds_toArray, List.set_cons_zero, List.set_cons_succ, i64_w, i32_w]
        rfl
      refine pure_ (i := 13) (N := some 24) (v := ?_) (a' := ?_) #[true, true, true, true, true, true, true, true, true, true, true, true, true, true, false, false, false] rfl rfl (any_of HT_.out (by kernel_rfl)) (fun _ _ _ h => h) (Or.inl ⟨by rfl, ?_⟩) ?_ ?_
      rotate_left
      · intro w'
        go_simp
        with_reducible rfl
      rotate_left
      · simp only [Act.put, List.setIfInBounds_toArray, List.set_cons_zero, List.set_cons_succ, i64_w, i32_w]
        rfl
      refine one_ (i := 14) (N := some 25) #[true, true, true, true, true, true, true, true, true, true, true, true, true, true, true, false, false] rfl rfl (one_of HT_.out (by kernel_rfl)) (by decide) (fun K hK => ?_)
      have HB5 := Aside0.mk (below_alloc (Below.refl w23.heap.size w23) (.cells #[.int .u64 (p.1.1 : Int), .int .u64 (p.1.2 : Int), .slice A23 p.2.length c23] 69))
      refine value_ (w1 := ?_) (v := ?_) (by rfl) rfl ?_ ?_
      rotate_left 2
      · go_simp
        (refine ⟨?_, ?_⟩ <;> rfl)
      refine hK.out _ _ (⟨(HB5.out.cell (World.block_lt_of_cell? _ _ hp0)).trans hp0, (HB5.out.cell (World.block_lt_of_cell? _ _ hp1)).trans hp1, (HB5.out.cell (World.block_lt_of_cell? _ _ hp2)).trans hp2⟩) (fun hHeld => ?_)
      clear hK K
      refine norm_ (a' := ?_) ?_ ?_
      rotate_left
      · show Act.put _ (some 25) _ = _
        simp only [Act.put, List.setIfInBounds_toArray, List.set_cons_zero, List.set_cons_succ, i64_w, i32_w]
        rfl
      refine one_ (i := 15) (N := some 26) #[true, true, true, true, true, true, true, true, true, true, true, true, true, true, true, true, false] rfl rfl (one_of HT_.out (by kernel_rfl)) (by decide) (fun K hK => ?_)
      refine app_part_step W.heap.size (Kd.R_mono HR.out (fun _ _ => trivial)) HO23.out HTl.out HB.out.size (by rfl) (.tmp 11) (.tmp 25) rfl rfl rfl ?_
      intro v26 w26 hr26 hg26 hb26
      have hne : some g ≠ u3.ownBlock := HGne.out
      replace hp0 := cell_gr hg26 hp0 hne
      replace hp1 := cell_gr hg26 hp1 hne
      replace hp2 := cell_gr hg26 hp2 hne
      have HR6 := Aside0.mk hr26
      have HB6 := Aside0.mk (HB.out.trans hb26)
      clear hr26 hg26 hb26 hne
      refine hK.out _ _ (⟨hp0, hp1, hp2⟩) (fun hHeld => ?_)
      clear hK K
      refine norm_ (a' := ?_) ?_ ?_
      rotate_left
      · show Act.put _ (some 26) _ = _
        simp only [Act.put, List.setIfInBounds_toArray, List.set_cons_zero, List.set_cons_succ, i64_w, i32_w]
        rfl
      refine pure_ (i := 16) (N := some 3) (v := ?_) (a' := ?_) #[true, true, true, true, true, true, true, true, true, true, true, true, true, true, true, true, true] rfl rfl (any_of HT_.out (by kernel_rfl)) (fun _ _ _ h => h) (Or.inl ⟨by rfl, ?_⟩) ?_ ?_
      rotate_left
      · intro w'
        go_simp
        with_reducible rfl
      rotate_left
      · simp only [Act.put, List.setIfInBounds_toArray, List.set_cons_zero, List.set_cons_succ, i64_w, i32_w]
        rfl
      refine done_ (done_of HT_.out (by kernel_rfl)) ?_
      go_wp2
      go_roundg gk
      case measure => omega
      case rel => exact ⟨i + 1, by omega, by go_num, ⟨by rw [HTk.out]; exact HR6.out⟩, HB6⟩
end
section
variable {W : World} {base base2 : Nat} {ok ok2 : Nat → Prop} {v v2 : Value} {l l2 : List Part}
theorem KP_slice {e : TypeId} {w : World} {base : Nat} {ok : Nat → Prop} {v : Value} {xs : List Part} (h : KP.R e w base ok v xs) : ∃ A c, v = .slice A xs.length c ∧ (0 < xs.length → ∃ g, A = some ⟨g, 0, none⟩) := by
  rcases KP_form h with ⟨rfl, rfl⟩ | ⟨g, cap, rfl⟩
  · exact ⟨none, 0, rfl, fun h => absurd h (Nat.lt_irrefl _)⟩
  · exact ⟨_, cap, rfl, fun _ => ⟨g, rfl⟩⟩
set_option maxHeartbeats 2000000 in
set_option maxRecDepth 100000 in
theorem same_parts (h : KP.R 69 W base ok v l) (h2 : KP.R 69 W base2 ok2 v2 l2) (hlen : l.length ≤ 4096) :
    Calls Try.prog 17 #[v, v2] W fun e w' => e = .returned (.bool (decide (l = l2))) ∧ Drawn0 W w' := by
  obtain ⟨A, c, rfl, hA⟩ := KP_slice h
  obtain ⟨A', c', rfl, hA'⟩ := KP_slice h2
  have HH := Aside0.mk h
  have HH2 := Aside0.mk h2
  by_cases hll : l.length = l2.length
  · rw [← hll] at h2 HH2 hA' ⊢
    have HAs := Aside0.mk (And.intro hA hA')
    have HLL := Aside0.mk hll
    clear h h2 hA hA' hll
    obtain ⟨m, hm⟩ : ∃ m, l.length = m := ⟨_, rfl⟩
    rw [hm] at hlen HH HH2 HAs ⊢
    have HM := Aside0.mk hm
    have hmI : (m : Int) ≤ 4096 := by omega
    clear hm
    go_enter Try.func17, Try.ntmps17
    go_wp2
    go_loopg [5] m (fun gk v5 w' => ∃ (i : Nat), i + gk = m ∧ v5 = .int .i64 (i : Int) ∧ Aside0 (l.take i = l2.take i) ∧ Aside0 (Drawn0 W w'))
    case atStart => exact ⟨0, by omega, rfl, ⟨rfl⟩, ⟨⟨0, rfl⟩⟩⟩
    case round =>
      obtain ⟨i, hig, rfl, HT, HD⟩ := hrel
      cases gk with
      | zero =>
        have hi : i = m := by omega
        subst hi
        have hi : ¬ ((i : Int) < (i : Int)) := by omega
        have HEq := Aside0.mk (show l = l2 by
          have := HT.out
          rw [List.take_of_length_le (Nat.le_of_eq HM.out), List.take_of_length_le (Nat.le_of_eq (HLL.out.symm.trans HM.out))] at this
          exact this)
        go_wp2
        go_ret
        exact ⟨by rw [decide_eq_true HEq.out]; rfl, HD.out⟩
      | succ gk =>
        have hiI : (i : Int) < (m : Int) := by omega
        have hil : i < l.length := by have := HM.out; omega
        have hil2 : i < l2.length := by have := HLL.out; omega
        obtain ⟨p, hp⟩ : ∃ p, l[i]? = some p := ⟨_, List.getElem?_eq_getElem hil⟩
        obtain ⟨q, hq⟩ : ∃ q, l2[i]? = some q := ⟨_, List.getElem?_eq_getElem hil2⟩
        obtain ⟨g, hg⟩ := HAs.out.1 (by omega)
        obtain ⟨g2, hg2⟩ := HAs.out.2 (by omega)
        subst hg; subst hg2
        obtain ⟨nw, hnw⟩ := HD.out
        subst hnw
        obtain ⟨A0, c0, hI, ⟨hp0, hp1, hp2⟩, _⟩ := KP_elem (Kd.R_drewN HH.out nw) i (by omega) hp
        obtain ⟨A2, c2, hI2, ⟨hq0, hq1, hq2⟩, _⟩ := KP_elem (Kd.R_drewN HH2.out nw) i (by omega) hq
        obtain ⟨A0', c0', e0, hl0, hC0⟩ := Kd.R_reads hI
        injection e0 with e0a e0b e0c
        subst e0a; subst e0c
        obtain ⟨A2', c2', e2, hl2, hC2⟩ := Kd.R_reads hI2
        injection e2 with e2a e2b e2c
        subst e2a; subst e2c
        have HCall := Aside0.mk (same04_calls (W := (W.drewN nw).drew) hC0 hl0 hC2 hl2)
        have HNx := Aside0.mk (show p = q → l.take (i + 1) = l2.take (i + 1) from fun e => by rw [List.take_add_one, List.take_add_one, hp, hq, HT.out, e])
        have HNe := Aside0.mk (show p ≠ q → decide (l = l2) = false from fun hne => decide_eq_false (fun e => hne (by rw [e, hq] at hp; injection hp with hp; exact hp.symm)))
        have hneq := neq34 p.1 q.1
        clear hI hI2 hp hq hil hil2 hC0 hC2 hl0 hl2 e0b e2b
        by_cases hs : p.1 = q.1
        · rw [decide_eq_true hs] at hneq
          cases hin : decide (p.2 = q.2) with
          | true =>
            have HNx2 := Aside0.mk (HNx.out (Prod.ext hs (of_decide_eq_true hin)))
            clear hs HNx HNe
            go_wp2_with fail
            try go_step3
            refine start_ (n := 25) (S := fun w' => (w'.cell? ⟨g, i * 3, none⟩ = some (.int .u64 (p.1.1 : Int)) ∧ w'.cell? ⟨g, i * 3 + 1, none⟩ = some (.int .u64 (p.1.2 : Int)) ∧ w'.cell? ⟨g, i * 3 + 2, none⟩ = some (.slice A0 p.2.length c0)) ∧ w'.cell? ⟨g2, i * 3, none⟩ = some (.int .u64 (q.1.1 : Int)) ∧ w'.cell? ⟨g2, i * 3 + 1, none⟩ = some (.int .u64 (q.1.2 : Int)) ∧ w'.cell? ⟨g2, i * 3 + 2, none⟩ = some (.slice A2 q.2.length c2)) (ds := []) #[false, false, false, false, false, false, false, false, false, false, false, false, false, false, false, false, false, false, false, false, false, false, false, false, false] (by kernel_rfl) rfl rfl (⟨⟨hp0, hp1, hp2⟩, hq0, hq1, hq2⟩) (fun hHeld => ?_)
            refine with_tabW q17r6tab q17r6bits (fun HT_ HW_ => ?_)
            refine pure_ (i := 0) (N := some 17) (v := ?_) (a' := ?_) #[true, false, false, false, false, false, false, false, false, false, false, false, false, false, false, false, false, false, false, false, false, false, false, false, false] rfl rfl (any_of HT_.out (by kernel_rfl)) (fun _ _ _ h => h) (Or.inl ⟨by rfl, ?_⟩) ?_ ?_
            rotate_left
            · intro w'
              go_simp
              with_reducible rfl
            rotate_left
            · simp only [Act.put, List.setIfInBounds_toArray, List.set_cons_zero, List.set_cons_succ, i64_w, i32_w]
              rfl
            refine pure_ (i := 1) (N := some 18) (v := ?_) (a' := ?_) #[true, true, false, false, false, false, false, false, false, false, false, false, false, false, false, false, false, false, false, false, false, false, false, false, false] rfl rfl (any_of HT_.out (by kernel_rfl)) (fun _ _ _ h => h) (Or.inl ⟨by rfl, ?_⟩) ?_ ?_
            rotate_left
            · intro w'
              go_simp
              with_reducible rfl
            rotate_left
            · simp only [Act.put, List.setIfInBounds_toArray, List.set_cons_zero, List.set_cons_succ, i64_w, i32_w]
              rfl
            refine pure_ (i := 2) (N := some 19) (v := ?_) (a' := ?_) #[true, true, true, false, false, false, false, false, false, false, false, false, false, false, false, false, false, false, false, false, false, false, false, false, false] rfl rfl (any_of HT_.out (by kernel_rfl)) (fun _ _ _ h => h) (Or.inl ⟨by rfl, ?_⟩) ?_ ?_
            rotate_left
            · intro w'
              go_simp
              with_reducible rfl
            rotate_left
            · simp only [Act.put, List.setIfInBounds_toArray, List.set_cons_zero, List.set_cons_succ, i64_w, i32_w]
              rfl
            refine pure_ (i := 3) (N := some 20) (v := ?_) (a' := ?_) #[true, true, true, true, false, false, false, false, false, false, false, false, false, false, false, false, false, false, false, false, false, false, false, false, false] rfl rfl (any_of HT_.out (by kernel_rfl)) (fun _ _ _ h => h) (Or.inl ⟨by rfl, ?_⟩) ?_ ?_
            rotate_left
            · intro w'
              go_simp
              with_reducible rfl
            rotate_left
            · simp only [Act.put, List.setIfInBounds_toArray, List.set_cons_zero, List.set_cons_succ, i64_w, i32_w]
              rfl
            refine take_ (i := 4) (N := some 21) (v := ?_) (a' := ?_) #[true, true, true, true, true, false, false, false, false, false, false, false, false, false, false, false, false, false, false, false, false, false, false, false, false] rfl rfl (take_ofW HT_.out HW_.out (by kernel_rfl)) (fun _ _ _ h => h) (Or.inl ⟨by rfl, ?_⟩) hHeld ?_ ?_
            rotate_left
            · rintro w' ⟨⟨s0, s1, s2⟩, s3, s4, s5⟩
              go_simp
              with_reducible rfl
            rotate_left
            · simp only [Act.put, List.setIfInBounds_toArray, List.set_cons_zero, List.set_cons_succ, i64_w, i32_w]
              rfl
            refine pure_ (i := 5) (N := some 22) (v := ?_) (a' := ?_) #[true, true, true, true, true, true, false, false, false, false, false, false, false, false, false, false, false, false, false, false, false, false, false, false, false] rfl rfl (any_of HT_.out (by kernel_rfl)) (fun _ _ _ h => h) (Or.inl ⟨by rfl, ?_⟩) ?_ ?_
            rotate_left
            · intro w'
              go_simp
              with_reducible rfl
            rotate_left
            · simp only [Act.put, List.setIfInBounds_toArray, List.set_cons_zero, List.set_cons_succ, i64_w, i32_w]
              rfl
            refine pure_ (i := 6) (N := some 23) (v := ?_) (a' := ?_) #[true, true, true, true, true, true, true, false, false, false, false, false, false, false, false, false, false, false, false, false, false, false, false, false, false] rfl rfl (any_of HT_.out (by kernel_rfl)) (fun _ _ _ h => h) (Or.inl ⟨by rfl, ?_⟩) ?_ ?_
            rotate_left
            · intro w'
              go_simp
              with_reducible rfl
            rotate_left
            · simp only [Act.put, List.setIfInBounds_toArray, List.set_cons_zero, List.set_cons_succ, i64_w, i32_w]
              rfl
            refine pure_ (i := 7) (N := some 24) (v := ?_) (a' := ?_) #[true, true, true, true, true, true, true, true, false, false, false, false, false, false, false, false, false, false, false, false, false, false, false, false, false] rfl rfl (any_of HT_.out (by kernel_rfl)) (fun _ _ _ h => h) (Or.inl ⟨by rfl, ?_⟩) ?_ ?_
            rotate_left
            · intro w'
              go_simp
              with_reducible rfl
            rotate_left
            · simp only [Act.put, List.setIfInBounds_toArray, List.set_cons_zero, List.set_cons_succ, i64_w, i32_w]
              rfl
            refine pure_ (i := 8) (N := some 25) (v := ?_) (a' := ?_) #[true, true, true, true, true, true, true, true, true, false, false, false, false, false, false, false, false, false, false, false, false, false, false, false, false] rfl rfl (any_of HT_.out (by kernel_rfl)) (fun _ _ _ h => h) (Or.inl ⟨by rfl, ?_⟩) ?_ ?_
            rotate_left
            · intro w'
              go_simp
              with_reducible rfl
            rotate_left
            · simp only [Act.put, List.setIfInBounds_toArray, List.set_cons_zero, List.set_cons_succ, i64_w, i32_w]
              rfl
            refine take_ (i := 9) (N := some 26) (v := ?_) (a' := ?_) #[true, true, true, true, true, true, true, true, true, true, false, false, false, false, false, false, false, false, false, false, false, false, false, false, false] rfl rfl (take_ofW HT_.out HW_.out (by kernel_rfl)) (fun _ _ _ h => h) (Or.inl ⟨by rfl, ?_⟩) hHeld ?_ ?_
            rotate_left
            · rintro w' ⟨⟨s0, s1, s2⟩, s3, s4, s5⟩
              go_simp
              with_reducible rfl
            rotate_left
            · simp only [Act.put, List.setIfInBounds_toArray, List.set_cons_zero, List.set_cons_succ, i64_w, i32_w]
              rfl
            refine pure_ (i := 10) (N := some 27) (v := ?_) (a' := ?_) #[true, true, true, true, true, true, true, true, true, true, true, false, false, false, false, false, false, false, false, false, false, false, false, false, false] rfl rfl (any_of HT_.out (by kernel_rfl)) (fun _ _ _ h => h) (Or.inl ⟨by rfl, ?_⟩) ?_ ?_
            rotate_left
            · intro w'
              go_simp
              with_reducible rfl
            rotate_left
            · simp only [Act.put, List.setIfInBounds_toArray, List.set_cons_zero, List.set_cons_succ, i64_w, i32_w]
              rfl
            refine pure_ (i := 11) (N := some 28) (v := ?_) (a' := ?_) #[true, true, true, true, true, true, true, true, true, true, true, true, false, false, false, false, false, false, false, false, false, false, false, false, false] rfl rfl (any_of HT_.out (by kernel_rfl)) (fun _ _ _ h => h) (Or.inl ⟨by rfl, ?_⟩) ?_ ?_
            rotate_left
            · intro w'
              go_simp
              with_reducible rfl
            rotate_left
            · simp only [Act.put, List.setIfInBounds_toArray, List.set_cons_zero, List.set_cons_succ, i64_w, i32_w]
              rfl
            refine pure_ (i := 12) (N := some 29) (v := ?_) (a' := ?_) #[true, true, true, true, true, true, true, true, true, true, true, true, true, false, false, false, false, false, false, false, false, false, false, false, false] rfl rfl (any_of HT_.out (by kernel_rfl)) (fun _ _ _ h => h) (Or.inl ⟨by rfl, ?_⟩) ?_ ?_
            rotate_left
            · intro w'
              go_simp
              with_reducible rfl
            rotate_left
            · simp only [Act.put, List.setIfInBounds_toArray, List.set_cons_zero, List.set_cons_succ, i64_w, i32_w]
              rfl
            refine pure_ (i := 13) (N := some 30) (v := ?_) (a' := ?_) #[true, true, true, true, true, true, true, true, true, true, true, true, true, true, false, false, false, false, false, false, false, false, false, false, false] rfl rfl (any_of HT_.out (by kernel_rfl)) (fun _ _ _ h => h) (Or.inl ⟨by rfl, ?_⟩) ?_ ?_
            rotate_left
            · intro w'
              go_simp
              with_reducible rfl
            rotate_left
            · simp only [Act.put, List.setIfInBounds_toArray, List.set_cons_zero, List.set_cons_succ, i64_w, i32_w]
              rfl
            refine pure_ (i := 14) (N := some 31) (v := ?_) (a' := ?_) #[true, true, true, true, true, true, true, true, true, true, true, true, true, true, true, false, false, false, false, false, false, false, false, false, false] rfl rfl (any_of HT_.out (by kernel_rfl)) (fun _ _ _ h => h) (Or.inl ⟨by rfl, ?_⟩) ?_ ?_
            rotate_left
            · intro w'
              go_simp
              with_reducible rfl
            rotate_left
            · simp only [Act.put, List.setIfInBounds_toArray, List.set_cons_zero, List.set_cons_succ, i64_w, i32_w]
              rfl
            refine pure_ (i := 15) (N := some 32) (v := ?_) (a' := ?_) #[true, true, true, true, true, true, true, true, true, true, true, true, true, true, true, true, false, false, false, false, false, false, false, false, false] rfl rfl (any_of HT_.out (by kernel_rfl)) (fun _ _ _ h => h) (Or.inl ⟨by rfl, ?_⟩) ?_ ?_
            rotate_left
            · intro w'
              go_simp
              with_reducible rfl
            rotate_left
            · simp only [Act.put, List.setIfInBounds_toArray, List.set_cons_zero, List.set_cons_succ, i64_w, i32_w]
              rfl
            refine take_ (i := 16) (N := some 33) (v := ?_) (a' := ?_) #[true, true, true, true, true, true, true, true, true, true, true, true, true, true, true, true, true, false, false, false, false, false, false, false, false] rfl rfl (take_ofW HT_.out HW_.out (by kernel_rfl)) (fun _ _ _ h => h) (Or.inl ⟨by rfl, ?_⟩) hHeld ?_ ?_
            rotate_left
            · rintro w' ⟨⟨s0, s1, s2⟩, s3, s4, s5⟩
              go_simp
              with_reducible rfl
            rotate_left
            · simp only [Act.put, List.setIfInBounds_toArray, List.set_cons_zero, List.set_cons_succ, i64_w, i32_w]
              rfl
            refine pure_ (i := 17) (N := some 34) (v := ?_) (a' := ?_) #[true, true, true, true, true, true, true, true, true, true, true, true, true, true, true, true, true, true, false, false, false, false, false, false, false] rfl rfl (any_of HT_.out (by kernel_rfl)) (fun _ _ _ h => h) (Or.inl ⟨by rfl, ?_⟩) ?_ ?_
            rotate_left
            · intro w'
              go_simp
              with_reducible rfl
            rotate_left
            · simp only [Act.put, List.setIfInBounds_toArray, List.set_cons_zero, List.set_cons_succ, i64_w, i32_w]
              rfl
            refine pure_ (i := 18) (N := some 35) (v := ?_) (a' := ?_) #[true, true, true, true, true, true, true, true, true, true, true, true, true, true, true, true, true, true, true, false, false, false, false, false, false] rfl rfl (any_of HT_.out (by kernel_rfl)) (fun _ _ _ h => h) (Or.inl ⟨by rfl, ?_⟩) ?_ ?_
            rotate_left
            · intro w'
              go_simp
              with_reducible rfl
            rotate_left
            · simp only [Act.put, List.setIfInBounds_toArray, List.set_cons_zero, List.set_cons_succ, i64_w, i32_w]
              rfl
            refine pure_ (i := 19) (N := some 36) (v := ?_) (a' := ?_) #[true, true, true, true, true, true, true, true, true, true, true, true, true, true, true, true, true, true, true, true, false, false, false, false, false] rfl rfl (any_of HT_.out (by kernel_rfl)) (fun _ _ _ h => h) (Or.inl ⟨by rfl, ?_⟩) ?_ ?_
            rotate_left
            · intro w'
              go_simp
              with_reducible rfl
            rotate_left
            · simp only [Act.put, List.setIfInBounds_toArray, List.set_cons_zero, List.set_cons_succ, i64_w, i32_w]
              rfl
            refine pure_ (i := 20) (N := some 37) (v := ?_) (a' := ?_) #[true, true, true, true, true, true, true, true, true, true, true, true, true, true, true, true, true, true, true, true, true, false, false, false, false] rfl rfl (any_of HT_.out (by kernel_rfl)) (fun _ _ _ h => h) (Or.inl ⟨by rfl, ?_⟩) ?_ ?_
            rotate_left
            · intro w'
              go_simp
              with_reducible rfl
            rotate_left
            · simp only [Act.put, List.setIfInBounds_toArray, List.set_cons_zero, List.set_cons_succ, i64_w, i32_w]
              rfl
            refine take_ (i := 21) (N := some 38) (v := ?_) (a' := ?_) #[true, true, true, true, true, true, true, true, true, true, true, true, true, true, true, true, true, true, true, true, true, true, false, false, false] rfl rfl (take_ofW HT_.out HW_.out (by kernel_rfl)) (fun _ _ _ h => h) (Or.inl ⟨by rfl, ?_⟩) hHeld ?_ ?_
            rotate_left
            · rintro w' ⟨⟨s0, s1, s2⟩, s3, s4, s5⟩
              go_simp
              with_reducible rfl
            rotate_left
            · simp only [Act.put, List.setIfInBounds_toArray, List.set_cons_zero, List.set_cons_succ, i64_w, i32_w]
              rfl
            refine one_ (i := 22) (N := some 39) #[true, true, true, true, true, true, true, true, true, true, true, true, true, true, true, true, true, true, true, true, true, true, true, false, false] rfl rfl (one_of HT_.out (by kernel_rfl)) (by decide) (fun K hK => ?_)
            refine goes_ Try.func19 (by kernel_rfl) rfl #[.slice A0 p.2.length c0, .slice A2 q.2.length c2] (by rfl) rfl rfl (by simp only [List.map_toArray, List.map_cons, List.map_nil]; rfl) ?_
            refine (HCall.out).mono ?_
            rintro e_ w_ ⟨rfl, nd, rfl⟩
            refine ⟨_, rfl, ?_⟩
            rw [hin]
            refine hK.out _ _ (⟨⟨hp0, hp1, hp2⟩, hq0, hq1, hq2⟩) (fun hHeld => ?_)
            clear hK K
            refine norm_ (a' := ?_) ?_ ?_
            rotate_left
            · show Act.put _ (some 39) _ = _
              simp only [Act.put, List.setIfInBounds_toArray, List.set_cons_zero, List.set_cons_succ, i64_w, i32_w]
              rfl
            refine pure_ (i := 23) (N := some 40) (v := ?_) (a' := ?_) #[true, true, true, true, true, true, true, true, true, true, true, true, true, true, true, true, true, true, true, true, true, true, true, true, false] rfl rfl (any_of HT_.out (by kernel_rfl)) (fun _ _ _ h => h) (Or.inl ⟨by rfl, ?_⟩) ?_ ?_
            rotate_left
            · intro w'
              go_simp
              with_reducible rfl
            rotate_left
            · simp only [Act.put, List.setIfInBounds_toArray, List.set_cons_zero, List.set_cons_succ, i64_w, i32_w]
              rfl
            refine pure_ (i := 24) (N := some 41) (v := ?_) (a' := ?_) #[true, true, true, true, true, true, true, true, true, true, true, true, true, true, true, true, true, true, true, true, true, true, true, true, true] rfl rfl (any_of HT_.out (by kernel_rfl)) (fun _ _ _ h => h) (Or.inl ⟨by rfl, ?_⟩) ?_ ?_
            rotate_left
            · intro w'
              go_simp
              with_reducible rfl
            rotate_left
            · simp only [Act.put, List.setIfInBounds_toArray, List.set_cons_zero, List.set_cons_succ, i64_w, i32_w]
              rfl
            refine done_ (done_of HT_.out (by kernel_rfl)) ?_
            clear hneq hin
            go_wp2
            go_roundg gk
            case measure => omega
            case rel => exact ⟨i + 1, by omega, by go_num, HNx2, ⟨⟨nw + 1 + nd, by simp [World.drewN, World.drew]; try omega⟩⟩⟩
          | false =>
            have HNe2 := Aside0.mk (HNe.out (fun e => by rw [e, decide_eq_true rfl] at hin; cases hin))
            clear hs HNx HNe
            go_wp2_with fail
            try go_step3
            refine start_ (n := 25) (S := fun w' => (w'.cell? ⟨g, i * 3, none⟩ = some (.int .u64 (p.1.1 : Int)) ∧ w'.cell? ⟨g, i * 3 + 1, none⟩ = some (.int .u64 (p.1.2 : Int)) ∧ w'.cell? ⟨g, i * 3 + 2, none⟩ = some (.slice A0 p.2.length c0)) ∧ w'.cell? ⟨g2, i * 3, none⟩ = some (.int .u64 (q.1.1 : Int)) ∧ w'.cell? ⟨g2, i * 3 + 1, none⟩ = some (.int .u64 (q.1.2 : Int)) ∧ w'.cell? ⟨g2, i * 3 + 2, none⟩ = some (.slice A2 q.2.length c2)) (ds := []) #[false, false, false, false, false, false, false, false, false, false, false, false, false, false, false, false, false, false, false, false, false, false, false, false, false] (by kernel_rfl) rfl rfl (⟨⟨hp0, hp1, hp2⟩, hq0, hq1, hq2⟩) (fun hHeld => ?_)
            refine with_tabW q17r6tab q17r6bits (fun HT_ HW_ => ?_)
            refine pure_ (i := 0) (N := some 17) (v := ?_) (a' := ?_) #[true, false, false, false, false, false, false, false, false, false, false, false, false, false, false, false, false, false, false, false, false, false, false, false, false] rfl rfl (any_of HT_.out (by kernel_rfl)) (fun _ _ _ h => h) (Or.inl ⟨by rfl, ?_⟩) ?_ ?_
            rotate_left
            · intro w'
              go_simp
              with_reducible rfl
            rotate_left
            · simp only [Act.put, List.setIfInBounds_toArray, List.set_cons_zero, List.set_cons_succ, i64_w, i32_w]
              rfl
            refine pure_ (i := 1) (N := some 18) (v := ?_) (a' := ?_) #[true, true, false, false, false, false, false, false, false, false, false, false, false, false, false, false, false, false, false, false, false, false, false, false, false] rfl rfl (any_of HT_.out (by kernel_rfl)) (fun _ _ _ h => h) (Or.inl ⟨by rfl, ?_⟩) ?_ ?_
            rotate_left
            · intro w'
              go_simp
              with_reducible rfl
            rotate_left
            · simp only [Act.put, List.setIfInBounds_toArray, List.set_cons_zero, List.set_cons_succ, i64_w, i32_w]
              rfl
            refine pure_ (i := 2) (N := some 19) (v := ?_) (a' := ?_) #[true, true, true, false, false, false, false, false, false, false, false, false, false, false, false, false, false, false, false, false, false, false, false, false, false] rfl rfl (any_of HT_.out (by kernel_rfl)) (fun _ _ _ h => h) (Or.inl ⟨by rfl, ?_⟩) ?_ ?_
            rotate_left
            · intro w'
              go_simp
              with_reducible rfl
            rotate_left
            · simp only [Act.put, List.setIfInBounds_toArray, List.set_cons_zero, List.set_cons_succ, i64_w, i32_w]
              rfl
            refine pure_ (i := 3) (N := some 20) (v := ?_) (a' := ?_) #[true, true, true, true, false, false, false, false, false, false, false, false, false, false, false, false, false, false, false, false, false, false, false, false, false] rfl rfl (any_of HT_.out (by kernel_rfl)) (fun _ _ _ h => h) (Or.inl ⟨by rfl, ?_⟩) ?_ ?_
            rotate_left
            · intro w'
              go_simp
              with_reducible rfl
            rotate_left
            · simp only [Act.put, List.setIfInBounds_toArray, List.set_cons_zero, List.set_cons_succ, i64_w, i32_w]
              rfl
            refine take_ (i := 4) (N := some 21) (v := ?_) (a' := ?_) #[true, true, true, true, true, false, false, false, false, false, false, false, false, false, false, false, false, false, false, false, false, false, false, false, false] rfl rfl (take_ofW HT_.out HW_.out (by kernel_rfl)) (fun _ _ _ h => h) (Or.inl ⟨by rfl, ?_⟩) hHeld ?_ ?_
            rotate_left
            · rintro w' ⟨⟨s0, s1, s2⟩, s3, s4, s5⟩
              go_simp
              with_reducible rfl
            rotate_left
            · simp only [Act.put, List.setIfInBounds_toArray, List.set_cons_zero, List.set_cons_succ, i64_w, i32_w]
              rfl
            refine pure_ (i := 5) (N := some 22) (v := ?_) (a' := ?_) #[true, true, true, true, true, true, false, false, false, false, false, false, false, false, false, false, false, false, false, false, false, false, false, false, false] rfl rfl (any_of HT_.out (by kernel_rfl)) (fun _ _ _ h => h) (Or.inl ⟨by rfl, ?_⟩) ?_ ?_
            rotate_left
            · intro w'
              go_simp
              with_reducible rfl
            rotate_left
            · simp only [Act.put, List.setIfInBounds_toArray, List.set_cons_zero, List.set_cons_succ, i64_w, i32_w]
              rfl
            refine pure_ (i := 6) (N := some 23) (v := ?_) (a' := ?_) #[true, true, true, true, true, true, true, false, false, false, false, false, false, false, false, false, false, false, false, false, false, false, false, false, false] rfl rfl (any_of HT_.out (by kernel_rfl)) (fun _ _ _ h => h) (Or.inl ⟨by rfl, ?_⟩) ?_ ?_
            rotate_left
            · intro w'
              go_simp
              with_reducible rfl
            rotate_left
            · simp only [Act.put, List.setIfInBounds_toArray, List.set_cons_zero, List.set_cons_succ, i64_w, i32_w]
              rfl
            refine pure_ (i := 7) (N := some 24) (v := ?_) (a' := ?_) #[true, true, true, true, true, true, true, true, false, false, false, false, false, false, false, false, false, false, false, false, false, false, false, false, false] rfl rfl (any_of HT_.out (by kernel_rfl)) (fun _ _ _ h => h) (Or.inl ⟨by rfl, ?_⟩) ?_ ?_
            rotate_left
            · intro w'
              go_simp
              with_reducible rfl
            rotate_left
            · simp only [Act.put, List.setIfInBounds_toArray, List.set_cons_zero, List.set_cons_succ, i64_w, i32_w]
              rfl
            refine pure_ (i := 8) (N := some 25) (v := ?_) (a' := ?_) #[true, true, true, true, true, true, true, true, true, false, false, false, false, false, false, false, false, false, false, false, false, false, false, false, false] rfl rfl (any_of HT_.out (by kernel_rfl)) (fun _ _ _ h => h) (Or.inl ⟨by rfl, ?_⟩) ?_ ?_
            rotate_left
            · intro w'
              go_simp
              with_reducible rfl
            rotate_left
            · simp only [Act.put, List.setIfInBounds_toArray, List.set_cons_zero, List.set_cons_succ, i64_w, i32_w]
              rfl
            refine take_ (i := 9) (N := some 26) (v := ?_) (a' := ?_) #[true, true, true, true, true, true, true, true, true, true, false, false, false, false, false, false, false, false, false, false, false, false, false, false, false] rfl rfl (take_ofW HT_.out HW_.out (by kernel_rfl)) (fun _ _ _ h => h) (Or.inl ⟨by rfl, ?_⟩) hHeld ?_ ?_
            rotate_left
            · rintro w' ⟨⟨s0, s1, s2⟩, s3, s4, s5⟩
              go_simp
              with_reducible rfl
            rotate_left
            · simp only [Act.put, List.setIfInBounds_toArray, List.set_cons_zero, List.set_cons_succ, i64_w, i32_w]
              rfl
            refine pure_ (i := 10) (N := some 27) (v := ?_) (a' := ?_) #[true, true, true, true, true, true, true, true, true, true, true, false, false, false, false, false, false, false, false, false, false, false, false, false, false] rfl rfl (any_of HT_.out (by kernel_rfl)) (fun _ _ _ h => h) (Or.inl ⟨by rfl, ?_⟩) ?_ ?_
            rotate_left
            · intro w'
              go_simp
              with_reducible rfl
            rotate_left
            · simp only [Act.put, List.setIfInBounds_toArray, List.set_cons_zero, List.set_cons_succ, i64_w, i32_w]
              rfl
            refine pure_ (i := 11) (N := some 28) (v := ?_) (a' := ?_) #[true, true, true, true, true, true, true, true, true, true, true, true, false, false, false, false, false, false, false, false, false, false, false, false, false] rfl rfl (any_of HT_.out (by kernel_rfl)) (fun _ _ _ h => h) (Or.inl ⟨by rfl, ?_⟩) ?_ ?_
            rotate_left
            · intro w'
              go_simp
              with_reducible rfl
            rotate_left
            · simp only [Act.put, List.setIfInBounds_toArray, List.set_cons_zero, List.set_cons_succ, i64_w, i32_w]
              rfl
            refine pure_ (i := 12) (N := some 29) (v := ?_) (a' := ?_) #[true, true, true, true, true, true, true, true, true, true, true, true, true, false, false, false, false, false, false, false, false, false, false, false, false] rfl rfl (any_of HT_.out (by kernel_rfl)) (fun _ _ _ h => h) (Or.inl ⟨by rfl, ?_⟩) ?_ ?_
            rotate_left
            · intro w'
              go_simp
              with_reducible rfl
            rotate_left
            · simp only [Act.put, List.setIfInBounds_toArray, List.set_cons_zero, List.set_cons_succ, i64_w, i32_w]
              rfl
            refine pure_ (i := 13) (N := some 30) (v := ?_) (a' := ?_) #[true, true, true, true, true, true, true, true, true, true, true, true, true, true, false, false, false, false, false, false, false, false, false, false, false] rfl rfl (any_of HT_.out (by kernel_rfl)) (fun _ _ _ h => h) (Or.inl ⟨by rfl, ?_⟩) ?_ ?_
            rotate_left
            · intro w'
              go_simp
              with_reducible rfl
            rotate_left
            · simp only [Act.put, List.setIfInBounds_toArray, List.set_cons_zero, List.set_cons_succ, i64_w, i32_w]
              rfl
            refine pure_ (i := 14) (N := some 31) (v := ?_) (a' := ?_) #[true, true, true, true, true, true, true, true, true, true, true, true, true, true, true, false, false, false, false, false, false, false, false, false, false] rfl rfl (any_of HT_.out (by kernel_rfl)) (fun _ _ _ h => h) (Or.inl ⟨by rfl, ?_⟩) ?_ ?_
            rotate_left
            · intro w'
              go_simp
              with_reducible rfl
            rotate_left
            · simp only [Act.put, List.setIfInBounds_toArray, List.set_cons_zero, List.set_cons_succ, i64_w, i32_w]
              rfl
            refine pure_ (i := 15) (N := some 32) (v := ?_) (a' := ?_) #[true, true, true, true, true, true, true, true, true, true, true, true, true, true, true, true, false, false, false, false, false, false, false, false, false] rfl rfl (any_of HT_.out (by kernel_rfl)) (fun _ _ _ h => h) (Or.inl ⟨by rfl, ?_⟩) ?_ ?_
            rotate_left
            · intro w'
              go_simp
              with_reducible rfl
            rotate_left
            · simp only [Act.put, List.setIfInBounds_toArray, List.set_cons_zero, List.set_cons_succ, i64_w, i32_w]
              rfl
            refine take_ (i := 16) (N := some 33) (v := ?_) (a' := ?_) #[true, true, true, true, true, true, true, true, true, true, true, true, true, true, true, true, true, false, false, false, false, false, false, false, false] rfl rfl (take_ofW HT_.out HW_.out (by kernel_rfl)) (fun _ _ _ h => h) (Or.inl ⟨by rfl, ?_⟩) hHeld ?_ ?_
            rotate_left
            · rintro w' ⟨⟨s0, s1, s2⟩, s3, s4, s5⟩
              go_simp
              with_reducible rfl
            rotate_left
            · simp only [Act.put, List.setIfInBounds_toArray, List.set_cons_zero, List.set_cons_succ, i64_w, i32_w]
              rfl
            refine pure_ (i := 17) (N := some 34) (v := ?_) (a' := ?_) #[true, true, true, true, true, true, true, true, true, true, true, true, true, true, true, true, true, true, false, false, false, false, false, false, false] rfl rfl (any_of HT_.out (by kernel_rfl)) (fun _ _ _ h => h) (Or.inl ⟨by rfl, ?_⟩) ?_ ?_
            rotate_left
            · intro w'
              go_simp
              with_reducible rfl
            rotate_left
            · simp only [Act.put, List.setIfInBounds_toArray, List.set_cons_zero, List.set_cons_succ, i64_w, i32_w]
              rfl
            refine pure_ (i := 18) (N := some 35) (v := ?_) (a' := ?_) #[true, true, true, true, true, true, true, true, true, true, true, true, true, true, true, true, true, true, true, false, false, false, false, false, false] rfl rfl (any_of HT_.out (by kernel_rfl)) (fun _ _ _ h => h) (Or.inl ⟨by rfl, ?_⟩) ?_ ?_
            rotate_left
            · intro w'
              go_simp
              with_reducible rfl
            rotate_left
            · simp only [Act.put, List.setIfInBounds_toArray, List.set_cons_zero, List.set_cons_succ, i64_w, i32_w]
              rfl
            refine pure_ (i := 19) (N := some 36) (v := ?_) (a' := ?_) #[true, true, true, true, true, true, true, true, true, true, true, true, true, true, true, true, true, true, true, true, false, false, false, false, false] rfl rfl (any_of HT_.out (by kernel_rfl)) (fun _ _ _ h => h) (Or.inl ⟨by rfl, ?_⟩) ?_ ?_
            rotate_left
            · intro w'
              go_simp
              with_reducible rfl
            rotate_left
            · simp only [Act.put, List.setIfInBounds_toArray, List.set_cons_zero, List.set_cons_succ, i64_w, i32_w]
              rfl
            refine pure_ (i := 20) (N := some 37) (v := ?_) (a' := ?_) #[true, true, true, true, true, true, true, true, true, true, true, true, true, true, true, true, true, true, true, true, true, false, false, false, false] rfl rfl (any_of HT_.out (by kernel_rfl)) (fun _ _ _ h => h) (Or.inl ⟨by rfl, ?_⟩) ?_ ?_
            rotate_left
            · intro w'
              go_simp
              with_reducible rfl
            rotate_left
            · simp only [Act.put, List.setIfInBounds_toArray, List.set_cons_zero, List.set_cons_succ, i64_w, i32_w]
              rfl
            refine take_ (i := 21) (N := some 38) (v := ?_) (a' := ?_) #[true, true, true, true, true, true, true, true, true, true, true, true, true, true, true, true, true, true, true, true, true, true, false, false, false] rfl rfl (take_ofW HT_.out HW_.out (by kernel_rfl)) (fun _ _ _ h => h) (Or.inl ⟨by rfl, ?_⟩) hHeld ?_ ?_
            rotate_left
            · rintro w' ⟨⟨s0, s1, s2⟩, s3, s4, s5⟩
              go_simp
              with_reducible rfl
            rotate_left
            · simp only [Act.put, List.setIfInBounds_toArray, List.set_cons_zero, List.set_cons_succ, i64_w, i32_w]
              rfl
            refine one_ (i := 22) (N := some 39) #[true, true, true, true, true, true, true, true, true, true, true, true, true, true, true, true, true, true, true, true, true, true, true, false, false] rfl rfl (one_of HT_.out (by kernel_rfl)) (by decide) (fun K hK => ?_)
            refine goes_ Try.func19 (by kernel_rfl) rfl #[.slice A0 p.2.length c0, .slice A2 q.2.length c2] (by rfl) rfl rfl (by simp only [List.map_toArray, List.map_cons, List.map_nil]; rfl) ?_
            refine (HCall.out).mono ?_
            rintro e_ w_ ⟨rfl, nd, rfl⟩
            refine ⟨_, rfl, ?_⟩
            rw [hin]
            refine hK.out _ _ (⟨⟨hp0, hp1, hp2⟩, hq0, hq1, hq2⟩) (fun hHeld => ?_)
            clear hK K
            refine norm_ (a' := ?_) ?_ ?_
            rotate_left
            · show Act.put _ (some 39) _ = _
              simp only [Act.put, List.setIfInBounds_toArray, List.set_cons_zero, List.set_cons_succ, i64_w, i32_w]
              rfl
            refine pure_ (i := 23) (N := some 40) (v := ?_) (a' := ?_) #[true, true, true, true, true, true, true, true, true, true, true, true, true, true, true, true, true, true, true, true, true, true, true, true, false] rfl rfl (any_of HT_.out (by kernel_rfl)) (fun _ _ _ h => h) (Or.inl ⟨by rfl, ?_⟩) ?_ ?_
            rotate_left
            · intro w'
              go_simp
              with_reducible rfl
            rotate_left
            · simp only [Act.put, List.setIfInBounds_toArray, List.set_cons_zero, List.set_cons_succ, i64_w, i32_w]
              rfl
            refine pure_ (i := 24) (N := some 41) (v := ?_) (a' := ?_) #[true, true, true, true, true, true, true, true, true, true, true, true, true, true, true, true, true, true, true, true, true, true, true, true, true] rfl rfl (any_of HT_.out (by kernel_rfl)) (fun _ _ _ h => h) (Or.inl ⟨by rfl, ?_⟩) ?_ ?_
            rotate_left
            · intro w'
              go_simp
              with_reducible rfl
            rotate_left
            · simp only [Act.put, List.setIfInBounds_toArray, List.set_cons_zero, List.set_cons_succ, i64_w, i32_w]
              rfl
            refine done_ (done_of HT_.out (by kernel_rfl)) ?_
            clear hneq hin
            go_wp2
            go_ret
            exact ⟨by rw [HNe2.out]; rfl, ⟨nw + 1 + nd, by simp [World.drewN, World.drew]; try omega⟩⟩
        · rw [decide_eq_false hs] at hneq
          have HNe2 := Aside0.mk (HNe.out (fun e => hs (by rw [e])))
          clear hs HNx HNe
          go_wp2_with fail
          try go_step3
          refine start_ (n := 25) (S := fun w' => (w'.cell? ⟨g, i * 3, none⟩ = some (.int .u64 (p.1.1 : Int)) ∧ w'.cell? ⟨g, i * 3 + 1, none⟩ = some (.int .u64 (p.1.2 : Int)) ∧ w'.cell? ⟨g, i * 3 + 2, none⟩ = some (.slice A0 p.2.length c0)) ∧ w'.cell? ⟨g2, i * 3, none⟩ = some (.int .u64 (q.1.1 : Int)) ∧ w'.cell? ⟨g2, i * 3 + 1, none⟩ = some (.int .u64 (q.1.2 : Int)) ∧ w'.cell? ⟨g2, i * 3 + 2, none⟩ = some (.slice A2 q.2.length c2)) (ds := []) #[false, false, false, false, false, false, false, false, false, false, false, false, false, false, false, false, false, false, false, false, false, false, false, false, false] (by kernel_rfl) rfl rfl (⟨⟨hp0, hp1, hp2⟩, hq0, hq1, hq2⟩) (fun hHeld => ?_)
          refine with_tabW q17r6tab q17r6bits (fun HT_ HW_ => ?_)
          refine pure_ (i := 0) (N := some 17) (v := ?_) (a' := ?_) #[true, false, false, false, false, false, false, false, false, false, false, false, false, false, false, false, false, false, false, false, false, false, false, false, false] rfl rfl (any_of HT_.out (by kernel_rfl)) (fun _ _ _ h => h) (Or.inl ⟨by rfl, ?_⟩) ?_ ?_
          rotate_left
          · intro w'
            go_simp
            with_reducible rfl
          rotate_left
          · simp only [Act.put, List.setIfInBounds_toArray, List.set_cons_zero, List.set_cons_succ, i64_w, i32_w]
            rfl
          refine pure_ (i := 1) (N := some 18) (v := ?_) (a' := ?_) #[true, true, false, false, false, false, false, false, false, false, false, false, false, false, false, false, false, false, false, false, false, false, false, false, false] rfl rfl (any_of HT_.out (by kernel_rfl)) (fun _ _ _ h => h) (Or.inl ⟨by rfl, ?_⟩) ?_ ?_
          rotate_left
          · intro w'
            go_simp
            with_reducible rfl
          rotate_left
          · simp only [Act.put, List.setIfInBounds_toArray, List.set_cons_zero, List.set_cons_succ, i64_w, i32_w]
            rfl
          refine pure_ (i := 2) (N := some 19) (v := ?_) (a' := ?_) #[true, true, true, false, false, false, false, false, false, false, false, false, false, false, false, false, false, false, false, false, false, false, false, false, false] rfl rfl (any_of HT_.out (by kernel_rfl)) (fun _ _ _ h => h) (Or.inl ⟨by rfl, ?_⟩) ?_ ?_
          rotate_left
          · intro w'
            go_simp
            with_reducible rfl
          rotate_left
          · simp only [Act.put, List.setIfInBounds_toArray, List.set_cons_zero, List.set_cons_succ, i64_w, i32_w]
            rfl
          refine pure_ (i := 3) (N := some 20) (v := ?_) (a' := ?_) #[true, true, true, true, false, false, false, false, false, false, false, false, false, false, false, false, false, false, false, false, false, false, false, false, false] rfl rfl (any_of HT_.out (by kernel_rfl)) (fun _ _ _ h => h) (Or.inl ⟨by rfl, ?_⟩) ?_ ?_
          rotate_left
          · intro w'
            go_simp
            with_reducible rfl
          rotate_left
          · simp only [Act.put, List.setIfInBounds_toArray, List.set_cons_zero, List.set_cons_succ, i64_w, i32_w]
            rfl
          refine take_ (i := 4) (N := some 21) (v := ?_) (a' := ?_) #[true, true, true, true, true, false, false, false, false, false, false, false, false, false, false, false, false, false, false, false, false, false, false, false, false] rfl rfl (take_ofW HT_.out HW_.out (by kernel_rfl)) (fun _ _ _ h => h) (Or.inl ⟨by rfl, ?_⟩) hHeld ?_ ?_
          rotate_left
          · rintro w' ⟨⟨s0, s1, s2⟩, s3, s4, s5⟩
            go_simp
            with_reducible rfl
          rotate_left
          · simp only [Act.put, List.setIfInBounds_toArray, List.set_cons_zero, List.set_cons_succ, i64_w, i32_w]
            rfl
          refine pure_ (i := 5) (N := some 22) (v := ?_) (a' := ?_) #[true, true, true, true, true, true, false, false, false, false, false, false, false, false, false, false, false, false, false, false, false, false, false, false, false] rfl rfl (any_of HT_.out (by kernel_rfl)) (fun _ _ _ h => h) (Or.inl ⟨by rfl, ?_⟩) ?_ ?_
          rotate_left
          · intro w'
            go_simp
            with_reducible rfl
          rotate_left
          · simp only [Act.put, List.setIfInBounds_toArray, List.set_cons_zero, List.set_cons_succ, i64_w, i32_w]
            rfl
          refine pure_ (i := 6) (N := some 23) (v := ?_) (a' := ?_) #[true, true, true, true, true, true, true, false, false, false, false, false, false, false, false, false, false, false, false, false, false, false, false, false, false] rfl rfl (any_of HT_.out (by kernel_rfl)) (fun _ _ _ h => h) (Or.inl ⟨by rfl, ?_⟩) ?_ ?_
          rotate_left
          · intro w'
            go_simp
            with_reducible rfl
          rotate_left
          · simp only [Act.put, List.setIfInBounds_toArray, List.set_cons_zero, List.set_cons_succ, i64_w, i32_w]
            rfl
          refine pure_ (i := 7) (N := some 24) (v := ?_) (a' := ?_) #[true, true, true, true, true, true, true, true, false, false, false, false, false, false, false, false, false, false, false, false, false, false, false, false, false] rfl rfl (any_of HT_.out (by kernel_rfl)) (fun _ _ _ h => h) (Or.inl ⟨by rfl, ?_⟩) ?_ ?_
          rotate_left
          · intro w'
            go_simp
            with_reducible rfl
          rotate_left
          · simp only [Act.put, List.setIfInBounds_toArray, List.set_cons_zero, List.set_cons_succ, i64_w, i32_w]
            rfl
          refine pure_ (i := 8) (N := some 25) (v := ?_) (a' := ?_) #[true, true, true, true, true, true, true, true, true, false, false, false, false, false, false, false, false, false, false, false, false, false, false, false, false] rfl rfl (any_of HT_.out (by kernel_rfl)) (fun _ _ _ h => h) (Or.inl ⟨by rfl, ?_⟩) ?_ ?_
          rotate_left
          · intro w'
            go_simp
            with_reducible rfl
          rotate_left
          · simp only [Act.put, List.setIfInBounds_toArray, List.set_cons_zero, List.set_cons_succ, i64_w, i32_w]
            rfl
          refine take_ (i := 9) (N := some 26) (v := ?_) (a' := ?_) #[true, true, true, true, true, true, true, true, true, true, false, false, false, false, false, false, false, false, false, false, false, false, false, false, false] rfl rfl (take_ofW HT_.out HW_.out (by kernel_rfl)) (fun _ _ _ h => h) (Or.inl ⟨by rfl, ?_⟩) hHeld ?_ ?_
          rotate_left
          · rintro w' ⟨⟨s0, s1, s2⟩, s3, s4, s5⟩
            go_simp
            with_reducible rfl
          rotate_left
          · simp only [Act.put, List.setIfInBounds_toArray, List.set_cons_zero, List.set_cons_succ, i64_w, i32_w]
            rfl
          refine pure_ (i := 10) (N := some 27) (v := ?_) (a' := ?_) #[true, true, true, true, true, true, true, true, true, true, true, false, false, false, false, false, false, false, false, false, false, false, false, false, false] rfl rfl (any_of HT_.out (by kernel_rfl)) (fun _ _ _ h => h) (Or.inl ⟨by rfl, ?_⟩) ?_ ?_
          rotate_left
          · intro w'
            go_simp
            with_reducible rfl
          rotate_left
          · simp only [Act.put, List.setIfInBounds_toArray, List.set_cons_zero, List.set_cons_succ, i64_w, i32_w]
            rfl
          refine pure_ (i := 11) (N := some 28) (v := ?_) (a' := ?_) #[true, true, true, true, true, true, true, true, true, true, true, true, false, false, false, false, false, false, false, false, false, false, false, false, false] rfl rfl (any_of HT_.out (by kernel_rfl)) (fun _ _ _ h => h) (Or.inl ⟨by rfl, ?_⟩) ?_ ?_
          rotate_left
          · intro w'
            go_simp
            with_reducible rfl
          rotate_left
          · simp only [Act.put, List.setIfInBounds_toArray, List.set_cons_zero, List.set_cons_succ, i64_w, i32_w]
            rfl
          refine pure_ (i := 12) (N := some 29) (v := undef) (a' := ?_) #[true, true, true, true, true, true, true, true, true, true, true, true, true, false, false, false, false, false, false, false, false, false, false, false, false] rfl rfl (any_of HT_.out (by kernel_rfl)) (fun _ _ _ h => h) (Or.inr ⟨by rfl, rfl⟩) ?_ ?_
          rotate_left
          · simp only [Act.put, List.setIfInBounds_toArray, List.set_cons_zero, List.set_cons_succ, i64_w, i32_w]
            rfl
          refine pure_ (i := 13) (N := some 30) (v := undef) (a' := ?_) #[true, true, true, true, true, true, true, true, true, true, true, true, true, true, false, false, false, false, false, false, false, false, false, false, false] rfl rfl (any_of HT_.out (by kernel_rfl)) (fun _ _ _ h => h) (Or.inr ⟨by rfl, rfl⟩) ?_ ?_
          rotate_left
          · simp only [Act.put, List.setIfInBounds_toArray, List.set_cons_zero, List.set_cons_succ, i64_w, i32_w]
            rfl
          refine pure_ (i := 14) (N := some 31) (v := undef) (a' := ?_) #[true, true, true, true, true, true, true, true, true, true, true, true, true, true, true, false, false, false, false, false, false, false, false, false, false] rfl rfl (any_of HT_.out (by kernel_rfl)) (fun _ _ _ h => h) (Or.inr ⟨by rfl, rfl⟩) ?_ ?_
          rotate_left
          · simp only [Act.put, List.setIfInBounds_toArray, List.set_cons_zero, List.set_cons_succ, i64_w, i32_w]
            rfl
          refine pure_ (i := 15) (N := some 32) (v := undef) (a' := ?_) #[true, true, true, true, true, true, true, true, true, true, true, true, true, true, true, true, false, false, false, false, false, false, false, false, false] rfl rfl (any_of HT_.out (by kernel_rfl)) (fun _ _ _ h => h) (Or.inr ⟨by rfl, rfl⟩) ?_ ?_
          rotate_left
          · simp only [Act.put, List.setIfInBounds_toArray, List.set_cons_zero, List.set_cons_succ, i64_w, i32_w]
            rfl
          refine take_ (i := 16) (N := some 33) (v := undef) (a' := ?_) #[true, true, true, true, true, true, true, true, true, true, true, true, true, true, true, true, true, false, false, false, false, false, false, false, false] rfl rfl (take_ofW HT_.out HW_.out (by kernel_rfl)) (fun _ _ _ h => h) (Or.inr ⟨by rfl, rfl⟩) hHeld ?_ ?_
          rotate_left
          · simp only [Act.put, List.setIfInBounds_toArray, List.set_cons_zero, List.set_cons_succ, i64_w, i32_w]
            rfl
          refine pure_ (i := 17) (N := some 34) (v := undef) (a' := ?_) #[true, true, true, true, true, true, true, true, true, true, true, true, true, true, true, true, true, true, false, false, false, false, false, false, false] rfl rfl (any_of HT_.out (by kernel_rfl)) (fun _ _ _ h => h) (Or.inr ⟨by rfl, rfl⟩) ?_ ?_
          rotate_left
          · simp only [Act.put, List.setIfInBounds_toArray, List.set_cons_zero, List.set_cons_succ, i64_w, i32_w]
            rfl
          refine pure_ (i := 18) (N := some 35) (v := undef) (a' := ?_) #[true, true, true, true, true, true, true, true, true, true, true, true, true, true, true, true, true, true, true, false, false, false, false, false, false] rfl rfl (any_of HT_.out (by kernel_rfl)) (fun _ _ _ h => h) (Or.inr ⟨by rfl, rfl⟩) ?_ ?_
          rotate_left
          · simp only [Act.put, List.setIfInBounds_toArray, List.set_cons_zero, List.set_cons_succ, i64_w, i32_w]
            rfl
          refine pure_ (i := 19) (N := some 36) (v := undef) (a' := ?_) #[true, true, true, true, true, true, true, true, true, true, true, true, true, true, true, true, true, true, true, true, false, false, false, false, false] rfl rfl (any_of HT_.out (by kernel_rfl)) (fun _ _ _ h => h) (Or.inr ⟨by rfl, rfl⟩) ?_ ?_
          rotate_left
          · simp only [Act.put, List.setIfInBounds_toArray, List.set_cons_zero, List.set_cons_succ, i64_w, i32_w]
            rfl
          refine pure_ (i := 20) (N := some 37) (v := undef) (a' := ?_) #[true, true, true, true, true, true, true, true, true, true, true, true, true, true, true, true, true, true, true, true, true, false, false, false, false] rfl rfl (any_of HT_.out (by kernel_rfl)) (fun _ _ _ h => h) (Or.inr ⟨by rfl, rfl⟩) ?_ ?_
          rotate_left
          · simp only [Act.put, List.setIfInBounds_toArray, List.set_cons_zero, List.set_cons_succ, i64_w, i32_w]
            rfl
          refine take_ (i := 21) (N := some 38) (v := undef) (a' := ?_) #[true, true, true, true, true, true, true, true, true, true, true, true, true, true, true, true, true, true, true, true, true, true, false, false, false] rfl rfl (take_ofW HT_.out HW_.out (by kernel_rfl)) (fun _ _ _ h => h) (Or.inr ⟨by rfl, rfl⟩) hHeld ?_ ?_
          rotate_left
          · simp only [Act.put, List.setIfInBounds_toArray, List.set_cons_zero, List.set_cons_succ, i64_w, i32_w]
            rfl
          refine one_ (i := 22) (N := some 39) #[true, true, true, true, true, true, true, true, true, true, true, true, true, true, true, true, true, true, true, true, true, true, true, false, false] rfl rfl (one_of HT_.out (by kernel_rfl)) (by decide) (fun K hK => ?_)
          refine off_ (by rfl) ?_
          refine hK.out _ _ (⟨⟨hp0, hp1, hp2⟩, hq0, hq1, hq2⟩) (fun hHeld => ?_)
          clear hK K
          refine norm_ (a' := ?_) ?_ ?_
          rotate_left
          · show Act.put _ (some 39) _ = _
            simp only [Act.put, List.setIfInBounds_toArray, List.set_cons_zero, List.set_cons_succ, i64_w, i32_w]
            rfl
          refine pure_ (i := 23) (N := some 40) (v := undef) (a' := ?_) #[true, true, true, true, true, true, true, true, true, true, true, true, true, true, true, true, true, true, true, true, true, true, true, true, false] rfl rfl (any_of HT_.out (by kernel_rfl)) (fun _ _ _ h => h) (Or.inr ⟨by rfl, rfl⟩) ?_ ?_
          rotate_left
          · simp only [Act.put, List.setIfInBounds_toArray, List.set_cons_zero, List.set_cons_succ, i64_w, i32_w]
            rfl
          refine pure_ (i := 24) (N := some 41) (v := ?_) (a' := ?_) #[true, true, true, true, true, true, true, true, true, true, true, true, true, true, true, true, true, true, true, true, true, true, true, true, true] rfl rfl (any_of HT_.out (by kernel_rfl)) (fun _ _ _ h => h) (Or.inl ⟨by rfl, ?_⟩) ?_ ?_
          rotate_left
          · intro w'
            go_simp
            with_reducible rfl
          rotate_left
          · simp only [Act.put, List.setIfInBounds_toArray, List.set_cons_zero, List.set_cons_succ, i64_w, i32_w]
            rfl
          refine done_ (done_of HT_.out (by kernel_rfl)) ?_
          clear hneq
          go_wp2
          go_ret
          exact ⟨by rw [HNe2.out]; rfl, ⟨nw + 1, by simp [World.drewN, World.drew]; try omega⟩⟩
  · have hdec : decide (l = l2) = false := decide_eq_false (fun e => hll (by rw [e]))
    have hneI : ((l.length : Int) == (l2.length : Int)) = false := by
      have : (l.length : Int) ≠ (l2.length : Int) := by omega
      simpa using this
    have HDec := Aside0.mk hdec
    clear h h2 hA hA' hdec HH HH2
    go_enter Try.func17, Try.ntmps17
    go_wp2
    go_ret
    exact ⟨by rw [HDec.out]; rfl, ⟨0, rfl⟩⟩
end
end Go.Proofs.Ytbnjbjcokkcfcaa.Sol
namespace Go.Proofs.Ytbnjbjcokkcfcaa.Sol
open Go.RowKit Go.Proofs.YtbnjbjcokkcfcaaW.PrintWords Go.Proofs.YtbnjbjcokkcfcaaW.PrintLast Go.Proofs.YtbnjbjcokkcfcaaW.PrintMore Go.Proofs.Ytbnjbjcokkcfcaa.PSearchOwn
set_option linter.unusedVariables false
set_option linter.unusedSimpArgs false
theorem info25 : (Try.prog.info? 25).map (fun i => (i.zero, i.size, i.bytes)) = some (some (.slice none 0 0), 1, 24) := by kernel_rfl
theorem size24 : (Try.prog.info? 24).map (·.size) = some 2 := by kernel_rfl
theorem res39 {tmps : Array Value} {w : World} {gR : Nat} {n : Int} {v : Value} {er : Int} (h6 : tmps.getD 6 undef = .pointer (some ⟨gR, 0, none⟩)) (h7 : tmps.getD 7 undef = .int .i64 er) (hg : w.heap[gR]? = some (.cells #[.int .i64 n, v] 24 (0, 0))) :
    (results Try.f39 tmps).run Try.prog w = .ok (.tuple #[.agg #[.int .i64 n, v], .int .i64 er]) w := by
  have h := results_list (P := Try.prog) (fn := Try.f39) (tmps := tmps) (w := w) (rs := [.cell 6 24, .tmp 7]) rfl (by simp) (.cell gR 24 #[.int .i64 n, v] (0, 0) _ h6 hg Try.underlying24 rfl size24 (.tmp .nil))
  rw [h7] at h
  exact h
/-- What stays in Alone. -/
structure AW (W : World) (N : Int) (AL : Option Addr) (cL : Nat) (L : List (List Int)) (B : Option Addr) (nB cB : Nat) (s : Nat × Nat) (w : World) : Prop where
  th : w.heap[W.heap.size]? = some (.cells #[.int .i64 N, .slice AL L.length cL] 24 (0, 0))
  pb : w.heap[W.heap.size + 1]? = some (.cells #[.int .u64 (s.1 : Int), .int .u64 (s.2 : Int), .slice B nB cB] 68 (0, 0))
  rz : w.heap[W.heap.size + 2]? = some (.cells #[.int .i64 0, .slice none 0 0] 24 (0, 0))
  be : Below W.heap.size W w
section
variable {W w w2 : World} {N : Int} {AL : Option Addr} {cL : Nat} {L : List (List Int)} {B : Option Addr} {nB cB : Nat} {s : Nat × Nat}
theorem AW.bg (h : AW W N AL cL L B nB cB s w) (hb : Below w.heap.size w w2) : AW W N AL cL L B nB cB s w2 := ⟨blk_below h.th hb, blk_below h.pb hb, blk_below h.rz hb, below_step h.be hb⟩
theorem AW.set (h : AW W N AL cL L B nB cB s w) {g j : Nat} (hg : W.heap.size + 2 < g) (u : Value) : AW W N AL cL L B nB cB s (w.setCell ⟨g, j, none⟩ u) :=
  ⟨blk_far h.th (by show _ ≠ g; omega) _, blk_far h.pb (by show _ ≠ g; omega) _, blk_far h.rz (by show _ ≠ g; omega) _, below_set h.be (by omega)⟩
theorem AW.lt (h : AW W N AL cL L B nB cB s w) : W.heap.size + 2 < w.heap.size := blk_lt h.rz
theorem AW.grown (h : AW W N AL cL L B nB cB s w) {k : Nat} {v : Value} {xs : List Value} (ho : w.ownsRow W.heap.size 25 1 v k xs) (hg : w.grownBy w2 v.ownBlock) : AW W N AL cL L B nB cB s w2 :=
  ⟨blk_grown h.th hg (own_ne ho h.th (by decide)), blk_grown h.pb hg (own_ne ho h.pb (by decide)), blk_grown h.rz hg (own_ne ho h.rz (by decide)), Below.grown h.be hg h.be.size (fun k hk => own_base ho k hk)⟩
end
/-- What is left of some clauses. -/
def restsF (L : List (List Int)) (l is : List Int) : List (List Int) := is.map (fun x => restF (L.getD x.toNat []) l)
/-- What Alone leaves. -/
def AlonePost (W : World) (N : Int) (M : List (List Int)) (e : Ending) (w' : World) : Prop := ∃ A c, e = .returned (.tuple #[.agg #[.int .i64 N, .slice A M.length c], .int .i64 0]) ∧ Kd.C (Kd.slice 3 (Kd.int .i64)) w' A M.length M ∧ M.length ≤ c ∧ Below W.heap.size W w'
section
variable {ops : Array Oper} {rest : List Oper} {o : Oper} {a : Act} {Q : Exit → Act → World → Prop}
/-- A row is appended to rows. -/
theorem app_row {w : World} (base : Nat) {v : Value} {M : List (List Int)} (hR : (Kd.slice 3 (Kd.int .i64)).R 25 w base (fun _ => True) v M) {gc : List Int} {A5 : Option Addr} {c5 : Nat} (hz : w.ownsRow base 3 1 (.slice A5 gc.length c5) gc.length (nums .i64 gc)) (hlen : M.length ≤ 4096) (hbase : base ≤ w.heap.size) (hgd : o.guard = none) (s x : Operand) (ho : o.op = .call { callee := .builtin .append, args := #[s, x], argTypes := #[22, 22] }) (hs : a.eval s = v) (hx : a.eval x = .slice (some ⟨w.heap.size, 0, none⟩) 1 1)
    (K : ∀ A c m w2, m = M.length + 1 → (Kd.slice 3 (Kd.int .i64)).R 25 w2 base (fun _ => True) (.slice A m c) (M ++ [gc]) → w.grownBy w2 v.ownBlock → wpList Try.prog ops Q rest (a.put o.dst (.slice A m c)) w2) :
    wpList Try.prog ops Q (o :: rest) a (w.alloc (.cells #[.slice A5 gc.length c5] 25)) := by
  obtain ⟨inner, ho4⟩ := Kd.R_own hR
  refine Kd.R_append (Kd.slice 3 (Kd.int .i64)) (w0 := w) base hgd s x 22 25 (.slice none 0 0) 24 ho Try.underlying22 info25 rfl (by decide) (by decide) v M gc [.slice A5 gc.length c5] (fun _ => True) (fun k => (Value.slice A5 gc.length c5).ownBlock = some k) hs hx ⟨_, rfl, Kd.R_of_own hz (fun k hk => hk)⟩ (fun k hk => ⟨trivial, fun he => ?_⟩) (fun _ _ => trivial) hR (Below.refl _ _ |>.mono hbase) hbase (by omega) ?_
  · rcases own_type_ne hz ho4 (by decide) with e | e
    · rw [e] at hk; cases hk
    · exact e (by rw [hk]; exact he)
  · intro v1 w1 hr hb hg hat
    obtain ⟨A, c, rfl⟩ := Kd.R_slice hr
    rw [List.length_append, List.length_singleton] at hr ⊢
    exact K A c _ w1 rfl hr hg
end
section
variable {N : Int} {W : World} {AL : Option Addr} {cL : Nat} {L : List (List Int)} {A : Option Addr} {c : Nat} {l : List Int} {B : Option Addr} {cB : Nat} {is : List Int} {s : Nat × Nat}
set_option maxHeartbeats 4000000 in
set_option maxRecDepth 100000 in
theorem alone_ok (hL : Kd.C (Kd.slice 3 (Kd.int .i64)) W AL L.length L) (hcL : L.length ≤ cL) (hA : (Kd.int .i64).C W A l.length l) (hc : l.length ≤ c) (hlen : l.length ≤ 4096) (hnil : A = none → c = 0) (hok : okB N L l = true) (hB : (Kd.int .i64).C W B is.length is) (hil : is.length ≤ 4096)
    (hLits : ∀ c ∈ L, c.length ≤ 4096 ∧ Lits c) (his : ∀ x ∈ is, ∃ j : Nat, x = (j : Int) ∧ j < L.length ∧ leftB (L.getD j []) l = true) :
    Calls Try.prog 39 #[.agg #[.int .i64 N, .slice AL L.length cL], .slice A l.length c, .agg #[.int .u64 (s.1 : Int), .int .u64 (s.2 : Int), .slice B is.length cB]] W (AlonePost W N (restsF L l is)) := by
  have hg0 : AW W N AL cL L B is.length cB s (((W.alloc (.cells #[.int .i64 N, .slice AL L.length cL] 24)).alloc (.cells #[.int .u64 (s.1 : Int), .int .u64 (s.2 : Int), .slice B is.length cB] 68)).alloc (.cells #[.int .i64 0, .slice none 0 0] 24)) :=
    ⟨blk_alloc (blk_alloc (blk_new W _) _) _, by have := blk_new (W.alloc (.cells #[.int .i64 N, .slice AL L.length cL] 24)) (.cells #[.int .u64 (s.1 : Int), .int .u64 (s.2 : Int), .slice B is.length cB] 68); rw [blk_size] at this; exact blk_alloc this _, by have := blk_new ((W.alloc (.cells #[.int .i64 N, .slice AL L.length cL] 24)).alloc (.cells #[.int .u64 (s.1 : Int), .int .u64 (s.2 : Int), .slice B is.length cB] 68)) (.cells #[.int .i64 0, .slice none 0 0] 24); rwa [blk_size, blk_size] at this, below_alloc (below_alloc (below_alloc (Below.refl _ _) _) _) _⟩
  have HG := Aside0.mk hg0
  have HC := Aside0.mk (checked_calls (N := N) (Kd.C_below hL hg0.be) hcL (Kd.C_below hA hg0.be) hc hlen hnil)
  have HL := Aside0.mk hL
  have HB := Aside0.mk hB
  have HOk := Aside0.mk hok
  have HLs := Aside0.mk hLits
  have HIs := Aside0.mk his
  clear hL hA hok hLits his hB hg0
  go_enter Try.func39, Try.ntmps39
  go_upto_region 4 with (go_at_call 41; refine (HC.out).mono ?_; rintro e w1 ⟨⟨v, ys, rfl, hy⟩, hb1⟩; have HY := Aside0.mk (hy HOk.out); rw [HOk.out]; have HYo := Aside0.mk (own_less HY.out.1 HG.out.be.size); have HTd := Aside0.mk HY.out.2; replace HG := Aside0.mk (HG.out.bg hb1); clear hy hb1 HY)
  obtain ⟨A3, c3, rfl, _, hc3, _, _⟩ := own_C HYo.out
  have hd0 : w1.cell? ⟨W.heap.size, 0, none⟩ = some (.int .i64 N) := (blk_cell HG.out.th 0).trans rfl
  go_upto_region 5 with fail
  have HX := Aside0.mk (blk_new w1 (.cells #[.int .i64 N, .slice none 0 0] 24))
  have HGe := Aside0.mk HG.out.lt
  replace HYo := Aside0.mk (own_alloc HYo.out (.cells #[.int .i64 N, .slice none 0 0] 24))
  replace HG := Aside0.mk (HG.out.bg (below_alloc (Below.refl _ _) (.cells #[.int .i64 N, .slice none 0 0] 24)))
  clear hd0 HC
  generalize w1.alloc (.cells #[.int .i64 N, .slice none 0 0] 24) = w2 at HX HYo HG ⊢
  generalize w1.heap.size = b9 at HX HGe ⊢
  have hp2 : w2.cell? ⟨W.heap.size + 1, 2, none⟩ = some (.slice B is.length cB) := (blk_cell HG.out.pb 2).trans rfl
  obtain ⟨nI, hnI⟩ : ∃ nI, is.length = nI := ⟨_, rfl⟩
  have HnI := Aside0.mk hnI
  rw [hnI] at hp2 hil HB HG ⊢
  have hnI2 : (nI : Int) ≤ 4096 := by omega
  clear hnI
  go_wp2
  clear hp2
  go_loopg [30] nI (fun gk v30 w' => ∃ (k : Nat) (v : Value), k + gk = nI ∧ v30 = .int .i64 (k : Int) ∧ Aside0 (w'.heap[b9]? = some (.cells #[.int .i64 N, v] 24 (0, 0))) ∧ Aside0 ((Kd.slice 3 (Kd.int .i64)).R 25 w' W.heap.size (fun _ => True) v (restsF L l (is.take k))) ∧ Aside0 (w'.ownsRow W.heap.size 3 1 (.slice A3 ys.length c3) ys.length (nums .i64 ys)) ∧ Aside0 (AW W N AL cL L B nI cB s w'))
  case atStart => exact ⟨0, .slice none 0 0, by omega, rfl, HX, ⟨Kd.R_nil _ _ _ _ _⟩, HYo, HG⟩
  case round =>
    clear HX HYo HG
    obtain ⟨k, v, hkg, rfl, HX, HR, HYo, HG⟩ := hrel
    have hml : (restsF L l (is.take k)).length = k := by unfold restsF; rw [List.length_map, List.length_take]; have := HnI.out; omega
    obtain ⟨M, hM⟩ : ∃ M, restsF L l (is.take k) = M := ⟨_, rfl⟩
    rw [hM] at HR hml
    obtain ⟨Av, cv, rfl⟩ := Kd.R_slice HR.out
    rw [hml] at HX HR
    have HMl := Aside0.mk hml
    have hx0 : wr.cell? ⟨b9, 0, none⟩ = some (.int .i64 N) := (blk_cell HX.out 0).trans rfl
    have hx1 : wr.cell? ⟨b9, 1, none⟩ = some (.slice Av k cv) := (blk_cell HX.out 1).trans rfl
    have HMe := Aside0.mk hM
    clear hml hM
    cases gk with
    | zero =>
      have hk : k = nI := by omega
      subst hk
      have hk : ¬ ((k : Int) < (k : Int)) := by omega
      have hf0 := blk_frozen HG.out.rz 0
      have hf1 := blk_frozen HG.out.rz 1
      have hr0 : wr.cell? ⟨W.heap.size + 2, 0, none⟩ = some (.int .i64 0) := (blk_cell HG.out.rz 0).trans rfl
      have hr1 : wr.cell? ⟨W.heap.size + 2, 1, none⟩ = some (.slice none 0 0) := (blk_cell HG.out.rz 1).trans rfl
      go_wp2
      refine bodyPost_ret (res39 (gR := W.heap.size + 2) (n := N) (v := .slice Av k cv) (er := 0) rfl rfl (blk_put (blk_put HG.out.rz 0 _ rfl) 1 _ rfl)) rfl ?_
      have hMf : restsF L l is = M := by rw [← HMe.out, List.take_of_length_le (Nat.le_of_eq HnI.out)]
      rw [hMf]
      have hr := Kd.R_set (Kd.R_set HR.out HG.out.rz (by decide) 0 (.int .i64 N)) (blk_put HG.out.rz 0 (.int .i64 N) rfl) (by decide) 1 (.slice Av k cv)
      obtain ⟨A', c', e, hle, hC⟩ := Kd.R_reads hr
      injection e with e1 e2 e3
      subst e1; subst e3
      exact ⟨Av, cv, by rw [HMl.out], hC, hle, below_set (below_set HG.out.be (by show _ ≤ W.heap.size + 2; omega)) (by show _ ≤ W.heap.size + 2; omega)⟩
    | succ gk =>
      have hkI : (k : Int) < (nI : Int) := by omega
      have hBw := Kd.C_below HB.out HG.out.be
      rw [← HnI.out] at hBw
      obtain ⟨adB, hAB, hxk⟩ := rd_int hBw k (by have := HnI.out; omega)
      subst hAB
      have hkl : k < is.length := by have := HnI.out; omega
      have hget : is[k]? = some (is.getD k 0) := by simp [List.getD_eq_getElem?_getD, List.getElem?_eq_getElem hkl]
      obtain ⟨j, hj, hjL, hlf⟩ := HIs.out _ (List.mem_of_getElem? hget)
      have htk : restsF L l (is.take (k + 1)) = M ++ [restF (L.getD j []) l] := by
        rw [← HMe.out, List.take_add_one, hget, hj]; unfold restsF; rw [List.map_append]; rfl
      rw [hj] at hxk
      have hjI : (j : Int) < (L.length : Int) := by omega
      have hjn : ¬ ((L.length : Int) ≤ (j : Int)) := by omega
      obtain ⟨aL, A0, c0, hAL, hcell, hc0, hC0⟩ := rd_row (Kd.C_below HL.out HG.out.be) j hjL
      subst hAL
      have hcl := HLs.out (L.getD j []) (by rw [List.getD_eq_getElem?_getD, List.getElem?_eq_getElem hjL]; exact List.getElem_mem _)
      obtain ⟨A3', c3', e3, hCy, _, _, _⟩ := own_C HYo.out
      injection e3 with e3a e3b e3c
      subst e3a; subst e3c
      rw [← leftB_mem HTd.out.1] at hlf
      rw [← restF_mem HTd.out.1] at htk
      obtain ⟨cj, hcj⟩ : ∃ cj, L.getD j [] = cj := ⟨_, rfl⟩
      rw [hcj] at hcell hc0 hC0 hcl hlf htk
      have hrest := rest_calls hC0 hc0 hCy hc3 hcl.1 (lit_big hcl.2)
      rw [hlf, if_pos rfl] at hrest
      have HRest := Aside0.mk hrest
      have HTk := Aside0.mk htk
      have HlenM := Aside0.mk (show M.length ≤ 4096 by have := HMl.out; omega)
      have ht1 : wr.cell? ⟨W.heap.size, 1, none⟩ = some (.slice (some aL) L.length cL) := (blk_cell HG.out.th 1).trans rfl
      clear hrest hC0 hCy hcl hcj hlf hget hj hBw hkl htk e3b hx0 hx1
      go_upto_region 11 with (go_at_call 44; refine (HRest.out).mono ?_; rintro e w5 ⟨v5, rfl, hv5, hb5⟩; obtain ⟨A5, c5, rfl⟩ := Kd.R_slice hv5; have HO := Aside0.mk (Kd.own_of_R (Kd.R_lower hv5 HG.out.be.size)); replace HX := Aside0.mk (blk_below HX.out hb5); replace HR := Aside0.mk (Kd.R_below HR.out hb5); replace HYo := Aside0.mk (pw_own_below HYo.out hb5); replace HG := Aside0.mk (HG.out.bg hb5); clear hv5 hb5)
      clear HRest ht1 hcell hxk
      have hx1 : w5.cell? ⟨b9, 1, none⟩ = some (.slice Av k cv) := (blk_cell HX.out 1).trans rfl
      go_wp2_with (at_builtin; refine app_row W.heap.size HR.out HO.out HlenM.out HG.out.be.size rfl (.tmp 58) (.tmp 60) rfl rfl rfl ?_)
      intro A6 c6 m6 w6 hm6 hr6 hg6
      rw [HMl.out] at hm6
      obtain ⟨inner, ho6⟩ := Kd.R_own HR.out
      have hX6 := blk_grown HX.out hg6 (own_ne ho6 HX.out (by decide))
      have HX6 := Aside0.mk hX6
      have HY6 := Aside0.mk (own_other HYo.out hg6 (own_type_ne HYo.out ho6 (by decide)))
      have HG6 := Aside0.mk (HG.out.grown ho6 hg6)
      have HR6 := Aside0.mk hr6
      have hf6 := blk_frozen hX6 1
      have hq6 : w6.cell? ⟨b9, 1, none⟩ = some (.slice Av k cv) := (blk_cell hX6 1).trans rfl
      have HM6 := Aside0.mk hm6
      clear hX6 hr6 hg6 ho6 hm6 hx1
      go_wp2
      go_roundg gk
      case measure => omega
      case rel => exact ⟨k + 1, .slice A6 m6 c6, by omega, by go_num, ⟨blk_put HX6.out 1 _ rfl⟩, ⟨by rw [HTk.out]; exact Kd.R_set HR6.out HX6.out (by decide) 1 _⟩, ⟨own_setCell (p := ⟨b9, 1, none⟩) HY6.out (own_ne HY6.out HX6.out (by decide)) _⟩, ⟨HG6.out.set HGe.out _⟩⟩
end
end Go.Proofs.Ytbnjbjcokkcfcaa.Sol
