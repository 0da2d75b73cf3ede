/- The walk of SearchOwn. -/
import Derived.Test.YtbnjbjcokkcfcaaB3
import Derived.Test.YtbnjbjcokkcfcaaC2
namespace Go.Proofs.Ytbnjbjcokkcfcaa.Sol
open Go.RowKit Go.Proofs.YtbnjbjcokkcfcaaW.PrintWords Go.Proofs.YtbnjbjcokkcfcaaW.PrintLast Go.Proofs.YtbnjbjcokkcfcaaW.PrintMore Go.Proofs.Ytbnjbjcokkcfcaa.PSearchOwn
set_option linter.unusedVariables false
set_option linter.unusedSimpArgs false

def ownT3 : Bool × List (List Nat × List Nat) := (true, [([], []), ([], []), ([0, 1], [0, 1]), ([], []), ([3, 2], [3]), ([], []), ([2, 4, 0, 1, 2, 5], [2]), ([5, 4, 6, 0, 1, 2, 3, 4, 5, 6], [4, 5])])
def ownB3 : List Nat := [0, 0, 3, 0, 15, 0, 63, 127]
theorem owntab3 : rtab .any (opsOf Try.f3 3) = ownT3 := by kernel_rfl
theorem ownbits3 : waitsOk ownT3.2 ownB3 = true := by kernel_rfl

/-- What the region of the two copies has made, ahead of its stores. -/
def OwnMid (W w' : World) (AL : Option Addr) (cL : Nat) (N : Int) (L : List (List Int)) (asm : List Int) (s : Value × Value × Value × Nat) : Prop :=
  (∃ Ao co, s.2.2.1 = .agg #[.int .i64 N, .slice Ao L.length co] ∧ Kd.S (Kd.slice 3 (Kd.int .i64)) 25 w' W.heap.size (fun _ => True) (.slice Ao L.length co) L ∧ L.length ≤ co) ∧
  (Kd.int .i64).R 3 w' W.heap.size (fun _ => True) s.2.1 asm ∧ w'.heap[s.2.2.2]? = some (.cells #[.int .i64 0, .slice none 0 0] 24 (0, 0)) ∧ W.heap.size < s.2.2.2 ∧ Below W.heap.size W w' ∧
  w'.heap[W.heap.size]? = some (.cells #[.int .i64 N, .slice AL L.length cL] 24 (0, 0))
/-- What stands behind that region. -/
structure Own5 (W wc : World) (AL : Option Addr) (cL : Nat) (N : Int) (L : List (List Int)) (asm : List Int) (A5 : Option Addr) (c5 : Nat) (Ao : Option Addr) (co g6 : Nat) : Prop where
  b6 : wc.heap[g6]? = some (.cells #[.int .i64 N, .slice Ao L.length co] 24 (0, 0))
  was : (Kd.int .i64).C wc A5 asm.length asm
  wasc : asm.length ≤ c5
  own : Kd.C (Kd.slice 3 (Kd.int .i64)) wc Ao L.length L
  ownc : L.length ≤ co
  below : Below W.heap.size W wc
  t : wc.heap[W.heap.size]? = some (.cells #[.int .i64 N, .slice AL L.length cL] 24 (0, 0))

theorem coreLoop_length (S : List Int → Bool) : ∀ (d : Nat) (l : List Int) (i : Nat), (coreLoop S d l i).length ≤ l.length
  | 0, l, i => Nat.le_refl _
  | d + 1, l, i => by
    simp only [coreLoop]
    split
    · exact coreLoop_length S d l (i + 1)
    · exact Nat.le_trans (coreLoop_length S d _ i) (List.length_eraseIdx_le l i)
theorem coreF_length (L : List (List Int)) (m : Nat) (asm : List Int) : (coreF L m asm).2.length ≤ asm.length := by
  unfold coreF
  split
  · exact Nat.zero_le _
  · exact coreLoop_length _ _ _ _
/-- append([]int{}, l...), in a region of fixed order. -/
theorem app_wp {w : World} {A : Option Addr} {c : Nat} {xs : List Int} (hC : (Kd.int .i64).C w A xs.length xs) (hl : xs.length ≤ 1000)
    {ops : Array Oper} {Q : Exit → Act → World → Prop} {rest : List Oper} {o : Oper} {a : Act} (s x : Operand) (hgd : o.guard = none) (ho : o.op = .call { callee := .builtin .append, args := #[s, x], argTypes := #[25, 25] })
    (hs : a.eval s = .slice (some ⟨w.heap.size, 0, none⟩) 0 0) (hx : a.eval x = .slice A xs.length c)
    (h : ∀ v' w', Aside0 (w'.ownsRow w.heap.size 3 1 v' xs.length (nums .i64 xs)) → Aside0 (Below w.heap.size w w') → wpList Try.prog ops Q rest (a.put o.dst v') w') : wpList Try.prog ops Q (o :: rest) a (w.alloc (.cells #[] 3)) := by
  refine Kd.R_append_rows (Kd.int .i64) (w0 := w) w.heap.size hgd s x 25 3 (.int .i64 0) 8 ho Try.underlying25 info3 rfl (by decide) (by decide) (.slice (some ⟨w.heap.size, 0, none⟩) 0 0) [] xs A xs.length c (fun _ => True) (fun _ => False) hs hx
    (Kd.R_of_own (xs := ([] : List Int)) (own_lit w w.heap.size 3 .i64 [] (Nat.le_refl _) (by simp)) (fun _ _ => trivial)) (Kd.C_alloc hC _) (fun _ _ h => h) (fun _ h => h.elim) (fun _ _ => trivial) (below_alloc (Below.refl _ _) _) (by simp) (by simp; omega) ?_
  intro v1 w1 hr hb _ _
  exact h v1 w1 ⟨Kd.own_of_R hr⟩ ⟨hb⟩

set_option maxHeartbeats 8000000 in
set_option maxRecDepth 100000 in
theorem own_calls {m : Nat} {W : World} {AL : Option Addr} {cL : Nat} {L : List (List Int)} {A : Option Addr} {c : Nat} {asm : List Int} (hL : Kd.C (Kd.slice 3 (Kd.int .i64)) W AL L.length L) (hcL : L.length ≤ cL) (hA : (Kd.int .i64).C W A asm.length asm) (hc : asm.length ≤ c) (hnil : A = none → c = 0)
    (hlen : asm.length ≤ 30) (hfew : fewB (m : Int) L asm = true) (hchk : checkL (m : Int) L asm = 0) (hm : m ≤ 128) (hok : AllOk (m + 1) L) (hasm : ∀ l ∈ asm, LitOk (m + 1) l) (hL1 : L.length ≤ 4096) (hL2 : ∀ c ∈ L, c.length ≤ 128) :
    Calls Try.prog 3 #[.agg #[.int .i64 (m : Int), .slice AL L.length cL], .slice A asm.length c] W fun e w' => e = .returned (.bool true) ∧ Below W.heap.size W w' := by
  have hfw : ∀ w, Below W.heap.size W w → Calls Try.prog 6 #[.agg #[.int .i64 (m : Int), .slice AL L.length cL], .slice A asm.length c] w fun e w' => e = .returned (.bool true) ∧ Below w.heap.size w w' := fun w hb => by
    have := few_calls (N := (m : Int)) (Kd.C_below hL hb) hcL (Kd.C_below hA hb) hc
    rwa [hfew] at this
  have hcp : ∀ w, Below W.heap.size W w → Calls Try.prog 8 #[.agg #[.int .i64 (m : Int), .slice AL L.length cL]] w fun e w' => ∃ Ao co, e = .returned (.agg #[.int .i64 (m : Int), .slice Ao L.length co]) ∧ Kd.S (Kd.slice 3 (Kd.int .i64)) 25 w' w.heap.size (fun _ => True) (.slice Ao L.length co) L ∧ L.length ≤ co ∧ Below w.heap.size w w' := fun w hb => copy_calls (Kd.C_below hL hb) hcL hL1 (fun c hc => Nat.le_trans (hL2 c hc) (by omega))
  have hcore : ∀ w, Below W.heap.size W w → Calls Try.prog 9 #[.agg #[.int .i64 (m : Int), .slice AL L.length cL], .slice A asm.length c] w (CorePost w (coreF L m asm).1 (coreF L m asm).2) := fun w hb => core_calls (Kd.C_below hL hb) hcL (Kd.C_below hA hb) hc hnil (by omega) hchk hm hok hasm
  have hsolve : ∀ w, Below W.heap.size W w → Calls Try.prog 10 #[.agg #[.int .i64 (m : Int), .slice AL L.length cL], .slice A asm.length c] w (SolvedPost w (satF L m asm)) := fun w hb => solved_calls (Kd.C_below hL hb) hcL (Kd.C_below hA hb) hc hchk hm hok hasm
  have hent : ∀ w, Below W.heap.size W w → Calls Try.prog 11 #[.agg #[.int .i64 (m : Int), .slice AL L.length cL], .slice A asm.length c] w (EntailsPost w (!(satF L m (asm.map (fun x => -x))).1)) := fun w hb => entails_calls (Kd.C_below hL hb) hcL (Kd.C_below hA hb) hc (by omega) hchk hm hok hasm
  have HFew := Aside0.mk hfw
  have HCopy := Aside0.mk hcp
  have HCore := Aside0.mk hcore
  have HSolve := Aside0.mk hsolve
  have HEnt := Aside0.mk hent
  have HL := Aside0.mk hL
  have HcL := Aside0.mk hcL
  have HA := Aside0.mk hA
  have Hc := Aside0.mk hc
  clear hfw hcp hcore hsolve hent hL hcL hA hc hnil hfew hchk hm hok hasm hL2
  have hcl := coreF_length L m asm
  generalize coreF L m asm = cr at HCore hcl
  obtain ⟨cb, ys⟩ := cr
  generalize satF L m asm = sr at HSolve
  generalize (!(satF L m (asm.map (fun x => -x))).1) = eb at HEnt
  obtain ⟨sb, sa, sc⟩ := sr
  have hLm : L.length ≤ 4096 := hL1
  clear hL1
  have HB := Aside0.mk (below_alloc (Below.refl W.heap.size W) (.cells #[.int .i64 (m : Int), .slice AL L.length cL] 24))
  have HT := Aside0.mk (blk_new W (.cells #[.int .i64 (m : Int), .slice AL L.length cL] 24))
  generalize hN : (m : Int) = N at *
  clear hN
  go_enter Try.func3, Try.ntmps3
  go_upto_region 3 with ((go_at_call 6; refine (HFew.out _ HB.out).mono ?_; rintro e w1 ⟨rfl, hb1⟩; replace HT := Aside0.mk (blk_below HT.out hb1); replace HB := Aside0.mk (below_step HB.out hb1); clear hb1))
  go_cut [5, 6] (fun v5 v6 wc => ∃ (A5 : Option Addr) (c5 : Nat) (Ao : Option Addr) (co g6 : Nat), v5 = .slice A5 asm.length c5 ∧ v6 = .pointer (some ⟨g6, 0, none⟩) ∧ Aside0 (Own5 W wc AL cL N L asm A5 c5 Ao co g6))
  case first =>
      replace HB := Aside0.mk (below_drew HB.out)
      replace HT := Aside0.mk (blk_drew HT.out)
      refine start_ (n := 8) (S := fun w' => w'.cell? ⟨W.heap.size, 0, none⟩ = some (.int .i64 N) ∧ w'.cell? ⟨W.heap.size, 1, none⟩ = some (.slice AL L.length cL)) (ds := [7]) #[false, false, false, false, false, false, false, false] (by kernel_rfl) rfl rfl (⟨(blk_cell HT.out 0).trans rfl, (blk_cell HT.out 1).trans rfl⟩) (fun hHeld => ?_)
      refine with_tabW owntab3 ownbits3 (fun HT_ HW_ => ?_)
      refine pure_ (i := 1) (N := some 23) (v := ?_) (a' := ?_) #[false, true, false, false, false, false, false, false] rfl rfl (any_of HT_.out (by kernel_rfl)) (fun _ _ _ h => h) (Or.inl ⟨by rfl, ?_⟩) ?_ ?_
      rotate_left
      · intro w'
        go_simp
        with_reducible rfl
      rotate_left
      · simp only [Act.put, List.setIfInBounds_toArray, List.set_cons_zero, List.set_cons_succ, i64_w, i32_w]
        rfl
      refine take_ (i := 3) (N := some 25) (v := ?_) (a' := ?_) #[false, true, false, true, false, false, false, false] rfl rfl (take_ofW HT_.out HW_.out (by kernel_rfl)) (fun _ _ _ h => h) (Or.inl ⟨by rfl, ?_⟩) hHeld ?_ ?_
      rotate_left
      · rintro w' ⟨s0, s1⟩
        go_simp
        with_reducible rfl
      rotate_left
      · simp only [Act.put, List.setIfInBounds_toArray, List.set_cons_zero, List.set_cons_succ, i64_w, i32_w]
        rfl
      refine join_ (σ := Value × Value × Value × Nat) 2 #[true, true, true, true, true, true, false, false] (fun s => [(22, s.1), (24, s.2.1), (26, s.2.2.1), (6, .pointer (some ⟨s.2.2.2, 0, none⟩))]) (fun s w' => OwnMid W w' AL cL N L asm s) ?_ (fun hcont => ?_)
      rotate_left
      · refine two_ (i := 0) (j := 5) (Ni := some 22) (Nj := some 6) #[true, true, false, true, false, false, false, false] #[false, true, false, true, false, true, false, false] rfl rfl rfl rfl (two_of HT_.out (by kernel_rfl)) (by decide) (by decide) (fun K hK => ?_) (fun K hK => ?_)
        · refine Kd.R_lit_step (Kd.int .i64) (w0 := W) W.heap.size 3 (by rfl) (N := 22) rfl (xs := ([] : List Int)) (inner := []) (ok := fun _ => True) (okp := fun _ => True) (by first | (go_simp; done) | (go_simp; rfl)) (Reps.none _ _) (fun _ hk => hk) trivial HB.out HB.out.size (by simp) ?_
          intro v22 w22 ho22 hb22 hg22 _
          replace HT := Aside0.mk (blk_grown HT.out hg22 (by simp))
          skip
          replace HB := Aside0.mk hb22
          have HO22 := Aside0.mk ho22
          clear hb22 hg22 ho22
          refine hK.out _ _ ⟨(blk_cell HT.out 0).trans rfl, (blk_cell HT.out 1).trans rfl⟩ (fun hHeld => ?_)
          clear hK K
          refine norm_ (a' := ?_) ?_ ?_
          rotate_left
          · simp only [Act.put, List.setIfInBounds_toArray, List.set_cons_zero, List.set_cons_succ, i64_w, i32_w]
            rfl
          refine two_ (i := 2) (j := 5) (Ni := some 24) (Nj := some 6) #[true, true, true, true, false, false, false, false] #[true, true, false, true, false, true, false, false] rfl rfl rfl rfl (two_of HT_.out (by kernel_rfl)) (by decide) (by decide) (fun K hK => ?_) (fun K hK => ?_)
          · refine Kd.R_append_rows_step (Kd.int .i64) (w0 := W) W.heap.size (by rfl) (.tmp 22) (.tmp 23) 25 3 (.int .i64 0) 8 rfl Try.underlying25 info3 rfl (by decide) (by decide) v22 [] asm A asm.length c (fun _ => True) (fun _ => False) rfl rfl HO22.out (Kd.C_below HA.out HB.out) (fun _ _ h => h) (fun _ h => h.elim) (fun _ _ => trivial) HB.out HB.out.size (by simp; omega) ?_
            intro v24 w24 ho24 hb24 hg24 _
            replace HT := Aside0.mk (blk_grown HT.out hg24 (Kd.R_ne HO22.out HT.out (by decide)))
            skip
            replace HB := Aside0.mk hb24
            have HO24 := Aside0.mk ho24
            clear hb24 hg24 ho24
            refine hK.out _ _ ⟨(blk_cell HT.out 0).trans rfl, (blk_cell HT.out 1).trans rfl⟩ (fun hHeld => ?_)
            clear hK K
            refine norm_ (a' := ?_) ?_ ?_
            rotate_left
            · simp only [Act.put, List.setIfInBounds_toArray, List.set_cons_zero, List.set_cons_succ, i64_w, i32_w]
              rfl
            refine two_ (i := 4) (j := 5) (Ni := some 26) (Nj := some 6) #[true, true, true, true, true, false, false, false] #[true, true, true, true, false, true, false, false] rfl rfl rfl rfl (two_of HT_.out (by kernel_rfl)) (by decide) (by decide) (fun K hK => ?_) (fun K hK => ?_)
            · refine goes_ Try.func8 (by kernel_rfl) rfl #[.agg #[.int .i64 N, .slice AL L.length cL]] (by rfl) rfl rfl (by simp only [List.map_toArray, List.map_cons, List.map_nil]; rfl) ?_
              refine (HCopy.out _ HB.out).mono ?_
              rintro e_ w26 ⟨Ao, co, rfl, hC26, hc26, hb26⟩
              refine ⟨_, rfl, ?_⟩
              replace HT := Aside0.mk (blk_below HT.out hb26)
              skip
              have hsz26 := HB.out.size
              replace HB := Aside0.mk (below_step HB.out hb26)
              replace HO24 := Aside0.mk (Kd.R_below HO24.out hb26)
              have HC26 := Aside0.mk (Kd.S_lower hC26 hsz26)
              have Hc26 := Aside0.mk hc26
              clear hb26 hC26 hc26 hsz26
              refine hK.out _ _ ⟨(blk_cell HT.out 0).trans rfl, (blk_cell HT.out 1).trans rfl⟩ (fun hHeld => ?_)
              clear hK K
              refine norm_ (a' := ?_) ?_ ?_
              rotate_left
              · simp only [Act.put, List.setIfInBounds_toArray, List.set_cons_zero, List.set_cons_succ, i64_w, i32_w]
                rfl
              refine one_ (i := 5) (N := some 6) #[true, true, true, true, true, true, false, false] rfl rfl (one_of HT_.out (by kernel_rfl)) (by decide) (fun K hK => ?_)
              refine box_step (by rfl) (N := 6) rfl (cs := #[.int .i64 0, .slice none 0 0]) (t := 24) (by first | (go_simp; done) | (go_simp; rfl)) ?_
              intro g6 hg6 w6 hbx hb6
              have hn6 : W.heap.size < g6 := by have := blk_lt HT.out; omega
              replace HT := Aside0.mk (blk_below HT.out hb6)
              replace HB := Aside0.mk (below_step HB.out hb6)
              have H6 := Aside0.mk hbx
              have HN6 := Aside0.mk hn6
              replace HO24 := Aside0.mk (Kd.R_below HO24.out hb6)
              replace HC26 := Aside0.mk (Kd.S_below HC26.out hb6)
              clear hb6 hbx hg6 hn6
              refine hK.out _ _ ⟨(blk_cell HT.out 0).trans rfl, (blk_cell HT.out 1).trans rfl⟩ (fun hHeld => ?_)
              clear hK K
              refine norm_ (a' := ?_) ?_ ?_
              rotate_left
              · simp only [Act.put, List.setIfInBounds_toArray, List.set_cons_zero, List.set_cons_succ, i64_w, i32_w]
                rfl
              exact norm_ (by rfl) (hcont (v22, v24, .agg #[.int .i64 N, .slice Ao L.length co], g6) _ ⟨⟨Ao, co, rfl, HC26.out, Hc26.out⟩, HO24.out, H6.out, HN6.out, HB.out, HT.out⟩)
            · refine box_step (by rfl) (N := 6) rfl (cs := #[.int .i64 0, .slice none 0 0]) (t := 24) (by first | (go_simp; done) | (go_simp; rfl)) ?_
              intro g6 hg6 w6 hbx hb6
              have hn6 : W.heap.size < g6 := by have := blk_lt HT.out; omega
              replace HT := Aside0.mk (blk_below HT.out hb6)
              replace HB := Aside0.mk (below_step HB.out hb6)
              have H6 := Aside0.mk hbx
              have HN6 := Aside0.mk hn6
              replace HO24 := Aside0.mk (Kd.R_below HO24.out hb6)
              clear hb6 hbx hg6 hn6
              refine hK.out _ _ ⟨(blk_cell HT.out 0).trans rfl, (blk_cell HT.out 1).trans rfl⟩ (fun hHeld => ?_)
              clear hK K
              refine norm_ (a' := ?_) ?_ ?_
              rotate_left
              · simp only [Act.put, List.setIfInBounds_toArray, List.set_cons_zero, List.set_cons_succ, i64_w, i32_w]
                rfl
              refine one_ (i := 4) (N := some 26) #[true, true, true, true, true, true, false, false] rfl rfl (one_of HT_.out (by kernel_rfl)) (by decide) (fun K hK => ?_)
              refine goes_ Try.func8 (by kernel_rfl) rfl #[.agg #[.int .i64 N, .slice AL L.length cL]] (by rfl) rfl rfl (by simp only [List.map_toArray, List.map_cons, List.map_nil]; rfl) ?_
              refine (HCopy.out _ HB.out).mono ?_
              rintro e_ w26 ⟨Ao, co, rfl, hC26, hc26, hb26⟩
              refine ⟨_, rfl, ?_⟩
              replace HT := Aside0.mk (blk_below HT.out hb26)
              replace H6 := Aside0.mk (blk_below H6.out hb26)
              have hsz26 := HB.out.size
              replace HB := Aside0.mk (below_step HB.out hb26)
              replace HO24 := Aside0.mk (Kd.R_below HO24.out hb26)
              have HC26 := Aside0.mk (Kd.S_lower hC26 hsz26)
              have Hc26 := Aside0.mk hc26
              clear hb26 hC26 hc26 hsz26
              refine hK.out _ _ ⟨(blk_cell HT.out 0).trans rfl, (blk_cell HT.out 1).trans rfl⟩ (fun hHeld => ?_)
              clear hK K
              refine norm_ (a' := ?_) ?_ ?_
              rotate_left
              · simp only [Act.put, List.setIfInBounds_toArray, List.set_cons_zero, List.set_cons_succ, i64_w, i32_w]
                rfl
              exact norm_ (by rfl) (hcont (v22, v24, .agg #[.int .i64 N, .slice Ao L.length co], g6) _ ⟨⟨Ao, co, rfl, HC26.out, Hc26.out⟩, HO24.out, H6.out, HN6.out, HB.out, HT.out⟩)
          · refine box_step (by rfl) (N := 6) rfl (cs := #[.int .i64 0, .slice none 0 0]) (t := 24) (by first | (go_simp; done) | (go_simp; rfl)) ?_
            intro g6 hg6 w6 hbx hb6
            have hn6 : W.heap.size < g6 := by have := blk_lt HT.out; omega
            replace HT := Aside0.mk (blk_below HT.out hb6)
            replace HB := Aside0.mk (below_step HB.out hb6)
            have H6 := Aside0.mk hbx
            have HN6 := Aside0.mk hn6
            replace HO22 := Aside0.mk (Kd.R_below HO22.out hb6)
            clear hb6 hbx hg6 hn6
            refine hK.out _ _ ⟨(blk_cell HT.out 0).trans rfl, (blk_cell HT.out 1).trans rfl⟩ (fun hHeld => ?_)
            clear hK K
            refine norm_ (a' := ?_) ?_ ?_
            rotate_left
            · simp only [Act.put, List.setIfInBounds_toArray, List.set_cons_zero, List.set_cons_succ, i64_w, i32_w]
              rfl
            refine one_ (i := 2) (N := some 24) #[true, true, true, true, false, true, false, false] rfl rfl (one_of HT_.out (by kernel_rfl)) (by decide) (fun K hK => ?_)
            refine Kd.R_append_rows_step (Kd.int .i64) (w0 := W) W.heap.size (by rfl) (.tmp 22) (.tmp 23) 25 3 (.int .i64 0) 8 rfl Try.underlying25 info3 rfl (by decide) (by decide) v22 [] asm A asm.length c (fun _ => True) (fun _ => False) rfl rfl HO22.out (Kd.C_below HA.out HB.out) (fun _ _ h => h) (fun _ h => h.elim) (fun _ _ => trivial) HB.out HB.out.size (by simp; omega) ?_
            intro v24 w24 ho24 hb24 hg24 _
            replace HT := Aside0.mk (blk_grown HT.out hg24 (Kd.R_ne HO22.out HT.out (by decide)))
            replace H6 := Aside0.mk (blk_grown H6.out hg24 (Kd.R_ne HO22.out H6.out (by decide)))
            replace HB := Aside0.mk hb24
            have HO24 := Aside0.mk ho24
            clear hb24 hg24 ho24
            refine hK.out _ _ ⟨(blk_cell HT.out 0).trans rfl, (blk_cell HT.out 1).trans rfl⟩ (fun hHeld => ?_)
            clear hK K
            refine norm_ (a' := ?_) ?_ ?_
            rotate_left
            · simp only [Act.put, List.setIfInBounds_toArray, List.set_cons_zero, List.set_cons_succ, i64_w, i32_w]
              rfl
            refine one_ (i := 4) (N := some 26) #[true, true, true, true, true, true, false, false] rfl rfl (one_of HT_.out (by kernel_rfl)) (by decide) (fun K hK => ?_)
            refine goes_ Try.func8 (by kernel_rfl) rfl #[.agg #[.int .i64 N, .slice AL L.length cL]] (by rfl) rfl rfl (by simp only [List.map_toArray, List.map_cons, List.map_nil]; rfl) ?_
            refine (HCopy.out _ HB.out).mono ?_
            rintro e_ w26 ⟨Ao, co, rfl, hC26, hc26, hb26⟩
            refine ⟨_, rfl, ?_⟩
            replace HT := Aside0.mk (blk_below HT.out hb26)
            replace H6 := Aside0.mk (blk_below H6.out hb26)
            have hsz26 := HB.out.size
            replace HB := Aside0.mk (below_step HB.out hb26)
            replace HO24 := Aside0.mk (Kd.R_below HO24.out hb26)
            have HC26 := Aside0.mk (Kd.S_lower hC26 hsz26)
            have Hc26 := Aside0.mk hc26
            clear hb26 hC26 hc26 hsz26
            refine hK.out _ _ ⟨(blk_cell HT.out 0).trans rfl, (blk_cell HT.out 1).trans rfl⟩ (fun hHeld => ?_)
            clear hK K
            refine norm_ (a' := ?_) ?_ ?_
            rotate_left
            · simp only [Act.put, List.setIfInBounds_toArray, List.set_cons_zero, List.set_cons_succ, i64_w, i32_w]
              rfl
            exact norm_ (by rfl) (hcont (v22, v24, .agg #[.int .i64 N, .slice Ao L.length co], g6) _ ⟨⟨Ao, co, rfl, HC26.out, Hc26.out⟩, HO24.out, H6.out, HN6.out, HB.out, HT.out⟩)
        · refine box_step (by rfl) (N := 6) rfl (cs := #[.int .i64 0, .slice none 0 0]) (t := 24) (by first | (go_simp; done) | (go_simp; rfl)) ?_
          intro g6 hg6 w6 hbx hb6
          have hn6 : W.heap.size < g6 := by have := blk_lt HT.out; omega
          replace HT := Aside0.mk (blk_below HT.out hb6)
          replace HB := Aside0.mk (below_step HB.out hb6)
          have H6 := Aside0.mk hbx
          have HN6 := Aside0.mk hn6
          clear hb6 hbx hg6 hn6
          refine hK.out _ _ ⟨(blk_cell HT.out 0).trans rfl, (blk_cell HT.out 1).trans rfl⟩ (fun hHeld => ?_)
          clear hK K
          refine norm_ (a' := ?_) ?_ ?_
          rotate_left
          · simp only [Act.put, List.setIfInBounds_toArray, List.set_cons_zero, List.set_cons_succ, i64_w, i32_w]
            rfl
          refine one_ (i := 0) (N := some 22) #[true, true, false, true, false, true, false, false] rfl rfl (one_of HT_.out (by kernel_rfl)) (by decide) (fun K hK => ?_)
          refine Kd.R_lit_step (Kd.int .i64) (w0 := W) W.heap.size 3 (by rfl) (N := 22) rfl (xs := ([] : List Int)) (inner := []) (ok := fun _ => True) (okp := fun _ => True) (by first | (go_simp; done) | (go_simp; rfl)) (Reps.none _ _) (fun _ hk => hk) trivial HB.out HB.out.size (by simp) ?_
          intro v22 w22 ho22 hb22 hg22 _
          replace HT := Aside0.mk (blk_grown HT.out hg22 (by simp))
          replace H6 := Aside0.mk (blk_grown H6.out hg22 (by simp))
          replace HB := Aside0.mk hb22
          have HO22 := Aside0.mk ho22
          clear hb22 hg22 ho22
          refine hK.out _ _ ⟨(blk_cell HT.out 0).trans rfl, (blk_cell HT.out 1).trans rfl⟩ (fun hHeld => ?_)
          clear hK K
          refine norm_ (a' := ?_) ?_ ?_
          rotate_left
          · simp only [Act.put, List.setIfInBounds_toArray, List.set_cons_zero, List.set_cons_succ, i64_w, i32_w]
            rfl
          refine one_ (i := 2) (N := some 24) #[true, true, true, true, false, true, false, false] rfl rfl (one_of HT_.out (by kernel_rfl)) (by decide) (fun K hK => ?_)
          refine Kd.R_append_rows_step (Kd.int .i64) (w0 := W) W.heap.size (by rfl) (.tmp 22) (.tmp 23) 25 3 (.int .i64 0) 8 rfl Try.underlying25 info3 rfl (by decide) (by decide) v22 [] asm A asm.length c (fun _ => True) (fun _ => False) rfl rfl HO22.out (Kd.C_below HA.out HB.out) (fun _ _ h => h) (fun _ h => h.elim) (fun _ _ => trivial) HB.out HB.out.size (by simp; omega) ?_
          intro v24 w24 ho24 hb24 hg24 _
          replace HT := Aside0.mk (blk_grown HT.out hg24 (Kd.R_ne HO22.out HT.out (by decide)))
          replace H6 := Aside0.mk (blk_grown H6.out hg24 (Kd.R_ne HO22.out H6.out (by decide)))
          replace HB := Aside0.mk hb24
          have HO24 := Aside0.mk ho24
          clear hb24 hg24 ho24
          refine hK.out _ _ ⟨(blk_cell HT.out 0).trans rfl, (blk_cell HT.out 1).trans rfl⟩ (fun hHeld => ?_)
          clear hK K
          refine norm_ (a' := ?_) ?_ ?_
          rotate_left
          · simp only [Act.put, List.setIfInBounds_toArray, List.set_cons_zero, List.set_cons_succ, i64_w, i32_w]
            rfl
          refine one_ (i := 4) (N := some 26) #[true, true, true, true, true, true, false, false] rfl rfl (one_of HT_.out (by kernel_rfl)) (by decide) (fun K hK => ?_)
          refine goes_ Try.func8 (by kernel_rfl) rfl #[.agg #[.int .i64 N, .slice AL L.length cL]] (by rfl) rfl rfl (by simp only [List.map_toArray, List.map_cons, List.map_nil]; rfl) ?_
          refine (HCopy.out _ HB.out).mono ?_
          rintro e_ w26 ⟨Ao, co, rfl, hC26, hc26, hb26⟩
          refine ⟨_, rfl, ?_⟩
          replace HT := Aside0.mk (blk_below HT.out hb26)
          replace H6 := Aside0.mk (blk_below H6.out hb26)
          have hsz26 := HB.out.size
          replace HB := Aside0.mk (below_step HB.out hb26)
          replace HO24 := Aside0.mk (Kd.R_below HO24.out hb26)
          have HC26 := Aside0.mk (Kd.S_lower hC26 hsz26)
          have Hc26 := Aside0.mk hc26
          clear hb26 hC26 hc26 hsz26
          refine hK.out _ _ ⟨(blk_cell HT.out 0).trans rfl, (blk_cell HT.out 1).trans rfl⟩ (fun hHeld => ?_)
          clear hK K
          refine norm_ (a' := ?_) ?_ ?_
          rotate_left
          · simp only [Act.put, List.setIfInBounds_toArray, List.set_cons_zero, List.set_cons_succ, i64_w, i32_w]
            rfl
          exact norm_ (by rfl) (hcont (v22, v24, .agg #[.int .i64 N, .slice Ao L.length co], g6) _ ⟨⟨Ao, co, rfl, HC26.out, Hc26.out⟩, HO24.out, H6.out, HN6.out, HB.out, HT.out⟩)
      rintro ⟨v22, v24, v26, g6⟩ wm ⟨⟨Ao, co, rfl, hCo, hco⟩, hO, h6, hn6, hb, ht⟩
      refine norm_ (a' := ?_) ?_ ?_
      rotate_left
      · simp only [putAll, Act.put, List.setIfInBounds_toArray, List.set_cons_zero, List.set_cons_succ, i64_w, i32_w]
        rfl
      refine pure_ (i := 6) (N := some 5) (v := ?_) (a' := ?_) #[true, true, true, true, true, true, true, false] rfl rfl (any_of HT_.out (by kernel_rfl)) (fun _ _ _ h => h) (Or.inl ⟨by rfl, ?_⟩) ?_ ?_
      rotate_left
      · intro w'
        go_simp
        with_reducible rfl
      rotate_left
      · simp only [Act.put, List.setIfInBounds_toArray, List.set_cons_zero, List.set_cons_succ, i64_w, i32_w]
        rfl
      refine last_ (i := 7) (N := none) #[true, true, true, true, true, true, true, true] rfl rfl (one_of HT_.out (by kernel_rfl)) (by decide) (fun K hK => ?_)
      have hq0 : wm.cell? ⟨g6, 0, none⟩ = some (.int .i64 0) := (blk_cell h6 0).trans rfl
      have hq1 : wm.cell? ⟨g6, 1, none⟩ = some (.slice none 0 0) := (blk_cell h6 1).trans rfl
      have hf0 := blk_frozen h6 0
      have hf1 := blk_frozen h6 1
      refine skip_ (w1 := ?_) (by rfl) rfl ?_ ?_
      rotate_left
      · go_simp
        rfl
      refine hK.out _ _ ?_
      clear hK K
      refine done_ (done_of HT_.out (by kernel_rfl)) ?_
      go_wp2
      go_meet
      case rel =>
        have hO2 := Kd.R_set (Kd.R_set hO h6 (by decide) 0 (.int .i64 N)) (blk_set h6 0 (.int .i64 N)) (by decide) 1 (.slice Ao L.length co)
        obtain ⟨A5, c5, rfl, hc5, hC5⟩ := Kd.R_reads hO2
        have hS2 := Kd.S_far (p := ⟨g6, 1, none⟩) (Kd.S_types (Kd.S_far (p := ⟨g6, 0, none⟩) (Kd.S_types hCo h6 (by decide)) (fun _ hk => hk.2) (.int .i64 N)) (blk_set h6 0 (.int .i64 N)) (by decide)) (fun _ hk => hk.2) (.slice Ao L.length co)
        exact ⟨A5, c5, Ao, co, g6, rfl, rfl, ⟨⟨blk_put (blk_put h6 0 _ rfl) 1 _ rfl, hC5, hc5, (Kd.S_reads' hS2).2.2, hco, below_set (below_set hb (Nat.le_of_lt hn6)) (Nat.le_of_lt hn6), blk_far (blk_far ht (Nat.ne_of_lt hn6) _) (Nat.ne_of_lt hn6) _⟩⟩⟩
  case rest =>
    obtain ⟨A5, c5, Ao, co, g6, rfl, rfl, HO5⟩ := hcut
    clear HB HT HFew HCopy
    have hc0 : wc.cell? ⟨W.heap.size, 0, none⟩ = some (.int .i64 N) := (blk_cell HO5.out.t 0).trans rfl
    have hc1 : wc.cell? ⟨W.heap.size, 1, none⟩ = some (.slice AL L.length cL) := (blk_cell HO5.out.t 1).trans rfl
    go_wp2_with fail
    refine (HCore.out _ HO5.out.below).mono ?_
    rintro e w6 ⟨v7, rfl, ho7, hb6⟩
    obtain ⟨A7, c7, rfl, hC7, hc7, hn7, _⟩ := own_C ho7
    have HB6 := Aside0.mk hb6
    have HR7 := Aside0.mk ho7
    have HC7 := Aside0.mk hC7
    have hys : ys.length ≤ 9223372036854775807 := Kd.C_max hC7
    clear hb6 ho7 hC7 hn7 hc0 hc1
    have hy30 : ys.length ≤ 30 := Nat.le_trans hcl hlen
    clear hcl
    go_wp2_with (at_builtin; refine app_wp HC7.out (by omega) (.tmp 34) (.tmp 35) rfl rfl rfl rfl ?_; intro v10 w8 HR10 HB8)
    have hlt7 : ∀ k, (Value.slice A7 ys.length c7).ownBlock = some k → k < w6.heap.size := own_lt HR7.out
    have HLt7 := Aside0.mk hlt7
    have HR7b := Aside0.mk (pw_own_below HR7.out HB8.out)
    have HB8c := Aside0.mk (below_step HB6.out HB8.out)
    have HZ8 := Aside0.mk HB8.out.size
    clear hlt7 HB8 HR7 HC7 HB6
    go_loopg [11] ys.length (fun gk v11 w' => ∃ (i : Nat) (zs : List Int), i + gk = ys.length ∧ v11 = .int .i64 i ∧ Aside0 (w'.ownsRow wc.heap.size 3 1 (.slice A7 ys.length c7) ys.length (nums .i64 zs)) ∧ Aside0 (w'.ownsRow w6.heap.size 3 1 v10 ys.length (nums .i64 ys)) ∧ Aside0 (Below wc.heap.size wc w'))
    case atStart => exact ⟨0, ys, by omega, rfl, HR7b, HR10, HB8c⟩
    case round =>
      clear HR7b HR10 HB8c
      obtain ⟨i, zs, hig, rfl, HR7, HR10, HB8⟩ := hrel
      cases gk with
      | zero =>
        have hi : ¬ ((i : Int) < (ys.length : Int)) := by omega
        obtain ⟨wo, hwo⟩ : ∃ wo : World, wo = wr := ⟨_, rfl⟩
        subst hwo
        clear HR7 HLt7 HZ8
        have hc0 : wo.cell? ⟨W.heap.size, 0, none⟩ = some (.int .i64 N) := (blk_cell (blk_below HO5.out.t HB8.out) 0).trans rfl
        have hc1 : wo.cell? ⟨W.heap.size, 1, none⟩ = some (.slice AL L.length cL) := (blk_cell (blk_below HO5.out.t HB8.out) 1).trans rfl
        go_wp2_with fail
        clear hc0 hc1
        refine (HCore.out _ (below_step HO5.out.below HB8.out)).mono ?_
        rintro e w9 ⟨v12, rfl, ho12, hb9⟩
        have HR12 := Aside0.mk ho12
        have HB9 := Aside0.mk (below_step HB8.out hb9)
        replace HR10 := Aside0.mk (pw_own_below HR10.out hb9)
        clear ho12 hb9 HB8
        have hc0 : w9.cell? ⟨W.heap.size, 0, none⟩ = some (.int .i64 N) := (blk_cell (blk_below HO5.out.t HB9.out) 0).trans rfl
        have hc1 : w9.cell? ⟨W.heap.size, 1, none⟩ = some (.slice AL L.length cL) := (blk_cell (blk_below HO5.out.t HB9.out) 1).trans rfl
        go_wp2_with fail
        clear hc0 hc1
        refine (HSolve.out _ (below_step HO5.out.below HB9.out)).mono ?_
        rintro e w10 ⟨rfl, hb10⟩
        have HB10 := Aside0.mk (below_step HB9.out hb10)
        replace HR10 := Aside0.mk (pw_own_below HR10.out hb10)
        replace HR12 := Aside0.mk (pw_own_below HR12.out hb10)
        clear hb10 HB9
        have hc0 : w10.cell? ⟨W.heap.size, 0, none⟩ = some (.int .i64 N) := (blk_cell (blk_below HO5.out.t HB10.out) 0).trans rfl
        have hc1 : w10.cell? ⟨W.heap.size, 1, none⟩ = some (.slice AL L.length cL) := (blk_cell (blk_below HO5.out.t HB10.out) 1).trans rfl
        go_wp2_with fail
        clear hc0 hc1
        refine (HEnt.out _ (below_step HO5.out.below HB10.out)).mono ?_
        rintro e w11 ⟨rfl, hb11⟩
        have HB11 := Aside0.mk (below_step HB10.out hb11)
        replace HR10 := Aside0.mk (pw_own_below HR10.out hb11)
        replace HR12 := Aside0.mk (pw_own_below HR12.out hb11)
        clear hb11 HB10 HCore HSolve HEnt
        have hc0 : w11.cell? ⟨W.heap.size, 0, none⟩ = some (.int .i64 N) := (blk_cell (blk_below HO5.out.t HB11.out) 0).trans rfl
        have hc1 : w11.cell? ⟨W.heap.size, 1, none⟩ = some (.slice AL L.length cL) := (blk_cell (blk_below HO5.out.t HB11.out) 1).trans rfl
        have hd0 : w11.cell? ⟨g6, 0, none⟩ = some (.int .i64 N) := (blk_cell (blk_below HO5.out.b6 HB11.out) 0).trans rfl
        have hd1 : w11.cell? ⟨g6, 1, none⟩ = some (.slice Ao L.length co) := (blk_cell (blk_below HO5.out.b6 HB11.out) 1).trans rfl
        have hN : (N != N) = false := by simp
        have hLL : (L.length != L.length) = false := by simp
        go_wp2_with fail
        clear hc0 hc1 hd0 hd1 hN hLL
        have HBW := Aside0.mk (below_step HO5.out.below HB11.out)
        go_loopg [76] L.length (fun gk v76 w' => ∃ (i n : Nat), i + gk = L.length ∧ v76 = .int .i64 i ∧ Aside0 (w' = w11.drewN n))
        case atStart => exact ⟨0, 0, by omega, rfl, ⟨rfl⟩⟩
        case round =>
          obtain ⟨i, n, hig2, rfl, ⟨hwr⟩⟩ := hrel
          subst hwr
          cases gk with
          | zero =>
            have hi2 : ¬ ((i : Int) < (L.length : Int)) := by omega
            have HBn := Aside0.mk (pw_below_drewN HB11.out n)
            have HBWn := Aside0.mk (pw_below_drewN HBW.out n)
            have HR10n := Aside0.mk (own_move (w1 := w11.drewN n) HR10.out (fun _ _ => rfl))
            have HR12n := Aside0.mk (own_move (w1 := w11.drewN n) HR12.out (fun _ _ => rfl))
            obtain ⟨A10, c10, rfl, hC10, hc10, _, _⟩ := own_C HR10n.out
            obtain ⟨A12, c12, rfl, hC12, hc12, _, _⟩ := own_C HR12n.out
            have hs1 := same_calls (Kd.C_below HA.out HBWn.out) Hc.out (Kd.C_below HO5.out.was HBn.out) HO5.out.wasc
            have hs2 : ∀ n2, Calls Try.prog 12 #[.slice A12 ys.length c12, .slice A10 ys.length c10] ((w11.drewN n).drewN n2) fun e w' => e = .returned (.bool true) ∧ Drawn0 ((w11.drewN n).drewN n2) w' := fun n2 => by
              have := same_calls (Kd.C_drewN hC12 n2) hc12 (Kd.C_drewN hC10 n2) hc10
              rwa [decide_eq_true rfl] at this
            rw [decide_eq_true rfl] at hs1
            have HS1 := Aside0.mk hs1
            have HS2 := Aside0.mk hs2
            clear hs1 hs2 hC10 hC12
            generalize w11.drewN n = w12 at HS1 HS2 HBWn ⊢
            go_wp2_with fail
            refine HS1.out.mono ?_
            rintro e w13 ⟨rfl, ⟨n2, rfl⟩⟩
            go_wp2_with fail
            refine (HS2.out n2).mono ?_
            rintro e w14 ⟨rfl, ⟨n3, rfl⟩⟩
            go_wp2_with fail
            refine (works_calls _).mono ?_
            rintro e w15 ⟨rfl, hb15⟩
            have HB15 := Aside0.mk (below_step (pw_below_drewN HBWn.out (n2 + n3)) hb15)
            clear hb15
            go_wp2_with fail
            go_ret
            exact ⟨rfl, HB15.out⟩
          | succ gk =>
            have hi2 : (i : Int) < (L.length : Int) := by omega
            obtain ⟨ad1, A1, d1, hA1, hx1, hl1, hr1⟩ := rd_row (Kd.C_drewN (Kd.C_below HL.out HBW.out) n) i (by omega)
            obtain ⟨ad2, A2, d2, hA2, hx2, hl2, hr2⟩ := rd_row (Kd.C_drewN (Kd.C_below HO5.out.own HB11.out) n) i (by omega)
            subst hA1
            subst hA2
            have hd1 : (w11.drewN n).cell? ⟨g6, 1, none⟩ = some (.slice (some ad2) L.length co) := (blk_cell (blk_drewN (blk_below HO5.out.b6 HB11.out) n) 1).trans rfl
            have hs1 := same_calls hr1 hl1 hr2 hl2
            rw [decide_eq_true rfl] at hs1
            have HS1 := Aside0.mk hs1
            clear hs1 hl1 hl2 hr1 hr2
            obtain ⟨cl, hcl⟩ : ∃ cl, L.getD i [] = cl := ⟨_, rfl⟩
            rw [hcl] at hx1 hx2 HS1
            clear hcl
            go_wp2_with (go_at_call 12; refine HS1.out.mono ?_; rintro e w13 ⟨rfl, ⟨n2, rfl⟩⟩)
            go_roundg gk
            case measure => omega
            case rel => exact ⟨i + 1, n + n2, by omega, by go_num, ⟨rfl⟩⟩
      | succ gk =>
        have hi : (i : Int) < (ys.length : Int) := by omega
        obtain ⟨g7, cap7, he7, hb7, hl7⟩ := HR7.out.form (by omega)
        injection he7 with e1 _ e3
        subst e1
        subst e3
        have ha := own_at HR7.out (i : Int) (by omega) (by omega)
        have hst := own_store HR7.out (i : Int) 0
        rw [Int.toNat_natCast] at ha hst
        obtain ⟨ha1, ha2⟩ := ha
        have HS := Aside0.mk hst.1
        have hg7 : g7 < w6.heap.size := HLt7.out g7 rfl
        have HN : Aside0 (∀ k, v10.ownBlock = some k → k ≠ g7) := ⟨fun k hk e => by have := own_base HR10.out k hk; omega⟩
        have HG7 := Aside0.mk hb7
        clear hst hb7 hl7 hg7
        generalize rd zs (i : Int) = y at ha1
        go_wp2_with fail
        go_roundg gk
        case measure => omega
        case rel => exact ⟨i + 1, _, by omega, by go_num, HS, ⟨own_move HR10.out (fun k hk => Below.heap_setCell wr ⟨g7, i, none⟩ _ k (HN.out k hk))⟩, ⟨below_set HB8.out HG7.out⟩⟩
end Go.Proofs.Ytbnjbjcokkcfcaa.Sol
