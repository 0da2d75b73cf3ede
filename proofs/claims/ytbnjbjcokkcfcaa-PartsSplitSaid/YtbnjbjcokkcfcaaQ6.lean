/- The walk of the reference s Split. -/
import Derived.Test.YtbnjbjcokkcfcaaQ5
namespace Go.Proofs.Ytbnjbjcokkcfcaa.Sol
open Go.RowKit Go.Proofs.YtbnjbjcokkcfcaaW.PrintWords Go.Proofs.YtbnjbjcokkcfcaaW.PrintLast Go.Proofs.YtbnjbjcokkcfcaaW.PrintMore Go.Proofs.Ytbnjbjcokkcfcaa.PSearchOwn
set_option linter.unusedVariables false
set_option linter.unusedSimpArgs false
theorem res16 {tmps : Array Value} {w : World} {gR : Nat} {a b : Nat} {v : Value} {er : Int} (h4 : tmps.getD 4 undef = v) (h5 : tmps.getD 5 undef = .pointer (some ⟨gR, 0, none⟩)) (h6 : tmps.getD 6 undef = .int .i64 er) (hg : w.heap[gR]? = some (.cells #[.int .u64 (a : Int), .int .u64 (b : Int)] 34 (0, 0))) :
    (results Try.f16 tmps).run Try.prog w = .ok (.tuple #[v, .agg #[.int .u64 (a : Int), .int .u64 (b : Int)], .int .i64 er]) w := by
  have h := results_list (P := Try.prog) (fn := Try.f16) (tmps := tmps) (w := w) (rs := [.tmp 4, .cell 5 34, .tmp 6]) rfl (by simp) (.tmp (.cell gR 34 #[.int .u64 (a : Int), .int .u64 (b : Int)] (0, 0) _ h5 hg Try.underlying34 rfl size34 (.tmp .nil)))
  rw [h4, h6] at h
  exact h
/-- What the reference's Split leaves. -/
def SplitPost16 (W : World) (ok : Bool) (r : List Part × (Nat × Nat)) (e : Ending) (w' : World) : Prop :=
  ∃ v, e = .returned (.tuple #[v, setV2 (if ok then r.2 else (0, 0)), .int .i64 (if ok then 0 else 1)]) ∧ KP.R 69 w' W.heap.size (fun _ => True) v (if ok then r.1 else []) ∧ Below W.heap.size W w'
theorem KP_block {w : World} {base g m cap : Nat} {ok : Nat → Prop} {xs : List Part} (h : KP.R 69 w base ok (.slice (some ⟨g, 0, none⟩) m cap) xs) : ∃ cur, w.heap[g]? = some (.cells cur 69 (0, 0)) ∧ m * 3 ≤ cur.size := by
  obtain ⟨inner, ho⟩ := Kd.R_own h
  have hn : m = xs.length := (Kd.R_reads' h).1
  rcases ho.2 with ⟨h0, _⟩ | ⟨g', cap', cur, hv, _, hh, hnc, _, hcs, _⟩
  · cases h0
  · injection hv with ha _ hc
    injection ha with ha
    injection ha with hg
    subst hg; subst hc
    refine ⟨cur, hh, ?_⟩
    rw [hcs, hn]
    exact Nat.mul_le_mul_right _ hnc
theorem growC_head {L : List (List Int)} {ys : List Int} {i : Nat} (hi : i < L.length) (hl : lf L ys i = true) : 0 < (growC L ys i L.length).length ∧ firstB L ys i = decide ((growC L ys i L.length).getD 0 0 = (i : Int)) := by
  have hm : (i : Int) ∈ growC L ys i L.length := by
    unfold growC
    refine List.mem_map.2 ⟨i, List.mem_filter.2 ⟨List.mem_range.2 hi, ?_⟩, rfl⟩
    unfold inC
    rw [hl, decide_eq_true rfl]; rfl
  refine ⟨List.length_pos_of_mem hm, ?_⟩
  unfold firstB
  cases h : growC L ys i L.length with
  | nil => rw [h] at hm; cases hm
  | cons x r =>
    rw [List.head?_cons, List.getD_cons_zero]
    exact decide_eq_decide.2 ⟨fun h => by injection h, fun h => by rw [h]⟩
section
variable {ops : Array Oper} {rest : List Oper} {o : Oper} {a : Act} {Q : Exit → Act → World → Prop}
/-- A component is appended. -/
theorem app_part {w : World} (base : Nat) {v : Value} {out : List Part} (hR : KP.R 69 w base (fun _ => True) v out) {gs : Nat × Nat} {gc : List Int} {A5 : Option Addr} {c5 : Nat} (hz : w.ownsRow base 3 1 (.slice A5 gc.length c5) gc.length (nums .i64 gc)) (hlen : out.length ≤ 4096) (hbase : base ≤ w.heap.size) (hgd : o.guard = none) (s x : Operand) (ho : o.op = .call { callee := .builtin .append, args := #[s, x], argTypes := #[43, 43] }) (hs : a.eval s = v) (hx : a.eval x = .slice (some ⟨w.heap.size, 0, none⟩) 1 1)
    (K : ∀ g cap m w2, m = out.length + 1 → KP.R 69 w2 base (fun _ => True) (.slice (some ⟨g, 0, none⟩) m cap) (out ++ [(gs, gc)]) → w.grownBy w2 v.ownBlock → wpList Try.prog ops Q rest (a.put o.dst (.slice (some ⟨g, 0, none⟩) m cap)) w2) :
    wpList Try.prog ops Q (o :: rest) a (w.alloc (.cells #[.int .u64 (gs.1 : Int), .int .u64 (gs.2 : Int), .slice A5 gc.length c5] 69)) := by
  obtain ⟨inner, ho4⟩ := Kd.R_own hR
  refine Kd.R_append KP (w0 := w) base hgd s x 43 69 (.agg #[.int .u64 0, .int .u64 0, .slice none 0 0]) 40 ho Try.underlying43 info69 rfl (by decide) (by decide) v out (gs, gc) [.int .u64 (gs.1 : Int), .int .u64 (gs.2 : Int), .slice A5 gc.length c5] (fun _ => True) (fun k => (Value.slice A5 gc.length c5).ownBlock = some k) hs hx (KP_M (Kd.R_of_own hz (fun k hk => hk))) (fun k hk => ⟨trivial, fun he => ?_⟩) (fun _ _ => trivial) hR (Below.refl _ _ |>.mono hbase) hbase (by omega) ?_
  · rcases own_type_ne hz ho4 (by decide) with e | e
    · rw [e] at hk; cases hk
    · exact e (by rw [hk]; exact he)
  · intro v1 w1 hr hb hg hat
    obtain ⟨inner1, ho1⟩ := Kd.R_own hr
    rw [List.length_append, List.length_singleton] at ho1
    rcases ho1.2 with ⟨_, h0⟩ | ⟨g, cap, cur, rfl, _⟩
    · omega
    · exact K g cap _ w1 rfl hr hg
end
def q16r14T : Bool × List (List Nat × List Nat) := (true, [([], []), ([0], [0]), ([1], [1]), ([2], [2]), ([2], [2]), ([3, 4, 2], [2, 3, 4]), ([5, 2], [2, 5]), ([6, 2], [2, 6]), ([7, 2, 2], [2, 7]), ([2], [2]), ([2], [2]), ([10, 2], [2, 10]), ([9, 11, 2], [2, 9, 11]), ([12, 2], [2, 12]), ([13, 2], [2, 13]), ([14, 8, 2], [2, 14]), ([8, 15, 2], [2, 8, 15]), ([2, 16], [2, 16])])
def q16r14B : List Nat := [0, 1, 3, 7, 7, 31, 63, 127, 255, 7, 7, 1031, 3591, 7687, 15879, 32767, 65535, 131071]
theorem q16r14tab : rtab .any (opsOf Try.f16 14) = q16r14T := by kernel_rfl
theorem q16r14bits : waitsOk q16r14T.2 q16r14B = true := by kernel_rfl
def q16r16T : Bool × List (List Nat × List Nat) := (true, [([], []), ([], []), ([], []), ([], []), ([3], [3]), ([], []), ([], []), ([6], [6]), ([5, 7], [5, 7]), ([8], [8]), ([], []), ([], []), ([10, 11], [10, 11]), ([12], [12]), ([0, 1, 0, 1, 5, 6, 7, 8, 9, 13], [0, 1]), ([14, 9, 0, 1, 5, 6, 7, 8, 9, 13], [9, 14]), ([2, 4, 0, 1, 2, 3, 4, 5, 6, 7, 8, 9, 10, 11, 12, 13, 14, 15], [2, 4]), ([16, 13, 15, 0, 1, 2, 3, 4, 5, 6, 7, 8, 9, 10, 11, 12, 13, 14, 15], [13, 16])])
def q16r16B : List Nat := [0, 0, 0, 0, 8, 0, 0, 64, 224, 480, 0, 0, 3072, 7168, 16355, 32739, 65535, 131071]
theorem q16r16tab : rtab .any (opsOf Try.f16 16) = q16r16T := by kernel_rfl
theorem q16r16bits : waitsOk q16r16T.2 q16r16B = true := by kernel_rfl
section
variable {N : Int} {W : World} {AL : Option Addr} {cL : Nat} {L : List (List Int)} {A : Option Addr} {c : Nat} {ys : List Int} {n : Nat}
set_option maxHeartbeats 2000000 in
set_option maxRecDepth 100000 in
theorem refsplit_err (hL : Kd.C (Kd.slice 3 (Kd.int .i64)) W AL L.length L) (hcL : L.length ≤ cL) (hA : (Kd.int .i64).C W A ys.length ys) (hc : ys.length ≤ c) (hok : okB N L ys = false) (r : List Part × (Nat × Nat)) :
    Calls Try.prog 16 #[.agg #[.int .i64 N, .slice AL L.length cL], .slice A ys.length c] W (SplitPost16 W false r) := by
  have hg0 : SW W N AL cL L ((W.alloc (.cells #[.int .i64 N, .slice AL L.length cL] 24)).alloc (.cells #[.int .u64 0, .int .u64 0] 34)) :=
    ⟨blk_alloc (blk_new W _) _, by have := blk_new (W.alloc (.cells #[.int .i64 N, .slice AL L.length cL] 24)) (.cells #[.int .u64 0, .int .u64 0] 34); rwa [blk_size] at this, below_alloc (below_alloc (Below.refl _ _) _) _⟩
  have HG := Aside0.mk hg0
  have HV := Aside0.mk (valid16_calls (N := N) (Kd.C_below hL hg0.be) hcL (Kd.C_below hA hg0.be) hc)
  rw [hok] at HV
  clear hL hA hg0 hok
  go_enter Try.func16, Try.ntmps16
  go_wp2_with (go_at_call 46; refine (HV.out).mono ?_; rintro e w1 ⟨rfl, hb1⟩; replace HG := Aside0.mk (HG.out.bg hb1); have hf0 := blk_frozen HG.out.rz 0; have hf1 := blk_frozen HG.out.rz 1; have hc0 : w1.cell? ⟨W.heap.size + 1, 0, none⟩ = some (.int .u64 0) := (blk_cell HG.out.rz 0).trans rfl; have hc1 : w1.cell? ⟨W.heap.size + 1, 1, none⟩ = some (.int .u64 0) := (blk_cell HG.out.rz 1).trans rfl; clear hb1)
  refine bodyPost_ret (res16 (gR := W.heap.size + 1) (a := 0) (b := 0) rfl rfl rfl (blk_put (blk_put HG.out.rz 0 _ rfl) 1 _ rfl)) rfl ⟨_, rfl, Kd.R_nil _ _ _ _ _, ?_⟩
  exact below_set (below_set HG.out.be (Nat.le_succ _)) (Nat.le_succ _)
set_option maxHeartbeats 4000000 in
set_option maxRecDepth 100000 in
theorem refsplit_ok (hL : Kd.C (Kd.slice 3 (Kd.int .i64)) W AL L.length L) (hcL : L.length ≤ cL) (hA : (Kd.int .i64).C W A ys.length ys) (hc : ys.length ≤ c) (hN : N = n) (hn : n ≤ 128) (hok : okB N L ys = true) (hOk : OkL n L) (hLc : ∀ c ∈ L, c.length ≤ 4096) (hLen : L.length ≤ 4096) (hlits : Lits ys) :
    Calls Try.prog 16 #[.agg #[.int .i64 N, .slice AL L.length cL], .slice A ys.length c] W (SplitPost16 W true (refSplit n L ys)) := by
  subst hN
  have hg0 : SW W (n : Int) AL cL L ((W.alloc (.cells #[.int .i64 (n : Int), .slice AL L.length cL] 24)).alloc (.cells #[.int .u64 0, .int .u64 0] 34)) :=
    ⟨blk_alloc (blk_new W _) _, by have := blk_new (W.alloc (.cells #[.int .i64 (n : Int), .slice AL L.length cL] 24)) (.cells #[.int .u64 0, .int .u64 0] 34); rwa [blk_size] at this, below_alloc (below_alloc (Below.refl _ _) _) _⟩
  have HG := Aside0.mk hg0
  have HV := Aside0.mk (valid16_calls (N := (n : Int)) (Kd.C_below hL hg0.be) hcL (Kd.C_below hA hg0.be) hc)
  rw [hok] at HV
  have HL := Aside0.mk hL
  have HA := Aside0.mk hA
  have HOk := Aside0.mk hOk
  have HLits := Aside0.mk hlits
  have HVars := Aside0.mk (fun (w : World) (hb : Below W.heap.size W w) => vars_calls (c := c) (Kd.C_below hA hb) hlits)
  have HGrow := Aside0.mk (fun (w : World) (hb : Below W.heap.size W w) (i : Nat) (hi : i < L.length) => grow_calls (N := (n : Int)) (n := n) (Kd.C_below hL hb) hcL (Kd.C_below hA hb) hc hOk hLc hLen i hi)
  clear hL hA hg0 hok hOk hLc hlits
  go_enter Try.func16, Try.ntmps16
  go_wp2_with (first
    | (go_at_call 46; refine (HV.out).mono ?_; rintro e w1 ⟨rfl, hb1⟩; replace HG := Aside0.mk (HG.out.bg hb1); clear hb1)
    | (go_at_call 47; refine (HVars.out _ HG.out.be).mono ?_; rintro e w2 ⟨rfl, hb2⟩; replace HG := Aside0.mk (HG.out.bg hb2); clear hb2))
  have HU := Aside0.mk (blk_new w2 (.cells (cS (varsS ys)) 34))
  have HGe8 := Aside0.mk HG.out.lt
  replace HG := Aside0.mk (HG.out.bg (below_alloc (Below.refl _ _) (.cells (cS (varsS ys)) 34)))
  clear HV HVars
  generalize w2.alloc (.cells (cS (varsS ys)) 34) = w3 at HU HG ⊢
  generalize w2.heap.size = b8 at HU HGe8 ⊢
  go_loopg [7, 9] L.length (fun gk v7 v9 w' => ∃ (i : Nat), i + gk = L.length ∧ v9 = .int .i64 (i : Int) ∧ Aside0 (w'.heap[b8]? = some (.cells (cS (refF L ys i).1) 34 (0, 0))) ∧ Aside0 (KP.R 69 w' W.heap.size (fun _ => True) v7 (refF L ys i).2) ∧ Aside0 (SW W (n : Int) AL cL L w'))
  case atStart => exact ⟨0, by omega, rfl, HU, ⟨Kd.R_nil _ _ _ _ _⟩, HG⟩
  case round =>
    clear HU HG
    obtain ⟨i, hig, rfl, HU, HR, HG⟩ := hrel
    have ht0 : wr.cell? ⟨W.heap.size, 0, none⟩ = some (.int .i64 (n : Int)) := (blk_cell HG.out.th 0).trans rfl
    have ht1 : wr.cell? ⟨W.heap.size, 1, none⟩ = some (.slice AL L.length cL) := (blk_cell HG.out.th 1).trans rfl
    cases gk with
    | zero =>
      have hi : i = L.length := by omega
      subst hi
      have hi : ¬ ((L.length : Int) < (L.length : Int)) := by omega
      have HSu := Aside0.mk (refUsed_ok HOk.out HLits.out L.length)
      have HRef := Aside0.mk (show refSplit n L ys = ((refF L ys L.length).2, freeF (refF L ys L.length).1 n) from rfl)
      obtain ⟨st, hste⟩ : ∃ st, refF L ys L.length = st := ⟨_, rfl⟩
      obtain ⟨us, out⟩ := st
      rw [hste] at HSu HRef HU HR
      clear hste HGrow
      have hbx := below_alloc (Below.refl wr.heap.size wr) (.cells #[.int .u64 0, .int .u64 0] 34)
      have HF := Aside0.mk (show (wr.alloc (.cells #[.int .u64 0, .int .u64 0] 34)).heap[wr.heap.size]? = some (.cells (cS (freeF us 0)) 34 (0, 0)) from blk_new wr (.cells #[.int .u64 0, .int .u64 0] 34))
      have HU1 := Aside0.mk (blk_below HU.out hbx)
      have HR1 := Aside0.mk (Kd.R_below HR.out hbx)
      have HG1 := Aside0.mk (HG.out.bg hbx)
      have HNe := Aside0.mk (Nat.ne_of_lt (blk_lt HU.out))
      have HGe := Aside0.mk HG.out.lt
      clear HU HR HG hbx
      go_wp2
      clear ht0 ht1 hi
      generalize wr.alloc (.cells #[.int .u64 0, .int .u64 0] 34) = w4 at HF HU1 HR1 HG1 ⊢
      generalize wr.heap.size = b12 at HF HNe HGe ⊢
      go_loopg [13] n (fun gj v13 w' => ∃ (v : Nat), v + gj = n ∧ v13 = .int .i64 ((v : Int) + 1) ∧ Aside0 (w'.heap[b12]? = some (.cells (cS (freeF us v)) 34 (0, 0))) ∧ Aside0 (w'.heap[b8]? = some (.cells (cS us) 34 (0, 0))) ∧ Aside0 (KP.R 69 w' W.heap.size (fun _ => True) u7 out) ∧ Aside0 (SW W (n : Int) AL cL L w'))
      case atStart => exact ⟨0, by omega, rfl, HF, HU1, HR1, HG1⟩
      case round =>
        clear HF HU1 HR1 HG1
        obtain ⟨v, hvg, rfl, HF, HU, HR, HG⟩ := hrel
        have ht0 : wr.cell? ⟨W.heap.size, 0, none⟩ = some (.int .i64 (n : Int)) := (blk_cell HG.out.th 0).trans rfl
        cases gk with
        | zero =>
          have hv : v = n := by omega
          subst hv
          have hv : ¬ ((v : Int) + 1 ≤ (v : Int)) := by omega
          have hq0 : wr.cell? ⟨b12, 0, none⟩ = some (.int .u64 ((freeF us v).1 : Int)) := (blk_cell HF.out 0).trans rfl
          have hq1 : wr.cell? ⟨b12, 1, none⟩ = some (.int .u64 ((freeF us v).2 : Int)) := (blk_cell HF.out 1).trans rfl
          have hf0 := blk_frozen HG.out.rz 0
          have hf1 := blk_frozen HG.out.rz 1
          have hr0 : wr.cell? ⟨W.heap.size + 1, 0, none⟩ = some (.int .u64 0) := (blk_cell HG.out.rz 0).trans rfl
          have hr1 : wr.cell? ⟨W.heap.size + 1, 1, none⟩ = some (.int .u64 0) := (blk_cell HG.out.rz 1).trans rfl
          go_wp2
          go_region
          go_wp2
          refine bodyPost_ret (res16 (v := u7) (gR := W.heap.size + 1) (a := (freeF us v).1) (b := (freeF us v).2) (er := 0) rfl rfl rfl (blk_drew (blk_put (blk_put HG.out.rz 0 _ rfl) 1 _ rfl))) rfl ?_
          refine ⟨u7, ?_, ?_, ?_⟩
          · rw [if_pos rfl, if_pos rfl, HRef.out]
          · rw [if_pos rfl, HRef.out]
            exact Kd.R_drewN (Kd.R_set (Kd.R_set HR.out HG.out.rz (by decide) 0 (.int .u64 ((freeF us v).1 : Int))) (blk_put HG.out.rz 0 (.int .u64 ((freeF us v).1 : Int)) rfl) (by decide) 1 (.int .u64 ((freeF us v).2 : Int))) 1
          · exact below_drew1 (below_set (below_set HG.out.be (Nat.le_succ _)) (Nat.le_succ _))
        | succ gj =>
          have hvI : (v : Int) + 1 ≤ (n : Int) := by omega
          have hu0 : wr.cell? ⟨b8, 0, none⟩ = some (.int .u64 (us.1 : Int)) := (blk_cell HU.out 0).trans rfl
          have hu1 : wr.cell? ⟨b8, 1, none⟩ = some (.int .u64 (us.2 : Int)) := (blk_cell HU.out 1).trans rfl
          have HIn := Aside0.mk (in_calls us (v + 1) (by omega) (by omega) wr HSu.out)
          have hfs : freeF us (v + 1) = if memS us (v + 1) then freeF us v else withS (freeF us v) (v + 1) := rfl
          have HSf := Aside0.mk (freeF_facts us v (by omega)).1
          cases hmem : memS us (v + 1) with
          | true =>
            rw [hmem] at HIn hfs
            have HFs := Aside0.mk hfs
            clear hfs hmem
            go_wp2_with (go_at_call 52; refine (HIn.out).mono ?_; rintro e w5 ⟨rfl, hb5⟩; have HB5 := Aside0.mk hb5; clear hb5 HIn)
            go_roundg gj
            case measure => omega
            case rel => exact ⟨v + 1, by omega, by go_num, ⟨by rw [HFs.out]; exact blk_below HF.out HB5.out⟩, ⟨blk_below HU.out HB5.out⟩, ⟨Kd.R_below HR.out HB5.out⟩, ⟨HG.out.bg HB5.out⟩⟩
          | false =>
            rw [hmem] at HIn hfs
            have HFs := Aside0.mk hfs
            have HWith := Aside0.mk (fun w => with16_calls (freeF us v) (v + 1) (by omega) (by omega) w HSf.out)
            clear hfs hmem
            go_wp2_with (first
              | (go_at_call 52; refine (HIn.out).mono ?_; rintro e w5 ⟨rfl, hb5⟩; have HB5 := Aside0.mk hb5; clear hb5 HIn; have hq0 : w5.cell? ⟨b12, 0, none⟩ = some (.int .u64 ((freeF us v).1 : Int)) := (blk_cell (blk_below HF.out HB5.out) 0).trans rfl; have hq1 : w5.cell? ⟨b12, 1, none⟩ = some (.int .u64 ((freeF us v).2 : Int)) := (blk_cell (blk_below HF.out HB5.out) 1).trans rfl)
              | (go_at_call 53; refine (HWith.out _).mono ?_; rintro e w6 ⟨rfl, hb6⟩; have HB6 := Aside0.mk (below_step HB5.out hb6); clear hb6 HWith; have hf0 := blk_frozen (blk_below HF.out HB6.out) 0; have hf1 := blk_frozen (blk_below HF.out HB6.out) 1; have hp0 : w6.cell? ⟨b12, 0, none⟩ = some (.int .u64 ((freeF us v).1 : Int)) := (blk_cell (blk_below HF.out HB6.out) 0).trans rfl; have hp1 : w6.cell? ⟨b12, 1, none⟩ = some (.int .u64 ((freeF us v).2 : Int)) := (blk_cell (blk_below HF.out HB6.out) 1).trans rfl))
            go_roundg gj
            case measure => omega
            case rel => exact ⟨v + 1, by omega, by go_num, ⟨by rw [HFs.out]; exact set_blk (blk_below HF.out HB6.out) _⟩, ⟨blk_far (blk_far (blk_below HU.out HB6.out) HNe.out _) HNe.out _⟩, ⟨Kd.R_set (Kd.R_set (Kd.R_below HR.out HB6.out) (blk_below HF.out HB6.out) (by decide) 0 _) (blk_put (blk_below HF.out HB6.out) 0 _ rfl) (by decide) 1 _⟩, ⟨((HG.out.bg HB6.out).set HGe.out _).set HGe.out _⟩⟩
    | succ gk =>
      have hiL : i < L.length := by omega
      have hiI : (i : Int) < (L.length : Int) := by omega
      obtain ⟨aL, A0, c0, hAL, hcell, hc0, hC0⟩ := rd_row (Kd.C_below HL.out HG.out.be) i hiL
      subst hAL
      have hlfe : lf L ys i = leftB (L.getD i []) ys := rfl
      have HLeft := Aside0.mk (left_calls hC0 hc0 (Kd.C_below HA.out HG.out.be) hc)
      obtain ⟨ci, hci⟩ : ∃ ci, L.getD i [] = ci := ⟨_, rfl⟩
      rw [hci] at hcell hc0 hC0 hlfe HLeft
      clear hci hC0
      cases hlf : leftB ci ys with
      | false =>
        have HSt := Aside0.mk (show refF L ys (i + 1) = refF L ys i from by show (if lf L ys i then _ else _) = _; rw [hlfe, hlf]; rfl)
        rw [hlf] at HLeft
        clear hlfe hlf
        go_wp2_with (go_at_call 48; refine (HLeft.out).mono ?_; rintro e w8 ⟨rfl, nd, rfl⟩; clear HLeft)
        go_roundg gk
        case measure => omega
        case rel => exact ⟨i + 1, by omega, by go_num, ⟨by rw [HSt.out]; exact blk_drewN HU.out nd⟩, ⟨by rw [HSt.out]; exact Kd.R_drewN HR.out nd⟩, ⟨HG.out.bg (pw_below_drewN (Below.refl _ _) nd)⟩⟩
      | true =>
        rw [hlf] at HLeft hlfe
        obtain ⟨hlen0, hfb⟩ := growC_head (ys := ys) hiL hlfe
        have hst : refF L ys (i + 1) = if firstB L ys i then (joinS (refF L ys i).1 (grown L ys i), insF (refF L ys i).2 (grown L ys i, growC L ys i L.length)) else refF L ys i := by show (if lf L ys i then _ else _) = _; rw [hlfe]; rfl
        rw [hfb] at hst
        have HSp := Aside0.mk (grown_ok (ys := ys) HOk.out i)
        have HSu := Aside0.mk (refUsed_ok HOk.out HLits.out i)
        have HQs := Aside0.mk ((refF_ok (ys := ys) HOk.out i).1)
        have hol := (refF_ok (ys := ys) HOk.out i).2
        have hG := fun (w : World) (hb : Below W.heap.size W w) => HGrow.out w hb i hiL
        obtain ⟨gs, hgs⟩ : ∃ gs, grown L ys i = gs := ⟨_, rfl⟩
        obtain ⟨gc, hgc⟩ : ∃ gc, growC L ys i L.length = gc := ⟨_, rfl⟩
        obtain ⟨st, hste⟩ : ∃ st, refF L ys i = st := ⟨_, rfl⟩
        obtain ⟨us, out⟩ := st
        rw [hgs, hgc, hste] at hst
        rw [hgs, hgc] at hG
        rw [hgc] at hlen0
        rw [hgs] at HSp
        rw [hste] at HSu HQs hol HU HR
        have HG5 := Aside0.mk hG
        have HSt := Aside0.mk hst
        have hol2 : out.length ≤ 4096 := by have := hol; simp only at this; omega
        clear hG hst hgs hgc hste hlf hlfe hfb hol
        go_upto_region 10 with (first
          | (go_at_call 48; refine (HLeft.out).mono ?_; rintro e w4 ⟨rfl, nd, rfl⟩; clear HLeft; replace HU := Aside0.mk (blk_drewN HU.out nd); replace HR := Aside0.mk (Kd.R_drewN HR.out nd); replace HG := Aside0.mk (HG.out.bg (pw_below_drewN (Below.refl _ _) nd)))
          | (go_at_call 49; refine (HG5.out _ HG.out.be).mono ?_; rintro e w5 ⟨v5, rfl, hv5, hb5⟩; obtain ⟨A5, c5, rfl, _, _, _, _⟩ := own_C hv5; have HO := Aside0.mk (own_less hv5 HG.out.be.size); replace HU := Aside0.mk (blk_below HU.out hb5); replace HR := Aside0.mk (Kd.R_below HR.out hb5); replace HG := Aside0.mk (HG.out.bg hb5); clear hv5 hb5))
        have hbx := below_alloc (Below.refl w5.heap.size w5) (.cells #[.int .u64 (gs.1 : Int), .int .u64 (gs.2 : Int), .slice A5 gc.length c5] 69)
        have HX := Aside0.mk (blk_new w5 (.cells #[.int .u64 (gs.1 : Int), .int .u64 (gs.2 : Int), .slice A5 gc.length c5] 69))
        replace HO := Aside0.mk (pw_own_below HO.out hbx)
        replace HU := Aside0.mk (blk_below HU.out hbx)
        replace HR := Aside0.mk (Kd.R_below HR.out hbx)
        replace HG := Aside0.mk (HG.out.bg hbx)
        clear hbx HG5 ht0 ht1 hcell
        generalize w5.alloc (.cells #[.int .u64 (gs.1 : Int), .int .u64 (gs.2 : Int), .slice A5 gc.length c5] 69) = w6 at HX HO HU HR HG ⊢
        generalize w5.heap.size = b10 at HX ⊢
        obtain ⟨A5', c5', e5, hC5, _, _, _⟩ := own_C HO.out
        injection e5 with e5a e5b e5c
        subst e5a
        obtain ⟨ad5, hA5, hx5⟩ := rd_int hC5 0 hlen0
        subst hA5
        clear e5b e5c hC5
        have hlenI : (0 : Int) < (gc.length : Int) := by omega
        have hx2 : w6.cell? ⟨b10, 2, none⟩ = some (.slice (some ad5) gc.length c5) := (blk_cell HX.out 2).trans rfl
        have hx5' : w6.cell? ad5 = some (.int .i64 (gc.getD 0 0)) := hx5
        clear hx5
        obtain ⟨g0, hg0⟩ : ∃ g0, gc.getD 0 0 = g0 := ⟨_, rfl⟩
        rw [hg0] at hx5' HSt
        clear hg0
        by_cases hfi : g0 = (i : Int)
        · rw [decide_eq_true hfi, if_pos rfl] at HSt
          subst hfi
          have hu0 : w6.cell? ⟨b8, 0, none⟩ = some (.int .u64 (us.1 : Int)) := (blk_cell HU.out 0).trans rfl
          have hu1 : w6.cell? ⟨b8, 1, none⟩ = some (.int .u64 (us.2 : Int)) := (blk_cell HU.out 1).trans rfl
          have hx0 : w6.cell? ⟨b10, 0, none⟩ = some (.int .u64 (gs.1 : Int)) := (blk_cell HX.out 0).trans rfl
          have hx1 : w6.cell? ⟨b10, 1, none⟩ = some (.int .u64 (gs.2 : Int)) := (blk_cell HX.out 1).trans rfl
          go_upto_region 12 with (go_at_call 50; refine (join_calls us gs _ HSu.out HSp.out).mono ?_; rintro e w7 ⟨rfl, hb7⟩; replace HU := Aside0.mk (blk_below HU.out hb7); replace HR := Aside0.mk (Kd.R_below HR.out hb7); replace HG := Aside0.mk (HG.out.bg hb7); replace HX := Aside0.mk (blk_below HX.out hb7); replace HO := Aside0.mk (pw_own_below HO.out hb7); have hy0 : w7.cell? ⟨b8, 0, none⟩ = some (.int .u64 (us.1 : Int)) := (blk_cell HU.out 0).trans rfl; have hy1 : w7.cell? ⟨b8, 1, none⟩ = some (.int .u64 (us.2 : Int)) := (blk_cell HU.out 1).trans rfl; have hf0 := blk_frozen HU.out 0; have hf1 := blk_frozen HU.out 1; clear hb7)
          clear hu0 hu1 hx0 hx1 hx2 hx5' hy0 hy1 hf0 hf1
          have hr7 := Kd.R_set (Kd.R_set HR.out HU.out (by decide) 0 (.int .u64 ((joinS us gs).1 : Int))) (blk_put HU.out 0 (.int .u64 ((joinS us gs).1 : Int)) rfl) (by decide) 1 (.int .u64 ((joinS us gs).2 : Int))
          have hx7 := blk_far (blk_far HX.out (p := ⟨b8, 0, none⟩) (blk_ne HX.out HU.out (by decide)) (.int .u64 ((joinS us gs).1 : Int))) (p := ⟨b8, 1, none⟩) (blk_ne HX.out HU.out (by decide)) (.int .u64 ((joinS us gs).2 : Int))
          have ho7 := own_setCell (p := ⟨b8, 1, none⟩) (own_setCell (p := ⟨b8, 0, none⟩) HO.out (own_ne HO.out HU.out (by decide)) (.int .u64 ((joinS us gs).1 : Int))) (own_ne HO.out HU.out (by decide)) (.int .u64 ((joinS us gs).2 : Int))
          have hg7 := (HG.out.set (j := 0) HGe8.out (.int .u64 ((joinS us gs).1 : Int))).set (j := 1) HGe8.out (.int .u64 ((joinS us gs).2 : Int))
          have hu7 := set_blk HU.out (joinS us gs)
          generalize (w7.setCell ⟨b8, 0, none⟩ (.int .u64 ((joinS us gs).1 : Int))).setCell ⟨b8, 1, none⟩ (.int .u64 ((joinS us gs).2 : Int)) = w8 at hr7 hx7 ho7 hg7 hu7 ⊢
          replace HR := Aside0.mk hr7
          replace HX := Aside0.mk hx7
          replace HO := Aside0.mk ho7
          replace HG := Aside0.mk hg7
          replace HU := Aside0.mk hu7
          clear hr7 hx7 ho7 hg7 hu7
          have hx0 : w8.cell? ⟨b10, 0, none⟩ = some (.int .u64 (gs.1 : Int)) := (blk_cell HX.out 0).trans rfl
          have hx1 : w8.cell? ⟨b10, 1, none⟩ = some (.int .u64 (gs.2 : Int)) := (blk_cell HX.out 1).trans rfl
          have hx2 : w8.cell? ⟨b10, 2, none⟩ = some (.slice (some ad5) gc.length c5) := (blk_cell HX.out 2).trans rfl
          go_wp2_with (at_builtin; refine app_part W.heap.size HR.out HO.out hol2 HG.out.be.size rfl (.tmp 50) (.tmp 52) rfl rfl rfl ?_)
          intro g cap m w9 hm9 hr9 hg9
          have HM := Aside0.mk hm9
          have hm1 : (m : Int) ≤ 4097 := by omega
          have hm2 : (1 : Int) ≤ (m : Int) := by omega
          clear hm9
          obtain ⟨inner9, ho9⟩ := Kd.R_own HR.out
          have HU9 := Aside0.mk (blk_grown HU.out hg9 (own_ne ho9 HU.out (by decide)))
          have HG9 := Aside0.mk (HG.out.grown (by decide) (by decide) ho9 hg9)
          have HR9 := Aside0.mk hr9
          clear hr9 hg9 ho9
          go_wp2
          clear hx0 hx1 hx2 HU HR HG HX HO
          go_loopg [11] out.length (fun gj v11 w' => ∃ (z : Int) (a b : List Part), a.length = gj ∧ v11 = .int .i64 z ∧ Aside0 (z = (a.length : Int)) ∧ Aside0 (a ++ b = out ∧ ∀ q ∈ b, keyP (gs, gc) < keyP q) ∧ Aside0 (w'.heap[b8]? = some (.cells (cS (joinS us gs)) 34 (0, 0))) ∧ Aside0 (KP.R 69 w' W.heap.size (fun _ => True) (.slice (some ⟨g, 0, none⟩) m cap) (a ++ (gs, gc) :: b)) ∧ Aside0 (SW W (n : Int) (some aL) cL L w'))
          case atStart => exact ⟨_, out, [], rfl, rfl, ⟨by have := HM.out; omega⟩, ⟨List.append_nil _, fun q hq => (by cases hq)⟩, HU9, HR9, HG9⟩
          case round =>
            clear HU9 HR9 HG9
            obtain ⟨z, a, b, hal, rfl, HZ, HAB, HU, HR, HG⟩ := hrel
            rcases List.eq_nil_or_concat a with ha | ⟨a2, q, ha⟩
            · subst ha
              obtain rfl : z = 0 := HZ.out
              have HIns := Aside0.mk (show insF out (gs, gc) = [] ++ (gs, gc) :: b from by rw [← HAB.out.1]; exact insF_eq [] b (gs, gc) (fun q hq => (by cases hq)) HAB.out.2)
              have hgk : gk = 0 := hal.symm
              subst hgk
              clear hal HZ HAB
              go_wp2_with fail
              try go_step3
              refine start_ (n := 18) (S := fun w' => True) (ds := []) #[false, false, false, false, false, false, false, false, false, false, false, false, false, false, false, false, false, false] (by kernel_rfl) rfl rfl (trivial) (fun hHeld => ?_)
              refine with_tabW q16r14tab q16r14bits (fun HT_ HW_ => ?_)
              refine pure_ (i := 0) (N := some 57) (v := ?_) (a' := ?_) #[true, false, false, false, false, false, false, false, false, false, false, false, false, false, false, false, false, false] rfl rfl (any_of HT_.out (by kernel_rfl)) (fun _ _ _ h => h) (Or.inl ⟨by rfl, ?_⟩) ?_ ?_
              rotate_left
              · intro w'
                go_simp
                with_reducible rfl
              rotate_left
              · simp only [Act.put, List.setIfInBounds_toArray, List.set_cons_zero, List.set_cons_succ, i64_w, i32_w]
                rfl
              refine pure_ (i := 1) (N := some 58) (v := ?_) (a' := ?_) #[true, true, false, false, false, false, false, false, false, false, false, false, false, false, false, false, false, false] rfl rfl (any_of HT_.out (by kernel_rfl)) (fun _ _ _ h => h) (Or.inl ⟨by rfl, ?_⟩) ?_ ?_
              rotate_left
              · intro w'
                go_simp
                with_reducible rfl
              rotate_left
              · simp only [Act.put, List.setIfInBounds_toArray, List.set_cons_zero, List.set_cons_succ, i64_w, i32_w]
                rfl
              refine pure_ (i := 2) (N := some 59) (v := ?_) (a' := ?_) #[true, true, true, false, false, false, false, false, false, false, false, false, false, false, false, false, false, false] rfl rfl (any_of HT_.out (by kernel_rfl)) (fun _ _ _ h => h) (Or.inl ⟨by rfl, ?_⟩) ?_ ?_
              rotate_left
              · intro w'
                go_simp
                with_reducible rfl
              rotate_left
              · simp only [Act.put, List.setIfInBounds_toArray, List.set_cons_zero, List.set_cons_succ, i64_w, i32_w]
                rfl
              refine pure_ (i := 3) (N := some 60) (v := undef) (a' := ?_) #[true, true, true, true, false, false, false, false, false, false, false, false, false, false, false, false, false, false] rfl rfl (any_of HT_.out (by kernel_rfl)) (fun _ _ _ h => h) (Or.inr ⟨by rfl, rfl⟩) ?_ ?_
              rotate_left
              · simp only [Act.put, List.setIfInBounds_toArray, List.set_cons_zero, List.set_cons_succ, i64_w, i32_w]
                rfl
              refine pure_ (i := 4) (N := some 61) (v := undef) (a' := ?_) #[true, true, true, true, true, false, false, false, false, false, false, false, false, false, false, false, false, false] rfl rfl (any_of HT_.out (by kernel_rfl)) (fun _ _ _ h => h) (Or.inr ⟨by rfl, rfl⟩) ?_ ?_
              rotate_left
              · simp only [Act.put, List.setIfInBounds_toArray, List.set_cons_zero, List.set_cons_succ, i64_w, i32_w]
                rfl
              refine pure_ (i := 5) (N := some 62) (v := undef) (a' := ?_) #[true, true, true, true, true, true, false, false, false, false, false, false, false, false, false, false, false, false] rfl rfl (any_of HT_.out (by kernel_rfl)) (fun _ _ _ h => h) (Or.inr ⟨by rfl, rfl⟩) ?_ ?_
              rotate_left
              · simp only [Act.put, List.setIfInBounds_toArray, List.set_cons_zero, List.set_cons_succ, i64_w, i32_w]
                rfl
              refine pure_ (i := 6) (N := some 63) (v := undef) (a' := ?_) #[true, true, true, true, true, true, true, false, false, false, false, false, false, false, false, false, false, false] rfl rfl (any_of HT_.out (by kernel_rfl)) (fun _ _ _ h => h) (Or.inr ⟨by rfl, rfl⟩) ?_ ?_
              rotate_left
              · simp only [Act.put, List.setIfInBounds_toArray, List.set_cons_zero, List.set_cons_succ, i64_w, i32_w]
                rfl
              refine take_ (i := 7) (N := some 64) (v := undef) (a' := ?_) #[true, true, true, true, true, true, true, true, false, false, false, false, false, false, false, false, false, false] rfl rfl (take_ofW HT_.out HW_.out (by kernel_rfl)) (fun _ _ _ h => h) (Or.inr ⟨by rfl, rfl⟩) hHeld ?_ ?_
              rotate_left
              · simp only [Act.put, List.setIfInBounds_toArray, List.set_cons_zero, List.set_cons_succ, i64_w, i32_w]
                rfl
              refine pure_ (i := 9) (N := some 66) (v := undef) (a' := ?_) #[true, true, true, true, true, true, true, true, false, true, false, false, false, false, false, false, false, false] rfl rfl (any_of HT_.out (by kernel_rfl)) (fun _ _ _ h => h) (Or.inr ⟨by rfl, rfl⟩) ?_ ?_
              rotate_left
              · simp only [Act.put, List.setIfInBounds_toArray, List.set_cons_zero, List.set_cons_succ, i64_w, i32_w]
                rfl
              refine pure_ (i := 10) (N := some 67) (v := undef) (a' := ?_) #[true, true, true, true, true, true, true, true, false, true, true, false, false, false, false, false, false, false] rfl rfl (any_of HT_.out (by kernel_rfl)) (fun _ _ _ h => h) (Or.inr ⟨by rfl, rfl⟩) ?_ ?_
              rotate_left
              · simp only [Act.put, List.setIfInBounds_toArray, List.set_cons_zero, List.set_cons_succ, i64_w, i32_w]
                rfl
              refine pure_ (i := 11) (N := some 68) (v := undef) (a' := ?_) #[true, true, true, true, true, true, true, true, false, true, true, true, false, false, false, false, false, false] rfl rfl (any_of HT_.out (by kernel_rfl)) (fun _ _ _ h => h) (Or.inr ⟨by rfl, rfl⟩) ?_ ?_
              rotate_left
              · simp only [Act.put, List.setIfInBounds_toArray, List.set_cons_zero, List.set_cons_succ, i64_w, i32_w]
                rfl
              refine pure_ (i := 12) (N := some 69) (v := undef) (a' := ?_) #[true, true, true, true, true, true, true, true, false, true, true, true, true, false, false, false, false, false] rfl rfl (any_of HT_.out (by kernel_rfl)) (fun _ _ _ h => h) (Or.inr ⟨by rfl, rfl⟩) ?_ ?_
              rotate_left
              · simp only [Act.put, List.setIfInBounds_toArray, List.set_cons_zero, List.set_cons_succ, i64_w, i32_w]
                rfl
              refine pure_ (i := 13) (N := some 70) (v := undef) (a' := ?_) #[true, true, true, true, true, true, true, true, false, true, true, true, true, true, false, false, false, false] rfl rfl (any_of HT_.out (by kernel_rfl)) (fun _ _ _ h => h) (Or.inr ⟨by rfl, rfl⟩) ?_ ?_
              rotate_left
              · simp only [Act.put, List.setIfInBounds_toArray, List.set_cons_zero, List.set_cons_succ, i64_w, i32_w]
                rfl
              refine take_ (i := 14) (N := some 71) (v := undef) (a' := ?_) #[true, true, true, true, true, true, true, true, false, true, true, true, true, true, true, false, false, false] rfl rfl (take_ofW HT_.out HW_.out (by kernel_rfl)) (fun _ _ _ h => h) (Or.inr ⟨by rfl, rfl⟩) hHeld ?_ ?_
              rotate_left
              · simp only [Act.put, List.setIfInBounds_toArray, List.set_cons_zero, List.set_cons_succ, i64_w, i32_w]
                rfl
              refine one_ (i := 8) (N := some 65) #[true, true, true, true, true, true, true, true, true, true, true, true, true, true, true, false, false, false] rfl rfl (one_of HT_.out (by kernel_rfl)) (by decide) (fun K hK => ?_)
              refine off_ (by rfl) ?_
              refine hK.out _ _ (trivial) (fun hHeld => ?_)
              clear hK K
              refine norm_ (a' := ?_) ?_ ?_
              rotate_left
              · show Act.put _ (some 65) _ = _
                simp only [Act.put, List.setIfInBounds_toArray, List.set_cons_zero, List.set_cons_succ, i64_w, i32_w]
                rfl
              refine one_ (i := 15) (N := some 72) #[true, true, true, true, true, true, true, true, true, true, true, true, true, true, true, true, false, false] rfl rfl (one_of HT_.out (by kernel_rfl)) (by decide) (fun K hK => ?_)
              refine off_ (by rfl) ?_
              refine hK.out _ _ (trivial) (fun hHeld => ?_)
              clear hK K
              refine norm_ (a' := ?_) ?_ ?_
              rotate_left
              · show Act.put _ (some 72) _ = _
                simp only [Act.put, List.setIfInBounds_toArray, List.set_cons_zero, List.set_cons_succ, i64_w, i32_w]
                rfl
              refine pure_ (i := 16) (N := some 73) (v := undef) (a' := ?_) #[true, true, true, true, true, true, true, true, true, true, true, true, true, true, true, true, true, false] rfl rfl (any_of HT_.out (by kernel_rfl)) (fun _ _ _ h => h) (Or.inr ⟨by rfl, rfl⟩) ?_ ?_
              rotate_left
              · simp only [Act.put, List.setIfInBounds_toArray, List.set_cons_zero, List.set_cons_succ, i64_w, i32_w]
                rfl
              refine pure_ (i := 17) (N := some 74) (v := ?_) (a' := ?_) #[true, true, true, true, true, true, true, true, true, true, true, true, true, true, true, true, true, true] rfl rfl (any_of HT_.out (by kernel_rfl)) (fun _ _ _ h => h) (Or.inl ⟨by rfl, ?_⟩) ?_ ?_
              rotate_left
              · intro w'
                go_simp
                with_reducible rfl
              rotate_left
              · simp only [Act.put, List.setIfInBounds_toArray, List.set_cons_zero, List.set_cons_succ, i64_w, i32_w]
                rfl
              refine done_ (done_of HT_.out (by kernel_rfl)) ?_
              go_wp2
              go_roundg gk
              case measure => omega
              case rel => exact ⟨i + 1, by omega, by go_num, ⟨by rw [HSt.out]; exact blk_drew HU.out⟩, ⟨by rw [HSt.out, HIns.out]; exact Kd.R_drewN HR.out 1⟩, ⟨HG.out.bg (below_drew (Below.refl _ _))⟩⟩
            · rw [List.concat_eq_append] at ha
              subst ha
              rw [List.length_append, List.length_singleton] at hal
              cases gk with
              | zero => omega
              | succ gj =>
              have hz : z = (a2.length : Int) + 1 := by have := HZ.out; rw [List.length_append, List.length_singleton] at this; omega
              subst hz
              have hR2 := HR.out
              rw [List.append_assoc, List.singleton_append] at hR2
              have hml : m = (a2 ++ q :: (gs, gc) :: b).length := (Kd.R_reads' hR2).1
              rw [List.length_append, List.length_cons, List.length_cons] at hml
              obtain ⟨Ap, cp, hPr, ⟨hp0, hp1, hp2⟩, hpf⟩ := KP_elem hR2 (a2.length + 1) (by omega) (p := (gs, gc)) (by simp)
              obtain ⟨Aq, cq, hQr, ⟨hq0, hq1, hq2⟩, hqf⟩ := KP_elem hR2 a2.length (by omega) (p := q) (by simp)
              have HSq := Aside0.mk (HQs.out q (by rw [← HAB.out.1]; simp))
              have HIns := Aside0.mk (show ¬ keyP (gs, gc) < keyP q → insF out (gs, gc) = a2 ++ q :: (gs, gc) :: b from fun hnl => by
                rw [← HAB.out.1, insF_eq (a2 ++ [q]) b (gs, gc) (fun q' hq' => (by rw [List.getLast?_concat] at hq'; injection hq' with hq'; subst hq'; exact hnl)) HAB.out.2]
                rw [List.append_assoc, List.singleton_append])
              have HAB2 := Aside0.mk (show keyP (gs, gc) < keyP q → a2 ++ q :: b = out ∧ ∀ q' ∈ q :: b, keyP (gs, gc) < keyP q' from fun hlt => ⟨by rw [← HAB.out.1, List.append_assoc, List.singleton_append], fun q' hq' => (by rcases List.mem_cons.1 hq' with rfl | hq'; exact hlt; exact HAB.out.2 q' hq')⟩)
              have hkm : a2.length + 1 < m := by omega
              obtain ⟨k, hk⟩ : ∃ k, a2.length = k := ⟨_, rfl⟩
              rw [hk] at hp0 hp1 hp2 hq0 hq1 hq2 hkm hal ⊢
              have HK := Aside0.mk hk
              have HPr := Aside0.mk hPr
              have HQr := Aside0.mk hQr
              replace HR := Aside0.mk hR2
              have hk1 : (k : Int) + 1 < (m : Int) := by omega
              have hk0 : (k : Int) < (m : Int) := by omega
              have hkp : 0 < (k : Int) + 1 := by omega
              have hkn : 0 ≤ (k : Int) + 1 := by omega
              have hgk : k = gj := by omega
              subst hgk
              have HKa := Aside0.mk (show (k + 1) * 3 + 3 ≤ m * 3 by omega)
              have HKb := Aside0.mk (show k * 3 + 3 ≤ m * 3 by omega)
              have hkw : wrap64 (k : Int) = (k : Int) := by unfold wrap64; omega
              clear hk hPr hQr hR2 hpf hqf hml HZ HAB hkm hal
              by_cases hlt : leastS gs < leastS q.1
              · have HAB3 := Aside0.mk (HAB2.out hlt)
                clear HAB2 HIns
                go_wp2_with fail
                try go_step3
                refine start_ (n := 18) (S := fun w' => w'.cell? ⟨g, (k + 1) * 3, none⟩ = some (.int .u64 (gs.1 : Int)) ∧ w'.cell? ⟨g, (k + 1) * 3 + 1, none⟩ = some (.int .u64 (gs.2 : Int)) ∧ w'.cell? ⟨g, k * 3, none⟩ = some (.int .u64 (q.1.1 : Int)) ∧ w'.cell? ⟨g, k * 3 + 1, none⟩ = some (.int .u64 (q.1.2 : Int))) (ds := []) #[false, false, false, false, false, false, false, false, false, false, false, false, false, false, false, false, false, false] (by kernel_rfl) rfl rfl (⟨hp0, hp1, hq0, hq1⟩) (fun hHeld => ?_)
                refine with_tabW q16r14tab q16r14bits (fun HT_ HW_ => ?_)
                refine pure_ (i := 0) (N := some 57) (v := ?_) (a' := ?_) #[true, false, false, false, false, false, false, false, false, false, false, false, false, false, false, false, false, false] rfl rfl (any_of HT_.out (by kernel_rfl)) (fun _ _ _ h => h) (Or.inl ⟨by rfl, ?_⟩) ?_ ?_
                rotate_left
                · intro w'
                  go_simp
                  with_reducible rfl
                rotate_left
                · simp only [Act.put, List.setIfInBounds_toArray, List.set_cons_zero, List.set_cons_succ, i64_w, i32_w]
                  rfl
                refine pure_ (i := 1) (N := some 58) (v := ?_) (a' := ?_) #[true, true, false, false, false, false, false, false, false, false, false, false, false, false, false, false, false, false] rfl rfl (any_of HT_.out (by kernel_rfl)) (fun _ _ _ h => h) (Or.inl ⟨by rfl, ?_⟩) ?_ ?_
                rotate_left
                · intro w'
                  go_simp
                  with_reducible rfl
                rotate_left
                · simp only [Act.put, List.setIfInBounds_toArray, List.set_cons_zero, List.set_cons_succ, i64_w, i32_w]
                  rfl
                refine pure_ (i := 2) (N := some 59) (v := ?_) (a' := ?_) #[true, true, true, false, false, false, false, false, false, false, false, false, false, false, false, false, false, false] rfl rfl (any_of HT_.out (by kernel_rfl)) (fun _ _ _ h => h) (Or.inl ⟨by rfl, ?_⟩) ?_ ?_
                rotate_left
                · intro w'
                  go_simp
                  with_reducible rfl
                rotate_left
                · simp only [Act.put, List.setIfInBounds_toArray, List.set_cons_zero, List.set_cons_succ, i64_w, i32_w]
                  rfl
                refine pure_ (i := 3) (N := some 60) (v := ?_) (a' := ?_) #[true, true, true, true, false, false, false, false, false, false, false, false, false, false, false, false, false, false] rfl rfl (any_of HT_.out (by kernel_rfl)) (fun _ _ _ h => h) (Or.inl ⟨by rfl, ?_⟩) ?_ ?_
                rotate_left
                · intro w'
                  go_simp
                  with_reducible rfl
                rotate_left
                · simp only [Act.put, List.setIfInBounds_toArray, List.set_cons_zero, List.set_cons_succ, i64_w, i32_w]
                  rfl
                refine pure_ (i := 4) (N := some 61) (v := ?_) (a' := ?_) #[true, true, true, true, true, false, false, false, false, false, false, false, false, false, false, false, false, false] rfl rfl (any_of HT_.out (by kernel_rfl)) (fun _ _ _ h => h) (Or.inl ⟨by rfl, ?_⟩) ?_ ?_
                rotate_left
                · intro w'
                  go_simp
                  with_reducible rfl
                rotate_left
                · simp only [Act.put, List.setIfInBounds_toArray, List.set_cons_zero, List.set_cons_succ, i64_w, i32_w]
                  rfl
                refine pure_ (i := 5) (N := some 62) (v := ?_) (a' := ?_) #[true, true, true, true, true, true, false, false, false, false, false, false, false, false, false, false, false, false] rfl rfl (any_of HT_.out (by kernel_rfl)) (fun _ _ _ h => h) (Or.inl ⟨by rfl, ?_⟩) ?_ ?_
                rotate_left
                · intro w'
                  go_simp
                  with_reducible rfl
                rotate_left
                · simp only [Act.put, List.setIfInBounds_toArray, List.set_cons_zero, List.set_cons_succ, i64_w, i32_w]
                  rfl
                refine pure_ (i := 6) (N := some 63) (v := ?_) (a' := ?_) #[true, true, true, true, true, true, true, false, false, false, false, false, false, false, false, false, false, false] rfl rfl (any_of HT_.out (by kernel_rfl)) (fun _ _ _ h => h) (Or.inl ⟨by rfl, ?_⟩) ?_ ?_
                rotate_left
                · intro w'
                  go_simp
                  with_reducible rfl
                rotate_left
                · simp only [Act.put, List.setIfInBounds_toArray, List.set_cons_zero, List.set_cons_succ, i64_w, i32_w]
                  rfl
                refine take_ (i := 7) (N := some 64) (v := ?_) (a' := ?_) #[true, true, true, true, true, true, true, true, false, false, false, false, false, false, false, false, false, false] rfl rfl (take_ofW HT_.out HW_.out (by kernel_rfl)) (fun _ _ _ h => h) (Or.inl ⟨by rfl, ?_⟩) hHeld ?_ ?_
                rotate_left
                · rintro w' ⟨s0, s1, s2, s3⟩
                  go_simp
                  with_reducible rfl
                rotate_left
                · simp only [Act.put, List.setIfInBounds_toArray, List.set_cons_zero, List.set_cons_succ, i64_w, i32_w]
                  rfl
                refine pure_ (i := 9) (N := some 66) (v := ?_) (a' := ?_) #[true, true, true, true, true, true, true, true, false, true, false, false, false, false, false, false, false, false] rfl rfl (any_of HT_.out (by kernel_rfl)) (fun _ _ _ h => h) (Or.inl ⟨by rfl, ?_⟩) ?_ ?_
                rotate_left
                · intro w'
                  go_simp
                  with_reducible rfl
                rotate_left
                · simp only [Act.put, List.setIfInBounds_toArray, List.set_cons_zero, List.set_cons_succ, i64_w, i32_w]
                  rfl
                refine pure_ (i := 10) (N := some 67) (v := ?_) (a' := ?_) #[true, true, true, true, true, true, true, true, false, true, true, false, false, false, false, false, false, false] rfl rfl (any_of HT_.out (by kernel_rfl)) (fun _ _ _ h => h) (Or.inl ⟨by rfl, ?_⟩) ?_ ?_
                rotate_left
                · intro w'
                  go_simp
                  with_reducible rfl
                rotate_left
                · simp only [Act.put, List.setIfInBounds_toArray, List.set_cons_zero, List.set_cons_succ, i64_w, i32_w]
                  rfl
                refine pure_ (i := 11) (N := some 68) (v := ?_) (a' := ?_) #[true, true, true, true, true, true, true, true, false, true, true, true, false, false, false, false, false, false] rfl rfl (any_of HT_.out (by kernel_rfl)) (fun _ _ _ h => h) (Or.inl ⟨by rfl, ?_⟩) ?_ ?_
                rotate_left
                · intro w'
                  go_simp
                  with_reducible rfl
                rotate_left
                · simp only [Act.put, List.setIfInBounds_toArray, List.set_cons_zero, List.set_cons_succ, i64_w, i32_w]
                  rfl
                refine pure_ (i := 12) (N := some 69) (v := ?_) (a' := ?_) #[true, true, true, true, true, true, true, true, false, true, true, true, true, false, false, false, false, false] rfl rfl (any_of HT_.out (by kernel_rfl)) (fun _ _ _ h => h) (Or.inl ⟨by rfl, ?_⟩) ?_ ?_
                rotate_left
                · intro w'
                  go_simp
                  with_reducible rfl
                rotate_left
                · simp only [Act.put, List.setIfInBounds_toArray, List.set_cons_zero, List.set_cons_succ, i64_w, i32_w]
                  rfl
                refine pure_ (i := 13) (N := some 70) (v := ?_) (a' := ?_) #[true, true, true, true, true, true, true, true, false, true, true, true, true, true, false, false, false, false] rfl rfl (any_of HT_.out (by kernel_rfl)) (fun _ _ _ h => h) (Or.inl ⟨by rfl, ?_⟩) ?_ ?_
                rotate_left
                · intro w'
                  go_simp
                  with_reducible rfl
                rotate_left
                · simp only [Act.put, List.setIfInBounds_toArray, List.set_cons_zero, List.set_cons_succ, i64_w, i32_w]
                  rfl
                refine take_ (i := 14) (N := some 71) (v := ?_) (a' := ?_) #[true, true, true, true, true, true, true, true, false, true, true, true, true, true, true, false, false, false] rfl rfl (take_ofW HT_.out HW_.out (by kernel_rfl)) (fun _ _ _ h => h) (Or.inl ⟨by rfl, ?_⟩) hHeld ?_ ?_
                rotate_left
                · rintro w' ⟨s0, s1, s2, s3⟩
                  go_simp
                  with_reducible rfl
                rotate_left
                · simp only [Act.put, List.setIfInBounds_toArray, List.set_cons_zero, List.set_cons_succ, i64_w, i32_w]
                  rfl
                refine one_ (i := 8) (N := some 65) #[true, true, true, true, true, true, true, true, true, true, true, true, true, true, true, false, false, false] rfl rfl (one_of HT_.out (by kernel_rfl)) (by decide) (fun K hK => ?_)
                refine goes_ Try.func51 (by kernel_rfl) rfl #[setV2 gs] (by rfl) rfl rfl (by simp only [List.map_toArray, List.map_cons, List.map_nil]; rfl) ?_
                refine (least_calls gs _ HSp.out).mono ?_
                rintro e_ w_ ⟨rfl, hb3⟩
                replace hb3 := below_step (below_drew (Below.refl wr.heap.size wr)) hb3
                refine ⟨_, rfl, ?_⟩
                replace HG := Aside0.mk (HG.out.bg hb3)
                replace HU := Aside0.mk (blk_below HU.out hb3)
                replace HR := Aside0.mk (Kd.R_below HR.out hb3)
                replace HPr := Aside0.mk (Kd.R_below HPr.out hb3)
                replace HQr := Aside0.mk (Kd.R_below HQr.out hb3)
                have hp0 := (hb3.cell (World.block_lt_of_cell? _ _ hp0)).trans hp0
                have hp1 := (hb3.cell (World.block_lt_of_cell? _ _ hp1)).trans hp1
                have hp2 := (hb3.cell (World.block_lt_of_cell? _ _ hp2)).trans hp2
                have hq0 := (hb3.cell (World.block_lt_of_cell? _ _ hq0)).trans hq0
                have hq1 := (hb3.cell (World.block_lt_of_cell? _ _ hq1)).trans hq1
                have hq2 := (hb3.cell (World.block_lt_of_cell? _ _ hq2)).trans hq2
                clear hb3
                refine hK.out _ _ (⟨hp0, hp1, hq0, hq1⟩) (fun hHeld => ?_)
                clear hK K
                refine norm_ (a' := ?_) ?_ ?_
                rotate_left
                · show Act.put _ (some 65) _ = _
                  simp only [Act.put, List.setIfInBounds_toArray, List.set_cons_zero, List.set_cons_succ, i64_w, i32_w]
                  rfl
                refine one_ (i := 15) (N := some 72) #[true, true, true, true, true, true, true, true, true, true, true, true, true, true, true, true, false, false] rfl rfl (one_of HT_.out (by kernel_rfl)) (by decide) (fun K hK => ?_)
                refine goes_ Try.func51 (by kernel_rfl) rfl #[setV2 q.1] (by rfl) rfl rfl (by simp only [List.map_toArray, List.map_cons, List.map_nil]; rfl) ?_
                refine (least_calls q.1 _ HSq.out).mono ?_
                rintro e_ w_ ⟨rfl, hb3⟩
                refine ⟨_, rfl, ?_⟩
                replace HG := Aside0.mk (HG.out.bg hb3)
                replace HU := Aside0.mk (blk_below HU.out hb3)
                replace HR := Aside0.mk (Kd.R_below HR.out hb3)
                replace HPr := Aside0.mk (Kd.R_below HPr.out hb3)
                replace HQr := Aside0.mk (Kd.R_below HQr.out hb3)
                have hp0 := (hb3.cell (World.block_lt_of_cell? _ _ hp0)).trans hp0
                have hp1 := (hb3.cell (World.block_lt_of_cell? _ _ hp1)).trans hp1
                have hp2 := (hb3.cell (World.block_lt_of_cell? _ _ hp2)).trans hp2
                have hq0 := (hb3.cell (World.block_lt_of_cell? _ _ hq0)).trans hq0
                have hq1 := (hb3.cell (World.block_lt_of_cell? _ _ hq1)).trans hq1
                have hq2 := (hb3.cell (World.block_lt_of_cell? _ _ hq2)).trans hq2
                clear hb3
                refine hK.out _ _ (⟨hp0, hp1, hq0, hq1⟩) (fun hHeld => ?_)
                clear hK K
                refine norm_ (a' := ?_) ?_ ?_
                rotate_left
                · show Act.put _ (some 72) _ = _
                  simp only [Act.put, List.setIfInBounds_toArray, List.set_cons_zero, List.set_cons_succ, i64_w, i32_w]
                  rfl
                refine pure_ (i := 16) (N := some 73) (v := ?_) (a' := ?_) #[true, true, true, true, true, true, true, true, true, true, true, true, true, true, true, true, true, false] rfl rfl (any_of HT_.out (by kernel_rfl)) (fun _ _ _ h => h) (Or.inl ⟨by rfl, ?_⟩) ?_ ?_
                rotate_left
                · intro w'
                  go_simp
                  with_reducible rfl
                rotate_left
                · simp only [Act.put, List.setIfInBounds_toArray, List.set_cons_zero, List.set_cons_succ, i64_w, i32_w]
                  rfl
                refine pure_ (i := 17) (N := some 74) (v := ?_) (a' := ?_) #[true, true, true, true, true, true, true, true, true, true, true, true, true, true, true, true, true, true] rfl rfl (any_of HT_.out (by kernel_rfl)) (fun _ _ _ h => h) (Or.inl ⟨by rfl, ?_⟩) ?_ ?_
                rotate_left
                · intro w'
                  go_simp
                  with_reducible rfl
                rotate_left
                · simp only [Act.put, List.setIfInBounds_toArray, List.set_cons_zero, List.set_cons_succ, i64_w, i32_w]
                  rfl
                refine done_ (done_of HT_.out (by kernel_rfl)) ?_
                go_wp2_with fail
                try go_step3
                obtain ⟨cur, hcur, hcs⟩ := KP_block HR.out
                obtain ⟨cur2, hcur2, hcs2, _⟩ := setCells_row [.int .u64 (q.1.1 : Int), .int .u64 (q.1.2 : Int), .slice Aq q.2.length cq] ((k + 1) * 3) _ cur hcur (Nat.le_trans HKa.out hcs)
                have HCur := Aside0.mk hcur
                have HCs := Aside0.mk (show (k + 1) * 3 + 3 ≤ cur.size from Nat.le_trans HKa.out hcs)
                have HCur2 := Aside0.mk hcur2
                have HCs2 := Aside0.mk (show k * 3 + 3 ≤ cur2.size from Nat.le_trans (Nat.le_trans HKb.out hcs) (Nat.le_of_eq hcs2.symm))
                clear hcur hcs hcur2 hcs2
                refine start_ (n := 18) (S := fun w' => (w'.cell? ⟨g, (k + 1) * 3, none⟩ = some (.int .u64 (gs.1 : Int)) ∧ w'.cell? ⟨g, (k + 1) * 3 + 1, none⟩ = some (.int .u64 (gs.2 : Int)) ∧ w'.cell? ⟨g, (k + 1) * 3 + 2, none⟩ = some (.slice Ap gc.length cp)) ∧ w'.cell? ⟨g, k * 3, none⟩ = some (.int .u64 (q.1.1 : Int)) ∧ w'.cell? ⟨g, k * 3 + 1, none⟩ = some (.int .u64 (q.1.2 : Int)) ∧ w'.cell? ⟨g, k * 3 + 2, none⟩ = some (.slice Aq q.2.length cq)) (ds := [15, 17]) #[false, false, false, false, false, false, false, false, false, false, false, false, false, false, false, false, false, false] (by kernel_rfl) rfl rfl (⟨⟨hp0, hp1, hp2⟩, hq0, hq1, hq2⟩) (fun hHeld => ?_)
                refine with_tabW q16r16tab q16r16bits (fun HT_ HW_ => ?_)
                refine pure_ (i := 0) (N := some 77) (v := ?_) (a' := ?_) #[true, false, false, false, false, false, false, false, false, false, false, false, false, false, false, false, false, false] rfl rfl (any_of HT_.out (by kernel_rfl)) (fun _ _ _ h => h) (Or.inl ⟨by rfl, ?_⟩) ?_ ?_
                rotate_left
                · intro w'
                  go_simp
                  with_reducible rfl
                rotate_left
                · simp only [Act.put, List.setIfInBounds_toArray, List.set_cons_zero, List.set_cons_succ, i64_w, i32_w]
                  rfl
                refine pure_ (i := 1) (N := some 78) (v := ?_) (a' := ?_) #[true, true, false, false, false, false, false, false, false, false, false, false, false, false, false, false, false, false] rfl rfl (any_of HT_.out (by kernel_rfl)) (fun _ _ _ h => h) (Or.inl ⟨by rfl, ?_⟩) ?_ ?_
                rotate_left
                · intro w'
                  go_simp
                  with_reducible rfl
                rotate_left
                · simp only [Act.put, List.setIfInBounds_toArray, List.set_cons_zero, List.set_cons_succ, i64_w, i32_w]
                  rfl
                refine pure_ (i := 2) (N := some 79) (v := ?_) (a' := ?_) #[true, true, true, false, false, false, false, false, false, false, false, false, false, false, false, false, false, false] rfl rfl (any_of HT_.out (by kernel_rfl)) (fun _ _ _ h => h) (Or.inl ⟨by rfl, ?_⟩) ?_ ?_
                rotate_left
                · intro w'
                  go_simp
                  with_reducible rfl
                rotate_left
                · simp only [Act.put, List.setIfInBounds_toArray, List.set_cons_zero, List.set_cons_succ, i64_w, i32_w]
                  rfl
                refine pure_ (i := 3) (N := some 80) (v := ?_) (a' := ?_) #[true, true, true, true, false, false, false, false, false, false, false, false, false, false, false, false, false, false] rfl rfl (any_of HT_.out (by kernel_rfl)) (fun _ _ _ h => h) (Or.inl ⟨by rfl, ?_⟩) ?_ ?_
                rotate_left
                · intro w'
                  go_simp
                  with_reducible rfl
                rotate_left
                · simp only [Act.put, List.setIfInBounds_toArray, List.set_cons_zero, List.set_cons_succ, i64_w, i32_w]
                  rfl
                refine pure_ (i := 4) (N := some 81) (v := ?_) (a' := ?_) #[true, true, true, true, true, false, false, false, false, false, false, false, false, false, false, false, false, false] rfl rfl (any_of HT_.out (by kernel_rfl)) (fun _ _ _ h => h) (Or.inl ⟨by rfl, ?_⟩) ?_ ?_
                rotate_left
                · intro w'
                  go_simp
                  with_reducible rfl
                rotate_left
                · simp only [Act.put, List.setIfInBounds_toArray, List.set_cons_zero, List.set_cons_succ, i64_w, i32_w]
                  rfl
                refine pure_ (i := 5) (N := some 82) (v := ?_) (a' := ?_) #[true, true, true, true, true, true, false, false, false, false, false, false, false, false, false, false, false, false] rfl rfl (any_of HT_.out (by kernel_rfl)) (fun _ _ _ h => h) (Or.inl ⟨by rfl, ?_⟩) ?_ ?_
                rotate_left
                · intro w'
                  go_simp
                  with_reducible rfl
                rotate_left
                · simp only [Act.put, List.setIfInBounds_toArray, List.set_cons_zero, List.set_cons_succ, i64_w, i32_w]
                  rfl
                refine pure_ (i := 6) (N := some 83) (v := ?_) (a' := ?_) #[true, true, true, true, true, true, true, false, false, false, false, false, false, false, false, false, false, false] rfl rfl (any_of HT_.out (by kernel_rfl)) (fun _ _ _ h => h) (Or.inl ⟨by rfl, ?_⟩) ?_ ?_
                rotate_left
                · intro w'
                  go_simp
                  with_reducible rfl
                rotate_left
                · simp only [Act.put, List.setIfInBounds_toArray, List.set_cons_zero, List.set_cons_succ, i64_w, i32_w]
                  rfl
                refine pure_ (i := 7) (N := some 84) (v := ?_) (a' := ?_) #[true, true, true, true, true, true, true, true, false, false, false, false, false, false, false, false, false, false] rfl rfl (any_of HT_.out (by kernel_rfl)) (fun _ _ _ h => h) (Or.inl ⟨by rfl, ?_⟩) ?_ ?_
                rotate_left
                · intro w'
                  go_simp
                  with_reducible rfl
                rotate_left
                · simp only [Act.put, List.setIfInBounds_toArray, List.set_cons_zero, List.set_cons_succ, i64_w, i32_w]
                  rfl
                refine pure_ (i := 8) (N := some 85) (v := ?_) (a' := ?_) #[true, true, true, true, true, true, true, true, true, false, false, false, false, false, false, false, false, false] rfl rfl (any_of HT_.out (by kernel_rfl)) (fun _ _ _ h => h) (Or.inl ⟨by rfl, ?_⟩) ?_ ?_
                rotate_left
                · intro w'
                  go_simp
                  with_reducible rfl
                rotate_left
                · simp only [Act.put, List.setIfInBounds_toArray, List.set_cons_zero, List.set_cons_succ, i64_w, i32_w]
                  rfl
                refine take_ (i := 9) (N := some 86) (v := ?_) (a' := ?_) #[true, true, true, true, true, true, true, true, true, true, false, false, false, false, false, false, false, false] rfl rfl (take_ofW HT_.out HW_.out (by kernel_rfl)) (fun _ _ _ h => h) (Or.inl ⟨by rfl, ?_⟩) hHeld ?_ ?_
                rotate_left
                · rintro w' ⟨⟨s0, s1, s2⟩, s3, s4, s5⟩
                  go_simp
                  with_reducible rfl
                rotate_left
                · simp only [Act.put, List.setIfInBounds_toArray, List.set_cons_zero, List.set_cons_succ, i64_w, i32_w]
                  rfl
                refine pure_ (i := 10) (N := some 87) (v := ?_) (a' := ?_) #[true, true, true, true, true, true, true, true, true, true, true, false, false, false, false, false, false, false] rfl rfl (any_of HT_.out (by kernel_rfl)) (fun _ _ _ h => h) (Or.inl ⟨by rfl, ?_⟩) ?_ ?_
                rotate_left
                · intro w'
                  go_simp
                  with_reducible rfl
                rotate_left
                · simp only [Act.put, List.setIfInBounds_toArray, List.set_cons_zero, List.set_cons_succ, i64_w, i32_w]
                  rfl
                refine pure_ (i := 11) (N := some 88) (v := ?_) (a' := ?_) #[true, true, true, true, true, true, true, true, true, true, true, true, false, false, false, false, false, false] rfl rfl (any_of HT_.out (by kernel_rfl)) (fun _ _ _ h => h) (Or.inl ⟨by rfl, ?_⟩) ?_ ?_
                rotate_left
                · intro w'
                  go_simp
                  with_reducible rfl
                rotate_left
                · simp only [Act.put, List.setIfInBounds_toArray, List.set_cons_zero, List.set_cons_succ, i64_w, i32_w]
                  rfl
                refine pure_ (i := 12) (N := some 89) (v := ?_) (a' := ?_) #[true, true, true, true, true, true, true, true, true, true, true, true, true, false, false, false, false, false] rfl rfl (any_of HT_.out (by kernel_rfl)) (fun _ _ _ h => h) (Or.inl ⟨by rfl, ?_⟩) ?_ ?_
                rotate_left
                · intro w'
                  go_simp
                  with_reducible rfl
                rotate_left
                · simp only [Act.put, List.setIfInBounds_toArray, List.set_cons_zero, List.set_cons_succ, i64_w, i32_w]
                  rfl
                refine take_ (i := 13) (N := some 90) (v := ?_) (a' := ?_) #[true, true, true, true, true, true, true, true, true, true, true, true, true, true, false, false, false, false] rfl rfl (take_ofW HT_.out HW_.out (by kernel_rfl)) (fun _ _ _ h => h) (Or.inl ⟨by rfl, ?_⟩) hHeld ?_ ?_
                rotate_left
                · rintro w' ⟨⟨s0, s1, s2⟩, s3, s4, s5⟩
                  go_simp
                  with_reducible rfl
                rotate_left
                · simp only [Act.put, List.setIfInBounds_toArray, List.set_cons_zero, List.set_cons_succ, i64_w, i32_w]
                  rfl
                refine pure_ (i := 14) (N := some 91) (v := ?_) (a' := ?_) #[true, true, true, true, true, true, true, true, true, true, true, true, true, true, true, false, false, false] rfl rfl (any_of HT_.out (by kernel_rfl)) (fun _ _ _ h => h) (Or.inl ⟨by rfl, ?_⟩) ?_ ?_
                rotate_left
                · intro w'
                  go_simp
                  with_reducible rfl
                rotate_left
                · simp only [Act.put, List.setIfInBounds_toArray, List.set_cons_zero, List.set_cons_succ, i64_w, i32_w]
                  rfl
                refine last_ (i := 15) (N := none) #[true, true, true, true, true, true, true, true, true, true, true, true, true, true, true, true, false, false] rfl rfl (one_of HT_.out (by kernel_rfl)) (by decide) (fun K hK => ?_)
                refine store69_ (by rfl) rfl (.tmp 91) (.tmp 86) rfl rfl rfl HCur.out HCs.out ?_
                refine hK.out _ _ ?_
                clear hK K
                refine pure_ (i := 16) (N := some 92) (v := ?_) (a' := ?_) #[true, true, true, true, true, true, true, true, true, true, true, true, true, true, true, true, true, false] rfl rfl (any_of HT_.out (by kernel_rfl)) (fun _ _ _ h => h) (Or.inl ⟨by rfl, ?_⟩) ?_ ?_
                rotate_left
                · intro w'
                  go_simp
                  with_reducible rfl
                rotate_left
                · simp only [Act.put, List.setIfInBounds_toArray, List.set_cons_zero, List.set_cons_succ, i64_w, i32_w]
                  rfl
                refine last_ (i := 17) (N := none) #[true, true, true, true, true, true, true, true, true, true, true, true, true, true, true, true, true, true] rfl rfl (one_of HT_.out (by kernel_rfl)) (by decide) (fun K hK => ?_)
                refine store69_ (by rfl) rfl (.tmp 92) (.tmp 90) rfl rfl rfl HCur2.out HCs2.out ?_
                refine hK.out _ _ ?_
                clear hK K
                refine done_ (done_of HT_.out (by kernel_rfl)) ?_
                obtain ⟨hsw, hswg⟩ := KP_swap (Kd.R_drewN HR.out 1) (Kd.R_drewN HPr.out 1) (Kd.R_drewN HQr.out 1)
                rw [HK.out] at hsw hswg
                obtain ⟨inner, howr⟩ := Kd.R_own (Kd.R_drewN HR.out 1)
                have HR9 := Aside0.mk hsw
                have HU9 := Aside0.mk (blk_grown (blk_drewN HU.out 1) hswg (own_ne howr (blk_drewN HU.out 1) (by decide)))
                have HG9 := Aside0.mk (SW.grown (HG.out.bg (pw_below_drewN (Below.refl _ _) 1)) (by decide) (by decide) howr hswg)
                clear hsw hswg howr HCur HCs HCur2 HCs2
                go_wp2
                go_roundg k
                case measure => omega
                case rel => exact ⟨(k : Int), a2, q :: b, HK.out, by first | rfl | go_num, ⟨by rw [HK.out]⟩, HAB3, HU9, HR9, HG9⟩
              · have HIns2 := Aside0.mk (HIns.out hlt)
                clear HAB2 HIns
                go_wp2_with fail
                try go_step3
                refine start_ (n := 18) (S := fun w' => w'.cell? ⟨g, (k + 1) * 3, none⟩ = some (.int .u64 (gs.1 : Int)) ∧ w'.cell? ⟨g, (k + 1) * 3 + 1, none⟩ = some (.int .u64 (gs.2 : Int)) ∧ w'.cell? ⟨g, k * 3, none⟩ = some (.int .u64 (q.1.1 : Int)) ∧ w'.cell? ⟨g, k * 3 + 1, none⟩ = some (.int .u64 (q.1.2 : Int))) (ds := []) #[false, false, false, false, false, false, false, false, false, false, false, false, false, false, false, false, false, false] (by kernel_rfl) rfl rfl (⟨hp0, hp1, hq0, hq1⟩) (fun hHeld => ?_)
                refine with_tabW q16r14tab q16r14bits (fun HT_ HW_ => ?_)
                refine pure_ (i := 0) (N := some 57) (v := ?_) (a' := ?_) #[true, false, false, false, false, false, false, false, false, false, false, false, false, false, false, false, false, false] rfl rfl (any_of HT_.out (by kernel_rfl)) (fun _ _ _ h => h) (Or.inl ⟨by rfl, ?_⟩) ?_ ?_
                rotate_left
                · intro w'
                  go_simp
                  with_reducible rfl
                rotate_left
                · simp only [Act.put, List.setIfInBounds_toArray, List.set_cons_zero, List.set_cons_succ, i64_w, i32_w]
                  rfl
                refine pure_ (i := 1) (N := some 58) (v := ?_) (a' := ?_) #[true, true, false, false, false, false, false, false, false, false, false, false, false, false, false, false, false, false] rfl rfl (any_of HT_.out (by kernel_rfl)) (fun _ _ _ h => h) (Or.inl ⟨by rfl, ?_⟩) ?_ ?_
                rotate_left
                · intro w'
                  go_simp
                  with_reducible rfl
                rotate_left
                · simp only [Act.put, List.setIfInBounds_toArray, List.set_cons_zero, List.set_cons_succ, i64_w, i32_w]
                  rfl
                refine pure_ (i := 2) (N := some 59) (v := ?_) (a' := ?_) #[true, true, true, false, false, false, false, false, false, false, false, false, false, false, false, false, false, false] rfl rfl (any_of HT_.out (by kernel_rfl)) (fun _ _ _ h => h) (Or.inl ⟨by rfl, ?_⟩) ?_ ?_
                rotate_left
                · intro w'
                  go_simp
                  with_reducible rfl
                rotate_left
                · simp only [Act.put, List.setIfInBounds_toArray, List.set_cons_zero, List.set_cons_succ, i64_w, i32_w]
                  rfl
                refine pure_ (i := 3) (N := some 60) (v := ?_) (a' := ?_) #[true, true, true, true, false, false, false, false, false, false, false, false, false, false, false, false, false, false] rfl rfl (any_of HT_.out (by kernel_rfl)) (fun _ _ _ h => h) (Or.inl ⟨by rfl, ?_⟩) ?_ ?_
                rotate_left
                · intro w'
                  go_simp
                  with_reducible rfl
                rotate_left
                · simp only [Act.put, List.setIfInBounds_toArray, List.set_cons_zero, List.set_cons_succ, i64_w, i32_w]
                  rfl
                refine pure_ (i := 4) (N := some 61) (v := ?_) (a' := ?_) #[true, true, true, true, true, false, false, false, false, false, false, false, false, false, false, false, false, false] rfl rfl (any_of HT_.out (by kernel_rfl)) (fun _ _ _ h => h) (Or.inl ⟨by rfl, ?_⟩) ?_ ?_
                rotate_left
                · intro w'
                  go_simp
                  with_reducible rfl
                rotate_left
                · simp only [Act.put, List.setIfInBounds_toArray, List.set_cons_zero, List.set_cons_succ, i64_w, i32_w]
                  rfl
                refine pure_ (i := 5) (N := some 62) (v := ?_) (a' := ?_) #[true, true, true, true, true, true, false, false, false, false, false, false, false, false, false, false, false, false] rfl rfl (any_of HT_.out (by kernel_rfl)) (fun _ _ _ h => h) (Or.inl ⟨by rfl, ?_⟩) ?_ ?_
                rotate_left
                · intro w'
                  go_simp
                  with_reducible rfl
                rotate_left
                · simp only [Act.put, List.setIfInBounds_toArray, List.set_cons_zero, List.set_cons_succ, i64_w, i32_w]
                  rfl
                refine pure_ (i := 6) (N := some 63) (v := ?_) (a' := ?_) #[true, true, true, true, true, true, true, false, false, false, false, false, false, false, false, false, false, false] rfl rfl (any_of HT_.out (by kernel_rfl)) (fun _ _ _ h => h) (Or.inl ⟨by rfl, ?_⟩) ?_ ?_
                rotate_left
                · intro w'
                  go_simp
                  with_reducible rfl
                rotate_left
                · simp only [Act.put, List.setIfInBounds_toArray, List.set_cons_zero, List.set_cons_succ, i64_w, i32_w]
                  rfl
                refine take_ (i := 7) (N := some 64) (v := ?_) (a' := ?_) #[true, true, true, true, true, true, true, true, false, false, false, false, false, false, false, false, false, false] rfl rfl (take_ofW HT_.out HW_.out (by kernel_rfl)) (fun _ _ _ h => h) (Or.inl ⟨by rfl, ?_⟩) hHeld ?_ ?_
                rotate_left
                · rintro w' ⟨s0, s1, s2, s3⟩
                  go_simp
                  with_reducible rfl
                rotate_left
                · simp only [Act.put, List.setIfInBounds_toArray, List.set_cons_zero, List.set_cons_succ, i64_w, i32_w]
                  rfl
                refine pure_ (i := 9) (N := some 66) (v := ?_) (a' := ?_) #[true, true, true, true, true, true, true, true, false, true, false, false, false, false, false, false, false, false] rfl rfl (any_of HT_.out (by kernel_rfl)) (fun _ _ _ h => h) (Or.inl ⟨by rfl, ?_⟩) ?_ ?_
                rotate_left
                · intro w'
                  go_simp
                  with_reducible rfl
                rotate_left
                · simp only [Act.put, List.setIfInBounds_toArray, List.set_cons_zero, List.set_cons_succ, i64_w, i32_w]
                  rfl
                refine pure_ (i := 10) (N := some 67) (v := ?_) (a' := ?_) #[true, true, true, true, true, true, true, true, false, true, true, false, false, false, false, false, false, false] rfl rfl (any_of HT_.out (by kernel_rfl)) (fun _ _ _ h => h) (Or.inl ⟨by rfl, ?_⟩) ?_ ?_
                rotate_left
                · intro w'
                  go_simp
                  with_reducible rfl
                rotate_left
                · simp only [Act.put, List.setIfInBounds_toArray, List.set_cons_zero, List.set_cons_succ, i64_w, i32_w]
                  rfl
                refine pure_ (i := 11) (N := some 68) (v := ?_) (a' := ?_) #[true, true, true, true, true, true, true, true, false, true, true, true, false, false, false, false, false, false] rfl rfl (any_of HT_.out (by kernel_rfl)) (fun _ _ _ h => h) (Or.inl ⟨by rfl, ?_⟩) ?_ ?_
                rotate_left
                · intro w'
                  go_simp
                  with_reducible rfl
                rotate_left
                · simp only [Act.put, List.setIfInBounds_toArray, List.set_cons_zero, List.set_cons_succ, i64_w, i32_w]
                  rfl
                refine pure_ (i := 12) (N := some 69) (v := ?_) (a' := ?_) #[true, true, true, true, true, true, true, true, false, true, true, true, true, false, false, false, false, false] rfl rfl (any_of HT_.out (by kernel_rfl)) (fun _ _ _ h => h) (Or.inl ⟨by rfl, ?_⟩) ?_ ?_
                rotate_left
                · intro w'
                  go_simp
                  with_reducible rfl
                rotate_left
                · simp only [Act.put, List.setIfInBounds_toArray, List.set_cons_zero, List.set_cons_succ, i64_w, i32_w]
                  rfl
                refine pure_ (i := 13) (N := some 70) (v := ?_) (a' := ?_) #[true, true, true, true, true, true, true, true, false, true, true, true, true, true, false, false, false, false] rfl rfl (any_of HT_.out (by kernel_rfl)) (fun _ _ _ h => h) (Or.inl ⟨by rfl, ?_⟩) ?_ ?_
                rotate_left
                · intro w'
                  go_simp
                  with_reducible rfl
                rotate_left
                · simp only [Act.put, List.setIfInBounds_toArray, List.set_cons_zero, List.set_cons_succ, i64_w, i32_w]
                  rfl
                refine take_ (i := 14) (N := some 71) (v := ?_) (a' := ?_) #[true, true, true, true, true, true, true, true, false, true, true, true, true, true, true, false, false, false] rfl rfl (take_ofW HT_.out HW_.out (by kernel_rfl)) (fun _ _ _ h => h) (Or.inl ⟨by rfl, ?_⟩) hHeld ?_ ?_
                rotate_left
                · rintro w' ⟨s0, s1, s2, s3⟩
                  go_simp
                  with_reducible rfl
                rotate_left
                · simp only [Act.put, List.setIfInBounds_toArray, List.set_cons_zero, List.set_cons_succ, i64_w, i32_w]
                  rfl
                refine one_ (i := 8) (N := some 65) #[true, true, true, true, true, true, true, true, true, true, true, true, true, true, true, false, false, false] rfl rfl (one_of HT_.out (by kernel_rfl)) (by decide) (fun K hK => ?_)
                refine goes_ Try.func51 (by kernel_rfl) rfl #[setV2 gs] (by rfl) rfl rfl (by simp only [List.map_toArray, List.map_cons, List.map_nil]; rfl) ?_
                refine (least_calls gs _ HSp.out).mono ?_
                rintro e_ w_ ⟨rfl, hb3⟩
                replace hb3 := below_step (below_drew (Below.refl wr.heap.size wr)) hb3
                refine ⟨_, rfl, ?_⟩
                replace HG := Aside0.mk (HG.out.bg hb3)
                replace HU := Aside0.mk (blk_below HU.out hb3)
                replace HR := Aside0.mk (Kd.R_below HR.out hb3)
                replace HPr := Aside0.mk (Kd.R_below HPr.out hb3)
                replace HQr := Aside0.mk (Kd.R_below HQr.out hb3)
                have hp0 := (hb3.cell (World.block_lt_of_cell? _ _ hp0)).trans hp0
                have hp1 := (hb3.cell (World.block_lt_of_cell? _ _ hp1)).trans hp1
                have hp2 := (hb3.cell (World.block_lt_of_cell? _ _ hp2)).trans hp2
                have hq0 := (hb3.cell (World.block_lt_of_cell? _ _ hq0)).trans hq0
                have hq1 := (hb3.cell (World.block_lt_of_cell? _ _ hq1)).trans hq1
                have hq2 := (hb3.cell (World.block_lt_of_cell? _ _ hq2)).trans hq2
                clear hb3
                refine hK.out _ _ (⟨hp0, hp1, hq0, hq1⟩) (fun hHeld => ?_)
                clear hK K
                refine norm_ (a' := ?_) ?_ ?_
                rotate_left
                · show Act.put _ (some 65) _ = _
                  simp only [Act.put, List.setIfInBounds_toArray, List.set_cons_zero, List.set_cons_succ, i64_w, i32_w]
                  rfl
                refine one_ (i := 15) (N := some 72) #[true, true, true, true, true, true, true, true, true, true, true, true, true, true, true, true, false, false] rfl rfl (one_of HT_.out (by kernel_rfl)) (by decide) (fun K hK => ?_)
                refine goes_ Try.func51 (by kernel_rfl) rfl #[setV2 q.1] (by rfl) rfl rfl (by simp only [List.map_toArray, List.map_cons, List.map_nil]; rfl) ?_
                refine (least_calls q.1 _ HSq.out).mono ?_
                rintro e_ w_ ⟨rfl, hb3⟩
                refine ⟨_, rfl, ?_⟩
                replace HG := Aside0.mk (HG.out.bg hb3)
                replace HU := Aside0.mk (blk_below HU.out hb3)
                replace HR := Aside0.mk (Kd.R_below HR.out hb3)
                replace HPr := Aside0.mk (Kd.R_below HPr.out hb3)
                replace HQr := Aside0.mk (Kd.R_below HQr.out hb3)
                have hp0 := (hb3.cell (World.block_lt_of_cell? _ _ hp0)).trans hp0
                have hp1 := (hb3.cell (World.block_lt_of_cell? _ _ hp1)).trans hp1
                have hp2 := (hb3.cell (World.block_lt_of_cell? _ _ hp2)).trans hp2
                have hq0 := (hb3.cell (World.block_lt_of_cell? _ _ hq0)).trans hq0
                have hq1 := (hb3.cell (World.block_lt_of_cell? _ _ hq1)).trans hq1
                have hq2 := (hb3.cell (World.block_lt_of_cell? _ _ hq2)).trans hq2
                clear hb3
                refine hK.out _ _ (⟨hp0, hp1, hq0, hq1⟩) (fun hHeld => ?_)
                clear hK K
                refine norm_ (a' := ?_) ?_ ?_
                rotate_left
                · show Act.put _ (some 72) _ = _
                  simp only [Act.put, List.setIfInBounds_toArray, List.set_cons_zero, List.set_cons_succ, i64_w, i32_w]
                  rfl
                refine pure_ (i := 16) (N := some 73) (v := ?_) (a' := ?_) #[true, true, true, true, true, true, true, true, true, true, true, true, true, true, true, true, true, false] rfl rfl (any_of HT_.out (by kernel_rfl)) (fun _ _ _ h => h) (Or.inl ⟨by rfl, ?_⟩) ?_ ?_
                rotate_left
                · intro w'
                  go_simp
                  with_reducible rfl
                rotate_left
                · simp only [Act.put, List.setIfInBounds_toArray, List.set_cons_zero, List.set_cons_succ, i64_w, i32_w]
                  rfl
                refine pure_ (i := 17) (N := some 74) (v := ?_) (a' := ?_) #[true, true, true, true, true, true, true, true, true, true, true, true, true, true, true, true, true, true] rfl rfl (any_of HT_.out (by kernel_rfl)) (fun _ _ _ h => h) (Or.inl ⟨by rfl, ?_⟩) ?_ ?_
                rotate_left
                · intro w'
                  go_simp
                  with_reducible rfl
                rotate_left
                · simp only [Act.put, List.setIfInBounds_toArray, List.set_cons_zero, List.set_cons_succ, i64_w, i32_w]
                  rfl
                refine done_ (done_of HT_.out (by kernel_rfl)) ?_
                go_wp2
                go_roundg gk
                case measure => omega
                case rel => exact ⟨i + 1, by omega, by go_num, ⟨by rw [HSt.out]; exact HU.out⟩, ⟨by rw [HSt.out, HIns2.out]; exact HR.out⟩, HG⟩
        · rw [decide_eq_false hfi, if_neg (by decide)] at HSt
          have hne : (g0 == (i : Int)) = false := by simpa using hfi
          clear hfi
          go_wp2
          go_roundg gk
          case measure => omega
          case rel => exact ⟨i + 1, by omega, by go_num, ⟨by rw [HSt.out]; exact HU.out⟩, ⟨by rw [HSt.out]; exact HR.out⟩, HG⟩
end
end Go.Proofs.Ytbnjbjcokkcfcaa.Sol
