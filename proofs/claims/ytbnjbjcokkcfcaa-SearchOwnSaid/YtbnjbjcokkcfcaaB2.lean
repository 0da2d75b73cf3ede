/- The walks of Solve and Entails, for valid theories. -/
import Derived.Test.YtbnjbjcokkcfcaaB1
namespace Go.Proofs.Ytbnjbjcokkcfcaa.Sol
open Go.RowKit Go.Proofs.YtbnjbjcokkcfcaaW.PrintWords Go.Proofs.YtbnjbjcokkcfcaaW.PrintLast Go.Proofs.YtbnjbjcokkcfcaaW.PrintMore Go.Proofs.Ytbnjbjcokkcfcaa.PSearchOwn
set_option linter.unusedVariables false
set_option linter.unusedSimpArgs false

theorem res10 {tmps : Array Value} {w : World} {gR : Nat} {a b : Nat} {ok : Bool} {er : Int} (h4 : tmps.getD 4 undef = .pointer (some ⟨gR, 0, none⟩)) (h5 : tmps.getD 5 undef = .bool ok) (h6 : tmps.getD 6 undef = .int .i64 er) (hg : w.heap[gR]? = some (.cells #[.int .u64 (a : Int), .int .u64 (b : Int)] 34 (0, 0))) :
    (results Try.f10 tmps).run Try.prog w = .ok (.tuple #[.agg #[.int .u64 (a : Int), .int .u64 (b : Int)], .bool ok, .int .i64 er]) w := by
  have h := results_list (P := Try.prog) (fn := Try.f10) (tmps := tmps) (w := w) (rs := [.cell 4 34, .tmp 5, .tmp 6]) rfl (by simp) (.cell gR 34 #[.int .u64 (a : Int), .int .u64 (b : Int)] (0, 0) _ h4 hg Try.underlying34 rfl size34 (.tmp (.tmp .nil)))
  rw [h5, h6] at h
  exact h

/-- What Solve leaves. -/
def SolvedPost (W : World) (r : Bool × (Nat × Nat)) (e : Ending) (w' : World) : Prop :=
  e = .returned (.tuple #[setV2 r.2, .bool r.1, .int .i64 0]) ∧ Below W.heap.size W w'

set_option maxHeartbeats 4000000 in
set_option maxRecDepth 100000 in
theorem solved_calls {m : Nat} {W : World} {AL : Option Addr} {cL : Nat} {L : List (List Int)} {A : Option Addr} {c : Nat} {asm : List Int} (hL : Kd.C (Kd.slice 3 (Kd.int .i64)) W AL L.length L) (hcL : L.length ≤ cL) (hA : (Kd.int .i64).C W A asm.length asm) (hc : asm.length ≤ c)
    (hchk : checkL (m : Int) L asm = 0) (hm : m ≤ 128) (hok : AllOk (m + 1) L) (hasm : ∀ l ∈ asm, LitOk (m + 1) l) :
    Calls Try.prog 10 #[.agg #[.int .i64 (m : Int), .slice AL L.length cL], .slice A asm.length c] W (SolvedPost W (satF L m asm)) := by
  have hck : ∀ w, Below W.heap.size W w → Calls Try.prog 34 #[.agg #[.int .i64 (m : Int), .slice AL L.length cL], .slice A asm.length c] w fun e w' => e = .returned (.int .i64 0) ∧ Below w.heap.size w w' := fun w hb => by
    have := checkL_calls (N := (m : Int)) (Kd.C_below hL hb) hcL (Kd.C_below hA hb) hc
    rwa [hchk] at this
  have hst : ∀ w, Below W.heap.size W w → Calls Try.prog 35 #[.agg #[.int .i64 (m : Int), .slice AL L.length cL], .slice A asm.length c] w (SolvePost w (satF L m asm)) := fun w hb => sat_calls (Kd.C_below hL hb) hcL (Kd.C_below hA hb) hm hok hasm
  have HCK := Aside0.mk hck
  have HST := Aside0.mk hst
  clear hck hst hL hcL hA hc hok hasm hchk
  have HB0 := Aside0.mk (below_alloc (below_alloc (Below.refl W.heap.size W) (.cells #[.int .i64 (m : Int), .slice AL L.length cL] 24)) (.cells #[.int .u64 0, .int .u64 0] 34))
  have HT0 := Aside0.mk (blk_alloc (blk_new W (.cells #[.int .i64 (m : Int), .slice AL L.length cL] 24)) (.cells #[.int .u64 0, .int .u64 0] 34))
  have hR0 := blk_new (W.alloc (.cells #[.int .i64 (m : Int), .slice AL L.length cL] 24)) (.cells #[.int .u64 0, .int .u64 0] 34)
  rw [show (W.alloc (.cells #[.int .i64 (m : Int), .slice AL L.length cL] 24)).heap.size = W.heap.size + 1 by simp] at hR0
  have HR0 := Aside0.mk hR0
  clear hR0
  generalize satF L m asm = r at HST
  obtain ⟨r1, r2a, r2b⟩ := r
  go_enter Try.func10, Try.ntmps10
  go_wp2_with (first
    | (go_at_call 34; refine (HCK.out _ HB0.out).mono ?_; rintro e w2 ⟨rfl, hb2⟩; have HB2 := Aside0.mk (below_step HB0.out hb2); have HT2 := Aside0.mk (blk_below HT0.out hb2); have HR2 := Aside0.mk (blk_below HR0.out hb2); clear hb2; have hc0 : w2.cell? ⟨W.heap.size, 0, none⟩ = some (.int .i64 (m : Int)) := (blk_cell HT2.out 0).trans rfl; have hc1 : w2.cell? ⟨W.heap.size, 1, none⟩ = some (.slice AL L.length cL) := (blk_cell HT2.out 1).trans rfl)
    | (go_at_call 35; refine (HST.out _ HB2.out).mono ?_; rintro e w3 ⟨rfl, hb3⟩; have HB3 := Aside0.mk (below_step HB2.out hb3); have HR3 := Aside0.mk (blk_below HR2.out hb3); clear hb3; have hq0 : (w3.alloc (.cells #[.int .u64 (r2a : Int), .int .u64 (r2b : Int)] 34)).cell? ⟨W.heap.size + 1, 0, none⟩ = some (.int .u64 0) := (blk_cell (blk_alloc HR3.out _) 0).trans rfl; have hq1 : (w3.alloc (.cells #[.int .u64 (r2a : Int), .int .u64 (r2b : Int)] 34)).cell? ⟨W.heap.size + 1, 1, none⟩ = some (.int .u64 0) := (blk_cell (blk_alloc HR3.out _) 1).trans rfl; have hf0 := blk_frozen (blk_alloc HR3.out (.cells #[.int .u64 (r2a : Int), .int .u64 (r2b : Int)] 34)) 0; have hf1 := blk_frozen (blk_alloc HR3.out (.cells #[.int .u64 (r2a : Int), .int .u64 (r2b : Int)] 34)) 1))
  refine bodyPost_ret (res10 (a := r2a) (b := r2b) rfl rfl rfl (blk_put (blk_put (blk_alloc HR3.out _) 0 _ rfl) 1 _ rfl)) rfl ⟨rfl, ?_⟩
  exact below_set (below_set (below_alloc HB3.out _) (Nat.le_succ _)) (Nat.le_succ _)

/-- What Entails leaves. -/
def EntailsPost (W : World) (b : Bool) (e : Ending) (w' : World) : Prop :=
  e = .returned (.tuple #[.bool b, .int .i64 0]) ∧ Below W.heap.size W w'

set_option maxHeartbeats 4000000 in
set_option maxRecDepth 100000 in
theorem entails_calls {m : Nat} {W : World} {AL : Option Addr} {cL : Nat} {L : List (List Int)} {A : Option Addr} {c : Nat} {asm : List Int} (hL : Kd.C (Kd.slice 3 (Kd.int .i64)) W AL L.length L) (hcL : L.length ≤ cL) (hA : (Kd.int .i64).C W A asm.length asm) (hc : asm.length ≤ c)
    (hlen : asm.length ≤ 1000) (hchk : checkL (m : Int) L asm = 0) (hm : m ≤ 128) (hok : AllOk (m + 1) L) (hasm : ∀ l ∈ asm, LitOk (m + 1) l) :
    Calls Try.prog 11 #[.agg #[.int .i64 (m : Int), .slice AL L.length cL], .slice A asm.length c] W (EntailsPost W (!(satF L m (asm.map (fun x => -x))).1)) := by
  have hmk := print_make (P := Try.prog) 25 3 .i64 8 Try.underlying25 info3 (by decide) asm.length (by omega)
  have hck : ∀ w, Below W.heap.size W w → Calls Try.prog 34 #[.agg #[.int .i64 (m : Int), .slice AL L.length cL], .slice A asm.length c] w fun e w' => e = .returned (.int .i64 0) ∧ Below w.heap.size w w' := fun w hb => by
    have := checkL_calls (N := (m : Int)) (Kd.C_below hL hb) hcL (Kd.C_below hA hb) hc
    rwa [hchk] at this
  have hneg : ∀ l ∈ asm.map (fun x => -x), LitOk (m + 1) l := fun l hl => by
    obtain ⟨x, hx, rfl⟩ := List.mem_map.1 hl
    obtain ⟨h0, h1, h2⟩ := hasm x hx
    exact ⟨by omega, by omega, by omega⟩
  have hst : ∀ w v, Below W.heap.size W w → w.ownsRow W.heap.size 3 1 v asm.length (nums .i64 (asm.map (fun x => -x))) → Calls Try.prog 35 #[.agg #[.int .i64 (m : Int), .slice AL L.length cL], v] w (SolvePost w (satF L m (asm.map (fun x => -x)))) := fun w v hb ho => by
    obtain ⟨A3, c3, rfl, h3, h4, _, _⟩ := own_C ho
    have := sat_calls (A := A3) (c := c3) (asm := asm.map (fun x => -x)) (Kd.C_below hL hb) hcL (by rw [List.length_map]; exact h3) hm hok hneg
    rwa [List.length_map] at this
  have HCK := Aside0.mk hck
  have HST := Aside0.mk hst
  have HA := Aside0.mk hA
  have HAsm := Aside0.mk hasm
  clear hck hst hL hcL hA hc hok hasm hchk hneg
  have HB0 := Aside0.mk (below_alloc (Below.refl W.heap.size W) (.cells #[.int .i64 (m : Int), .slice AL L.length cL] 24))
  have HT0 := Aside0.mk (blk_new W (.cells #[.int .i64 (m : Int), .slice AL L.length cL] 24))
  generalize satF L m (asm.map (fun x => -x)) = r at HST
  obtain ⟨r1, r2a, r2b⟩ := r
  go_enter Try.func11, Try.ntmps11
  go_wp2_with (first
    | (go_at_call 34; refine (HCK.out _ HB0.out).mono ?_; rintro e w2 ⟨rfl, hb2⟩; have HB2 := Aside0.mk (below_step HB0.out hb2); have HT2 := Aside0.mk (blk_below HT0.out hb2); clear hb2))
  clear hmk HCK
  have HO := Aside0.mk (own_made w2 W.heap.size 3 .i64 asm.length HB2.out.size (by omega))
  have HB3 := Aside0.mk (below_alloc HB2.out (.cells (madeCells #[.int .i64 0] asm.length) 3))
  have HT3 := Aside0.mk (blk_alloc HT2.out (.cells (madeCells #[.int .i64 0] asm.length) 3))
  have hne : w2.heap.size ≠ W.heap.size := by have := blk_lt HT2.out; omega
  have hge : W.heap.size ≤ w2.heap.size := HB2.out.size
  have HNe := Aside0.mk hne
  have HGe := Aside0.mk hge
  clear HB2 HT2 HB0 HT0 hne hge
  generalize w2.heap.size = gl at HO HNe HGe ⊢
  generalize w2.alloc (.cells (madeCells #[.int .i64 0] asm.length) 3) = w3 at HO HB3 HT3 ⊢
  go_loopg [22] asm.length (fun gk v22 w' => ∃ (i : Nat), i + gk = asm.length ∧ v22 = .int .i64 i ∧ Aside0 (w'.ownsRow W.heap.size 3 1 (.slice (some ⟨gl, 0, none⟩) asm.length asm.length) asm.length (nums .i64 ((asm.take i).map (fun x => -x) ++ List.replicate gk 0))) ∧ Aside0 (Below W.heap.size W w') ∧ Aside0 (w'.heap[W.heap.size]? = some (.cells #[.int .i64 (m : Int), .slice AL L.length cL] 24 (0, 0))))
  case atStart => exact ⟨0, by omega, rfl, ⟨by simpa using HO.out⟩, HB3, HT3⟩
  case round =>
    clear HO HB3 HT3
    obtain ⟨i, hig, rfl, HO, HB, HT⟩ := hrel
    cases gk with
    | zero =>
      have hi : ¬ ((i : Int) < (asm.length : Int)) := by omega
      have ho := HO.out
      rw [List.take_of_length_le (by omega), List.replicate_zero, List.append_nil] at ho
      have HO2 := Aside0.mk ho
      clear ho HO
      have HS := Aside0.mk (HST.out _ _ HB.out HO2.out)
      have hc0 : wr.cell? ⟨W.heap.size, 0, none⟩ = some (.int .i64 (m : Int)) := (blk_cell HT.out 0).trans rfl
      have hc1 : wr.cell? ⟨W.heap.size, 1, none⟩ = some (.slice AL L.length cL) := (blk_cell HT.out 1).trans rfl
      go_wp2_with (go_at_call 35; refine HS.out.mono ?_; rintro e w4 ⟨rfl, hb4⟩; have HB4 := Aside0.mk (below_step HB.out hb4); clear hb4)
      go_ret2
      exact ⟨rfl, below_alloc HB4.out _⟩
    | succ gk =>
      have hi : (i : Int) < (asm.length : Int) := by omega
      obtain ⟨ad, hA2, hx⟩ := rd_int HA.out i (by omega)
      subst hA2
      replace hx := (HB.out.cell (World.block_lt_of_cell? W _ hx)).trans hx
      obtain ⟨l, hl⟩ : ∃ l, asm.getD i 0 = l := ⟨_, rfl⟩
      rw [hl] at hx
      have hgei : asm[i]? = some l := by
        rw [← hl]; simp [List.getD_eq_getElem?_getD, List.getElem?_eq_getElem (show i < asm.length by omega)]
      have hlit := HAsm.out l (List.mem_of_getElem? hgei)
      obtain ⟨_, hl1, hl2⟩ := hlit
      have htk : asm.take (i + 1) = asm.take i ++ [l] := by rw [List.take_add_one, hgei]; rfl
      have HTk := Aside0.mk htk
      have ha := (own_at HO.out (i : Int) (by omega) (by omega))
      have hst := (own_store HO.out (i : Int) (-l)).1
      rw [Int.toNat_natCast] at ha hst
      have hset : ((asm.take i).map (fun x => -x) ++ List.replicate (gk + 1) 0).set i (-l) = (asm.take (i + 1)).map (fun x => -x) ++ List.replicate gk 0 := by
        rw [htk, List.set_append_right _ _ (by simp; omega)]
        simp [show i - min i asm.length = 0 by omega, List.replicate_succ]
      rw [hset] at hst
      have HS2 := Aside0.mk hst
      obtain ⟨ha1, ha2⟩ := ha
      generalize rd ((asm.take i).map (fun x => -x) ++ List.replicate (gk + 1) 0) (i : Int) = y at ha1
      clear htk hl hgei hset hst
      go_wp2_with fail
      go_roundg gk
      case measure => omega
      case rel => exact ⟨i + 1, by omega, by go_num, HS2, ⟨below_set HB.out HGe.out⟩, ⟨blk_far HT.out (Ne.symm HNe.out) _⟩⟩
end Go.Proofs.Ytbnjbjcokkcfcaa.Sol
