/- The walk of solve. -/
import Derived.Test.YtbnjbjcokkcfcaaA6
import Derived.Test.YtbnjbjcokkcfcaaA8
import Derived.Laws.EntriesVeiled
namespace Go.Proofs.Ytbnjbjcokkcfcaa.Sol
open Go.RowKit Go.Proofs.YtbnjbjcokkcfcaaW.PrintWords Go.Proofs.YtbnjbjcokkcfcaaW.PrintLast Go.Proofs.YtbnjbjcokkcfcaaW.PrintMore Go.Proofs.Ytbnjbjcokkcfcaa.PSearchOwn
set_option linter.unusedVariables false
set_option linter.unusedSimpArgs false

/-- The assumptions are set. -/
def asmF : List Int → List Int → List Int → Bool × List Int × List Int
  | [], vs, ts => (true, vs, ts)
  | l :: r, vs, ts => if setB vs l then asmF r (setV vs l) (setT vs ts l) else (false, vs, ts)
/-- The true variables from i on. -/
def modelFrom (vs : List Int) : Nat → Nat → Nat × Nat → Nat × Nat
  | 0, _, s => s
  | d + 1, i, s => modelFrom vs d (i + 1) (if vat vs i = 1 then withS s i else s)
def solveF (L : List (List Int)) (n K f : Nat) (asm : List Int) : Option (Bool × (Nat × Nat)) :=
  if (asmF asm (List.replicate n 0) []).1 = false then some (false, (0, 0)) else
  (tryF L n K f 1 (asmF asm (List.replicate n 0) []).2.1 (asmF asm (List.replicate n 0) []).2.2).map fun q => if q.1 then (true, modelFrom q.2.1 n 0 (0, 0)) else (false, (0, 0))

def SolvePost (W : World) (r : Bool × (Nat × Nat)) (e : Ending) (w' : World) : Prop :=
  e = .returned (.tuple #[setV2 r.2, .bool r.1]) ∧ Below W.heap.size W w'

theorem three_alloc (w : World) (o1 o2 o3 : Obj) :
    (((w.alloc o1).alloc o2).alloc o3).heap[w.heap.size]? = some o1 ∧ (((w.alloc o1).alloc o2).alloc o3).heap[w.heap.size + 1]? = some o2 ∧ (((w.alloc o1).alloc o2).alloc o3).heap[w.heap.size + 1 + 1]? = some o3 ∧ Below w.heap.size w (((w.alloc o1).alloc o2).alloc o3) := by
  have h1 : (w.alloc o1).heap.size = w.heap.size + 1 := by simp
  have h2 : ((w.alloc o1).alloc o2).heap.size = w.heap.size + 1 + 1 := by simp
  refine ⟨blk_alloc (blk_alloc (blk_new w o1) o2) o3, ?_, ?_, below_alloc (below_alloc (below_alloc (Below.refl _ _) _) _) _⟩
  · have := blk_alloc (blk_new (w.alloc o1) o2) o3
    rwa [h1] at this
  · have := blk_new ((w.alloc o1).alloc o2) o3
    rwa [h2] at this

/-- The state is laid: struct, values, the variable s. -/
structure Begun (wB wc : World) (g gv gS : Nat) (m : Nat) (AL : Option Addr) (nL cL : Nat) : Prop where
  blk : wc.heap[g]? = some (.cells #[.int .i64 (m : Int), .slice AL nL cL, .slice (some ⟨gv, 0, none⟩) (m + 1) (m + 1), .slice none 0 0] 89 (0, 0))
  val : wc.heap[gv]? = some (.cells (madeCells #[.int .i64 0] (m + 1)) 3 (0, 0))
  s : wc.heap[gS]? = some (.cells #[.pointer (some ⟨g, 0, none⟩)] 87 (0, 0))
  below : Below wB.heap.size wB wc
  geg : wB.heap.size ≤ g
  gev : wB.heap.size ≤ gv
  ges : wB.heap.size ≤ gS
theorem Begun.drew {wB wc : World} {g gv gS m : Nat} {AL : Option Addr} {nL cL : Nat} (h : Begun wB wc g gv gS m AL nL cL) : Begun wB wc.drew g gv gS m AL nL cL :=
  ⟨h.blk, h.val, h.s, below_drew h.below, h.geg, h.gev, h.ges⟩

theorem made_eq (n : Nat) : madeCells #[.int .i64 0] n = ((List.replicate n (0 : Int)).map (Value.int .i64)).toArray := by
  apply Array.ext'
  rw [toList_madeCells_one]; simp
/-- What solve holds beside the state. -/
structure Cx (W wx : World) (g gv gS m : Nat) (AL : Option Addr) (nL cL : Nat) (tv : Value) : Prop where
  s : wx.heap[gS]? = some (.cells #[.pointer (some ⟨g, 0, none⟩)] 87 (0, 0))
  t : wx.heap[W.heap.size]? = some (.cells #[.int .i64 (m : Int), .slice AL nL cL] 24 (0, 0))
  r : wx.heap[W.heap.size + 1]? = some (.cells #[.int .u64 0, .int .u64 0] 34 (0, 0))
  as_ : Apart wx g gv tv gS
  at_ : Apart wx g gv tv W.heap.size
  ar_ : Apart wx g gv tv (W.heap.size + 1)
section
variable {W wx wy : World} {g gv gS m : Nat} {AL : Option Addr} {nL cL : Nat} {tv tv' : Value}
theorem Cx.move (h : Cx W wx g gv gS m AL nL cL tv) (hm : Moved wx wy g gv tv tv') : Cx W wy g gv gS m AL nL cL tv' :=
  ⟨hm.blk h.as_ h.s, hm.blk h.at_ h.t, hm.blk h.ar_ h.r, hm.apart h.as_, hm.apart h.at_, hm.apart h.ar_⟩
theorem Moved.of_below (h : Below wx.heap.size wx wy) (g gv : Nat) (tv : Value) : Moved wx wy g gv tv tv := ⟨Kept.of_below h _, .inl rfl⟩
theorem St.under {N : Int} {L : List (List Int)} {vs ts : List Int} (h : St W wx g gv N AL cL L vs ts tv) (hb : Below wx.heap.size wx wy) : St W wy g gv N AL cL L vs ts tv :=
  ⟨blk_below h.blk hb, blk_below h.val hb, pw_own_below h.tr hb, h.ne, below_step h.below hb, h.geg, h.gev, h.rdL, h.capL, h.small, h.len⟩
theorem begun_st {wB wc : World} {L : List (List Int)} (h : Begun wB wc g gv gS m AL L.length cL) (hB : Below W.heap.size W wB) (hL : Kd.C (Kd.slice 3 (Kd.int .i64)) W AL L.length L) (hcL : L.length ≤ cL) (hm : m ≤ 128) :
    St W wc g gv (m : Int) AL cL L (List.replicate (m + 1) 0) [] (.slice none 0 0) := by
  have hs := hB.size
  have h1 := h.geg
  have h2 := h.gev
  have h0 := h.blk
  have hv := h.val
  rw [made_eq] at hv
  have hl : (List.replicate (m + 1) (0 : Int)).length = m + 1 := by simp
  exact ⟨by rw [hl]; exact h0, hv, own_nil wc _ _ _, by simp [Value.ownBlock], below_step hB h.below, by omega, by omega, hL, hcL, fun x hx => by rw [List.eq_of_mem_replicate hx]; omega, by rw [hl]; omega⟩
theorem begun_cx {wB wc : World} (h : Begun wB wc g gv gS m AL nL cL) (hs : wB.heap.size = W.heap.size + 1 + 1) (hT : wB.heap[W.heap.size]? = some (.cells #[.int .i64 (m : Int), .slice AL nL cL] 24 (0, 0))) (hR : wB.heap[W.heap.size + 1]? = some (.cells #[.int .u64 0, .int .u64 0] 34 (0, 0))) :
    Cx W wc g gv gS m AL nL cL (.slice none 0 0) := by
  have h1 := h.geg
  have h2 := h.gev
  have h3 := h.ges
  have h4 := h.below.size
  have e1 : gS ≠ g := blk_ne h.s h.blk (by decide)
  have e2 : gS ≠ gv := blk_ne h.s h.val (by decide)
  exact ⟨h.s, blk_below hT h.below, blk_below hR h.below, ⟨blk_lt h.s, e1, e2, by simp [Value.ownBlock]⟩, ⟨by omega, by omega, by omega, by simp [Value.ownBlock]⟩, ⟨by omega, by omega, by omega, by simp [Value.ownBlock]⟩⟩
end
theorem inv_start (m : Nat) (hm : m ≤ 128) : Inv (m + 1) (List.replicate (m + 1) 0) [] :=
  ⟨by simp, by unfold Room; simp; omega, (fun v hv => by cases hv), by simp [vat, List.replicate_succ]⟩
theorem res35 {tmps : Array Value} {w : World} {gR : Nat} {a b : Nat} {ok : Bool} (h4 : tmps.getD 4 undef = .pointer (some ⟨gR, 0, none⟩)) (h5 : tmps.getD 5 undef = .bool ok) (hg : w.heap[gR]? = some (.cells #[.int .u64 (a : Int), .int .u64 (b : Int)] 34 (0, 0))) :
    (results Try.f35 tmps).run Try.prog w = .ok (.tuple #[.agg #[.int .u64 (a : Int), .int .u64 (b : Int)], .bool ok]) w := by
  have h := results_list (P := Try.prog) (fn := Try.f35) (tmps := tmps) (w := w) (rs := [.cell 4 34, .tmp 5]) rfl (by simp) (.cell gR 34 #[.int .u64 (a : Int), .int .u64 (b : Int)] (0, 0) _ h4 hg Try.underlying34 rfl size34 (.tmp .nil))
  rw [h5] at h
  exact h

/-- What the last loop of solve holds. -/
structure Fin (W wx : World) (g gv gS gA : Nat) (gb : Array Value) (vs : List Int) (s : Nat × Nat) : Prop where
  sp : wx.heap[gS]? = some (.cells #[.pointer (some ⟨g, 0, none⟩)] 87 (0, 0))
  b : wx.heap[g]? = some (.cells gb 89 (0, 0))
  v : wx.heap[gv]? = some (.cells (vs.map (Value.int .i64)).toArray 3 (0, 0))
  r : wx.heap[W.heap.size + 1]? = some (.cells #[.int .u64 0, .int .u64 0] 34 (0, 0))
  a : wx.heap[gA]? = some (.cells #[.int .u64 (s.1 : Int), .int .u64 (s.2 : Int)] 34 (0, 0))
  below : Below W.heap.size W wx
  ne : W.heap.size + 1 ≠ gA
  ge : W.heap.size ≤ gA
section
variable {W wx wy : World} {g gv gS gA : Nat} {gb : Array Value} {vs : List Int} {s : Nat × Nat}
theorem Fin.under (h : Fin W wx g gv gS gA gb vs s) (hb : Below wx.heap.size wx wy) : Fin W wy g gv gS gA gb vs s :=
  ⟨blk_below h.sp hb, blk_below h.b hb, blk_below h.v hb, blk_below h.r hb, blk_below h.a hb, below_step h.below hb, h.ne, h.ge⟩
theorem Fin.put (h : Fin W wx g gv gS gA gb vs s) (x y : Nat) : Fin W ((wx.setCell ⟨gA, 0, none⟩ (.int .u64 (x : Int))).setCell ⟨gA, 1, none⟩ (.int .u64 (y : Int))) g gv gS gA gb vs (x, y) := by
  have n1 : gS ≠ gA := blk_ne h.sp h.a (by decide)
  have n2 : g ≠ gA := blk_ne h.b h.a (by decide)
  have n3 : gv ≠ gA := blk_ne h.v h.a (by decide)
  exact ⟨blk_far (blk_far h.sp n1 _) n1 _, blk_far (blk_far h.b n2 _) n2 _, blk_far (blk_far h.v n3 _) n3 _, blk_far (blk_far h.r h.ne _) h.ne _, blk_put (blk_put h.a 0 _ rfl) 1 _ rfl, below_set (below_set h.below h.ge) h.ge, h.ne, h.ge⟩
end
theorem withS_lt (s : Nat × Nat) (v : Nat) (h1 : 1 ≤ v) (h2 : v ≤ 128) (ha : s.1 < 2 ^ 64) (hb : s.2 < 2 ^ 64) : (withS s v).1 < 2 ^ 64 ∧ (withS s v).2 < 2 ^ 64 := by
  unfold withS
  split
  · exact ⟨Nat.or_lt_two_pow ha (Nat.pow_lt_pow_right (by decide) (by omega)), hb⟩
  · exact ⟨ha, Nat.or_lt_two_pow hb (Nat.pow_lt_pow_right (by decide) (by omega))⟩

set_option maxHeartbeats 4000000 in
set_option maxRecDepth 100000 in
theorem solve_calls (K f m : Nat) (W : World) {AL : Option Addr} {cL : Nat} {L : List (List Int)} {A : Option Addr} {c : Nat} {asm : List Int} {r : Bool × (Nat × Nat)} (hL : Kd.C (Kd.slice 3 (Kd.int .i64)) W AL L.length L) (hcL : L.length ≤ cL) (hA : (Kd.int .i64).C W A asm.length asm) (hm : m ≤ 128)
    (hok : AllOk (m + 1) L) (hasm : ∀ l ∈ asm, LitOk (m + 1) l) (hr : solveF L (m + 1) K f asm = some r) :
    Calls Try.prog 35 #[.agg #[.int .i64 (m : Int), .slice AL L.length cL], .slice A asm.length c] W (SolvePost W r) := by
  have hmk := print_make (P := Try.prog) 25 3 .i64 8 Try.underlying25 info3 (by decide) (m + 1) (by omega)
  rw [show ((m + 1 : Nat) : Int) = (m : Int) + 1 by omega] at hmk
  have HL := Aside0.mk hL
  have HcL := Aside0.mk hcL
  have HA := Aside0.mk hA
  have HOk := Aside0.mk hok
  have HAsm := Aside0.mk hasm
  have HR := Aside0.mk hr
  have hAm : asm.length ≤ 9223372036854775807 := Kd.C_max hA
  clear hL hcL hA hok hasm hr
  go_enter Try.func35, Try.ntmps35
  go_wp2_with fail
  obtain ⟨wB, hwB⟩ : ∃ wB, wB = (W.alloc (.cells #[.int .i64 (m : Int), .slice AL L.length cL] 24)).alloc (.cells #[.int .u64 0, .int .u64 0] 34) := ⟨_, rfl⟩
  have hsB : wB.heap.size = W.heap.size + 1 + 1 := by rw [hwB]; simp
  have hbT : wB.heap[W.heap.size]? = some (.cells #[.int .i64 (m : Int), .slice AL L.length cL] 24 (0, 0)) := by rw [hwB]; exact blk_alloc (blk_new W _) _
  have hbR : wB.heap[W.heap.size + 1]? = some (.cells #[.int .u64 0, .int .u64 0] 34 (0, 0)) := by
    rw [hwB]
    have := blk_new (W.alloc (.cells #[.int .i64 (m : Int), .slice AL L.length cL] 24)) (.cells #[.int .u64 0, .int .u64 0] 34)
    rwa [show (W.alloc (.cells #[.int .i64 (m : Int), .slice AL L.length cL] 24)).heap.size = W.heap.size + 1 by simp] at this
  have hbB : Below W.heap.size W wB := by rw [hwB]; exact below_alloc (below_alloc (Below.refl _ _) _) _
  have HWB := Aside0.mk hwB
  have HSB := Aside0.mk hsB
  have HBT := Aside0.mk hbT
  have HBR := Aside0.mk hbR
  have HBB := Aside0.mk hbB
  clear hwB hsB hbT hbR hbB
  go_cut [6] (fun v6 wc => ∃ (g gv gS : Nat), v6 = .pointer (some ⟨gS, 0, none⟩) ∧ Aside0 (Begun wB wc g gv gS m AL L.length cL))
  case first =>
    go_region
    · go_wp2
      go_meet
      case rel =>
        obtain ⟨e1, e2, e3, hb⟩ := three_alloc wB (.cells (madeCells #[.int .i64 0] (m + 1)) 3) (.cells #[.int .i64 (m : Int), .slice AL L.length cL, .slice (some ⟨W.heap.size + 1 + 1, 0, none⟩) (m + 1) (m + 1), .slice none 0 0] 89) (.cells #[.pointer (some ⟨W.heap.size + 1 + 1 + 1, 0, none⟩)] 87)
        rw [HSB.out] at e1 e2 e3
        refine ⟨W.heap.size + 1 + 1 + 1, W.heap.size + 1 + 1, W.heap.size + 1 + 1 + 1 + 1, rfl, ⟨?_⟩⟩
        rw [← HWB.out]
        exact Begun.drew ⟨e2, e1, e3, hb, by rw [HSB.out]; omega, by rw [HSB.out]; omega, by rw [HSB.out]; omega⟩
    · go_wp2
      go_meet
      case rel =>
        obtain ⟨e1, e2, e3, hb⟩ := three_alloc wB (.cells (madeCells #[.int .i64 0] (m + 1)) 3) (.cells #[.pointer (some ⟨W.heap.size + 1 + 1 + 1 + 1, 0, none⟩)] 87) (.cells #[.int .i64 (m : Int), .slice AL L.length cL, .slice (some ⟨W.heap.size + 1 + 1, 0, none⟩) (m + 1) (m + 1), .slice none 0 0] 89)
        rw [HSB.out] at e1 e2 e3
        refine ⟨W.heap.size + 1 + 1 + 1 + 1, W.heap.size + 1 + 1, W.heap.size + 1 + 1 + 1, rfl, ⟨?_⟩⟩
        rw [← HWB.out]
        exact Begun.drew ⟨e3, e1, e2, hb, by rw [HSB.out]; omega, by rw [HSB.out]; omega, by rw [HSB.out]; omega⟩
    · go_wp2
      go_meet
      case rel =>
        obtain ⟨e1, e2, e3, hb⟩ := three_alloc wB (.cells #[.pointer (some ⟨W.heap.size + 1 + 1 + 1 + 1, 0, none⟩)] 87) (.cells (madeCells #[.int .i64 0] (m + 1)) 3) (.cells #[.int .i64 (m : Int), .slice AL L.length cL, .slice (some ⟨W.heap.size + 1 + 1 + 1, 0, none⟩) (m + 1) (m + 1), .slice none 0 0] 89)
        rw [HSB.out] at e1 e2 e3
        refine ⟨W.heap.size + 1 + 1 + 1 + 1, W.heap.size + 1 + 1 + 1, W.heap.size + 1 + 1, rfl, ⟨?_⟩⟩
        rw [← HWB.out]
        exact Begun.drew ⟨e3, e2, e1, hb, by rw [HSB.out]; omega, by rw [HSB.out]; omega, by rw [HSB.out]; omega⟩
  case rest =>
    obtain ⟨g, gv, gS, rfl, HBg⟩ := hcut
    clear hmk HWB
    have HST := Aside0.mk (begun_st HBg.out HBB.out HL.out HcL.out hm)
    have HCX := Aside0.mk (begun_cx HBg.out HSB.out HBT.out HBR.out)
    have HINV := Aside0.mk (inv_start m hm)
    clear HBg HSB HBT HBR HBB HL HcL
    have hr := HR.out
    unfold solveF at hr
    obtain ⟨RA, hRA⟩ : ∃ RA, asmF asm (List.replicate (m + 1) 0) [] = RA := ⟨_, rfl⟩
    rw [hRA] at hr
    have HRA := Aside0.mk hRA
    have HR2 := Aside0.mk hr
    clear hr hRA HR
    go_wp2_with fail
    go_loopg [21] asm.length (fun gk v21 w' => ∃ (i : Nat) (vs ts : List Int) (tv : Value), i + gk = asm.length ∧ v21 = .int .i64 i ∧ Aside0 (St W w' g gv (m : Int) AL cL L vs ts tv) ∧ Aside0 (Cx W w' g gv gS m AL L.length cL tv) ∧ Aside0 (Inv (m + 1) vs ts) ∧ Aside0 (asmF (asm.drop i) vs ts = RA))
    case atStart => exact ⟨0, _, _, _, by omega, rfl, HST, HCX, HINV, ⟨by rw [List.drop_zero]; exact HRA.out⟩⟩
    case round =>
      clear HST HCX HINV HRA
      obtain ⟨i, vs, ts, tv, hig, rfl, HST, HCX, HINV, HRA⟩ := hrel
      cases gk with
      | zero =>
        have hi : ¬ ((i : Int) < (asm.length : Int)) := by omega
        have hra : RA = (true, vs, ts) := by
          have := HRA.out
          rw [List.drop_eq_nil_of_le (by omega)] at this
          rw [← this]; rfl
        subst hra
        clear HRA HA HAsm
        have hr := HR2.out
        rw [if_neg (by simp)] at hr
        obtain ⟨⟨b2, vs2, ts2⟩, ht2, hr2⟩ := Option.map_eq_some_iff.1 hr
        have hF0 : Apart (wr.alloc (.cells #[.func (.func 67) #[] #[.pointer (some ⟨gS, 0, none⟩), .pointer (some ⟨W.heap.size, 0, none⟩), .pointer (some ⟨wr.heap.size, 0, none⟩)]] 86)) g gv tv wr.heap.size := by
          refine ⟨by simp, fun e => ?_, fun e => ?_, fun e => ?_⟩
          · have := blk_lt HST.out.blk; omega
          · have := blk_lt HST.out.val; omega
          · have := own_lt HST.out.tr _ e; omega
        have hcx2 := HCX.out.move (Moved.of_below (below_alloc (Below.refl _ _) (.cells #[.func (.func 67) #[] #[.pointer (some ⟨gS, 0, none⟩), .pointer (some ⟨W.heap.size, 0, none⟩), .pointer (some ⟨wr.heap.size, 0, none⟩)]] 86)) g gv tv)
        have hcall := try_calls (K := K) (gS := gS) (gT := W.heap.size) (gF := wr.heap.size) (n := m + 1) (by omega) (by omega) HOk.out f _ 1 vs ts tv b2 vs2 ts2 (HST.out.alloc (.cells #[.func (.func 67) #[] #[.pointer (some ⟨gS, 0, none⟩), .pointer (some ⟨W.heap.size, 0, none⟩), .pointer (some ⟨wr.heap.size, 0, none⟩)]] 86)) ⟨hcx2.s, hcx2.t, blk_new _ _, hcx2.as_, hcx2.at_, hF0⟩ HINV.out (by omega) (by omega) ht2
        obtain ⟨hinv2, _⟩ := tryF_inv HOk.out K f 1 vs ts _ (by omega) HINV.out ht2
        simp only [] at hinv2
        have HCall := Aside0.mk hcall
        have HCX2 := Aside0.mk hcx2
        have HI2 := Aside0.mk hinv2
        have HRes := Aside0.mk hr2
        clear hr ht2 hr2 hF0 hcx2 hcall hinv2 HR2 HOk
        cases b2 with
        | false =>
          have hre := HRes.out
          simp only [] at hre
          rw [if_neg (by simp)] at hre
          subst hre
          go_wp2_with (go_at_call 67; refine HCall.out.mono ?_; rintro e w2 ⟨tv2, rfl, hst2, hmv2⟩; have HST2 := Aside0.mk hst2; have HCX3 := Aside0.mk (HCX2.out.move hmv2); clear hst2 hmv2; have hr0 := blk_frozen HCX3.out.r 0; have hr1 := blk_frozen HCX3.out.r 1; have hq0 : w2.cell? ⟨W.heap.size + 1, 0, none⟩ = some (.int .u64 0) := (blk_cell HCX3.out.r 0).trans rfl; have hq1 : w2.cell? ⟨W.heap.size + 1, 1, none⟩ = some (.int .u64 0) := (blk_cell HCX3.out.r 1).trans rfl)
          refine bodyPost_ret (res35 (a := 0) (b := 0) rfl rfl (blk_put (blk_put HCX3.out.r 0 _ rfl) 1 _ rfl)) rfl ⟨rfl, ?_⟩
          exact below_set (below_set HST2.out.below (Nat.le_succ _)) (Nat.le_succ _)
        | true =>
          have hre := HRes.out
          simp only [if_true] at hre
          subst hre
          go_wp2_with (go_at_call 67; refine HCall.out.mono ?_; rintro e w2 ⟨tv2, rfl, hst2, hmv2⟩; have HST2 := Aside0.mk hst2; have HCX3 := Aside0.mk (HCX2.out.move hmv2); clear hst2 hmv2; have hcs : (w2.alloc (.cells #[.int .u64 0, .int .u64 0] 34)).cell? ⟨gS, 0, none⟩ = some (.pointer (some ⟨g, 0, none⟩)) := (blk_cell (blk_alloc HCX3.out.s _) 0).trans rfl; have hc2 : (w2.alloc (.cells #[.int .u64 0, .int .u64 0] 34)).cell? ⟨g, 2, none⟩ = some (.slice (some ⟨gv, 0, none⟩) vs2.length vs2.length) := (blk_cell (blk_alloc HST2.out.blk _) 2).trans rfl)
          clear hcs hc2
          have hgA0 : Fin W (w2.alloc (.cells #[.int .u64 0, .int .u64 0] 34)) g gv gS w2.heap.size #[.int .i64 (m : Int), .slice AL L.length cL, .slice (some ⟨gv, 0, none⟩) vs2.length vs2.length, tv2] vs2 (0, 0) :=
            ⟨blk_alloc HCX3.out.s _, blk_alloc HST2.out.blk _, blk_alloc HST2.out.val _, blk_alloc HCX3.out.r _, blk_new _ _, below_alloc HST2.out.below _, by have := HCX3.out.ar_.1; omega, by have := HCX3.out.ar_.1; omega⟩
          have HF := Aside0.mk hgA0
          clear hgA0 HCall
          generalize hgA : w2.heap.size = gA at HF ⊢
          generalize hwA : w2.alloc (.cells #[.int .u64 0, .int .u64 0] 34) = wA at HF ⊢
          have hsm := Aside0.mk HST2.out.small
          have hv1 := HI2.out.len
          have HV1 := Aside0.mk hv1
          have hv2 : vs2.length ≤ 129 := by omega
          clear hgA hwA HST2 HCX3 HCX2 HST HCX HINV hv1
          go_loopg [41] vs2.length (fun gk v41 w' => ∃ (i : Nat) (s : Nat × Nat), i + gk = vs2.length ∧ v41 = .int .i64 i ∧ Aside0 (Fin W w' g gv gS gA #[.int .i64 (m : Int), .slice AL L.length cL, .slice (some ⟨gv, 0, none⟩) vs2.length vs2.length, tv2] vs2 s) ∧ Aside0 (s.1 < 2 ^ 64 ∧ s.2 < 2 ^ 64) ∧ Aside0 (modelFrom vs2 gk i s = modelFrom vs2 (m + 1) 0 (0, 0)))
          case atStart => exact ⟨0, (0, 0), by omega, rfl, HF, ⟨by decide⟩, ⟨by rw [HV1.out]⟩⟩
          case round =>
            clear HF
            obtain ⟨i, s, hig2, rfl, HF, HB64, HM⟩ := hrel
            cases gk with
            | zero =>
              have hi2 : ¬ ((i : Int) < (vs2.length : Int)) := by omega
              have hms : s = modelFrom vs2 (m + 1) 0 (0, 0) := HM.out
              have HMS := Aside0.mk hms
              clear hms HM HRes
              have ha0 : wr.cell? ⟨gA, 0, none⟩ = some (.int .u64 (s.1 : Int)) := (blk_cell HF.out.a 0).trans rfl
              have ha1 : wr.cell? ⟨gA, 1, none⟩ = some (.int .u64 (s.2 : Int)) := (blk_cell HF.out.a 1).trans rfl
              have hq0 : wr.cell? ⟨W.heap.size + 1, 0, none⟩ = some (.int .u64 0) := (blk_cell HF.out.r 0).trans rfl
              have hq1 : wr.cell? ⟨W.heap.size + 1, 1, none⟩ = some (.int .u64 0) := (blk_cell HF.out.r 1).trans rfl
              have hr0 := blk_frozen HF.out.r 0
              have hr1 := blk_frozen HF.out.r 1
              go_wp2_with fail
              rw [← HMS.out]
              refine bodyPost_ret (res35 (a := s.1) (b := s.2) rfl rfl (blk_put (blk_put HF.out.r 0 _ rfl) 1 _ rfl)) rfl ⟨rfl, ?_⟩
              exact below_set (below_set HF.out.below (Nat.le_succ _)) (Nat.le_succ _)
            | succ gk =>
              have hi2 : (i : Int) < (vs2.length : Int) := by omega
              have hcs : wr.cell? ⟨gS, 0, none⟩ = some (.pointer (some ⟨g, 0, none⟩)) := (blk_cell HF.out.sp 0).trans rfl
              have hc2 : wr.cell? ⟨g, 2, none⟩ = some (.slice (some ⟨gv, 0, none⟩) vs2.length vs2.length) := (blk_cell HF.out.b 2).trans rfl
              have hcv : wr.cell? ⟨gv, i, none⟩ = some (.int .i64 (vat vs2 i)) := by
                rw [blk_cell HF.out.v]
                unfold vat
                simp [List.getD_eq_getElem?_getD, List.getElem?_eq_getElem (show i < vs2.length by omega)]
              have hmm := HM.out
              simp only [modelFrom] at hmm
              by_cases h1 : vat vs2 i = 1
              · have hi0 : i ≠ 0 := by
                  rintro rfl
                  have := HI2.out.zero
                  simp only [Int.ofNat_zero, Int.natCast_zero] at h1
                  omega
                rw [if_pos h1] at hmm
                rw [h1] at hcv
                have HM2 := Aside0.mk hmm
                have HW := Aside0.mk (fun w => with_calls s i (by omega) (by omega) w HB64.out.1 HB64.out.2)
                have HB2 := Aside0.mk (withS_lt s i (by omega) (by omega) HB64.out.1 HB64.out.2)
                clear h1 hmm HM hi0 HRes
                obtain ⟨s1, s2⟩ := s
                generalize withS (s1, s2) i = sn at HW HM2 HB2
                have ha0 : wr.cell? ⟨gA, 0, none⟩ = some (.int .u64 (s1 : Int)) := (blk_cell HF.out.a 0).trans rfl
                have ha1 : wr.cell? ⟨gA, 1, none⟩ = some (.int .u64 (s2 : Int)) := (blk_cell HF.out.a 1).trans rfl
                go_wp2_with (go_at_call 45; refine (HW.out _).mono ?_; rintro e w3 ⟨rfl, hb3⟩; have HF3 := Aside0.mk (HF.out.under hb3); clear hb3; have hk0 : w3.cell? ⟨gA, 0, none⟩ = some (.int .u64 (s1 : Int)) := (blk_cell HF3.out.a 0).trans rfl; have hk1 : w3.cell? ⟨gA, 1, none⟩ = some (.int .u64 (s2 : Int)) := (blk_cell HF3.out.a 1).trans rfl; have hf0 := blk_frozen HF3.out.a 0; have hf1 := blk_frozen HF3.out.a 1)
                go_roundg gk
                case measure => omega
                case rel => exact ⟨i + 1, sn, by omega, by go_num, ⟨HF3.out.put sn.1 sn.2⟩, HB2, HM2⟩
              · rw [if_neg h1] at hmm
                have hb1 : (vat vs2 i == 1) = false := by simpa using h1
                have HM2 := Aside0.mk hmm
                clear h1 hmm HM HRes
                generalize vat vs2 i = y at hcv hb1
                go_wp2_with fail
                go_roundg gk
                case measure => omega
                case rel => exact ⟨i + 1, s, by omega, by go_num, HF, HB64, HM2⟩
      | succ gk =>
        have hi : (i : Int) < (asm.length : Int) := by omega
        obtain ⟨ad, hA2, hx⟩ := rd_int HA.out i (by omega)
        subst hA2
        replace hx := (HST.out.below.cell (World.block_lt_of_cell? W _ hx)).trans hx
        obtain ⟨l, hl⟩ : ∃ l, asm.getD i 0 = l := ⟨_, rfl⟩
        rw [hl] at hx
        have hge : asm[i]? = some l := by
          rw [← hl]; simp [List.getD_eq_getElem?_getD, List.getElem?_eq_getElem (show i < asm.length by omega)]
        have hdrop : asm.drop i = l :: asm.drop (i + 1) := by
          rw [List.drop_eq_getElem_cons (by omega)]
          congr 1
          rw [List.getElem?_eq_getElem (by omega)] at hge
          exact Option.some.inj hge
        have hlit := HAsm.out l (List.mem_of_getElem? hge)
        have hra := HRA.out
        rw [hdrop] at hra
        simp only [asmF] at hra
        have hset := set_calls HST.out l (by rw [HINV.out.len]; exact hlit) (by rw [HINV.out.len]; omega) HINV.out.room
        have hcs : wr.cell? ⟨gS, 0, none⟩ = some (.pointer (some ⟨g, 0, none⟩)) := (blk_cell HCX.out.s 0).trans rfl
        have HS := Aside0.mk hset
        have HI2 := Aside0.mk (HINV.out.set hlit)
        clear hset hdrop hge hl HRA hlit
        cases hb : setB vs l with
        | true =>
          rw [hb] at HS
          rw [hb, if_pos rfl] at hra
          have HRA2 := Aside0.mk hra
          clear hra hb
          generalize setV vs l = vs2 at HS HI2 HRA2
          generalize setT vs ts l = ts2 at HS HI2 HRA2
          go_wp2_with (go_at_call 66; refine HS.out.mono ?_; rintro e w2 ⟨tv2, rfl, hst2, hmv2⟩; have HST2 := Aside0.mk hst2; have HCX2 := Aside0.mk (HCX.out.move hmv2); clear hst2 hmv2)
          go_roundg gk
          case measure => omega
          case rel => exact ⟨i + 1, vs2, ts2, tv2, by omega, by go_num, HST2, HCX2, HI2, HRA2⟩
        | false =>
          rw [hb] at HS
          rw [hb, if_neg (by simp)] at hra
          have hr := HR2.out
          rw [← hra] at hr
          simp only [if_true, Option.some.injEq] at hr
          subst hr
          clear hra hb HR2 HI2
          generalize setV vs l = vs2 at HS
          generalize setT vs ts l = ts2 at HS
          go_wp2_with (go_at_call 66; refine HS.out.mono ?_; rintro e w2 ⟨tv2, rfl, hst2, hmv2⟩; have HST2 := Aside0.mk hst2; have HCX2 := Aside0.mk (HCX.out.move hmv2); clear hst2 hmv2; have hr0 := blk_frozen HCX2.out.r 0; have hr1 := blk_frozen HCX2.out.r 1; have hq0 : w2.cell? ⟨W.heap.size + 1, 0, none⟩ = some (.int .u64 0) := (blk_cell HCX2.out.r 0).trans rfl; have hq1 : w2.cell? ⟨W.heap.size + 1, 1, none⟩ = some (.int .u64 0) := (blk_cell HCX2.out.r 1).trans rfl)
          refine bodyPost_ret (res35 (a := 0) (b := 0) rfl rfl (blk_put (blk_put HCX2.out.r 0 _ rfl) 1 _ rfl)) rfl ⟨rfl, ?_⟩
          exact below_set (below_set HST2.out.below (Nat.le_succ _)) (Nat.le_succ _)
end Go.Proofs.Ytbnjbjcokkcfcaa.Sol
