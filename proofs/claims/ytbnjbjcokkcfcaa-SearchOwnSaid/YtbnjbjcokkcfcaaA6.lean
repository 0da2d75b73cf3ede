/- The walk of the closure that tries a variable. -/
import Derived.Test.YtbnjbjcokkcfcaaA5
namespace Go.Proofs.Ytbnjbjcokkcfcaa.Sol
open Go.RowKit Go.Proofs.YtbnjbjcokkcfcaaW.PrintWords Go.Proofs.YtbnjbjcokkcfcaaW.PrintLast Go.Proofs.YtbnjbjcokkcfcaaW.PrintMore Go.Proofs.Ytbnjbjcokkcfcaa.PSearchOwn
set_option linter.unusedVariables false
set_option linter.unusedSimpArgs false

/-- A block that the state's calls leave alone. -/
def Apart (W : World) (g gv : Nat) (tv : Value) (k : Nat) : Prop := k < W.heap.size ∧ k ≠ g ∧ k ≠ gv ∧ tv.ownBlock ≠ some k
theorem Moved.apart {W W' : World} {g gv k : Nat} {tv tv' : Value} (h : Moved W W' g gv tv tv') (ha : Apart W g gv tv k) : Apart W' g gv tv' k := by
  obtain ⟨h1, h2, h3, h4⟩ := ha
  refine ⟨Nat.lt_of_lt_of_le h1 h.kept.1, h2, h3, fun e => ?_⟩
  rcases h.tail with he | ⟨b, he, hle⟩
  · exact h4 (he ▸ e)
  · rw [he] at e; injection e with e; omega
theorem Moved.same {W W' : World} {g gv k : Nat} {tv tv' : Value} (h : Moved W W' g gv tv tv') (ha : Apart W g gv tv k) : W'.heap[k]? = W.heap[k]? := by
  obtain ⟨h1, h2, h3, h4⟩ := ha
  refine h.kept.2 k h1 ?_
  rintro (rfl | rfl | e)
  · exact h2 rfl
  · exact h3 rfl
  · exact h4 e
theorem Moved.blk {W W' : World} {g gv k : Nat} {tv tv' : Value} (h : Moved W W' g gv tv tv') (ha : Apart W g gv tv k) {o : Obj} (hb : W.heap[k]? = some o) : W'.heap[k]? = some o := (h.same ha).trans hb

/-- What the closure has captured. -/
structure Env (W : World) (g gv : Nat) (tv : Value) (gS gT gF : Nat) (N : Int) (AL : Option Addr) (cL nL : Nat) : Prop where
  s : W.heap[gS]? = some (.cells #[.pointer (some ⟨g, 0, none⟩)] 87 (0, 0))
  t : W.heap[gT]? = some (.cells #[.int .i64 N, .slice AL nL cL] 24 (0, 0))
  f : W.heap[gF]? = some (.cells #[.func (.func 67) #[] #[.pointer (some ⟨gS, 0, none⟩), .pointer (some ⟨gT, 0, none⟩), .pointer (some ⟨gF, 0, none⟩)]] 86 (0, 0))
  as_ : Apart W g gv tv gS
  at_ : Apart W g gv tv gT
  af_ : Apart W g gv tv gF
theorem Env.move {W W' : World} {g gv : Nat} {tv tv' : Value} {gS gT gF : Nat} {N : Int} {AL : Option Addr} {cL nL : Nat} (h : Env W g gv tv gS gT gF N AL cL nL) (hm : Moved W W' g gv tv tv') : Env W' g gv tv' gS gT gF N AL cL nL :=
  ⟨hm.blk h.as_ h.s, hm.blk h.at_ h.t, hm.blk h.af_ h.f, hm.apart h.as_, hm.apart h.at_, hm.apart h.af_⟩
theorem Env.alloc {W : World} {g gv : Nat} {tv : Value} {gS gT gF : Nat} {N : Int} {AL : Option Addr} {cL nL : Nat} (h : Env W g gv tv gS gT gF N AL cL nL) (o : Obj) : Env (W.alloc o) g gv tv gS gT gF N AL cL nL := by
  have hl : ∀ k, Apart W g gv tv k → Apart (W.alloc o) g gv tv k := fun k hk => ⟨by have := hk.1; simp; omega, hk.2⟩
  exact ⟨blk_alloc h.s o, blk_alloc h.t o, blk_alloc h.f o, hl _ h.as_, hl _ h.at_, hl _ h.af_⟩
theorem St.alloc {w0 W : World} {g gv : Nat} {N : Int} {AL : Option Addr} {cL : Nat} {L : List (List Int)} {vs ts : List Int} {tv : Value} (h : St w0 W g gv N AL cL L vs ts tv) (o : Obj) : St w0 (W.alloc o) g gv N AL cL L vs ts tv :=
  ⟨blk_alloc h.blk o, blk_alloc h.val o, h.tr.alloc o, h.ne, below_alloc h.below o, h.geg, h.gev, h.rdL, h.capL, h.small, h.len⟩
theorem Moved.alloc {W W' : World} {g gv : Nat} {tv tv' : Value} (h : Moved W W' g gv tv tv') (o : Obj) : Moved W (W'.alloc o) g gv tv tv' := ⟨h.kept.alloc o, h.tail⟩

/-- The literal of round i. -/
def litAt (x i : Nat) : Int := if i = 0 then -(x : Int) else x
/-- What is left of the two rounds. -/
def Rem (L : List (List Int)) (n K f x m : Nat) (res : Bool × List Int × List Int) : Nat → List Int → List Int → Prop
  | 0, vs, ts => ((tryF L n K f (x + 1) (setV vs (-(x : Int))) (setT vs ts (-(x : Int)))).bind fun r2 =>
      if r2.1 then some r2 else
      (tryF L n K f (x + 1) (setV (undo r2.2.1 r2.2.2 m).1 x) (setT (undo r2.2.1 r2.2.2 m).1 (undo r2.2.1 r2.2.2 m).2 x)).bind fun r3 =>
        if r3.1 then some r3 else some (false, undo r3.2.1 r3.2.2 m)) = some res
  | 1, vs, ts => ((tryF L n K f (x + 1) (setV vs x) (setT vs ts x)).bind fun r3 =>
        if r3.1 then some r3 else some (false, undo r3.2.1 r3.2.2 m)) = some res
  | _, vs, ts => (false, vs, ts) = res
theorem rem_step {L : List (List Int)} {n K f x m : Nat} {res : Bool × List Int × List Int} {i : Nat} {vs ts : List Int} (hi : i < 2) (h : Rem L n K f x m res i vs ts) :
    ∃ r2, tryF L n K f (x + 1) (setV vs (litAt x i)) (setT vs ts (litAt x i)) = some r2 ∧ (r2.1 = true → r2 = res) ∧ (r2.1 = false → Rem L n K f x m res (i + 1) (undo r2.2.1 r2.2.2 m).1 (undo r2.2.1 r2.2.2 m).2) := by
  match i, hi with
  | 0, _ =>
    simp only [Rem] at h
    obtain ⟨r2, h2, h⟩ := Option.bind_eq_some_iff.1 h
    refine ⟨r2, by simpa [litAt] using h2, fun e => ?_, fun e => ?_⟩
    · rw [e, if_pos rfl] at h; exact Option.some.inj h
    · rw [e, if_neg (by simp)] at h; exact h
  | 1, _ =>
    simp only [Rem] at h
    obtain ⟨r2, h2, h⟩ := Option.bind_eq_some_iff.1 h
    refine ⟨r2, by simpa [litAt] using h2, fun e => ?_, fun e => ?_⟩
    · rw [e, if_pos rfl] at h; exact Option.some.inj h
    · rw [e, if_neg (by simp)] at h; exact Option.some.inj h

set_option maxHeartbeats 2000000 in
set_option maxRecDepth 100000 in
theorem try_calls {w0 : World} {g gv gS gT gF : Nat} {N : Int} {AL : Option Addr} {cL n K : Nat} {L : List (List Int)} (hN : N + 1 = n) (hn : n ≤ 129) (hok : AllOk n L) (f : Nat) : ∀ (W : World) (v : Nat) (vs ts : List Int) (tv : Value) (b : Bool) (vs' ts' : List Int),
    St w0 W g gv N AL cL L vs ts tv → Env W g gv tv gS gT gF N AL cL L.length → Inv n vs ts → 1 ≤ v → v ≤ n → tryF L n K f v vs ts = some (b, vs', ts') →
    Calls Try.prog 67 #[.int .i64 (v : Int), .pointer (some ⟨gS, 0, none⟩), .pointer (some ⟨gT, 0, none⟩), .pointer (some ⟨gF, 0, none⟩)] W (SetPost w0 W g gv N AL cL L vs ts tv b vs' ts') := by
  induction f with
  | zero => intro W v vs ts tv b vs' ts' _ _ _ _ _ h; simp [tryF] at h
  | succ f ih =>
    intro W v vs ts tv b vs' ts' h he hi hv1 hvn hf0
    simp only [tryF] at hf0
    obtain ⟨⟨b1, vs1, ts1⟩, hr1, hf⟩ := Option.bind_eq_some_iff.1 hf0
    clear hf0
    obtain ⟨hi1, hl1⟩ := prop_inv hok K vs ts _ hi hr1
    have hprop := prop_calls K h (by rw [hi.len]; exact hn) (by rw [hi.len]; exact hok) hi.room hr1
    have IH := Aside0.mk ih
    clear ih
    simp only [] at hf hi1 hl1
    have H1 := Aside0.mk h
    have HE := Aside0.mk he
    have HP := Aside0.mk hprop
    have HI1 := Aside0.mk hi1
    have HF := Aside0.mk hf
    clear h he hi hprop hi1 hf hr1
    have hcs : W.cell? ⟨gS, 0, none⟩ = some (.pointer (some ⟨g, 0, none⟩)) := (blk_cell HE.out.s 0).trans rfl
    cases b1 with
    | false =>
      have hE := HF.out
      simp only [if_true, Option.some.injEq, Prod.mk.injEq] at hE
      obtain ⟨rfl, rfl, rfl⟩ := hE
      go_enter Try.func67, Try.ntmps67
      go_wp2_with (go_at_call 68; refine HP.out.mono ?_; rintro e w1 ⟨tv1, rfl, hst, hmv⟩; have HST := Aside0.mk hst; have HMV := Aside0.mk hmv; clear hst hmv)
      go_ret
      exact ⟨tv1, rfl, HST.out, HMV.out⟩
    | true =>
      go_enter Try.func67, Try.ntmps67
      go_wp2_with (go_at_call 68; refine HP.out.mono ?_; rintro e w1 ⟨tv1, rfl, hst, hmv⟩; have HST := Aside0.mk hst; have HMV := Aside0.mk hmv; clear hst hmv)
      obtain ⟨A1, c1, rfl⟩ := own_slice HST.out.tr
      clear hcs HP
      have HENV := Aside0.mk (HE.out.move HMV.out)
      clear H1 HE
      obtain ⟨x, hx⟩ : ∃ x, next vs1 (n - v) v = x := ⟨_, rfl⟩
      have hFx := HF.out
      rw [if_neg (by simp), hx] at hFx
      have HF2 := Aside0.mk hFx
      have HX := Aside0.mk hx
      clear hFx HF hx
      have hN1 : N + 1 ≤ n := by omega
      have hN2 : (n : Int) ≤ N + 1 := by omega
      have HN := Aside0.mk hN
      clear hN
      have hcs : w1.cell? ⟨gS, 0, none⟩ = some (.pointer (some ⟨g, 0, none⟩)) := (blk_cell HENV.out.s 0).trans rfl
      have hct : w1.cell? ⟨gT, 0, none⟩ = some (.int .i64 N) := (blk_cell HENV.out.t 0).trans rfl
      have hc2 : w1.cell? ⟨g, 2, none⟩ = some (.slice (some ⟨gv, 0, none⟩) n n) := by
        have := (blk_cell HST.out.blk 2).trans rfl
        rw [HI1.out.len] at this
        exact this
      go_loopg [0] (n - v) (fun gk v0 w' => ∃ u : Nat, u + gk = n ∧ v ≤ u ∧ v0 = .int .i64 u ∧ Aside0 (w' = w1) ∧ Aside0 (next vs1 (n - u) u = x))
      case atStart => exact ⟨v, by omega, by omega, rfl, ⟨rfl⟩, HX⟩
      case round =>
        clear HX
        obtain ⟨u, hu, hvu, rfl, ⟨hw⟩, HX⟩ := hrel
        subst hw
        by_cases hstep : u < n ∧ vat vs1 u ≠ 0
        · obtain ⟨hu2, hne⟩ := hstep
          obtain ⟨gk', rfl⟩ : ∃ k, gk = k + 1 := ⟨gk - 1, by omega⟩
          have hcv : wr.cell? ⟨gv, u, none⟩ = some (.int .i64 (vat vs1 u)) := by
            have := HST.out.cell (u : Int) (by omega) (by rw [HI1.out.len]; omega)
            simpa using this
          have hb : (vat vs1 u != 0) = true := by simpa using hne
          have HX2 : Aside0 (next vs1 (n - (u + 1)) (u + 1) = x) := ⟨by
            have := HX.out
            rw [show n - u = (n - (u + 1)) + 1 by omega] at this
            simp only [next] at this
            rwa [if_neg hne] at this⟩
          have hle : (u : Int) ≤ N := by omega
          clear hne
          generalize vat vs1 u = y at hcv hb
          go_wp2
          go_roundg gk'
          case measure => omega
          case rel => exact ⟨u + 1, by omega, by omega, by go_num, ⟨rfl⟩, HX2⟩
        · have hxu : x = u := by
            have := HX.out
            by_cases hu2 : u < n
            · have hz : vat vs1 u = 0 := by
                by_cases hz : vat vs1 u = 0
                · exact hz
                · exact absurd ⟨hu2, hz⟩ hstep
              rw [show n - u = (n - (u + 1)) + 1 by omega] at this
              simp only [next] at this
              rw [if_pos hz] at this
              exact this.symm
            · rw [show n - u = 0 by omega] at this
              simp only [next] at this
              exact this.symm
          subst hxu
          clear HX
          by_cases hge : n ≤ x
          · have hres := HF2.out
            rw [if_pos hge] at hres
            simp only [Option.some.injEq, Prod.mk.injEq] at hres
            obtain ⟨rfl, rfl, rfl⟩ := hres
            clear hstep HF2
            have hle : ¬ ((x : Int) ≤ N) := by omega
            have hgt : N < (x : Int) := by omega
            go_wp2
            go_ret
            exact ⟨_, rfl, HST.out, HMV.out⟩
          · have hz : vat vs1 x = 0 := by
              by_cases hz : vat vs1 x = 0
              · exact hz
              · exact absurd ⟨by omega, hz⟩ hstep
            have hcv : wr.cell? ⟨gv, x, none⟩ = some (.int .i64 0) := by
              have := HST.out.cell (x : Int) (by omega) (by rw [HI1.out.len]; omega)
              rw [hz] at this
              simpa using this
            have hres := HF2.out
            rw [if_neg hge] at hres
            have HRm : Aside0 (Rem L n K f x ts1.length (b, vs', ts') 0 vs1 ts1) := ⟨hres⟩
            clear hres HF2 hz hstep
            have hle : (x : Int) ≤ N := by omega
            have hgt : ¬ (N < (x : Int)) := by omega
            have hc3 : wr.cell? ⟨g, 3, none⟩ = some (.slice A1 ts1.length c1) := (blk_cell HST.out.blk 3).trans rfl
            go_wp2_with fail
            clear hcs hct hc2 hcv hc3
            obtain ⟨wo, hwo⟩ : ∃ wo : World, wo = wr := ⟨_, rfl⟩
            subst hwo
            have hi1 := HI1.out
            have hA0 : Apart (wo.alloc (.cells #[.int .i64 (-(x : Int)), .int .i64 (x : Int)] 3)) g gv (.slice A1 ts1.length c1) wo.heap.size := by
              refine ⟨by simp, fun e => ?_, fun e => ?_, fun e => ?_⟩
              · have := blk_lt HST.out.blk; omega
              · have := blk_lt HST.out.val; omega
              · have := own_lt HST.out.tr _ e; omega
            have HA0 := Aside0.mk hA0
            have HB0 : Aside0 ((wo.alloc (.cells #[.int .i64 (-(x : Int)), .int .i64 (x : Int)] 3)).heap[wo.heap.size]? = some (.cells #[.int .i64 (-(x : Int)), .int .i64 (x : Int)] 3 (0, 0))) := ⟨blk_new _ _⟩
            clear hi1 hA0
            go_loopg [42] 2 (fun gk v42 w' => ∃ (i : Nat) (vsx tsx : List Int) (tvx : Value), i + gk = 2 ∧ v42 = .int .i64 i ∧ Aside0 (St w0 w' g gv N AL cL L vsx tsx tvx) ∧ Aside0 (Moved W w' g gv tv tvx) ∧ Aside0 (Env w' g gv tvx gS gT gF N AL cL L.length) ∧ Aside0 (w'.heap[wo.heap.size]? = some (.cells #[.int .i64 (-(x : Int)), .int .i64 (x : Int)] 3 (0, 0))) ∧ Aside0 (Apart w' g gv tvx wo.heap.size) ∧ Aside0 (Inv n vsx tsx) ∧ Aside0 (tsx.length = ts1.length) ∧ Aside0 (Rem L n K f x ts1.length (b, vs', ts') i vsx tsx))
            case atStart => exact ⟨0, vs1, ts1, _, by omega, rfl, ⟨HST.out.alloc _⟩, ⟨HMV.out.alloc _⟩, ⟨HENV.out.alloc _⟩, HB0, HA0, HI1, ⟨rfl⟩, HRm⟩
            case round =>
              clear HST HMV HENV HB0 HA0 HI1 HRm
              obtain ⟨i, vsx, tsx, tvx, hig, rfl, HST, HMV, HENV, HBk, HAp, HI1, HTl, HRm⟩ := hrel
              cases gk with
              | zero =>
                have hi2 : ¬ ((i : Int) < 2) := by omega
                obtain rfl : i = 2 := by omega
                have hres := HRm.out
                simp only [Rem, Prod.mk.injEq] at hres
                obtain ⟨rfl, rfl, rfl⟩ := hres
                go_wp2_with fail
                go_ret
                exact ⟨_, rfl, HST.out, HMV.out⟩
              | succ gk =>
                have hi2 : (i : Int) < 2 := by omega
                have hi3 : i < 2 := by omega
                obtain ⟨⟨b2, vs2, ts2⟩, hr2, hr2t, hr2f⟩ := rem_step hi3 HRm.out
                simp only [] at hr2t hr2f
                have hlit : LitOk n (litAt x i) := by
                  unfold litAt; split
                  · exact ⟨by omega, by omega, by omega⟩
                  · exact ⟨by omega, by omega, by omega⟩
                have hcl : wr.cell? ⟨wo.heap.size, i, none⟩ = some (.int .i64 (litAt x i)) := by
                  refine (blk_cell HBk.out i).trans ?_
                  unfold litAt
                  match i, hi3 with
                  | 0, _ => rfl
                  | 1, _ => rfl
                have hset := set_calls HST.out (litAt x i) (by rw [HI1.out.len]; exact hlit) (by rw [HI1.out.len]; exact hn) HI1.out.room
                have hI2 := HI1.out.set hlit
                have hle2 : ts1.length ≤ (setT vsx tsx (litAt x i)).length := by have := setT_le vsx tsx (litAt x i); rw [HTl.out] at this; exact this
                obtain ⟨hi4, hl4⟩ := tryF_inv hok K f (x + 1) _ _ _ (by omega) hI2 hr2
                simp only [] at hi4 hl4
                have hcs : wr.cell? ⟨gS, 0, none⟩ = some (.pointer (some ⟨g, 0, none⟩)) := (blk_cell HENV.out.s 0).trans rfl
                have HSet := Aside0.mk hset
                have HI2 := Aside0.mk hI2
                have HI4 := Aside0.mk hi4
                have HL4 := Aside0.mk (Nat.le_trans hle2 hl4)
                have HR2 := Aside0.mk hr2
                have HR2T := Aside0.mk hr2t
                have HR2F := Aside0.mk hr2f
                clear hset hI2 hr2 hr2t hr2f hlit hle2 hi4 hl4 HRm
                generalize litAt x i = l at hcl HSet HI2 HR2
                generalize hvv : setV vsx l = vsy at HSet HI2 HR2
                generalize htt : setT vsx tsx l = tsy at HSet HI2 HR2
                clear hvv htt
                have IHx : ∀ w2 tv2, St w0 w2 g gv N AL cL L vsy tsy tv2 → Env w2 g gv tv2 gS gT gF N AL cL L.length → Calls Try.prog 67 #[.int .i64 ((x : Int) + 1), .pointer (some ⟨gS, 0, none⟩), .pointer (some ⟨gT, 0, none⟩), .pointer (some ⟨gF, 0, none⟩)] w2 (SetPost w0 w2 g gv N AL cL L vsy tsy tv2 b2 vs2 ts2) := by
                  intro w2 tv2 h1 h2
                  have := IH.out w2 (x + 1) vsy tsy tv2 b2 vs2 ts2 h1 h2 HI2.out (by omega) (by omega) HR2.out
                  rwa [show ((x + 1 : Nat) : Int) = (x : Int) + 1 by omega] at this
                have HTr : Aside0 (TrOk vs2.length ts2) := ⟨by rw [HI4.out.len]; exact HI4.out.tr⟩
                cases b2 with
                | true =>
                  have hres := HR2T.out rfl
                  simp only [Prod.mk.injEq] at hres
                  obtain ⟨rfl, rfl, rfl⟩ := hres
                  go_wp2_with (first | (go_at_call 66; refine HSet.out.mono ?_; rintro e w2 ⟨tv2, rfl, hst2, hmv2⟩; have HST2 := Aside0.mk hst2; have HMV2 := Aside0.mk hmv2; have HENV2 := Aside0.mk (HENV.out.move hmv2); have HCT := Aside0.mk (IHx w2 tv2 hst2 HENV2.out); clear hst2 hmv2; have hcf : w2.cell? ⟨gF, 0, none⟩ = some (.func (.func 67) #[] #[.pointer (some ⟨gS, 0, none⟩), .pointer (some ⟨gT, 0, none⟩), .pointer (some ⟨gF, 0, none⟩)]) := (blk_cell HENV2.out.f 0).trans rfl) | (go_at_call 67; refine HCT.out.mono ?_; rintro e w3 ⟨tv3, rfl, hst3, hmv3⟩; have HST3 := Aside0.mk hst3; have HMV3 := Aside0.mk (HMV2.out.trans hmv3); have HENV3 := Aside0.mk (HENV.out.move HMV3.out); clear hst3 hmv3 hcf HCT HENV2 HST2 HMV2; have hcs3 : w3.cell? ⟨gS, 0, none⟩ = some (.pointer (some ⟨g, 0, none⟩)) := (blk_cell HENV3.out.s 0).trans rfl; have HBC := Aside0.mk (back_calls HST3.out ts1.length HL4.out HTr.out)))
                  go_ret
                  exact ⟨tv3, rfl, HST3.out, HMV.out.trans HMV3.out⟩
                | false =>
                  have HRm2 := Aside0.mk (HR2F.out rfl)
                  go_wp2_with (first | (go_at_call 66; refine HSet.out.mono ?_; rintro e w2 ⟨tv2, rfl, hst2, hmv2⟩; have HST2 := Aside0.mk hst2; have HMV2 := Aside0.mk hmv2; have HENV2 := Aside0.mk (HENV.out.move hmv2); have HCT := Aside0.mk (IHx w2 tv2 hst2 HENV2.out); clear hst2 hmv2; have hcf : w2.cell? ⟨gF, 0, none⟩ = some (.func (.func 67) #[] #[.pointer (some ⟨gS, 0, none⟩), .pointer (some ⟨gT, 0, none⟩), .pointer (some ⟨gF, 0, none⟩)]) := (blk_cell HENV2.out.f 0).trans rfl) | (go_at_call 67; refine HCT.out.mono ?_; rintro e w3 ⟨tv3, rfl, hst3, hmv3⟩; have HST3 := Aside0.mk hst3; have HMV3 := Aside0.mk (HMV2.out.trans hmv3); have HENV3 := Aside0.mk (HENV.out.move HMV3.out); clear hst3 hmv3 hcf HCT HENV2 HST2 HMV2; have hcs3 : w3.cell? ⟨gS, 0, none⟩ = some (.pointer (some ⟨g, 0, none⟩)) := (blk_cell HENV3.out.s 0).trans rfl; have HBC := Aside0.mk (back_calls HST3.out ts1.length HL4.out HTr.out)) | (go_at_call 69; refine HBC.out.mono ?_; rintro e w4 ⟨tv4, rfl, hst4, hmv4⟩; have HST4 := Aside0.mk hst4; have HMV4 := Aside0.mk (HMV3.out.trans hmv4); clear hst4 hmv4))
                  go_roundg gk
                  case measure => omega
                  case rel => exact ⟨i + 1, _, _, tv4, by omega, by go_num, HST4, ⟨HMV.out.trans HMV4.out⟩, ⟨HENV.out.move HMV4.out⟩, ⟨HMV4.out.blk HAp.out HBk.out⟩, ⟨HMV4.out.apart HAp.out⟩, ⟨HI4.out.undo _⟩, ⟨undo_len (vs := vs2) HL4.out⟩, HRm2⟩
end Go.Proofs.Ytbnjbjcokkcfcaa.Sol
