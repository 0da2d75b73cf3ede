/- The walk of propagate. -/
import Derived.Test.YtbnjbjcokkcfcaaA2
namespace Go.Proofs.Ytbnjbjcokkcfcaa.Sol
open Go.RowKit Go.Proofs.YtbnjbjcokkcfcaaW.PrintWords Go.Proofs.YtbnjbjcokkcfcaaW.PrintLast Go.Proofs.YtbnjbjcokkcfcaaW.PrintMore Go.Proofs.Ytbnjbjcokkcfcaa.PSearchOwn
set_option linter.unusedVariables false
set_option linter.unusedSimpArgs false

theorem tru_cases {vs : List Int} (h : Small vs) (l : Int) : tru vs l = 1 ∨ tru vs l = 0 ∨ tru vs l = -1 := by
  have hs : -1 ≤ tru vs l ∧ tru vs l ≤ 1 := by
    unfold tru
    split
    · have := h.vat (-l); omega
    · exact h.vat l
  omega
/-- What a pass that left R says of the whole. -/
def After (L : List (List Int)) (m : Nat) (b : Bool) (vs' ts' : List Int) (R : Bool × List Int × List Int × Bool) : Prop :=
  if R.1 then (if R.2.2.2 then prop L m R.2.1 R.2.2.1 = some (b, vs', ts') else (b, vs', ts') = (true, R.2.1, R.2.2.1)) else (b, vs', ts') = (false, R.2.1, R.2.2.1)
theorem after_of {L : List (List Int)} {m : Nat} {b : Bool} {vs1 ts1 vs' ts' : List Int} {R : Bool × List Int × List Int × Bool} (hR : pass L vs1 ts1 false = R) (h : prop L (m + 1) vs1 ts1 = some (b, vs', ts')) : After L m b vs' ts' R := by
  simp only [prop] at h
  rw [hR] at h
  obtain ⟨r1, r2, r3, r4⟩ := R
  unfold After
  cases r1 with
  | false => simp only [Option.some.injEq] at h; simp [h]
  | true =>
    cases r4 with
    | true => simpa using h
    | false => simp only [Option.some.injEq] at h; simp [h]

set_option maxHeartbeats 2000000 in
set_option maxRecDepth 100000 in
theorem prop_calls (k : Nat) {w0 W : World} {g gv : Nat} {N : Int} {AL : Option Addr} {cL : Nat} {L : List (List Int)} {vs ts : List Int} {tv : Value} (h : St w0 W g gv N AL cL L vs ts tv) (h128 : vs.length ≤ 129) (hok : AllOk vs.length L) (hr : Room vs ts)
    {b : Bool} {vs' ts' : List Int} (hp : prop L k vs ts = some (b, vs', ts')) :
    Calls Try.prog 68 #[.pointer (some ⟨g, 0, none⟩)] W (SetPost w0 W g gv N AL cL L vs ts tv b vs' ts') := by
  have hLm : L.length ≤ 9223372036854775807 := Kd.C_max h.rdL
  have HL := Aside0.mk hok
  have H1 := Aside0.mk h
  have H2 := Aside0.mk hr
  have H3 := Aside0.mk hp
  have h8 : vs.length ≤ 129 := h128
  clear hok h hr hp h128
  go_enter Try.func68, Try.ntmps68
  go_wp2_with fail
  go_loopg [3] k (fun kq v3 w' => ∃ (ch : Bool) (vs1 ts1 : List Int) (tv1 : Value), v3 = .bool ch ∧ Aside0 (St w0 w' g gv N AL cL L vs1 ts1 tv1) ∧ Aside0 (Moved W w' g gv tv tv1) ∧ Aside0 (vs1.length = vs.length) ∧ Aside0 (Room vs1 ts1) ∧ Aside0 (if ch then prop L kq vs1 ts1 = some (b, vs', ts') else (b, vs', ts') = (true, vs1, ts1)))
  case atStart => exact ⟨true, vs, ts, tv, rfl, H1, ⟨Moved.refl _ _ _ _⟩, ⟨rfl⟩, H2, H3⟩
  case round =>
    clear H1 H2 H3
    obtain ⟨ch, vs1, ts1, tv1, rfl, H1, HM, HN, HR, HP⟩ := hrel
    cases ch with
    | false =>
      obtain ⟨rfl, rfl, rfl⟩ : b = true ∧ vs' = vs1 ∧ ts' = ts1 := by
        have := HP.out
        simp only [Bool.false_eq_true, if_false, Prod.mk.injEq] at this
        exact this
      clear HP
      go_wp2
      go_ret
      exact ⟨tv1, rfl, H1.out, HM.out⟩
    | true =>
      cases gk with
      | zero => have := HP.out; simp [prop] at this
      | succ m =>
        have hpp : prop L (m + 1) vs1 ts1 = some (b, vs', ts') := by simpa using HP.out
        clear HP
        obtain ⟨R, hR⟩ : ∃ R, pass L vs1 ts1 false = R := ⟨_, rfl⟩
        have HQ : Aside0 (After L m b vs' ts' R) := ⟨after_of hR hpp⟩
        have HR0 := Aside0.mk hR
        clear hR hpp
        have hc1 : wr.cell? ⟨g, 1, none⟩ = some (.slice AL L.length cL) := (blk_cell H1.out.blk 1).trans rfl
        go_wp2_with fail
        go_step3
        go_wp2_with fail
        go_step3
        go_wp2_with fail
        clear hc1
        go_loopg [16, 3] L.length (fun g2 v16 v3 w' => ∃ (i : Nat) (ch : Bool) (vs2 ts2 : List Int) (tv2 : Value), i + g2 = L.length ∧ v16 = .int .i64 i ∧ v3 = .bool ch ∧ Aside0 (St w0 w' g gv N AL cL L vs2 ts2 tv2) ∧ Aside0 (Moved W w' g gv tv tv2) ∧ Aside0 (vs2.length = vs.length) ∧ Aside0 (Room vs2 ts2) ∧ Aside0 (pass (L.drop i) vs2 ts2 ch = R))
        case atStart => exact ⟨0, false, vs1, ts1, tv1, by omega, rfl, rfl, H1, HM, HN, HR, ⟨by rw [List.drop_zero]; exact HR0.out⟩⟩
        case round =>
          clear H1 HM HN HR HR0
          obtain ⟨i, ch, vs2, ts2, tv2, hig, rfl, rfl, H1, HM, HN, HR, HP⟩ := hrel
          cases gk with
          | zero =>
            have hi : ¬ ((i : Int) < (L.length : Int)) := by omega
            have hre : R = (true, vs2, ts2, ch) := by
              have := HP.out
              rw [List.drop_eq_nil_of_le (by omega)] at this
              rw [← this]; rfl
            have HE := Aside0.mk hre
            clear hre HP
            go_wp2_with fail
            go_roundg m
            case measure => omega
            case rel =>
              refine ⟨ch, vs2, ts2, tv2, rfl, H1, HM, HN, HR, ⟨?_⟩⟩
              have := HQ.out
              rw [HE.out] at this
              simpa [After] using this
          | succ g2 =>
            have hi : (i : Int) < (L.length : Int) := by omega
            obtain ⟨ad, A0, c0, rfl, hx, hl0, hi0⟩ := rd_row H1.out.rdL i (by omega)
            replace hx := (H1.out.below.cell (World.block_lt_of_cell? w0 _ hx)).trans hx
            obtain ⟨c, hc⟩ : ∃ c, L.getD i [] = c := ⟨_, rfl⟩
            rw [hc] at hx hl0 hi0
            have hdrop : L.drop i = c :: L.drop (i + 1) := by
              rw [List.drop_eq_getElem_cons (by omega)]
              congr 1
              rw [← hc]
              simp [List.getD_eq_getElem?_getD, List.getElem?_eq_getElem (show i < L.length by omega)]
            have HCm := Aside0.mk (HL.out c (by rw [← hc]; simp [List.getD_eq_getElem?_getD, List.getElem?_eq_getElem (show i < L.length by omega)]))
            have hpp := HP.out
            rw [hdrop] at hpp
            simp only [pass] at hpp
            have hcm : c.length ≤ 9223372036854775807 := Kd.C_max hi0
            have HI := Aside0.mk hi0
            obtain ⟨S, hS⟩ : ∃ S, scan vs2 c 0 = S := ⟨_, rfl⟩
            rw [hS] at hpp
            have HS := Aside0.mk hS
            have HP2 := Aside0.mk hpp
            clear hpp hS hdrop hi0 hc HP
            have hl1 := Aside0.mk hl0
            clear hl0
            go_wp2_with fail
            obtain ⟨wo, hwo⟩ : ∃ wo : World, wo = wr := ⟨_, rfl⟩
            subst hwo
            clear hx
            go_loopg [22, 6] c.length (fun g3 v22 v6 w' => ∃ (j : Nat) (o : Int), j + g3 = c.length ∧ v22 = .int .i64 j ∧ v6 = .int .i64 o ∧ Aside0 (w' = wo) ∧ Aside0 (o = 0 ∨ LitOk vs.length o) ∧ Aside0 (scan vs2 (c.drop j) o = S))
            case atStart => exact ⟨0, 0, by omega, rfl, rfl, ⟨rfl⟩, ⟨.inl rfl⟩, ⟨by rw [List.drop_zero]; exact HS.out⟩⟩
            case round =>
              clear HS
              obtain ⟨j, o, hjg, rfl, rfl, ⟨hw⟩, HO, HS⟩ := hrel
              subst hw
              cases gk with
              | zero =>
                have hj : ¬ ((j : Int) < (c.length : Int)) := by omega
                have hse : S = some o := by
                  have := HS.out
                  rw [List.drop_eq_nil_of_le (by omega)] at this
                  rw [← this]; rfl
                subst hse
                have hpp := HP2.out
                simp only [] at hpp
                clear HS HP2
                by_cases ho : o = 0
                · subst ho
                  rw [if_pos rfl] at hpp
                  have HE := Aside0.mk hpp
                  clear hpp
                  have hfin : (b, vs', ts') = (false, vs2, ts2) := by
                    have := HQ.out
                    rw [← HE.out] at this
                    simpa [After] using this
                  simp only [Prod.mk.injEq] at hfin
                  obtain ⟨rfl, rfl, rfl⟩ := hfin
                  go_wp2_with fail
                  try rw [Exit.noGoto_ret]
                  go_ret
                  exact ⟨tv2, rfl, H1.out, HM.out⟩
                · rw [if_neg ho] at hpp
                  have HE := Aside0.mk hpp
                  clear hpp
                  have ho1 : (o == 0) = false := by simpa using ho
                  have hcall := Aside0.mk (set_calls H1.out o (by rw [HN.out]; exact HO.out.resolve_left ho) (by rw [HN.out]; exact h8) HR.out)
                  have hlit := Aside0.mk (HO.out.resolve_left ho)
                  clear ho
                  go_wp2_with (go_at_call 66; refine hcall.out.mono ?_; rintro e w9 ⟨tv3, rfl, hst3, hmv3⟩; have HST3 := Aside0.mk hst3; have HMV3 := Aside0.mk hmv3; clear hst3 hmv3)
                  go_roundg g2
                  case measure => omega
                  case rel =>
                    exact ⟨i + 1, true, _, _, tv3, by omega, by go_num, rfl, HST3, ⟨HM.out.trans HMV3.out⟩, ⟨by rw [setV_length]; exact HN.out⟩, ⟨HR.out.set HN.out hlit.out⟩, HE⟩
              | succ g3 =>
                have hj : (j : Int) < (c.length : Int) := by omega
                obtain ⟨ad2, hA, hx2⟩ := rd_int HI.out j (by omega)
                subst hA
                replace hx2 := (H1.out.below.cell (World.block_lt_of_cell? w0 _ hx2)).trans hx2
                obtain ⟨l, hl⟩ : ∃ l, c.getD j 0 = l := ⟨_, rfl⟩
                rw [hl] at hx2
                have hge : c[j]? = some l := by
                  rw [← hl]
                  simp [List.getD_eq_getElem?_getD, List.getElem?_eq_getElem (show j < c.length by omega)]
                have hdrop : c.drop j = l :: c.drop (j + 1) := by
                  rw [List.drop_eq_getElem_cons (by omega)]
                  congr 1
                  rw [List.getElem?_eq_getElem (by omega)] at hge
                  exact Option.some.inj hge
                have HLit := Aside0.mk (HCm.out l (List.mem_of_getElem? hge))
                have hss := HS.out
                rw [hdrop] at hss
                simp only [scan] at hss
                have htr := truth_calls H1.out l (by obtain ⟨_, h1, h2⟩ := HLit.out; rw [HN.out]; exact ⟨h1, h2⟩)
                have HSS := Aside0.mk hss
                have HT := Aside0.mk htr
                clear hss htr hdrop hl hge HS
                have hsm : tru vs2 l = 1 ∨ tru vs2 l = 0 ∨ tru vs2 l = -1 := tru_cases H1.out.small l
                generalize tru vs2 l = t at HSS HT hsm
                rcases hsm with rfl | rfl | rfl
                · have hS0 : none = S := by have := HSS.out; rw [if_pos rfl] at this; exact this
                  subst hS0
                  clear HSS
                  have hpp := HP2.out
                  simp only [] at hpp
                  have HE := Aside0.mk hpp
                  clear hpp HP2
                  go_wp2_with (go_at_call 87; refine HT.out.mono ?_; rintro e w' ⟨rfl, rfl⟩)
                  go_roundg g2
                  case measure => omega
                  case rel => exact ⟨i + 1, ch, vs2, ts2, tv2, by omega, by go_num, rfl, H1, HM, HN, HR, HE⟩
                · have hs0 := HSS.out
                  rw [if_neg (by decide), if_pos rfl] at hs0
                  clear HSS
                  by_cases hoo : o ≠ 0 ∧ o ≠ l
                  · rw [if_pos hoo] at hs0
                    subst hs0
                    obtain ⟨ho1, ho2⟩ := hoo
                    have hb1 : (o != 0) = true := by simpa using ho1
                    have hb2 : (o != l) = true := by simpa using ho2
                    clear ho1 ho2
                    have hpp := HP2.out
                    simp only [] at hpp
                    have HE := Aside0.mk hpp
                    clear hpp HP2
                    go_wp2_with (go_at_call 87; refine HT.out.mono ?_; rintro e w' ⟨rfl, rfl⟩)
                    go_roundg g2
                    case measure => omega
                    case rel => exact ⟨i + 1, ch, vs2, ts2, tv2, by omega, by go_num, rfl, H1, HM, HN, HR, HE⟩
                  · rw [if_neg hoo] at hs0
                    have HS2 := Aside0.mk hs0
                    clear hs0
                    have HO2 : Aside0 (l = 0 ∨ LitOk vs.length l) := ⟨.inr HLit.out⟩
                    by_cases ho0 : o = 0
                    · have hb1 : (o != 0) = false := by simp [ho0]
                      clear ho0 hoo
                      go_wp2_with (go_at_call 87; refine HT.out.mono ?_; rintro e w' ⟨rfl, rfl⟩)
                      go_roundg g3
                      case measure => omega
                      case rel => exact ⟨j + 1, l, by omega, by go_num, rfl, ⟨rfl⟩, HO2, HS2⟩
                    · have hol : o = l := by
                        by_cases h : o = l
                        · exact h
                        · exact absurd ⟨ho0, h⟩ hoo
                      subst hol
                      have hb1 : (o != 0) = true := by simpa using ho0
                      have hb2 : (o != o) = false := by simp
                      clear ho0 hoo
                      go_wp2_with (go_at_call 87; refine HT.out.mono ?_; rintro e w' ⟨rfl, rfl⟩)
                      go_roundg g3
                      case measure => omega
                      case rel => exact ⟨j + 1, o, by omega, by go_num, rfl, ⟨rfl⟩, HO2, HS2⟩
                · have HS2 := Aside0.mk (by have := HSS.out; rw [if_neg (by decide), if_neg (by decide)] at this; exact this)
                  clear HSS
                  go_wp2_with (go_at_call 87; refine HT.out.mono ?_; rintro e w' ⟨rfl, rfl⟩)
                  go_roundg g3
                  case measure => omega
                  case rel => exact ⟨j + 1, o, by omega, by go_num, rfl, ⟨rfl⟩, HO, HS2⟩
end Go.Proofs.Ytbnjbjcokkcfcaa.Sol
