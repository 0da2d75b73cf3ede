/- The walks of Core, Solve and Entails, for valid theories. -/
import Derived.Test.YtbnjbjcokkcfcaaB0
import Derived.Test.YtbnjbjcokkcfcaaC1
import Derived.Test.YtbnjbjcokkcfcaaD0
namespace Go.Proofs.Ytbnjbjcokkcfcaa.Sol
open Go.RowKit Go.Proofs.YtbnjbjcokkcfcaaW.PrintWords Go.Proofs.YtbnjbjcokkcfcaaW.PrintLast Go.Proofs.YtbnjbjcokkcfcaaW.PrintMore Go.Proofs.Ytbnjbjcokkcfcaa.PSearchOwn
set_option linter.unusedVariables false
set_option linter.unusedSimpArgs false

theorem valid_ok {m : Nat} (hm : m ≤ 128) {l : Int} (h : validB l (m : Int) = true) : LitOk (m + 1) l := by
  have h2 := of_decide_eq_true h
  unfold varOf at h2
  refine ⟨?_, ?_, ?_⟩ <;> (split at h2 <;> (try split at h2)) <;> omega
theorem litsB_ok {m : Nat} (hm : m ≤ 128) {l : List Int} (h : litsB l (m : Int) = true) : ∀ x ∈ l, LitOk (m + 1) x := fun x hx => valid_ok hm (List.all_eq_true.1 h x hx)
theorem clausesF_ok {n : Int} : ∀ (L : List (List Int)), clausesF n L = 0 → ∀ c ∈ L, c.length ≤ 128 ∧ litsB c n = true
  | [], _, c, hc => by cases hc
  | d :: L, h, c, hc => by
    simp only [clausesF] at h
    split at h
    · omega
    · split at h
      · rename_i h1 h2
        rcases List.mem_cons.1 hc with rfl | hc
        · exact ⟨by omega, h2⟩
        · exact clausesF_ok L h c hc
      · omega
/-- A valid theory. -/
theorem checkF_ok {N : Int} {L : List (List Int)} (h : checkF N L = 0) : ∃ m : Nat, N = m ∧ m ≤ 128 ∧ L.length ≤ 4096 ∧ AllOk (m + 1) L ∧ ∀ c ∈ L, c.length ≤ 128 := by
  unfold checkF at h
  split at h
  · omega
  · split at h
    · omega
    · rename_i h1 h2
      obtain ⟨m, rfl⟩ := Int.eq_ofNat_of_zero_le (show 0 ≤ N by omega)
      have hc := clausesF_ok L h
      exact ⟨m, rfl, by omega, by omega, fun c hc2 => litsB_ok (by omega) (hc c hc2).2, fun c hc2 => (hc c hc2).1⟩

theorem own_C {w : World} {base n : Nat} {v : Value} {xs : List Int} (h : w.ownsRow base 3 1 v n (nums .i64 xs)) : ∃ A c, v = .slice A n c ∧ (Kd.int .i64).C w A n xs ∧ n ≤ c ∧ (A = none → c = 0) ∧ xs.length = n := by
  obtain ⟨A, c, rfl, hr⟩ := own_reads h
  have hl : xs.length = n := hr.1
  refine ⟨A, c, rfl, Kd.C_of_reads (d := (0 : Int)) ⟨hr.1, hr.2.1, hr.2.2⟩, ?_, ?_, hl⟩
  · rcases h.2 with ⟨e, h0⟩ | ⟨g, cap, cur, e, _, _, h1, _⟩
    · injection e with _ _ e; omega
    · injection e with _ _ e; omega
  · rintro rfl
    rcases h.2 with ⟨e, h0⟩ | ⟨g, cap, cur, e, _⟩
    · injection e
    · injection e with e; cases e

theorem sat_calls {m : Nat} {W : World} {AL : Option Addr} {cL : Nat} {L : List (List Int)} {A : Option Addr} {c : Nat} {asm : List Int} (hL : Kd.C (Kd.slice 3 (Kd.int .i64)) W AL L.length L) (hcL : L.length ≤ cL) (hA : (Kd.int .i64).C W A asm.length asm) (hm : m ≤ 128)
    (hok : AllOk (m + 1) L) (hasm : ∀ l ∈ asm, LitOk (m + 1) l) :
    Calls Try.prog 35 #[.agg #[.int .i64 (m : Int), .slice AL L.length cL], .slice A asm.length c] W (SolvePost W (satF L m asm)) :=
  solve_calls (m + 2) (m + 2) m W hL hcL hA hm hok hasm (solveF_some hm hok hasm)

/-- The loop of Core; d: what is still to come. -/
def coreLoop (S : List Int → Bool) : Nat → List Int → Nat → List Int
  | 0, l, _ => l
  | d + 1, l, i => if S (l.eraseIdx i) then coreLoop S d l (i + 1) else coreLoop S d (l.eraseIdx i) i
def coreF (L : List (List Int)) (m : Nat) (asm : List Int) : Bool × List Int :=
  if (satF L m asm).1 then (false, []) else (true, coreLoop (fun l => (satF L m l).1) asm.length asm 0)
/-- What Core leaves. -/
def CorePost (W : World) (b : Bool) (ys : List Int) (e : Ending) (w' : World) : Prop :=
  ∃ v', e = .returned (.tuple #[v', .bool b, .int .i64 0]) ∧ w'.ownsRow W.heap.size 3 1 v' ys.length (nums .i64 ys) ∧ Below W.heap.size W w'

set_option maxHeartbeats 4000000 in
set_option maxRecDepth 100000 in
theorem core_calls {m : Nat} {W : World} {AL : Option Addr} {cL : Nat} {L : List (List Int)} {A : Option Addr} {c : Nat} {asm : List Int} (hL : Kd.C (Kd.slice 3 (Kd.int .i64)) W AL L.length L) (hcL : L.length ≤ cL) (hA : (Kd.int .i64).C W A asm.length asm) (hc : asm.length ≤ c) (hnil : A = none → c = 0)
    (hlen : asm.length ≤ 1000) (hchk : checkL (m : Int) L asm = 0) (hm : m ≤ 128) (hok : AllOk (m + 1) L) (hasm : ∀ l ∈ asm, LitOk (m + 1) l) :
    Calls Try.prog 9 #[.agg #[.int .i64 (m : Int), .slice AL L.length cL], .slice A asm.length c] W (CorePost W (coreF L m asm).1 (coreF L m asm).2) := by
  have hck : ∀ w, Below W.heap.size W w → Calls Try.prog 34 #[.agg #[.int .i64 (m : Int), .slice AL L.length cL], .slice A asm.length c] w fun e w' => e = .returned (.int .i64 0) ∧ Below w.heap.size w w' := fun w hb => by
    have := checkL_calls (N := (m : Int)) (Kd.C_below hL hb) hcL (Kd.C_below hA hb) hc
    rwa [hchk] at this
  have hst : ∀ w, Below W.heap.size W w → Calls Try.prog 35 #[.agg #[.int .i64 (m : Int), .slice AL L.length cL], .slice A asm.length c] w (SolvePost w (satF L m asm)) := fun w hb => sat_calls (Kd.C_below hL hb) hcL (Kd.C_below hA hb) hm hok hasm
  have HCK := Aside0.mk hck
  have HST := Aside0.mk hst
  have HL := Aside0.mk hL
  have HcL := Aside0.mk hcL
  have HA := Aside0.mk hA
  have Hc := Aside0.mk hc
  have HN := Aside0.mk hnil
  have HOk := Aside0.mk hok
  have HAsm := Aside0.mk hasm
  clear hck hst hL hcL hA hc hnil hok hasm hchk
  have HB0 := Aside0.mk (below_alloc (Below.refl W.heap.size W) (.cells #[.int .i64 (m : Int), .slice AL L.length cL] 24))
  have HT0 := Aside0.mk (blk_new W (.cells #[.int .i64 (m : Int), .slice AL L.length cL] 24))
  generalize hS : satF L m asm = r at HST
  cases hr : r.1 with
  | true =>
    have hco : coreF L m asm = (false, []) := by unfold coreF; rw [hS, hr, if_pos rfl]
    rw [hco]
    clear hS hco
    obtain ⟨r1, r2a, r2b⟩ := r
    subst hr
    go_enter Try.func9, Try.ntmps9
    go_wp2_with (first
      | (go_at_call 34; refine (HCK.out _ HB0.out).mono ?_; rintro e w2 ⟨rfl, hb2⟩; have HB2 := Aside0.mk (below_step HB0.out hb2); have HT2 := Aside0.mk (blk_below HT0.out hb2); clear hb2; have hc0 : w2.cell? ⟨W.heap.size, 0, none⟩ = some (.int .i64 (m : Int)) := (blk_cell HT2.out 0).trans rfl; have hc1 : w2.cell? ⟨W.heap.size, 1, none⟩ = some (.slice AL L.length cL) := (blk_cell HT2.out 1).trans rfl)
      | (go_at_call 35; refine (HST.out _ HB2.out).mono ?_; rintro e w3 ⟨rfl, hb3⟩; have HB3 := Aside0.mk (below_step HB2.out hb3); clear hb3))
    go_ret3
    exact ⟨.slice none 0 0, rfl, own_nil _ _ _ _, below_alloc HB3.out _⟩
  | false =>
    have hco : coreF L m asm = (true, coreLoop (fun l => (satF L m l).1) asm.length asm 0) := by unfold coreF; rw [hS, hr, if_neg (by simp)]
    rw [hco]
    clear hS hco
    obtain ⟨r1, r2a, r2b⟩ := r
    subst hr
    have HCl : Aside0 (∀ w, Below W.heap.size W w → Calls Try.prog 36 #[.slice A asm.length c] w (Cloned w asm)) := ⟨fun w hb => clone_calls w (Kd.C_below HA.out hb) Hc.out (by omega) HN.out⟩
    generalize hys : coreLoop (fun l => (satF L m l).1) asm.length asm 0 = ys
    have HYS := Aside0.mk hys
    clear hys
    go_enter Try.func9, Try.ntmps9
    go_wp2_with (first
      | (go_at_call 34; refine (HCK.out _ HB0.out).mono ?_; rintro e w2 ⟨rfl, hb2⟩; have HB2 := Aside0.mk (below_step HB0.out hb2); have HT2 := Aside0.mk (blk_below HT0.out hb2); clear hb2; have hc0 : w2.cell? ⟨W.heap.size, 0, none⟩ = some (.int .i64 (m : Int)) := (blk_cell HT2.out 0).trans rfl; have hc1 : w2.cell? ⟨W.heap.size, 1, none⟩ = some (.slice AL L.length cL) := (blk_cell HT2.out 1).trans rfl)
      | (go_at_call 35; refine (HST.out _ HB2.out).mono ?_; rintro e w3 ⟨rfl, hb3⟩; have HB3 := Aside0.mk (below_step HB2.out hb3); have HT3 := Aside0.mk (blk_below HT2.out hb3); clear hb3)
      | (go_at_call 36; refine (HCl.out _ (below_alloc HB3.out _)).mono ?_; rintro e w4 ⟨v4, rfl, hown4, hb4⟩; have HB4 := Aside0.mk (below_step (below_alloc HB3.out _) hb4); have HT4 := Aside0.mk (blk_below (blk_alloc HT3.out _) hb4); have HO4 := Aside0.mk (own_weaken hown4 (below_size (below_alloc HB3.out _))); clear hb4 hown4))
    clear HB2 HT2 HB3 HT3 HB0 HT0 HCl HCK HST
    go_loopg [10, 11] asm.length (fun gk v10 v11 w' => ∃ (l : List Int) (i : Nat), i + gk = l.length ∧ v11 = .int .i64 i ∧ l.length ≤ asm.length ∧ Aside0 (w'.ownsRow W.heap.size 3 1 v10 l.length (nums .i64 l)) ∧ Aside0 (Below W.heap.size W w') ∧ Aside0 (w'.heap[W.heap.size]? = some (.cells #[.int .i64 (m : Int), .slice AL L.length cL] 24 (0, 0))) ∧ Aside0 (coreLoop (fun l => (satF L m l).1) gk l i = ys) ∧ Aside0 (∀ x ∈ l, LitOk (m + 1) x))
    case atStart => exact ⟨asm, 0, by omega, rfl, Nat.le_refl _, HO4, HB4, HT4, HYS, HAsm⟩
    case round =>
      clear HO4 HB4 HT4 HYS HAsm
      rename_i v10 _
      obtain ⟨l, i, hig, rfl, hll, HO, HB, HT, HYS, HLit⟩ := hrel
      obtain ⟨A10, c10, rfl, hC10, hc10, hn10, _⟩ := own_C HO.out
      have HC10 := Aside0.mk hC10
      have HN10 := Aside0.mk hn10
      clear hC10 hn10
      cases gk with
      | zero =>
        have hi : ¬ ((i : Int) < (l.length : Int)) := by omega
        have hys : l = ys := HYS.out
        subst hys
        clear HYS
        go_wp2_with fail
        go_ret3
        exact ⟨_, rfl, HO.out, HB.out⟩
      | succ gk =>
        have hi : (i : Int) < (l.length : Int) := by omega
        have hys := HYS.out
        simp only [coreLoop] at hys
        have HCl : Aside0 (Calls Try.prog 36 #[.slice A10 l.length c10] wr (Cloned wr l)) := ⟨clone_calls wr HC10.out hc10 (by omega) HN10.out⟩
        have hrest : ∀ x ∈ l.eraseIdx i, LitOk (m + 1) x := fun x hx => HLit.out x (List.mem_of_mem_eraseIdx hx)
        have hel : (l.eraseIdx i).length = l.length - 1 := List.length_eraseIdx_of_lt (by omega)
        have HEl := Aside0.mk hel
        have HLit2 := Aside0.mk hrest
        clear hrest hel HYS
        have HDl : ∀ w v, w.ownsRow wr.heap.size 3 1 v l.length (nums .i64 l) → Calls Try.prog 37 #[v, .int .i64 (i : Int), .int .i64 ((i : Int) + 1)] w (Deleted w wr.heap.size v (l.eraseIdx i)) := fun w v ho => delete_calls w wr.heap.size ho i (by omega)
        have HSv : ∀ w v, w.ownsRow wr.heap.size 3 1 v (l.eraseIdx i).length (nums .i64 (l.eraseIdx i)) → Below W.heap.size W w → Calls Try.prog 35 #[.agg #[.int .i64 (m : Int), .slice AL L.length cL], v] w (SolvePost w (satF L m (l.eraseIdx i))) := fun w v ho hb => by
          obtain ⟨A3, c3, rfl, h3, h4, _, _⟩ := own_C ho
          exact sat_calls (Kd.C_below HL.out hb) HcL.out h3 hm HOk.out HLit2.out
        obtain ⟨⟨r21, r22, r23⟩, hS2⟩ : ∃ r2, satF L m (l.eraseIdx i) = r2 := ⟨_, rfl⟩
        obtain ⟨rest, hrl⟩ : ∃ rest, l.eraseIdx i = rest := ⟨_, rfl⟩
        simp only [hS2] at HSv hys
        simp only [hrl] at HSv hys HEl HLit2 HDl
        clear hS2 hrl
        have HS2 := Aside0.mk HSv
        have HD2 := Aside0.mk HDl
        clear HSv HDl
        cases r21 with
        | true =>
          have HY2 := Aside0.mk hys
          clear hys
          go_wp2_with (first
            | (go_at_call 36; refine HCl.out.mono ?_; rintro e w5 ⟨v5, rfl, hown5, hb5⟩; have HB5 := Aside0.mk hb5; have HD5 := Aside0.mk (HD2.out _ _ hown5); clear hb5 hown5)
            | (go_at_call 37; refine HD5.out.mono ?_; rintro e w6 ⟨v6, rfl, hown6, hb6⟩; have HB6 := Aside0.mk (hb6 wr _ HB5.out (Nat.le_refl _)); have HB6W := Aside0.mk (below_step HB.out HB6.out); have HT6 := Aside0.mk (blk_below HT.out HB6.out); have HS6 := Aside0.mk (HS2.out _ _ hown6 HB6W.out); have HO6 := Aside0.mk (pw_own_below HO.out HB6.out); have HO6r := Aside0.mk hown6; clear hb6 hown6; have hc0 : w6.cell? ⟨W.heap.size, 0, none⟩ = some (.int .i64 (m : Int)) := (blk_cell HT6.out 0).trans rfl; have hc1 : w6.cell? ⟨W.heap.size, 1, none⟩ = some (.slice AL L.length cL) := (blk_cell HT6.out 1).trans rfl)
            | (go_at_call 35; refine HS6.out.mono ?_; rintro e w7 ⟨rfl, hb7⟩; have HB7 := Aside0.mk hb7; clear hb7))
          go_roundg gk
          case measure => omega
          case rel =>
            exact ⟨l, i + 1, by omega, by go_num, hll, ⟨(pw_own_below HO6.out HB7.out).alloc _⟩, ⟨below_alloc (below_step HB6W.out HB7.out) _⟩, ⟨blk_alloc (blk_below HT6.out HB7.out) _⟩, HY2, HLit⟩
        | false =>
          have HY2 := Aside0.mk hys
          clear hys
          go_wp2_with (first
            | (go_at_call 36; refine HCl.out.mono ?_; rintro e w5 ⟨v5, rfl, hown5, hb5⟩; have HB5 := Aside0.mk hb5; have HD5 := Aside0.mk (HD2.out _ _ hown5); clear hb5 hown5)
            | (go_at_call 37; refine HD5.out.mono ?_; rintro e w6 ⟨v6, rfl, hown6, hb6⟩; have HB6 := Aside0.mk (hb6 wr _ HB5.out (Nat.le_refl _)); have HB6W := Aside0.mk (below_step HB.out HB6.out); have HT6 := Aside0.mk (blk_below HT.out HB6.out); have HS6 := Aside0.mk (HS2.out _ _ hown6 HB6W.out); have HO6r := Aside0.mk (own_weaken hown6 HB.out.size); clear hb6 hown6; have hc0 : w6.cell? ⟨W.heap.size, 0, none⟩ = some (.int .i64 (m : Int)) := (blk_cell HT6.out 0).trans rfl; have hc1 : w6.cell? ⟨W.heap.size, 1, none⟩ = some (.slice AL L.length cL) := (blk_cell HT6.out 1).trans rfl)
            | (go_at_call 35; refine HS6.out.mono ?_; rintro e w7 ⟨rfl, hb7⟩; have HB7 := Aside0.mk hb7; clear hb7))
          go_roundg gk
          case measure => omega
          case rel =>
            have := HEl.out
            exact ⟨rest, i, by omega, rfl, by omega, ⟨(pw_own_below HO6r.out HB7.out).alloc _⟩, ⟨below_alloc (below_step HB6W.out HB7.out) _⟩, ⟨blk_alloc (blk_below HT6.out HB7.out) _⟩, HY2, HLit2⟩
end Go.Proofs.Ytbnjbjcokkcfcaa.Sol
