/- SearchOwn returns true for every theory and every list of assumptions, and its arguments read afterwards as before. No condition. -/
import Derived.Test.YtbnjbjcokkcfcaaB4
import Derived.Test.YtbnjbjcokkcfcaaR0
import Derived.WalkKit
import Derived.Below
import Derived.Carry
namespace Go.Proofs.Ytbnjbjcokkcfcaa.searchOwn
open Go.ChangeShapes Go.WideShapes Go.ChangeAt Go.RowKit Go.Proofs.YtbnjbjcokkcfcaaW.PrintWords Go.Proofs.Ytbnjbjcokkcfcaa.Sol
set_option linter.unusedVariables false
set_option linter.unusedSimpArgs false

theorem own : ownKnob Try.prog.godebug = none := by kernel_rfl

set_option maxHeartbeats 1000000 in
set_option maxRecDepth 100000 in
/-- What is not looked at: the chapter's examples alone. -/
theorem off_calls {N : Int} {W : World} {AL : Option Addr} {cL : Nat} {L : List (List Int)} {A : Option Addr} {c : Nat} {asm : List Int} (hL : Kd.C (Kd.slice 3 (Kd.int .i64)) W AL L.length L) (hcL : L.length ≤ cL) (hA : (Kd.int .i64).C W A asm.length asm) (hc : asm.length ≤ c) (hfew : fewB N L asm = false) :
    Calls Try.prog 3 #[.agg #[.int .i64 N, .slice AL L.length cL], .slice A asm.length c] W fun e w' => e = .returned (.bool true) ∧ Below W.heap.size W w' := by
  have hfw : ∀ w, Below W.heap.size W w → Calls Try.prog 6 #[.agg #[.int .i64 N, .slice AL L.length cL], .slice A asm.length c] w fun e w' => e = .returned (.bool false) ∧ Below w.heap.size w w' := fun w hb => by
    have := few_calls (N := N) (Kd.C_below hL hb) hcL (Kd.C_below hA hb) hc
    rwa [hfew] at this
  have HFew := Aside0.mk hfw
  clear hfw hL hcL hA hc hfew
  have HB := Aside0.mk (below_alloc (Below.refl W.heap.size W) (.cells #[.int .i64 N, .slice AL L.length cL] 24))
  go_enter Try.func3, Try.ntmps3
  go_wp2_with (first
    | (go_at_call 6; refine (HFew.out _ HB.out).mono ?_; rintro e w1 ⟨rfl, hb1⟩; replace HB := Aside0.mk (below_step HB.out hb1); clear hb1)
    | (go_at_call 7; refine (works_calls _).mono ?_; rintro e w2 ⟨rfl, hb2⟩; have HB2 := Aside0.mk (below_step HB.out hb2); clear hb2))
  go_ret
  exact ⟨rfl, HB2.out⟩

theorem all_calls {N : Int} {W : World} {AL : Option Addr} {cL : Nat} {L : List (List Int)} {A : Option Addr} {c : Nat} {asm : List Int} (hL : Kd.C (Kd.slice 3 (Kd.int .i64)) W AL L.length L) (hcL : L.length ≤ cL) (hA : (Kd.int .i64).C W A asm.length asm) (hc : asm.length ≤ c) (hnil : A = none → c = 0) :
    Calls Try.prog 3 #[.agg #[.int .i64 N, .slice AL L.length cL], .slice A asm.length c] W fun e w' => e = .returned (.bool true) ∧ Below W.heap.size W w' := by
  cases hf : fewB N L asm with
  | false => exact off_calls hL hcL hA hc hf
  | true =>
    have h2 := hf
    unfold fewB at h2
    rw [Bool.and_eq_true] at h2
    obtain ⟨h3, h4⟩ := h2
    obtain ⟨h5, h6, h7, h8⟩ := of_decide_eq_true h3
    obtain ⟨m, rfl, hm, hl, hok, hcs⟩ := checkF_ok h5
    have hchk : checkL (m : Int) L asm = 0 := by unfold checkL; rw [if_pos h5, if_pos h4]
    exact own_calls hL hcL hA hc hnil h8 hf hchk hm hok (litsB_ok hm h4) hl hcs

set_option maxRecDepth 100000 in
theorem lifted (os : Os) (started : os.Started) (H : Type) (enc : TypeId × Value → H) :
    ReturnsInHanded {} Try.checked os 3 .any (Rows.searchOwnSpec.pre6 enc Try.prog Try.f3 Rows.searchOwnRow.domain false) (Rows.searchOwnSpec.post enc Try.prog Try.f3 false true false false) := by
  refine returnsInHanded_of_change_sized (C := Try.checked) own started (by kernel_rfl) Try.func3
    (ChangeSpec.witness6 (enc := enc) (C := Try.checked) false ⟨#[], #[.agg #[.int .i64 0, .slice none 0 0], .slice none 0 0], []⟩ 8 (by kernel_rfl) (by kernel_rfl) (by kernel_rfl) (by kernel_rfl)) ?_
  intro W base args ds gs before hval0 hW hcnd hsz0 _
  have hval : ∀ (j : Nat) t v, Try.f3.params[j]? = some t → args[j]? = some v → Value.okWide Try.prog W .any base t v := hval0
  have hW' := hW
  obtain ⟨p, q, hA0, hV, rfl, hfz, hnd⟩ := hW
  have hA : DataW.TrodAll enc Try.prog W 0 (fun _ => true) true Try.f3.params.toList args.toList ds p := hA0
  rw [Try.params3] at hA hval
  obtain ⟨v0, vs0, d0, ds0, p0, q0, hargs, rfl, rfl, h0, r0⟩ := trodAll_cons hA
  obtain ⟨v1, vs1, d1, ds1, p1, q1, rfl, rfl, rfl, h1, r1⟩ := trodAll_cons r0
  obtain ⟨rfl, rfl, rfl⟩ := trodAll_nil r1
  obtain rfl : args = #[v0, v1] := by cases args; simp_all
  obtain ⟨rfl, rfl⟩ := trodVars_none hV
  obtain ⟨N, AL, cL, L, rfl, hL, hcL⟩ := open_theory (hval 0 24 v0 rfl rfl) h0
  obtain ⟨A, c, l, rfl, hl, hc, hnil⟩ := open_list (hval 1 25 v1 rfl rfl) h1
  have lt0 : ∀ x ∈ p0, x.block < W.heap.size := by obtain ⟨m, hm⟩ := h0; exact DataW.trod_lt m _ _ _ hm
  have lt1 : ∀ x ∈ p1, x.block < W.heap.size := by obtain ⟨m, hm⟩ := h1; exact DataW.trod_lt m _ _ _ hm
  clear hA0 hval0 hsz0
  refine (all_calls hL hcL hl hc hnil).mono fun e W' ⟨he, bel⟩ => ?_
  subst he
  exact ⟨_, rfl, _, _, _, [], _, [], hW', trodAll_mk1 (shut_bool Try.underlying4 _), (trodAll_cons_mk (Below.trod laidOut (by kernel_rfl) (of_decide_eq_true (by kernel_rfl)) h0 bel lt0) (trodAll_cons_mk (Below.trod laidOut (by kernel_rfl) (of_decide_eq_true (by kernel_rfl)) h1 bel lt1) trodAll_mk0)), rfl, bel.frame _, fun h => by cases h⟩
theorem over : Rows.searchOwnRow.holds Try.pinned (OpenSpec.ofChange Rows.searchOwnSpec) :=
  OpenClaim.holds_of_wide 3 Try.f3 rfl rfl rfl rfl rfl rfl rfl ⟨rfl, rfl, rfl, rfl, rfl⟩ rfl rfl rfl rfl rfl (by kernel_rfl) Try.func3 (by kernel_rfl)
    (of_decide_eq_true (by kernel_rfl)) (by unfold Func.isWrapper; first | (rw [if_pos (by decide +kernel)]; kernel_rfl) | (rw [if_neg (by decide +kernel)]; exact ⟨rfl, rfl⟩))
    (fun os started H enc _ => lifted os started H enc)
theorem proved : Rows.SearchOwnSaid := over
end Go.Proofs.Ytbnjbjcokkcfcaa.searchOwn
namespace Go.Proofs.Ytbnjbjcokkcfcaa
/-- The row, under a short name, for the claim. -/
theorem searchOwn_holds : Rows.SearchOwnSaid := searchOwn.proved
#print axioms searchOwn_holds
end Go.Proofs.Ytbnjbjcokkcfcaa
