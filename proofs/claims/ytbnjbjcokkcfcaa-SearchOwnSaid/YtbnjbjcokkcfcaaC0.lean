/- What Valid, Check, few and SameInts come to, in plain words. -/
import Derived.Test.YtbnjbjcokkcfcaaPSearchOwnx1
import Derived.Test.YtbnjbjcokkcfcaaPSearchOwnx2
namespace Go.Proofs.Ytbnjbjcokkcfcaa.Sol
open Go.RowKit Go.Proofs.YtbnjbjcokkcfcaaW.PrintWords Go.Proofs.Ytbnjbjcokkcfcaa.PSearchOwn
set_option linter.unusedVariables false

def varOf (a : Int) : Int := if 1 ≤ a ∧ a ≤ 128 then a else if -128 ≤ a ∧ a ≤ -1 then -a else 0
def validB (a n : Int) : Bool := decide (varOf a ≠ 0 ∧ varOf a ≤ n)
theorem wrap_id {i : Int} (h0 : -9223372036854775808 ≤ i) (h1 : i ≤ 9223372036854775807) : wrap64 i = i := by unfold wrap64; omega

theorem ev_var (a : Int) : Ev (fun k => lit_Var.f k a) (varOf a) := by
  refine Ev.of (fun k => lit_Var.mono a k) (k := 1) ?_
  unfold lit_Var.f varOf
  by_cases h : a ≥ 1
  · rw [if_pos h]
    simp only [lit_Var.j0]
    by_cases h2 : a ≤ 128
    · rw [if_pos (by simpa using h2), if_pos ⟨h, h2⟩]
    · rw [if_neg (by simpa using h2), if_neg (by omega), if_neg (by omega), if_neg (by omega)]
  · rw [if_neg h]
    simp only [lit_Var.j0]
    rw [if_neg (by simp)]
    by_cases h1 : a ≤ -1
    · rw [if_pos h1]
      by_cases h2 : a ≥ -128
      · rw [if_pos h2, if_neg (by omega), if_pos ⟨h2, h1⟩, wrap_id (by omega) (by omega)]
      · rw [if_neg h2, if_neg (by omega), if_neg (by omega)]
    · rw [if_neg h1, if_neg (by omega), if_neg (by omega)]
theorem Ev.ite {α : Type} {c : Prop} [Decidable c] {f g : Nat → Option α} {r s : α} (h : c → Ev f r) (k : ¬ c → Ev g s) : Ev (fun n => if c then f n else g n) (if c then r else s) := by
  by_cases hc : c
  · simp only [if_pos hc]; exact h hc
  · simp only [if_neg hc]; exact k hc
theorem ev_valid (a n : Int) : Ev (fun k => lit_Valid.f k a n) (validB a n) := by
  unfold lit_Valid.f
  refine Ev.bind (f := fun k t => if t = 0 then some false else (lit_Var.f k a).bind fun t2 => some (decide (t2 ≤ n))) (ev_var a) ?_
  by_cases h : varOf a = 0
  · have e : validB a n = false := by unfold validB; simp [h]
    rw [e]
    simp only [if_pos h]; exact Ev.now _
  · have e : validB a n = decide (varOf a ≤ n) := by unfold validB; simp [h]
    rw [e]
    simp only [if_neg h]
    exact Ev.bind (f := fun _ t2 => some (decide (t2 ≤ n))) (ev_var a) (Ev.now _)

/-- The first error of clauses. -/
def clausesF (n : Int) : List (List Int) → Int
  | [] => 0
  | c :: r => if c.length > 128 then 2 else if c.all (fun l => validB l n) then clausesF n r else 1
def checkF (n : Int) (L : List (List Int)) : Int := if n < 0 ∨ n > 128 then 6 else if L.length > 4096 then 2 else clausesF n L

theorem rd_at {c : List Int} {j : Nat} (hj : j < c.length) : rd c (j : Int) = c[j] := by simp [rd, List.getD_eq_getElem?_getD, hj]
theorem rdL_at {L : List (List Int)} {i : Nat} (hi : i < L.length) : rd_L1 L (i : Int) = L[i] := by simp [rd_L1, List.getD_eq_getElem?_getD, hi]

theorem ev_check_l1 (L : List (List Int)) (i : Nat) (c : List Int) (hc : c.length ≤ 128) (n : Int) (r : Int) (hr : Ev (fun k => theory_Check.l0 k L (L.length : Int) (wrap64 ((i : Int) + 1)) n L) r) (d : Nat) :
    ∀ j : Nat, j + d = c.length → Ev (fun k => theory_Check.l1 k L (L.length : Int) i c (c.length : Int) j n L) (if (c.drop j).all (fun l => validB l n) then r else 1) := by
  induction d with
  | zero =>
    intro j hj
    rw [List.drop_eq_nil_of_le (by omega)]
    refine Ev.step (f := fun k => theory_Check.l0 k L (L.length : Int) (wrap64 ((i : Int) + 1)) n L) (fun k => ?_) hr
    simp only [theory_Check.l1]
    rw [if_neg (by omega)]
  | succ d ih =>
    intro j hj
    have hlt : j < c.length := by omega
    have hd : c.drop j = c[j] :: c.drop (j + 1) := List.drop_eq_getElem_cons hlt
    refine Ev.step (f := fun k => (lit_Valid.f k (rd c j) n).bind fun t => if t = true then theory_Check.l1 k L (L.length : Int) i c (c.length : Int) (wrap64 ((j : Int) + 1)) n L else some 1) (fun k => ?_) ?_
    · simp only [theory_Check.l1]
      rw [if_pos (by omega), if_pos (by omega), if_pos (by omega)]
    · refine Ev.bind (f := fun k t => if t = true then theory_Check.l1 k L (L.length : Int) i c (c.length : Int) (wrap64 ((j : Int) + 1)) n L else some 1) (ev_valid _ _) ?_
      rw [hd, List.all_cons, rd_at hlt, wrap_id (by omega) (by omega)]
      cases hv : validB c[j] n with
      | true =>
        simp only [if_true, Bool.true_and]
        exact ih (j + 1) (by omega)
      | false =>
        simp only [Bool.false_and, Bool.false_eq_true, if_false]
        exact Ev.now _
theorem ev_check_l0 (L : List (List Int)) (hL : L.length ≤ 9223372036854775807) (n : Int) (d : Nat) :
    ∀ i : Nat, i + d = L.length → Ev (fun k => theory_Check.l0 k L (L.length : Int) i n L) (clausesF n (L.drop i)) := by
  induction d with
  | zero =>
    intro i hi
    rw [List.drop_eq_nil_of_le (by omega)]
    refine Ev.step (f := fun _ => some 0) (fun k => ?_) (Ev.now _)
    simp only [theory_Check.l0]
    rw [if_neg (by omega)]
  | succ d ih =>
    intro i hi
    have hlt : i < L.length := by omega
    have hd : L.drop i = L[i] :: L.drop (i + 1) := List.drop_eq_getElem_cons hlt
    have ih' := ih (i + 1) (by omega)
    rw [hd]
    simp only [clausesF]
    refine Ev.step (f := fun k => if (L[i].length : Int) > 128 then some 2 else theory_Check.l1 k L (L.length : Int) i L[i] (L[i].length : Int) 0 n L) (fun k => ?_) ?_
    · simp only [theory_Check.l0]
      rw [if_pos (by omega), if_pos (by omega), if_pos (by omega), rdL_at hlt]
    · by_cases h : L[i].length > 128
      · simp only [if_pos (show (L[i].length : Int) > 128 by omega), if_pos h]; exact Ev.now _
      · simp only [if_neg (show ¬ (L[i].length : Int) > 128 by omega), if_neg h]
        have := ev_check_l1 L i L[i] (by omega) n (clausesF n (L.drop (i + 1))) (by rw [wrap_id (by omega) (by omega)]; exact ih') L[i].length 0 (by omega)
        rw [List.drop_zero] at this
        exact this
theorem ev_check (n : Int) (L : List (List Int)) (hL : L.length ≤ 9223372036854775807) : Ev (fun k => theory_Check.f k n L) (checkF n L) := by
  have key : ∀ b : Bool, Ev (fun k => theory_Check.j0 k b n L) (if b then 6 else if L.length > 4096 then 2 else clausesF n L) := by
    intro b
    refine Ev.step (f := fun k => if b = true then some 6 else if (L.length : Int) > 4096 then some 2 else theory_Check.l0 k L (L.length : Int) 0 n L) (fun k => ?_) ?_
    · simp only [theory_Check.j0]
    · cases b with
      | true => simp only [if_true]; exact Ev.now _
      | false =>
        simp only [Bool.false_eq_true, if_false]
        by_cases h : L.length > 4096
        · simp only [if_pos (show (L.length : Int) > 4096 by omega), if_pos h]; exact Ev.now _
        · simp only [if_neg (show ¬ (L.length : Int) > 4096 by omega), if_neg h]
          have := ev_check_l0 L hL n L.length 0 (by omega)
          rw [List.drop_zero] at this
          exact this
  unfold theory_Check.f checkF
  by_cases h : n < 0
  · simp only [if_pos h, if_pos (show n < 0 ∨ n > 128 from .inl h)]
    exact key true
  · simp only [if_neg h]
    by_cases h2 : n > 128
    · simp only [if_pos (show n < 0 ∨ n > 128 from .inr h2)]
      have := key (decide (n > 128))
      rw [decide_eq_true h2] at this ⊢
      exact this
    · simp only [if_neg (show ¬ (n < 0 ∨ n > 128) by omega)]
      have := key (decide (n > 128))
      rw [decide_eq_false h2] at this ⊢
      exact this
end Go.Proofs.Ytbnjbjcokkcfcaa.Sol
