/- few, the search's check and SameInts, in plain words, and their contracts. -/
import Derived.Test.YtbnjbjcokkcfcaaC0
namespace Go.Proofs.Ytbnjbjcokkcfcaa.Sol
open Go.RowKit Go.Proofs.YtbnjbjcokkcfcaaW.PrintWords Go.Proofs.Ytbnjbjcokkcfcaa.PSearchOwn
set_option linter.unusedVariables false
set_option linter.unusedSimpArgs false

theorem ev_lits {β : Type} {g : Nat → Int → Option β} {l : List Int} {n : Int} (good : β) (bad : β) (hl : l.length ≤ 9223372036854775807)
    (hstep : ∀ (k : Nat) (i : Nat), i < l.length → g (k + 1) i = (lit_Valid.f k (rd l i) n).bind fun t => if t = true then g k (wrap64 ((i : Int) + 1)) else some bad)
    (hend : ∀ (k : Nat), g (k + 1) (l.length : Int) = some good) (d : Nat) :
    ∀ i : Nat, i + d = l.length → Ev (fun k => g k i) (if (l.drop i).all (fun x => validB x n) then good else bad) := by
  induction d with
  | zero =>
    intro i hi
    rw [List.drop_eq_nil_of_le (by omega), show i = l.length by omega]
    exact Ev.step (f := fun _ => some good) (fun k => hend k) (Ev.now _)
  | succ d ih =>
    intro i hi
    have hlt : i < l.length := by omega
    refine Ev.step (f := fun k => (lit_Valid.f k (rd l i) n).bind fun t => if t = true then g k (wrap64 ((i : Int) + 1)) else some bad) (fun k => hstep k i hlt) ?_
    refine Ev.bind (f := fun k t => if t = true then g k (wrap64 ((i : Int) + 1)) else some bad) (ev_valid _ _) ?_
    rw [List.drop_eq_getElem_cons hlt, List.all_cons, rd_at hlt, wrap_id (by omega) (by omega)]
    cases hv : validB l[i] n with
    | true =>
      simp only [if_true, Bool.true_and]
      exact ih (i + 1) (by omega)
    | false =>
      simp only [Bool.false_and, Bool.false_eq_true, if_false]
      exact Ev.now _

def litsB (l : List Int) (n : Int) : Bool := l.all (fun x => validB x n)
def fewB (n : Int) (L : List (List Int)) (l : List Int) : Bool := decide (checkF n L = 0 ∧ n ≤ 16 ∧ L.length ≤ 80 ∧ l.length ≤ 30) && litsB l n
def checkL (n : Int) (L : List (List Int)) (l : List Int) : Int := if checkF n L = 0 then (if litsB l n then 0 else 1) else checkF n L

theorem ev_few (n : Int) (L : List (List Int)) (l : List Int) (hL : L.length ≤ 9223372036854775807) (hl : l.length ≤ 9223372036854775807) : Ev (fun k => censuslaw14_few.f k n L l) (fewB n L l) := by
  have hj : ∀ b : Bool, Ev (fun k => censuslaw14_few.j0 k l b n L) (if b then false else litsB l n) := by
    intro b
    refine Ev.step (f := fun k => if b = true then some false else censuslaw14_few.l0 k l 0 n L) (fun k => by simp only [censuslaw14_few.j0]) ?_
    cases b with
    | true => simp only [if_true]; exact Ev.now _
    | false =>
      simp only [Bool.false_eq_true, if_false]
      have := ev_lits (g := fun k i => censuslaw14_few.l0 k l i n L) (n := n) (l := l) true false hl (fun k i hi => by
        simp only [censuslaw14_few.l0]
        rw [if_pos (by omega), if_pos (by omega)]) (fun k => by
        simp only [censuslaw14_few.l0]
        rw [if_neg (by omega)]) l.length 0 (by omega)
      rw [List.drop_zero] at this
      unfold litsB
      cases h : l.all (fun x => validB x n) with
      | true => rw [h] at this; exact this
      | false => rw [h] at this; exact this
  unfold censuslaw14_few.f
  refine Ev.bind (f := fun k t => if t = 0 then (if n > 16 then censuslaw14_few.j0 k l true n L else if (L.length : Int) > 80 then censuslaw14_few.j0 k l true n L else censuslaw14_few.j0 k l (decide ((l.length : Int) > 30)) n L) else censuslaw14_few.j0 k l true n L) (ev_check n L hL) ?_
  unfold fewB
  by_cases h0 : checkF n L = 0
  · simp only [if_pos h0]
    by_cases h1 : n > 16
    · simp only [if_pos h1]
      rw [decide_eq_false (by omega), Bool.false_and]; exact hj true
    · simp only [if_neg h1]
      by_cases h2 : L.length > 80
      · simp only [if_pos (show (L.length : Int) > 80 by omega)]
        rw [decide_eq_false (by omega), Bool.false_and]; exact hj true
      · simp only [if_neg (show ¬ (L.length : Int) > 80 by omega)]
        by_cases h3 : l.length > 30
        · rw [decide_eq_true (show (l.length : Int) > 30 by omega), decide_eq_false (by omega), Bool.false_and]; exact hj true
        · rw [decide_eq_false (show ¬ (l.length : Int) > 30 by omega), decide_eq_true (by omega), Bool.true_and]; exact hj false
  · simp only [if_neg h0]
    rw [decide_eq_false (by omega), Bool.false_and]; exact hj true
theorem ev_checkL (n : Int) (L : List (List Int)) (l : List Int) (hL : L.length ≤ 9223372036854775807) (hl : l.length ≤ 9223372036854775807) : Ev (fun k => search_check.f k n L l) (checkL n L l) := by
  unfold search_check.f
  refine Ev.bind (f := fun k t => if t = 0 then search_check.l0 k l (l.length : Int) 0 n L else some t) (ev_check n L hL) ?_
  unfold checkL
  by_cases h0 : checkF n L = 0
  · simp only [if_pos h0]
    have := ev_lits (g := fun k i => search_check.l0 k l (l.length : Int) i n L) (n := n) (l := l) (0 : Int) 1 hl (fun k i hi => by
        simp only [search_check.l0]
        rw [if_pos (by omega), if_pos (by omega), if_pos (by omega)]) (fun k => by
        simp only [search_check.l0]
        rw [if_neg (by omega)]) l.length 0 (by omega)
    rw [List.drop_zero] at this
    exact this
  · simp only [if_neg h0]; exact Ev.now _
theorem ev_same (a b : List Int) (ha : a.length ≤ 9223372036854775807) : Ev (fun k => censusref06_SameInts.f k a b) (decide (a = b)) := by
  have key : a.length = b.length → ∀ d i : Nat, i + d = a.length → Ev (fun k => censusref06_SameInts.l0 k a b i) (decide (a.drop i = b.drop i)) := by
    intro hab d
    induction d with
    | zero =>
      intro i hi
      rw [List.drop_eq_nil_of_le (by omega), List.drop_eq_nil_of_le (by omega)]
      refine Ev.step (f := fun _ => some true) (fun k => ?_) (Ev.now _)
      simp only [censusref06_SameInts.l0]
      rw [if_neg (by omega)]
    | succ d ih =>
      intro i hi
      have hlt : i < a.length := by omega
      have hlt2 : i < b.length := by omega
      refine Ev.step (f := fun k => if a[i] = b[i] then censusref06_SameInts.l0 k a b (wrap64 ((i : Int) + 1)) else some false) (fun k => ?_) ?_
      · simp only [censusref06_SameInts.l0]
        rw [if_pos (by omega), if_pos (by omega), if_pos (by omega), rd_at hlt, rd_at hlt2]
      · rw [List.drop_eq_getElem_cons hlt, List.drop_eq_getElem_cons hlt2, wrap_id (by omega) (by omega)]
        by_cases h : a[i] = b[i]
        · simp only [if_pos h, List.cons.injEq, h, true_and]
          exact ih (i + 1) (by omega)
        · simp only [if_neg h, List.cons.injEq, h, false_and, decide_false]
          exact Ev.now _
  unfold censusref06_SameInts.f
  by_cases hab : a.length = b.length
  · simp only [if_pos (show (a.length : Int) = (b.length : Int) by omega)]
    have := key hab a.length 0 (by omega)
    rw [List.drop_zero, List.drop_zero] at this
    exact this
  · simp only [if_neg (show ¬ (a.length : Int) = (b.length : Int) by omega)]
    rw [decide_eq_false (fun h => hab (by rw [h]))]
    exact Ev.now _

section
variable {W : World} {AL A B : Option Addr} {cL c c2 : Nat} {N : Int} {L : List (List Int)} {l l2 : List Int}
theorem few_calls (hL : Kd.C (Kd.slice 3 (Kd.int .i64)) W AL L.length L) (hcL : L.length ≤ cL) (hl : Kd.C (Kd.int .i64) W A l.length l) (hc : l.length ≤ c) :
    Calls Try.prog 6 #[.agg #[.int .i64 N, .slice AL L.length cL], .slice A l.length c] W fun e w' => e = .returned (.bool (fewB N L l)) ∧ Below W.heap.size W w' := by
  obtain ⟨k, hk⟩ := (ev_few N L l (Kd.C_max hL) (Kd.C_max hl)).rounds
  exact censuslaw14_few.calls k N AL cL L A c l _ W hL hcL hl hc hk
theorem checkL_calls (hL : Kd.C (Kd.slice 3 (Kd.int .i64)) W AL L.length L) (hcL : L.length ≤ cL) (hl : Kd.C (Kd.int .i64) W A l.length l) (hc : l.length ≤ c) :
    Calls Try.prog 34 #[.agg #[.int .i64 N, .slice AL L.length cL], .slice A l.length c] W fun e w' => e = .returned (.int .i64 (checkL N L l)) ∧ Below W.heap.size W w' := by
  obtain ⟨k, hk⟩ := (ev_checkL N L l (Kd.C_max hL) (Kd.C_max hl)).rounds
  exact search_check.calls k N AL cL L A c l _ W hL hcL hl hc hk
theorem same_calls (hl : Kd.C (Kd.int .i64) W A l.length l) (hc : l.length ≤ c) (hl2 : Kd.C (Kd.int .i64) W B l2.length l2) (hc2 : l2.length ≤ c2) :
    Calls Try.prog 12 #[.slice A l.length c, .slice B l2.length c2] W fun e w' => e = .returned (.bool (decide (l = l2))) ∧ Drawn0 W w' := by
  obtain ⟨k, hk⟩ := (ev_same l l2 (Kd.C_max hl)).rounds
  exact censusref06_SameInts.calls k A c l B c2 l2 _ W hl hc hl2 hc2 hk
end
end Go.Proofs.Ytbnjbjcokkcfcaa.Sol
