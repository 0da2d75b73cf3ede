/- The checks, the order of literals, sets of variables, the closure that follows links. -/
import Derived.Test.YtbnjbjcokkcfcaaQ2
import Derived.Ground.Names2Prog
import Derived.Shelf.Slices.Delete
import Derived.Shelf.Slices.Empties
import Derived.Lib.OwnBridge
import Derived.WalkSpells
import Derived.Laws.BitsAllLaws
import Derived.Ground.SlsfProg
import Derived.Shelf.Slices.CompactI
import Derived.Shelf.SlSortCmp.NoneTotal
import Derived.Shelf.SlSortCmp.Whole1
import Derived.Laws.EntriesVeiled
namespace Go.Proofs.Ytbnjbjcokkcfcaa.Sol
open Go.RowKit Go.Proofs.YtbnjbjcokkcfcaaW.PrintWords Go.Proofs.Ytbnjbjcokkcfcaa.PSearchOwn
set_option linter.unusedVariables false
def varOf (a : Int) : Int := if 1 ≤ a ∧ a ≤ 128 then a else if -128 ≤ a ∧ a ≤ -1 then -a else 0
def validB (a n : Int) : Bool := decide (varOf a ≠ 0 ∧ varOf a ≤ n)
theorem wrap_id {i : Int} (h0 : -9223372036854775808 ≤ i) (h1 : i ≤ 9223372036854775807) : wrap64 i = i := by unfold wrap64; omega
theorem ev_var (a : Int) : Ev (fun k => lit_Var.f k a) (varOf a) := by
  refine Ev.of (fun k => lit_Var.mono a k) (k := 1) ?_
  unfold lit_Var.f varOf
  by_cases h : a ≥ 1
  · rw [if_pos h]
    simp only [lit_Var.j0]
    by_cases h2 : a ≤ 128
    · rw [if_pos (by simpa using h2), if_pos ⟨h, h2⟩]
    · rw [if_neg (by simpa using h2), if_neg (by omega), if_neg (by omega), if_neg (by omega)]
  · rw [if_neg h]
    simp only [lit_Var.j0]
    rw [if_neg (by simp)]
    by_cases h1 : a ≤ -1
    · rw [if_pos h1]
      by_cases h2 : a ≥ -128
      · rw [if_pos h2, if_neg (by omega), if_pos ⟨h2, h1⟩, wrap_id (by omega) (by omega)]
      · rw [if_neg h2, if_neg (by omega), if_neg (by omega)]
    · rw [if_neg h1, if_neg (by omega), if_neg (by omega)]
theorem ev_valid (a n : Int) : Ev (fun k => lit_Valid.f k a n) (validB a n) := by
  unfold lit_Valid.f
  refine Ev.bind (f := fun k t => if t = 0 then some false else (lit_Var.f k a).bind fun t2 => some (decide (t2 ≤ n))) (ev_var a) ?_
  by_cases h : varOf a = 0
  · have e : validB a n = false := by unfold validB; simp [h]
    rw [e]
    simp only [if_pos h]; exact Ev.now _
  · have e : validB a n = decide (varOf a ≤ n) := by unfold validB; simp [h]
    rw [e]
    simp only [if_neg h]
    exact Ev.bind (f := fun _ t2 => some (decide (t2 ≤ n))) (ev_var a) (Ev.now _)
/-- The first error of clauses. -/
def clausesF (n : Int) : List (List Int) → Int
  | [] => 0
  | c :: r => if c.length > 128 then 2 else if c.all (fun l => validB l n) then clausesF n r else 1
def checkF (n : Int) (L : List (List Int)) : Int := if n < 0 ∨ n > 128 then 6 else if L.length > 4096 then 2 else clausesF n L
theorem rd_at {c : List Int} {j : Nat} (hj : j < c.length) : rd c (j : Int) = c[j] := by simp [rd, List.getD_eq_getElem?_getD, hj]
theorem rdL_at {L : List (List Int)} {i : Nat} (hi : i < L.length) : rd_L1 L (i : Int) = L[i] := by simp [rd_L1, List.getD_eq_getElem?_getD, hi]
theorem ev_check_l1 (L : List (List Int)) (i : Nat) (c : List Int) (hc : c.length ≤ 128) (n : Int) (r : Int) (hr : Ev (fun k => theory_Check.l0 k L (L.length : Int) (wrap64 ((i : Int) + 1)) n L) r) (d : Nat) :
    ∀ j : Nat, j + d = c.length → Ev (fun k => theory_Check.l1 k L (L.length : Int) i c (c.length : Int) j n L) (if (c.drop j).all (fun l => validB l n) then r else 1) := by
  induction d with
  | zero =>
    intro j hj
    rw [List.drop_eq_nil_of_le (by omega)]
    refine Ev.step (f := fun k => theory_Check.l0 k L (L.length : Int) (wrap64 ((i : Int) + 1)) n L) (fun k => ?_) hr
    simp only [theory_Check.l1]
    rw [if_neg (by omega)]
  | succ d ih =>
    intro j hj
    have hlt : j < c.length := by omega
    have hd : c.drop j = c[j] :: c.drop (j + 1) := List.drop_eq_getElem_cons hlt
    refine Ev.step (f := fun k => (lit_Valid.f k (rd c j) n).bind fun t => if t = true then theory_Check.l1 k L (L.length : Int) i c (c.length : Int) (wrap64 ((j : Int) + 1)) n L else some 1) (fun k => ?_) ?_
    · simp only [theory_Check.l1]
      rw [if_pos (by omega), if_pos (by omega), if_pos (by omega)]
    · refine Ev.bind (f := fun k t => if t = true then theory_Check.l1 k L (L.length : Int) i c (c.length : Int) (wrap64 ((j : Int) + 1)) n L else some 1) (ev_valid _ _) ?_
      rw [hd, List.all_cons, rd_at hlt, wrap_id (by omega) (by omega)]
      cases hv : validB c[j] n with
      | true =>
        simp only [if_true, Bool.true_and]
        exact ih (j + 1) (by omega)
      | false =>
        simp only [Bool.false_and, Bool.false_eq_true, if_false]
        exact Ev.now _
theorem ev_check_l0 (L : List (List Int)) (hL : L.length ≤ 9223372036854775807) (n : Int) (d : Nat) :
    ∀ i : Nat, i + d = L.length → Ev (fun k => theory_Check.l0 k L (L.length : Int) i n L) (clausesF n (L.drop i)) := by
  induction d with
  | zero =>
    intro i hi
    rw [List.drop_eq_nil_of_le (by omega)]
    refine Ev.step (f := fun _ => some 0) (fun k => ?_) (Ev.now _)
    simp only [theory_Check.l0]
    rw [if_neg (by omega)]
  | succ d ih =>
    intro i hi
    have hlt : i < L.length := by omega
    have hd : L.drop i = L[i] :: L.drop (i + 1) := List.drop_eq_getElem_cons hlt
    have ih' := ih (i + 1) (by omega)
    rw [hd]
    simp only [clausesF]
    refine Ev.step (f := fun k => if (L[i].length : Int) > 128 then some 2 else theory_Check.l1 k L (L.length : Int) i L[i] (L[i].length : Int) 0 n L) (fun k => ?_) ?_
    · simp only [theory_Check.l0]
      rw [if_pos (by omega), if_pos (by omega), if_pos (by omega), rdL_at hlt]
    · by_cases h : L[i].length > 128
      · simp only [if_pos (show (L[i].length : Int) > 128 by omega), if_pos h]; exact Ev.now _
      · simp only [if_neg (show ¬ (L[i].length : Int) > 128 by omega), if_neg h]
        have := ev_check_l1 L i L[i] (by omega) n (clausesF n (L.drop (i + 1))) (by rw [wrap_id (by omega) (by omega)]; exact ih') L[i].length 0 (by omega)
        rw [List.drop_zero] at this
        exact this
theorem ev_check (n : Int) (L : List (List Int)) (hL : L.length ≤ 9223372036854775807) : Ev (fun k => theory_Check.f k n L) (checkF n L) := by
  have key : ∀ b : Bool, Ev (fun k => theory_Check.j0 k b n L) (if b then 6 else if L.length > 4096 then 2 else clausesF n L) := by
    intro b
    refine Ev.step (f := fun k => if b = true then some 6 else if (L.length : Int) > 4096 then some 2 else theory_Check.l0 k L (L.length : Int) 0 n L) (fun k => ?_) ?_
    · simp only [theory_Check.j0]
    · cases b with
      | true => simp only [if_true]; exact Ev.now _
      | false =>
        simp only [Bool.false_eq_true, if_false]
        by_cases h : L.length > 4096
        · simp only [if_pos (show (L.length : Int) > 4096 by omega), if_pos h]; exact Ev.now _
        · simp only [if_neg (show ¬ (L.length : Int) > 4096 by omega), if_neg h]
          have := ev_check_l0 L hL n L.length 0 (by omega)
          rw [List.drop_zero] at this
          exact this
  unfold theory_Check.f checkF
  by_cases h : n < 0
  · simp only [if_pos h, if_pos (show n < 0 ∨ n > 128 from .inl h)]
    exact key true
  · simp only [if_neg h]
    by_cases h2 : n > 128
    · simp only [if_pos (show n < 0 ∨ n > 128 from .inr h2)]
      have := key (decide (n > 128))
      rw [decide_eq_true h2] at this ⊢
      exact this
    · simp only [if_neg (show ¬ (n < 0 ∨ n > 128) by omega)]
      have := key (decide (n > 128))
      rw [decide_eq_false h2] at this ⊢
      exact this
end Go.Proofs.Ytbnjbjcokkcfcaa.Sol
namespace Go.Proofs.Ytbnjbjcokkcfcaa.Sol
open Go.RowKit Go.Proofs.YtbnjbjcokkcfcaaW.PrintWords Go.Proofs.Ytbnjbjcokkcfcaa.PSearchOwn
set_option linter.unusedVariables false
set_option linter.unusedSimpArgs false
def litsB (l : List Int) (n : Int) : Bool := l.all (fun x => validB x n)
section
variable {W : World} {AL A B : Option Addr} {cL c c2 : Nat} {N : Int} {L : List (List Int)} {l l2 : List Int}
end
end Go.Proofs.Ytbnjbjcokkcfcaa.Sol
namespace Go.Proofs.Ytbnjbjcokkcfcaa.Sol
open Go.RowKit Go.Proofs.YtbnjbjcokkcfcaaW.PrintWords Go.Proofs.Ytbnjbjcokkcfcaa.PSearchOwn
set_option linter.unusedVariables false
set_option linter.unusedSimpArgs false
theorem ev_copy (n : Int) (L : List (List Int)) (hL : L.length ≤ 4096) (hc : ∀ c ∈ L, c.length ≤ 1000) : Ev (fun k => censuslaw05_Copy.f k n L) (n, L) := by
  have key : ∀ d i : Nat, i + d = L.length → Ev (fun k => censuslaw05_Copy.l0 k L (L.length : Int) i n (L.take i)) (n, L) := by
    intro d
    induction d with
    | zero =>
      intro i hi
      refine Ev.step (f := fun _ => some (n, L)) (fun k => ?_) (Ev.now _)
      simp only [censuslaw05_Copy.l0]
      rw [if_neg (by omega), List.take_of_length_le (by omega)]
    | succ d ih =>
      intro i hi
      have hlt : i < L.length := by omega
      have hci := hc L[i] (List.getElem_mem hlt)
      refine Ev.step (f := fun k => censuslaw05_Copy.l0 k L (L.length : Int) (wrap64 ((i : Int) + 1)) n (L.take (i + 1))) (fun k => ?_) ?_
      · simp only [censuslaw05_Copy.l0]
        rw [if_pos (by omega), if_pos (by omega), if_pos (by omega)]
        simp only [Option.bind_some, rdL_at hlt, List.nil_append, List.length_nil, List.length_take]
        rw [if_pos (by omega), if_pos (by omega), List.take_succ_eq_append_getElem hlt]
      · rw [wrap_id (by omega) (by omega)]
        exact ih (i + 1) (by omega)
  unfold censuslaw05_Copy.f
  have := key L.length 0 (by omega)
  rw [List.take_zero] at this
  exact this
theorem copy_calls {W : World} {AL : Option Addr} {cL : Nat} {N : Int} {L : List (List Int)} (hL : Kd.C (Kd.slice 3 (Kd.int .i64)) W AL L.length L) (hcL : L.length ≤ cL) (h1 : L.length ≤ 4096) (h2 : ∀ c ∈ L, c.length ≤ 1000) :
    Calls Try.prog 8 #[.agg #[.int .i64 N, .slice AL L.length cL]] W fun e w' => ∃ Ao co, e = .returned (.agg #[.int .i64 N, .slice Ao L.length co]) ∧ Kd.S (Kd.slice 3 (Kd.int .i64)) 25 w' W.heap.size (fun _ => True) (.slice Ao L.length co) L ∧ L.length ≤ co ∧ Below W.heap.size W w' := by
  obtain ⟨k, hk⟩ := (ev_copy N L h1 h2).rounds
  refine (censuslaw05_Copy.calls k N AL cL L N L W hL hcL hk).mono ?_
  rintro e w' ⟨v, rfl, hS, hb⟩
  obtain ⟨A, c, rfl, hc, hC⟩ := Kd.S_reads hS
  exact ⟨A, c, rfl, hS, hc, hb⟩
end Go.Proofs.Ytbnjbjcokkcfcaa.Sol
namespace Go.Proofs.Ytbnjbjcokkcfcaa.Sol
open Go.RowKit Go.Proofs.YtbnjbjcokkcfcaaW.PrintWords Go.Proofs.Ytbnjbjcokkcfcaa.PSearchOwn
set_option linter.unusedVariables false
set_option linter.unusedSimpArgs false
theorem down {P : Nat → Prop} {n : Nat} (hend : P n) (hstep : ∀ i, i < n → P (i + 1) → P i) : P 0 := by
  have key : ∀ d i, i + d = n → P i := by
    intro d
    induction d with
    | zero => intro i hi; rw [show i = n by omega]; exact hend
    | succ d ih => intro i hi; exact hstep i (by omega) (ih (i + 1) (by omega))
  exact key n 0 (by omega)
theorem Ev.get {α : Type} {f : Nat → Option α} {r s : α} (h : Ev f r) (e : r = s) : Ev f s := e ▸ h
theorem dec_hit {l : List Int} {x a : Int} (h : x = a) : true = decide (x ∈ a :: l) := by rw [h]; simp
theorem dec_miss {l : List Int} {x a : Int} (h : ¬ x = a) : decide (x ∈ l) = decide (x ∈ a :: l) := by simp [h]
theorem ev_contains (l : List Int) (x : Int) (hl : l.length ≤ 9223372036854775807) : Ev (fun k => PPartsSplit.slices_Contains_int_int.f k l x) (decide (x ∈ l)) := by
  have key := down (n := l.length) (P := fun i => Ev (fun k => (PPartsSplit.slices_Index_int_int.l0 k l x (l.length : Int) (i : Int)).bind (fun t => some (decide (t ≥ 0)))) (decide (x ∈ l.drop i))) (by
    rw [List.drop_eq_nil_of_le (by omega)]
    refine Ev.step (f := fun _ => some false) (fun k => ?_) (Ev.get (Ev.now _) (by simp))
    simp only [PPartsSplit.slices_Index_int_int.l0]
    rw [if_neg (by omega)]; rfl) (fun i hi ih => by
    refine Ev.step (f := fun k => if x = l[i] then some true else (PPartsSplit.slices_Index_int_int.l0 k l x (l.length : Int) (wrap64 ((i : Int) + 1))).bind (fun t => some (decide (t ≥ 0)))) (fun k => ?_) ?_
    · simp only [PPartsSplit.slices_Index_int_int.l0]
      rw [if_pos (by omega), if_pos (by omega), if_pos (by omega), rd_at hi]
      by_cases h : x = l[i]
      · rw [if_pos h, if_pos h]; simp
      · rw [if_neg h, if_neg h]
    · rw [wrap_id (by omega) (by omega), List.drop_eq_getElem_cons hi]
      by_cases h : x = l[i]
      · simp only [if_pos h]; exact Ev.get (Ev.now _) (dec_hit h)
      · simp only [if_neg h]
        exact Ev.get ih (dec_miss h))
  rw [List.drop_zero] at key
  exact key
theorem ev_has04 (l : List Int) (x : Int) (hl : l.length ≤ 9223372036854775807) : Ev (fun k => PPartsSplit.censusref04_has.f k l x) (decide (x ∈ l)) := by
  have key := down (n := l.length) (P := fun i => Ev (fun k => PPartsSplit.censusref04_has.l0 k l x (i : Int)) (decide (x ∈ l.drop i))) (by
    rw [List.drop_eq_nil_of_le (by omega)]
    refine Ev.step (f := fun _ => some false) (fun k => ?_) (Ev.get (Ev.now _) (by simp))
    simp only [PPartsSplit.censusref04_has.l0]
    rw [if_neg (by omega)]) (fun i hi ih => by
    refine Ev.step (f := fun k => if l[i] = x then some true else PPartsSplit.censusref04_has.l0 k l x (wrap64 ((i : Int) + 1))) (fun k => ?_) ?_
    · simp only [PPartsSplit.censusref04_has.l0]
      rw [if_pos (by omega), if_pos (by omega), rd_at hi]
    · rw [wrap_id (by omega) (by omega), List.drop_eq_getElem_cons hi]
      by_cases h : l[i] = x
      · simp only [if_pos h]; exact Ev.get (Ev.now _) (dec_hit h.symm)
      · simp only [if_neg h]
        exact Ev.get ih (dec_miss (fun e => h e.symm)))
  rw [List.drop_zero] at key
  exact key
theorem ev_has16 (l : List Int) (x : Int) (hl : l.length ≤ 9223372036854775807) : Ev (fun k => PPartsSplit.censusref16_has.f k l x) (decide (x ∈ l)) := by
  have key := down (n := l.length) (P := fun i => Ev (fun k => PPartsSplit.censusref16_has.l0 k l x (i : Int)) (decide (x ∈ l.drop i))) (by
    rw [List.drop_eq_nil_of_le (by omega)]
    refine Ev.step (f := fun _ => some false) (fun k => ?_) (Ev.get (Ev.now _) (by simp))
    simp only [PPartsSplit.censusref16_has.l0]
    rw [if_neg (by omega)]) (fun i hi ih => by
    refine Ev.step (f := fun k => if l[i] = x then some true else PPartsSplit.censusref16_has.l0 k l x (wrap64 ((i : Int) + 1))) (fun k => ?_) ?_
    · simp only [PPartsSplit.censusref16_has.l0]
      rw [if_pos (by omega), if_pos (by omega), rd_at hi]
    · rw [wrap_id (by omega) (by omega), List.drop_eq_getElem_cons hi]
      by_cases h : l[i] = x
      · simp only [if_pos h]; exact Ev.get (Ev.now _) (dec_hit h.symm)
      · simp only [if_neg h]
        exact Ev.get ih (dec_miss (fun e => h e.symm)))
  rw [List.drop_zero] at key
  exact key
def leftB (c term : List Int) : Bool := c.all (fun x => !decide (x ∈ term))
def restF (c term : List Int) : List Int := c.filter (fun x => !decide (-x ∈ term))
theorem leftB_hit {l t : List Int} {x : Int} (h : x ∈ t) : leftB (x :: l) t = false := by simp [leftB, h]
theorem leftB_miss {l t : List Int} {x : Int} (h : ¬ x ∈ t) : leftB (x :: l) t = leftB l t := by simp [leftB, h]
theorem restF_hit {l t : List Int} {x : Int} (h : -x ∈ t) : restF (l ++ [x]) t = restF l t := by simp [restF, List.filter_append, h]
theorem restF_miss {l t : List Int} {x : Int} (h : ¬ -x ∈ t) : restF (l ++ [x]) t = restF l t ++ [x] := by simp [restF, List.filter_append, h]
theorem ev_rest (c term : List Int) (hc : c.length ≤ 4096) (ht : term.length ≤ 9223372036854775807) (hw : ∀ x ∈ c, -9223372036854775807 ≤ x ∧ x ≤ 9223372036854775807) :
    Ev (fun k => PPartsSplit.parts_rest.f k c term) (if leftB c term then (restF c term, true) else ([], false)) := by
  have key := down (n := c.length) (P := fun i => Ev (fun k => PPartsSplit.parts_rest.l0 k term (restF (c.take i) term) c (c.length : Int) (i : Int)) (if leftB (c.drop i) term then (restF c term, true) else ([], false))) (by
    rw [List.drop_eq_nil_of_le (by omega), List.take_of_length_le (by omega)]
    refine Ev.step (f := fun _ => some (restF c term, true)) (fun k => ?_) (Ev.get (Ev.now _) (by simp [leftB]))
    simp only [PPartsSplit.parts_rest.l0]
    rw [if_neg (by omega)]) (fun i hi ih => by
    obtain ⟨hw1, hw2⟩ := hw c[i] (List.getElem_mem hi)
    have hlen : (restF (c.take i) term).length < 17592186044416 := by
      have h1 := List.length_filter_le (fun x => !decide (-x ∈ term)) (c.take i)
      have h2 : (c.take i).length ≤ i := by simp; omega
      unfold restF; omega
    refine Ev.step (f := fun k => (PPartsSplit.slices_Contains_int_int.f k term c[i]).bind fun t145 => if t145 = true then some (([] : List Int), false) else (PPartsSplit.slices_Contains_int_int.f k term (-c[i])).bind fun t146 => if t146 = true then PPartsSplit.parts_rest.l0 k term (restF (c.take i) term) c (c.length : Int) (wrap64 ((i : Int) + 1)) else PPartsSplit.parts_rest.l0 k term (restF (c.take i) term ++ [c[i]]) c (c.length : Int) (wrap64 ((i : Int) + 1))) (fun k => ?_) ?_
    · simp only [PPartsSplit.parts_rest.l0]
      rw [if_pos (by omega), if_pos (by omega), if_pos (by omega), rd_at hi, wrap_id (i := -c[i]) (by omega) (by omega), if_pos hlen]
    · rw [wrap_id (by omega) (by omega)]
      have htk : c.take (i + 1) = c.take i ++ [c[i]] := List.take_succ_eq_append_getElem hi
      refine Ev.bind (f := fun k t145 => if t145 = true then some (([] : List Int), false) else (PPartsSplit.slices_Contains_int_int.f k term (-c[i])).bind fun t146 => if t146 = true then PPartsSplit.parts_rest.l0 k term (restF (c.take i) term) c (c.length : Int) ((i : Int) + 1) else PPartsSplit.parts_rest.l0 k term (restF (c.take i) term ++ [c[i]]) c (c.length : Int) ((i : Int) + 1)) (ev_contains term c[i] ht) ?_
      rw [List.drop_eq_getElem_cons hi]
      by_cases h : c[i] ∈ term
      · rw [decide_eq_true h]; simp only [if_true]
        exact Ev.get (Ev.now _) (by rw [leftB_hit h]; rfl)
      · rw [decide_eq_false h]; simp only [Bool.false_eq_true, if_false]
        have e1 := leftB_miss (l := c.drop (i + 1)) h
        rw [e1]
        refine Ev.bind (f := fun k t146 => if t146 = true then PPartsSplit.parts_rest.l0 k term (restF (c.take i) term) c (c.length : Int) ((i : Int) + 1) else PPartsSplit.parts_rest.l0 k term (restF (c.take i) term ++ [c[i]]) c (c.length : Int) ((i : Int) + 1)) (ev_contains term (-c[i]) ht) ?_
        rw [htk] at ih
        by_cases h2 : -c[i] ∈ term
        · rw [decide_eq_true h2]; simp only [if_true]
          have e2 := restF_hit (l := c.take i) h2
          rw [e2] at ih; exact ih
        · rw [decide_eq_false h2]; simp only [Bool.false_eq_true, if_false]
          have e2 := restF_miss (l := c.take i) h2
          rw [e2] at ih; exact ih)
  rw [List.drop_zero, List.take_zero] at key
  exact key
theorem ev_left (c term : List Int) (hc : c.length ≤ 9223372036854775807) (ht : term.length ≤ 9223372036854775807) : Ev (fun k => PPartsSplit.censusref16_Left.f k c term) (leftB c term) := by
  have key := down (n := c.length) (P := fun i => Ev (fun k => PPartsSplit.censusref16_Left.l0 k c term (i : Int)) (leftB (c.drop i) term)) (by
    rw [List.drop_eq_nil_of_le (by omega)]
    refine Ev.step (f := fun _ => some true) (fun k => ?_) (Ev.get (Ev.now _) (by simp [leftB]))
    simp only [PPartsSplit.censusref16_Left.l0]
    rw [if_neg (by omega)]) (fun i hi ih => by
    refine Ev.step (f := fun k => (PPartsSplit.censusref16_has.f k term c[i]).bind fun t => if t = true then some false else PPartsSplit.censusref16_Left.l0 k c term (wrap64 ((i : Int) + 1))) (fun k => ?_) ?_
    · simp only [PPartsSplit.censusref16_Left.l0]
      rw [if_pos (by omega), if_pos (by omega), rd_at hi]
    · rw [wrap_id (by omega) (by omega)]
      refine Ev.bind (f := fun k t => if t = true then some false else PPartsSplit.censusref16_Left.l0 k c term ((i : Int) + 1)) (ev_has16 term c[i] ht) ?_
      rw [List.drop_eq_getElem_cons hi]
      by_cases h : c[i] ∈ term
      · rw [decide_eq_true h]; simp only [if_true]
        exact Ev.get (Ev.now _) (leftB_hit h).symm
      · rw [decide_eq_false h]; simp only [Bool.false_eq_true, if_false]
        have e1 := leftB_miss (l := c.drop (i + 1)) h
        rw [e1]; exact ih)
  rw [List.drop_zero] at key
  exact key
theorem ev_rest16 (c term : List Int) (hc : c.length ≤ 4096) (ht : term.length ≤ 9223372036854775807) (hw : ∀ x ∈ c, -9223372036854775807 ≤ x ∧ x ≤ 9223372036854775807) :
    Ev (fun k => PPartsSplit.censusref16_Rest.f k c term) (restF c term) := by
  have key := down (n := c.length) (P := fun i => Ev (fun k => PPartsSplit.censusref16_Rest.l0 k c term (restF (c.take i) term) (i : Int)) (restF c term)) (by
    rw [List.take_of_length_le (by omega)]
    refine Ev.step (f := fun _ => some (restF c term)) (fun k => ?_) (Ev.now _)
    simp only [PPartsSplit.censusref16_Rest.l0]
    rw [if_neg (by omega)]) (fun i hi ih => by
    obtain ⟨hw1, hw2⟩ := hw c[i] (List.getElem_mem hi)
    have hlen : (restF (c.take i) term).length < 17592186044416 := by
      have h1 := List.length_filter_le (fun x => !decide (-x ∈ term)) (c.take i)
      have h2 : (c.take i).length ≤ i := by simp; omega
      unfold restF; omega
    refine Ev.step (f := fun k => (PPartsSplit.censusref16_has.f k term (-c[i])).bind fun t146 => if t146 = true then PPartsSplit.censusref16_Rest.l0 k c term (restF (c.take i) term) (wrap64 ((i : Int) + 1)) else PPartsSplit.censusref16_Rest.l0 k c term (restF (c.take i) term ++ [c[i]]) (wrap64 ((i : Int) + 1))) (fun k => ?_) ?_
    · simp only [PPartsSplit.censusref16_Rest.l0]
      rw [if_pos (by omega), if_pos (by omega), rd_at hi, wrap_id (i := -c[i]) (by omega) (by omega), if_pos hlen]
    · rw [wrap_id (by omega) (by omega)]
      have htk : c.take (i + 1) = c.take i ++ [c[i]] := List.take_succ_eq_append_getElem hi
      refine Ev.bind (f := fun k t146 => if t146 = true then PPartsSplit.censusref16_Rest.l0 k c term (restF (c.take i) term) ((i : Int) + 1) else PPartsSplit.censusref16_Rest.l0 k c term (restF (c.take i) term ++ [c[i]]) ((i : Int) + 1)) (ev_has16 term (-c[i]) ht) ?_
      rw [htk] at ih
      by_cases h2 : -c[i] ∈ term
      · rw [decide_eq_true h2]; simp only [if_true]
        have e2 := restF_hit (l := c.take i) h2
        rw [e2] at ih; exact ih
      · rw [decide_eq_false h2]; simp only [Bool.false_eq_true, if_false]
        have e2 := restF_miss (l := c.take i) h2
        rw [e2] at ih; exact ih)
  rw [List.take_zero] at key
  exact key
end Go.Proofs.Ytbnjbjcokkcfcaa.Sol
namespace Go.Proofs.Ytbnjbjcokkcfcaa.Sol
open Go.RowKit Go.Proofs.YtbnjbjcokkcfcaaW.PrintWords Go.Proofs.Ytbnjbjcokkcfcaa.PSearchOwn
set_option linter.unusedVariables false
set_option linter.unusedSimpArgs false
theorem rdP_at {L : List (List Int)} {i : Nat} (hi : i < L.length) : PPartsSplit.rd_L1 L (i : Int) = L[i] := by simp [PPartsSplit.rd_L1, List.getD_eq_getElem?_getD, hi]
theorem varOf_nonneg (a : Int) : 0 ≤ varOf a := by unfold varOf; split <;> (try split) <;> omega
theorem ev_var04 (a : Int) : Ev (fun k => PPartsSplit.censusref04_Var.f k a) (varOf a) := by
  refine Ev.step (f := fun _ => some (varOf a)) (fun k => ?_) (Ev.now _)
  unfold PPartsSplit.censusref04_Var.f varOf
  by_cases h : a ≥ 1
  · rw [if_pos h]
    simp only [PPartsSplit.censusref04_Var.j0]
    by_cases h2 : a ≤ 128
    · rw [if_pos (by simpa using h2), if_pos ⟨h, h2⟩]
    · rw [if_neg (by simpa using h2), if_pos (by omega), if_neg (by omega), if_neg (by omega), if_neg (by omega)]
  · rw [if_neg h]
    simp only [PPartsSplit.censusref04_Var.j0]
    rw [if_neg (by simp)]
    by_cases h1 : a ≥ -128
    · rw [if_pos h1]
      by_cases h2 : a ≤ -1
      · rw [if_pos h2, if_neg (by omega), if_pos ⟨h1, h2⟩, wrap_id (by omega) (by omega)]
      · rw [if_neg h2, if_neg (by omega), if_neg (by omega)]
    · rw [if_neg h1, if_neg (by omega), if_neg (by omega)]
theorem ev_valid04 (a n : Int) : Ev (fun k => PPartsSplit.censusref04_Valid.f k a n) (validB a n) := by
  have h0 := varOf_nonneg a
  unfold PPartsSplit.censusref04_Valid.f
  refine Ev.bind (f := fun k t => if t > 0 then (PPartsSplit.censusref04_Var.f k a).bind fun t2 => some (decide (t2 ≤ n)) else some false) (ev_var04 a) ?_
  by_cases h : varOf a > 0
  · have e : validB a n = decide (varOf a ≤ n) := by unfold validB; exact decide_eq_decide.2 ⟨fun h => h.2, fun h2 => ⟨by omega, h2⟩⟩
    rw [e]
    simp only [if_pos h]
    exact Ev.bind (f := fun _ t2 => some (decide (t2 ≤ n))) (ev_var04 a) (Ev.now _)
  · have e : validB a n = false := by unfold validB; exact decide_eq_false (fun h2 => by omega)
    rw [e]
    simp only [if_neg h]; exact Ev.now _
theorem litsB_hit {l : List Int} {n x : Int} (h : validB x n = true) : litsB (x :: l) n = litsB l n := by simp [litsB, h]
theorem litsB_miss {l : List Int} {n x : Int} (h : ¬ validB x n = true) : litsB (x :: l) n = false := by simp [litsB, h]
theorem ev_all1 (l : List Int) (n : Int) (hl : l.length ≤ 9223372036854775807) : Ev (fun k => PPartsSplit.censusref04_All1.f k l n) (litsB l n) := by
  have key := down (n := l.length) (P := fun i => Ev (fun k => PPartsSplit.censusref04_All1.l0 k l n (i : Int)) (litsB (l.drop i) n)) (by
    rw [List.drop_eq_nil_of_le (by omega)]
    refine Ev.step (f := fun _ => some true) (fun k => ?_) (Ev.now _)
    simp only [PPartsSplit.censusref04_All1.l0]
    rw [if_neg (by omega)]) (fun i hi ih => by
    refine Ev.step (f := fun k => (PPartsSplit.censusref04_Valid.f k l[i] n).bind fun t => if t = true then PPartsSplit.censusref04_All1.l0 k l n (wrap64 ((i : Int) + 1)) else some false) (fun k => ?_) ?_
    · simp only [PPartsSplit.censusref04_All1.l0]
      rw [if_pos (by omega), if_pos (by omega), rd_at hi]
    · rw [wrap_id (by omega) (by omega)]
      refine Ev.bind (f := fun k t => if t = true then PPartsSplit.censusref04_All1.l0 k l n ((i : Int) + 1) else some false) (ev_valid04 l[i] n) ?_
      rw [List.drop_eq_getElem_cons hi]
      by_cases h : validB l[i] n = true
      · rw [litsB_hit h]; simp only [if_pos h]; exact ih
      · rw [litsB_miss h]; simp only [if_neg h]; exact Ev.now _)
  rw [List.drop_zero] at key
  exact key
/-- Opposite literals. -/
def oppB (l : List Int) : Bool := l.any (fun x => decide (-x ∈ l))
theorem ev_opp04 (l : List Int) (n : Int) (hv : litsB l n = true) (hl : l.length ≤ 9223372036854775807) : Ev (fun k => PPartsSplit.censusref04_Opposite.f k l) (oppB l) := by
  have key := down (n := l.length) (P := fun i => Ev (fun k => PPartsSplit.censusref04_Opposite.l0 k l (i : Int)) ((l.drop i).any (fun x => decide (-x ∈ l)))) (by
    rw [List.drop_eq_nil_of_le (by omega)]
    refine Ev.step (f := fun _ => some false) (fun k => ?_) (Ev.now _)
    simp only [PPartsSplit.censusref04_Opposite.l0]
    rw [if_neg (by omega)]) (fun i hi ih => by
    have h1 : varOf l[i] ≠ 0 ∧ varOf l[i] ≤ n := of_decide_eq_true (List.all_eq_true.1 hv l[i] (List.getElem_mem hi))
    have h2 := varOf_nonneg l[i]
    have h3 : -9223372036854775807 ≤ l[i] ∧ l[i] ≤ 9223372036854775807 := by
      have h1 := h1.1
      unfold varOf at h1
      split at h1
      · omega
      · split at h1 <;> omega
    refine Ev.step (f := fun k => (PPartsSplit.censusref04_Var.f k l[i]).bind fun t => if t > 0 then ((PPartsSplit.censusref04_has.f k l (-l[i])).bind fun t194 => (if t194 = true then (some true) else (PPartsSplit.censusref04_Opposite.l0 k l ((i : Int) + 1)))) else PPartsSplit.censusref04_Opposite.l0 k l ((i : Int) + 1)) (fun k => ?_) ?_
    · simp only [PPartsSplit.censusref04_Opposite.l0]
      rw [if_pos (by omega), if_pos (by omega), rd_at hi, wrap_id (i := -l[i]) (by omega) (by omega), wrap_id (i := (i : Int) + 1) (by omega) (by omega)]
    · refine Ev.bind (f := fun k t => if t > 0 then ((PPartsSplit.censusref04_has.f k l (-l[i])).bind fun t194 => (if t194 = true then (some true) else (PPartsSplit.censusref04_Opposite.l0 k l ((i : Int) + 1)))) else PPartsSplit.censusref04_Opposite.l0 k l ((i : Int) + 1)) (ev_var04 l[i]) ?_
      simp only [if_pos (show varOf l[i] > 0 by omega)]
      refine Ev.bind (f := fun k t194 => (if t194 = true then (some true) else (PPartsSplit.censusref04_Opposite.l0 k l ((i : Int) + 1)))) (ev_has04 l (-l[i]) hl) ?_
      rw [List.drop_eq_getElem_cons hi, List.any_cons]
      cases decide (-l[i] ∈ l) with
      | true => simp only [if_true, Bool.true_or]; exact Ev.now _
      | false => simp only [Bool.false_eq_true, if_false, Bool.false_or]; exact ih)
  rw [List.drop_zero] at key
  exact key
theorem valid05 (x n : Int) (h0 : 0 ≤ n) (h1 : n ≤ 128) : PPartsSplit.censusref05_Valid.f x n = some (validB x n) := by
  unfold PPartsSplit.censusref05_Valid.f
  rw [wrap_id (by omega) (by omega)]
  by_cases hx : x = 0
  · rw [if_pos hx]; exact congrArg some (decide_eq_false (by rw [hx]; unfold varOf; omega)).symm
  · rw [if_neg hx]
    by_cases h2 : x ≥ -n
    · rw [if_pos h2]
      refine congrArg some (decide_eq_decide.2 ?_)
      unfold varOf
      by_cases h3 : 1 ≤ x ∧ x ≤ 128
      · rw [if_pos h3]; omega
      · rw [if_neg h3]
        by_cases h4 : -128 ≤ x ∧ x ≤ -1
        · rw [if_pos h4]; omega
        · rw [if_neg h4]; omega
    · rw [if_neg h2]
      refine congrArg some (decide_eq_false ?_).symm
      unfold varOf
      by_cases h3 : 1 ≤ x ∧ x ≤ 128
      · rw [if_pos h3]; omega
      · rw [if_neg h3]
        by_cases h4 : -128 ≤ x ∧ x ≤ -1
        · rw [if_pos h4]; omega
        · rw [if_neg h4]; omega
theorem ev_check05 (n : Int) (L : List (List Int)) : Ev (fun k => PPartsSplit.censusref05_Check.f k n L) (checkF n L) := by
  unfold PPartsSplit.censusref05_Check.f checkF
  by_cases h0 : n < 0
  · simp only [if_pos h0, if_pos (show n < 0 ∨ n > 128 by omega)]
    refine Ev.step (f := fun _ => some 6) (fun k => ?_) (Ev.now _)
    simp only [PPartsSplit.censusref05_Check.j0, if_true]
  · simp only [if_neg h0]
    by_cases h1 : n > 128
    · rw [decide_eq_true h1]
      simp only [if_pos (show n < 0 ∨ n > 128 by omega)]
      refine Ev.step (f := fun _ => some 6) (fun k => ?_) (Ev.now _)
      simp only [PPartsSplit.censusref05_Check.j0, if_true]
    · rw [decide_eq_false h1]
      simp only [if_neg (show ¬ (n < 0 ∨ n > 128) by omega)]
      by_cases hL : L.length > 4096
      · rw [if_pos hL]
        refine Ev.step (f := fun _ => some 2) (fun k => ?_) (Ev.now _)
        simp only [PPartsSplit.censusref05_Check.j0, Bool.false_eq_true, if_false]
        rw [if_pos (by omega)]
      · rw [if_neg hL]
        have key := down (n := L.length) (P := fun i => Ev (fun k => PPartsSplit.censusref05_Check.l0 k (i : Int) n L) (clausesF n (L.drop i))) (by
          rw [List.drop_eq_nil_of_le (by omega)]
          refine Ev.step (f := fun _ => some 0) (fun k => ?_) (Ev.now _)
          simp only [PPartsSplit.censusref05_Check.l0]
          rw [if_neg (by omega)]) (fun i hi ih => by
          rw [List.drop_eq_getElem_cons hi]
          obtain ⟨c, hc⟩ : ∃ c, L[i] = c := ⟨_, rfl⟩
          rw [hc]
          have hcl := rdP_at hi
          rw [hc] at hcl
          by_cases h128 : c.length > 128
          · refine Ev.step (f := fun _ => some 2) (fun k => ?_) (Ev.get (Ev.now _) ?_)
            · simp only [PPartsSplit.censusref05_Check.l0]
              rw [if_pos (by omega), if_pos (by omega), hcl, if_pos (by omega)]
            · simp only [clausesF]; rw [if_pos h128]
          · have in1 := down (n := c.length) (P := fun j => Ev (fun k => PPartsSplit.censusref05_Check.l1 k (i : Int) (j : Int) n L) (if (c.drop j).all (fun l => validB l n) then clausesF n (L.drop (i + 1)) else 1)) (by
              rw [List.drop_eq_nil_of_le (by omega)]
              refine Ev.step (f := fun k => PPartsSplit.censusref05_Check.l0 k ((i : Int) + 1) n L) (fun k => ?_) (Ev.get (r := clausesF n (L.drop (i + 1))) (show Ev (fun k => PPartsSplit.censusref05_Check.l0 k ((i : Int) + 1) n L) (clausesF n (L.drop (i + 1))) from ih) (by simp))
              simp only [PPartsSplit.censusref05_Check.l1]
              rw [if_pos (by omega), if_pos (by omega), hcl, if_neg (by omega), wrap_id (by omega) (by omega)]) (fun j hj ih2 => by
              refine Ev.step (f := fun k => if validB c[j] n = true then PPartsSplit.censusref05_Check.l1 k (i : Int) ((j : Int) + 1) n L else some 1) (fun k => ?_) ?_
              · simp only [PPartsSplit.censusref05_Check.l1]
                rw [if_pos (by omega), if_pos (by omega), hcl, if_pos (by omega), if_pos (by omega), rd_at hj, valid05 _ _ (by omega) (by omega), wrap_id (by omega) (by omega)]
                rfl
              · rw [List.drop_eq_getElem_cons hj, List.all_cons]
                by_cases hv : validB c[j] n = true
                · simp only [if_pos hv]; rw [hv, Bool.true_and]; exact ih2
                · simp only [if_neg hv]
                  rw [eq_false_of_ne_true hv, Bool.false_and]
                  exact Ev.now _)
            refine Ev.step (f := fun k => PPartsSplit.censusref05_Check.l1 k (i : Int) 0 n L) (fun k => ?_) ?_
            · simp only [PPartsSplit.censusref05_Check.l0]
              rw [if_pos (by omega), if_pos (by omega), hcl, if_neg (by omega)]
            · rw [List.drop_zero] at in1
              refine Ev.get in1 ?_
              simp only [clausesF]; rw [if_neg h128])
        rw [List.drop_zero] at key
        refine Ev.step (f := fun k => PPartsSplit.censusref05_Check.l0 k 0 n L) (fun k => ?_) key
        simp only [PPartsSplit.censusref05_Check.j0, Bool.false_eq_true, if_false]
        rw [if_neg (by omega)]
/-- A valid theory and a valid term. -/
def okB (n : Int) (L : List (List Int)) (term : List Int) : Bool := if checkF n L = 0 then (if litsB term n then !oppB term else false) else false
theorem ev_valid16 (n : Int) (L : List (List Int)) (term : List Int) (hl : term.length ≤ 9223372036854775807) : Ev (fun k => PPartsSplit.censusref16_valid.f k n L term) (okB n L term) := by
  unfold PPartsSplit.censusref16_valid.f okB
  refine Ev.bind (f := fun k t196 => if t196 = 0 then (PPartsSplit.censusref04_All1.f k term n).bind fun t197 => (if t197 = true then ((PPartsSplit.censusref04_Opposite.f k term).bind fun t198 => (some (!t198))) else (some false)) else some false) (ev_check05 n L) ?_
  by_cases h : checkF n L = 0
  · simp only [if_pos h]
    refine Ev.bind (f := fun k t197 => (if t197 = true then ((PPartsSplit.censusref04_Opposite.f k term).bind fun t198 => (some (!t198))) else (some false))) (ev_all1 term n hl) ?_
    by_cases h2 : litsB term n = true
    · simp only [if_pos h2]
      exact Ev.bind (f := fun _ t198 => some (!t198)) (ev_opp04 term n h2 hl) (Ev.now _)
    · simp only [if_neg h2]; exact Ev.now _
  · simp only [if_neg h]; exact Ev.now _
end Go.Proofs.Ytbnjbjcokkcfcaa.Sol
namespace Go.Proofs.Ytbnjbjcokkcfcaa.Sol
open Go.RowKit Go.Proofs.YtbnjbjcokkcfcaaW.PrintWords Go.Proofs.Ytbnjbjcokkcfcaa.PSearchOwn
set_option linter.unusedVariables false
set_option linter.unusedSimpArgs false
def lensum (L : List (List Int)) : Nat := (L.map List.length).sum
theorem lensum_snoc (L : List (List Int)) (c : List Int) : lensum (L ++ [c]) = lensum L + c.length := by simp [lensum]
def few16 (L : List (List Int)) (l : List Int) : Bool := if L.length ≤ 100 then (if lensum L ≤ 600 then decide (l.length ≤ 100) else false) else false
/-- Neighbours that are opposite. -/
def adj : List Int → Bool
  | a :: b :: r => if b = -a then true else adj (b :: r)
  | _ => false
theorem ev_opposite (l : List Int) (hl : l.length ≤ 4096) (hw : ∀ x ∈ l, -9223372036854775807 ≤ x ∧ x ≤ 9223372036854775807) : Ev (fun k => PPartsSplit.lit_opposite.f k l) (adj l) := by
  unfold PPartsSplit.lit_opposite.f
  cases l with
  | nil =>
    refine Ev.step (f := fun _ => some false) (fun k => ?_) (Ev.now _)
    simp [PPartsSplit.lit_opposite.l0]
  | cons a r =>
    have key := down (n := r.length) (P := fun i => Ev (fun k => PPartsSplit.lit_opposite.l0 k (a :: r) ((i : Int) + 1)) (adj ((a :: r).drop i))) (by
      rw [show (a :: r).drop r.length = [(a :: r)[r.length]] from ?_]
      · refine Ev.step (f := fun _ => some false) (fun k => ?_) (Ev.now _)
        simp only [PPartsSplit.lit_opposite.l0]
        rw [if_neg (by simp)]
      · rw [List.drop_eq_getElem_cons (by simp), List.drop_eq_nil_of_le (by simp)]) (fun i hi ih => by
      have h1 : i < (a :: r).length := by simp; omega
      have h2 : i + 1 < (a :: r).length := by simp; omega
      obtain ⟨hw1, hw2⟩ := hw _ (List.getElem_mem h1)
      have hle : (a :: r).length ≤ 4096 := hl
      refine Ev.step (f := fun k => if (a :: r)[i + 1] = -(a :: r)[i] then some true else PPartsSplit.lit_opposite.l0 k (a :: r) (((i + 1 : Nat) : Int) + 1)) (fun k => ?_) ?_
      · simp only [PPartsSplit.lit_opposite.l0]
        have e1 : wrap64 ((i : Int) + 1 - 1) = (i : Int) := by rw [wrap_id (by omega) (by omega)]; omega
        have e2 : rd (a :: r) ((i : Int) + 1) = (a :: r)[i + 1] := rd_at h2
        rw [if_pos (by omega), if_pos (by omega), e1, if_pos (by omega), if_pos (by omega), e2, rd_at h1, wrap_id (i := -(a :: r)[i]) (by omega) (by omega), wrap_id (i := (i : Int) + 1 + 1) (by omega) (by omega)]
        rfl
      · rw [List.drop_eq_getElem_cons h2] at ih
        rw [List.drop_eq_getElem_cons h1, List.drop_eq_getElem_cons h2]
        by_cases h : (a :: r)[i + 1] = -(a :: r)[i]
        · simp only [if_pos h]; exact Ev.get (Ev.now _) (by simp only [adj]; rw [if_pos h])
        · simp only [if_neg h]; exact Ev.get ih (by simp only [adj]; rw [if_neg h]))
    exact key
theorem ev_same04 (a b : List Int) (ha : a.length ≤ 9223372036854775807) : Ev (fun k => PPartsSplit.censusref04_Same.f k a b) (decide (a = b)) := by
  unfold PPartsSplit.censusref04_Same.f
  by_cases hab : a.length = b.length
  · simp only [if_pos (show (a.length : Int) = (b.length : Int) by omega)]
    have key := down (n := a.length) (P := fun i => Ev (fun k => PPartsSplit.censusref04_Same.l0 k a b (i : Int)) (decide (a.drop i = b.drop i))) (by
      rw [List.drop_eq_nil_of_le (by omega), List.drop_eq_nil_of_le (by omega)]
      refine Ev.step (f := fun _ => some true) (fun k => ?_) (Ev.now _)
      simp only [PPartsSplit.censusref04_Same.l0]
      rw [if_neg (by omega)]) (fun i hlt ih => by
      have hlt2 : i < b.length := by omega
      refine Ev.step (f := fun k => if a[i] = b[i] then PPartsSplit.censusref04_Same.l0 k a b (wrap64 ((i : Int) + 1)) else some false) (fun k => ?_) ?_
      · simp only [PPartsSplit.censusref04_Same.l0]
        rw [if_pos (by omega), if_pos (by omega), if_pos (by omega), rd_at hlt, rd_at hlt2]
      · rw [List.drop_eq_getElem_cons hlt, List.drop_eq_getElem_cons hlt2, wrap_id (by omega) (by omega)]
        by_cases h : a[i] = b[i]
        · simp only [if_pos h, List.cons.injEq, h, true_and]
          exact ih
        · simp only [if_neg h, List.cons.injEq, h, false_and, decide_false]
          exact Ev.now _)
    rw [List.drop_zero, List.drop_zero] at key
    exact key
  · simp only [if_neg (show ¬ (a.length : Int) = (b.length : Int) by omega)]
    rw [decide_eq_false (fun h => hab (by rw [h]))]
    exact Ev.now _
theorem ev_stays (n : Int) (L : List (List Int)) (hL : L.length ≤ 4096) (hc : ∀ c ∈ L, c.length ≤ 1048576) : Ev (fun k => PPartsSplit.censuslaw16_stays.f k n L n L) true := by
  unfold PPartsSplit.censuslaw16_stays.f
  simp only [if_true, bne_self_eq_false]
  have key := down (n := L.length) (P := fun i => Ev (fun k => PPartsSplit.censuslaw16_stays.l0 k L (L.length : Int) (i : Int) n L) true) (by
    refine Ev.step (f := fun _ => some true) (fun k => ?_) (Ev.now _)
    simp only [PPartsSplit.censuslaw16_stays.l0]
    rw [if_neg (by omega)]) (fun i hi ih => by
    have h2 := hc L[i] (List.getElem_mem hi)
    refine Ev.step (f := fun k => (PPartsSplit.censusref04_Same.f k L[i] L[i]).bind fun t => if t = true then PPartsSplit.censuslaw16_stays.l0 k L (L.length : Int) ((i : Int) + 1) n L else some false) (fun k => ?_) ?_
    · simp only [PPartsSplit.censuslaw16_stays.l0]
      rw [if_pos (by omega), if_pos (by omega), if_pos (by omega), if_pos (by omega), rdP_at hi, wrap_id (by omega) (by omega)]
    · refine Ev.bind (f := fun k t => if t = true then PPartsSplit.censuslaw16_stays.l0 k L (L.length : Int) ((i : Int) + 1) n L else some false) (ev_same04 L[i] L[i] (by omega)) ?_
      simp only [decide_true, if_true]
      exact ih)
  refine Ev.step (f := fun k => PPartsSplit.censuslaw16_stays.l0 k L (L.length : Int) 0 n L) (fun k => ?_) key
  simp only [PPartsSplit.censuslaw16_stays.j0, Bool.false_eq_true, if_false]
section
variable {W : World} {AL A B : Option Addr} {cL c c2 : Nat} {N : Int} {L : List (List Int)} {l l2 : List Int}
theorem rest_calls (hl : Kd.C (Kd.int .i64) W A l.length l) (hc : l.length ≤ c) (hl2 : Kd.C (Kd.int .i64) W B l2.length l2) (hc2 : l2.length ≤ c2) (h1 : l.length ≤ 4096) (hw : ∀ x ∈ l, -9223372036854775807 ≤ x ∧ x ≤ 9223372036854775807) :
    Calls Try.prog 44 #[.slice A l.length c, .slice B l2.length c2] W fun e w' => ∃ v, e = .returned (.tuple #[v, .bool (leftB l l2)]) ∧ Kd.R (Kd.int .i64) 3 w' W.heap.size (fun _ => True) v (if leftB l l2 then restF l l2 else []) ∧ Below W.heap.size W w' := by
  have h := ev_rest l l2 h1 (Kd.C_max hl2) hw
  rw [show (if leftB l l2 then (restF l l2, true) else ([], false)) = ((if leftB l l2 then restF l l2 else [], leftB l l2) : List Int × Bool) by cases leftB l l2 <;> rfl] at h
  obtain ⟨k, hk⟩ := h.rounds
  exact PPartsSplit.parts_rest.calls k A c l B c2 l2 _ _ W hl hc hl2 hc2 hk
theorem left_calls (hl : Kd.C (Kd.int .i64) W A l.length l) (hc : l.length ≤ c) (hl2 : Kd.C (Kd.int .i64) W B l2.length l2) (hc2 : l2.length ≤ c2) :
    Calls Try.prog 48 #[.slice A l.length c, .slice B l2.length c2] W fun e w' => e = .returned (.bool (leftB l l2)) ∧ Drawn0 W w' := by
  obtain ⟨k, hk⟩ := (ev_left l l2 (Kd.C_max hl) (Kd.C_max hl2)).rounds
  exact PPartsSplit.censusref16_Left.calls k A c l B c2 l2 _ W hl hc hl2 hc2 hk
theorem rest16_calls (hl : Kd.C (Kd.int .i64) W A l.length l) (hc : l.length ≤ c) (hl2 : Kd.C (Kd.int .i64) W B l2.length l2) (hc2 : l2.length ≤ c2) (h1 : l.length ≤ 4096) (hw : ∀ x ∈ l, -9223372036854775807 ≤ x ∧ x ≤ 9223372036854775807) :
    Calls Try.prog 77 #[.slice A l.length c, .slice B l2.length c2] W fun e w' => ∃ v, e = .returned v ∧ Kd.R (Kd.int .i64) 3 w' W.heap.size (fun _ => True) v (restF l l2) ∧ Below W.heap.size W w' := by
  obtain ⟨k, hk⟩ := (ev_rest16 l l2 h1 (Kd.C_max hl2) hw).rounds
  exact PPartsSplit.censusref16_Rest.calls k A c l B c2 l2 _ W hl hc hl2 hc2 hk
theorem valid16_calls (hL : Kd.C (Kd.slice 3 (Kd.int .i64)) W AL L.length L) (hcL : L.length ≤ cL) (hl : Kd.C (Kd.int .i64) W A l.length l) (hc : l.length ≤ c) :
    Calls Try.prog 46 #[.agg #[.int .i64 N, .slice AL L.length cL], .slice A l.length c] W fun e w' => e = .returned (.bool (okB N L l)) ∧ Below W.heap.size W w' := by
  obtain ⟨k, hk⟩ := (ev_valid16 N L l (Kd.C_max hl)).rounds
  exact PPartsSplit.censusref16_valid.calls k N AL cL L A c l _ W hL hcL hl hc hk
theorem check_calls (hL : Kd.C (Kd.slice 3 (Kd.int .i64)) W AL L.length L) (hcL : L.length ≤ cL) :
    Calls Try.prog 31 #[.agg #[.int .i64 N, .slice AL L.length cL]] W fun e w' => e = .returned (.int .i64 (checkF N L)) ∧ Below W.heap.size W w' := by
  obtain ⟨k, hk⟩ := (ev_check N L (Kd.C_max hL)).rounds
  exact theory_Check.calls k N AL cL L _ W hL hcL hk
theorem opposite_calls (hl : Kd.C (Kd.int .i64) W A l.length l) (hc : l.length ≤ c) (h1 : l.length ≤ 4096) (hw : ∀ x ∈ l, -9223372036854775807 ≤ x ∧ x ≤ 9223372036854775807) :
    Calls Try.prog 90 #[.slice A l.length c] W fun e w' => e = .returned (.bool (adj l)) ∧ Drawn0 W w' := by
  obtain ⟨k, hk⟩ := (ev_opposite l h1 hw).rounds
  exact PPartsSplit.lit_opposite.calls k A c l _ W hl hc hk
theorem same04_calls (hl : Kd.C (Kd.int .i64) W A l.length l) (hc : l.length ≤ c) (hl2 : Kd.C (Kd.int .i64) W B l2.length l2) (hc2 : l2.length ≤ c2) :
    Calls Try.prog 19 #[.slice A l.length c, .slice B l2.length c2] W fun e w' => e = .returned (.bool (decide (l = l2))) ∧ Drawn0 W w' := by
  obtain ⟨k, hk⟩ := (ev_same04 l l2 (Kd.C_max hl)).rounds
  exact PPartsSplit.censusref04_Same.calls k A c l B c2 l2 _ W hl hc hl2 hc2 hk
theorem stays_calls {A2 : Option Addr} (hL : Kd.C (Kd.slice 3 (Kd.int .i64)) W AL L.length L) (hcL : L.length ≤ cL) (hL2 : Kd.C (Kd.slice 3 (Kd.int .i64)) W A2 L.length L) (hcL2 : L.length ≤ c2) (h1 : L.length ≤ 4096) (h2 : ∀ c ∈ L, c.length ≤ 1048576) :
    Calls Try.prog 20 #[.agg #[.int .i64 N, .slice AL L.length cL], .agg #[.int .i64 N, .slice A2 L.length c2]] W fun e w' => e = .returned (.bool true) ∧ Below W.heap.size W w' := by
  obtain ⟨k, hk⟩ := (ev_stays N L h1 h2).rounds
  exact PPartsSplit.censuslaw16_stays.calls k N AL cL L N A2 c2 L _ W hL hcL hL2 hcL2 hk
theorem varL_calls (a : Int) : Calls Try.prog 28 #[.int .i64 a] W fun e w' => e = .returned (.int .i64 (varOf a)) ∧ Drawn0 W w' := by
  obtain ⟨k, hk⟩ := (ev_var a).rounds
  exact lit_Var.calls k a _ W hk
theorem var04_calls (a : Int) : Calls Try.prog 75 #[.int .i64 a] W fun e w' => e = .returned (.int .i64 (varOf a)) ∧ Drawn0 W w' := by
  obtain ⟨k, hk⟩ := (ev_var04 a).rounds
  exact PPartsSplit.censusref04_Var.calls k a _ W hk
theorem validL_calls (a n : Int) : Calls Try.prog 32 #[.int .i64 a, .int .i64 n] W fun e w' => e = .returned (.bool (validB a n)) ∧ Drawn0 W w' := by
  obtain ⟨k, hk⟩ := (ev_valid a n).rounds
  exact lit_Valid.calls k a n _ W hk
end
end Go.Proofs.Ytbnjbjcokkcfcaa.Sol
namespace Go.Proofs.Ytbnjbjcokkcfcaa.Sol
open Go.RowKit Go.Proofs.YtbnjbjcokkcfcaaW.PrintWords Go.Proofs.YtbnjbjcokkcfcaaW.PrintLast Go.Proofs.YtbnjbjcokkcfcaaW.PrintMore Go.Proofs.Ytbnjbjcokkcfcaa.PSearchOwn
set_option linter.unusedVariables false
set_option linter.unusedSimpArgs false
section
variable {w0 W : World} {g gv : Nat} {N : Int} {AL : Option Addr} {cL : Nat} {L : List (List Int)} {vs ts : List Int} {tv : Value}
end
end Go.Proofs.Ytbnjbjcokkcfcaa.Sol
namespace Go.Proofs.Ytbnjbjcokkcfcaa.Sol
open Go.RowKit Go.Proofs.YtbnjbjcokkcfcaaW.PrintWords Go.Proofs.YtbnjbjcokkcfcaaW.PrintLast Go.Proofs.YtbnjbjcokkcfcaaW.PrintMore Go.Proofs.Ytbnjbjcokkcfcaa.PSearchOwn
set_option linter.unusedVariables false
set_option linter.unusedSimpArgs false
section
variable {w0 W w1 : World} {g gv : Nat} {N : Int} {AL : Option Addr} {cL : Nat} {L : List (List Int)} {vs ts : List Int} {tv v1 : Value}
end
end Go.Proofs.Ytbnjbjcokkcfcaa.Sol
namespace Go.Proofs.Ytbnjbjcokkcfcaa.Sol
open Go.RowKit Go.Proofs.YtbnjbjcokkcfcaaW.PrintWords Go.Proofs.YtbnjbjcokkcfcaaW.PrintLast Go.Proofs.YtbnjbjcokkcfcaaW.PrintMore Go.Proofs.Ytbnjbjcokkcfcaa.PSearchOwn
set_option linter.unusedVariables false
set_option linter.unusedSimpArgs false
theorem rd_int {w : World} {A : Option Addr} {n : Nat} {xs : List Int} (h : (Kd.int .i64).C w A n xs) (j : Nat) (hj : j < n) : ∃ ad, A = some ad ∧ w.cell? (ad.add j) = some (.int .i64 (xs.getD j 0)) := by
  obtain ⟨ad, c, e, _, hK, hc0⟩ := Kd.C_get h (0 : Int) (j : Int) (by omega) (by omega)
  have hc : ∀ i u, c[i]? = some u → w.cell? (ad.add ((j : Int).toNat * 1 + i)) = some u := hc0
  have hK' : c = [.int .i64 (xs.getD (j : Int).toNat 0)] := hK
  refine ⟨ad, e, ?_⟩
  have := hc 0 (.int .i64 (xs.getD j 0)) (by rw [hK']; simp)
  simpa using this
theorem rd_row {w : World} {A : Option Addr} {n : Nat} {xs : List (List Int)} (h : (Kd.slice 3 (Kd.int .i64)).C w A n xs) (j : Nat) (hj : j < n) : ∃ ad A0 c0, A = some ad ∧ w.cell? (ad.add j) = some (.slice A0 (xs.getD j []).length c0) ∧ (xs.getD j []).length ≤ c0 ∧ (Kd.int .i64).C w A0 (xs.getD j []).length (xs.getD j []) := by
  obtain ⟨ad, A0, c0, e, h1, h2, h3⟩ := at_L1 h (j : Int) (by omega) (by omega)
  exact ⟨ad, A0, c0, e, by simpa [rd_L1] using h1, by simpa [rd_L1] using h2, by simpa [rd_L1] using h3⟩
end Go.Proofs.Ytbnjbjcokkcfcaa.Sol
namespace Go.Proofs.Ytbnjbjcokkcfcaa.Sol
open Go.RowKit Go.Proofs.YtbnjbjcokkcfcaaW.PrintWords Go.Proofs.YtbnjbjcokkcfcaaW.PrintLast Go.Proofs.YtbnjbjcokkcfcaaW.PrintMore Go.Proofs.Ytbnjbjcokkcfcaa.PSearchOwn
set_option linter.unusedVariables false
set_option linter.unusedSimpArgs false
theorem place_calls (v : Nat) (h1 : 1 ≤ v) (h2 : v ≤ 128) (W : World) :
    Calls Try.prog 71 #[.int .i64 (v : Int)] W fun e w' => e = .returned (.tuple #[.int .i64 (((v - 1) / 64 : Nat) : Int), .int .u64 ((2 ^ ((v - 1) % 64) : Nat) : Int), .bool true]) ∧ Drawn0 W w' := by
  refine (vars_place.calls (v : Int) _ _ true W ?_)
  unfold vars_place.f
  rw [if_neg (by omega), if_neg (by omega)]
  have e1 : wrap64 ((v : Int) - 1) = ((v - 1 : Nat) : Int) := by unfold wrap64; omega
  rw [e1]
  have e2 : Int.tmod (((v - 1 : Nat) : Int)) 64 = (((v - 1) % 64 : Nat) : Int) := by rw [Int.tmod_eq_emod_of_nonneg (by omega)]; omega
  have e3 : Int.tdiv (((v - 1 : Nat) : Int)) 64 = (((v - 1) / 64 : Nat) : Int) := by rw [Int.tdiv_eq_ediv_of_nonneg (by omega)]; omega
  rw [e2, e3]
  have e4 : IntKind.u64.wrap ((((v - 1) % 64 : Nat) : Int)) = (((v - 1) % 64 : Nat) : Int) := by simp [IntKind.wrap, IntKind.bits, IntKind.signed]; omega
  rw [e4, if_pos (by omega)]
  have e5 : wrap64 ((((v - 1) / 64 : Nat) : Int)) = (((v - 1) / 64 : Nat) : Int) := by unfold wrap64; omega
  rw [e5]
  have e6 : shl .u64 1 ((((v - 1) % 64 : Nat) : Int)) = ((2 ^ ((v - 1) % 64) : Nat) : Int) := by
    have h64 : (v - 1) % 64 < 64 := Nat.mod_lt _ (by decide)
    generalize (v - 1) % 64 = k at h64
    unfold shl
    have : min (k : Int).toNat IntKind.u64.bits = k := by simp [IntKind.bits]; omega
    rw [this]
    have h3 : (2 : Nat) ^ k < 2 ^ 64 := Nat.pow_lt_pow_right (by decide) h64
    have h4 : (1 * 2 ^ k : Int) = ((2 ^ k : Nat) : Int) := by simp
    rw [h4]
    generalize (2 ^ k : Nat) = p at h3
    simp only [IntKind.wrap, IntKind.bits, IntKind.signed]
    simp
    omega
  rw [e6]
/-- A set with one more variable. -/
def withS (s : Nat × Nat) (v : Nat) : Nat × Nat := if v ≤ 64 then (s.1 ||| 2 ^ (v - 1), s.2) else (s.1, s.2 ||| 2 ^ (v - 65))
abbrev setV2 (s : Nat × Nat) : Value := .agg #[.int .u64 (s.1 : Int), .int .u64 (s.2 : Int)]
theorem wraps_u64 (n : Int) (h0 : 0 ≤ n) (h1 : n < 2 ^ 64) : IntKind.u64.wrap n = n := by simp [IntKind.wrap, IntKind.bits, IntKind.signed]; omega
theorem or_u64 (a b : Nat) (ha : a < 2 ^ 64) (hb : b < 2 ^ 64) : bits .or .u64 (a : Int) (b : Int) = ((a ||| b : Nat) : Int) := (bits_nat .u64 64 (by decide) wraps_u64 a b ha hb).2
theorem and_u64 (a b : Nat) (ha : a < 2 ^ 64) (hb : b < 2 ^ 64) : bits .and .u64 (a : Int) (b : Int) = ((a &&& b : Nat) : Int) := (bits_nat .u64 64 (by decide) wraps_u64 a b ha hb).1
theorem size34 : (Try.prog.info? 34).map (·.size) = some 2 := by kernel_rfl
set_option maxHeartbeats 1000000 in
theorem with_calls (s : Nat × Nat) (v : Nat) (h1 : 1 ≤ v) (h2 : v ≤ 128) (W : World) (ha : s.1 < 2 ^ 64) (hb : s.2 < 2 ^ 64) :
    Calls Try.prog 45 #[setV2 s, .int .i64 (v : Int)] W fun e w' => e = .returned (setV2 (withS s v)) ∧ Below W.heap.size W w' := by
  obtain ⟨a, b⟩ := s
  have HP := Aside0.mk (fun W => place_calls v h1 h2 W)
  by_cases h : v ≤ 64
  · have e1 : (v - 1) / 64 = 0 := by omega
    have e2 : (v - 1) % 64 = v - 1 := by omega
    rw [e1, e2] at HP
    have e3 : withS (a, b) v = (a ||| 2 ^ (v - 1), b) := by unfold withS; rw [if_pos h]
    rw [e3]
    have hp : (2 ^ (v - 1) : Nat) < 2 ^ 64 := Nat.pow_lt_pow_right (by decide) (by omega)
    clear e1 e2 e3
    generalize (2 ^ (v - 1) : Nat) = p at hp HP ⊢
    have HO := Aside0.mk (or_u64 a p ha hp)
    clear ha hb hp
    go_enter Try.func45, Try.ntmps45
    go_wp2_with (go_at_call 71; refine (HP.out _).mono ?_; rintro e w' ⟨rfl, ⟨n, rfl⟩⟩)
    rw [HO.out]
    refine bodyPost_ret (results_cell_row rfl _ _ (W.heap.size + 1) 34 #[.int .u64 ((a ||| p : Nat) : Int), .int .u64 (b : Int)] (0, 0) _ rfl ?_ Try.underlying34 rfl size34) rfl ⟨rfl, ?_⟩
    · have h0 : (W.alloc (.cells #[.int .u64 (a : Int), .int .u64 (b : Int)] 34)).heap.size = W.heap.size + 1 := by simp
      have hb1 := blk_new (W.alloc (.cells #[.int .u64 (a : Int), .int .u64 (b : Int)] 34)) (.cells #[.int .u64 0, .int .u64 0] 34)
      rw [h0] at hb1
      exact blk_put (blk_put (blk_far (p := ⟨W.heap.size, 0, none⟩) (blk_drewN hb1 n) (by show _ ≠ W.heap.size; omega) _) 0 _ rfl) 1 _ rfl
    · exact below_set (below_set (below_set (pw_below_drewN (below_alloc (below_alloc (Below.refl _ _) _) _) n) (Nat.le_refl _)) (Nat.le_succ _)) (Nat.le_succ _)
  · have e1 : (v - 1) / 64 = 1 := by omega
    have e2 : (v - 1) % 64 = v - 65 := by omega
    rw [e1, e2] at HP
    have e3 : withS (a, b) v = (a, b ||| 2 ^ (v - 65)) := by unfold withS; rw [if_neg h]
    rw [e3]
    have hp : (2 ^ (v - 65) : Nat) < 2 ^ 64 := Nat.pow_lt_pow_right (by decide) (by omega)
    clear e1 e2 e3
    generalize (2 ^ (v - 65) : Nat) = p at hp HP ⊢
    have HO := Aside0.mk (or_u64 b p hb hp)
    clear ha hb hp
    go_enter Try.func45, Try.ntmps45
    go_wp2_with (go_at_call 71; refine (HP.out _).mono ?_; rintro e w' ⟨rfl, ⟨n, rfl⟩⟩)
    rw [HO.out]
    refine bodyPost_ret (results_cell_row rfl _ _ (W.heap.size + 1) 34 #[.int .u64 (a : Int), .int .u64 ((b ||| p : Nat) : Int)] (0, 0) _ rfl ?_ Try.underlying34 rfl size34) rfl ⟨rfl, ?_⟩
    · have h0 : (W.alloc (.cells #[.int .u64 (a : Int), .int .u64 (b : Int)] 34)).heap.size = W.heap.size + 1 := by simp
      have hb1 := blk_new (W.alloc (.cells #[.int .u64 (a : Int), .int .u64 (b : Int)] 34)) (.cells #[.int .u64 0, .int .u64 0] 34)
      rw [h0] at hb1
      exact blk_put (blk_put (blk_far (p := ⟨W.heap.size, 1, none⟩) (blk_drewN hb1 n) (by show _ ≠ W.heap.size; omega) _) 0 _ rfl) 1 _ rfl
    · exact below_set (below_set (below_set (pw_below_drewN (below_alloc (below_alloc (Below.refl _ _) _) _) n) (Nat.le_refl _)) (Nat.le_succ _)) (Nat.le_succ _)
end Go.Proofs.Ytbnjbjcokkcfcaa.Sol
namespace Go.Proofs.Ytbnjbjcokkcfcaa.Sol
open Go.Shelf
end Go.Proofs.Ytbnjbjcokkcfcaa.Sol
namespace Go.Proofs.Ytbnjbjcokkcfcaa.Sol
open Go.RowKit Go.Proofs.YtbnjbjcokkcfcaaW.PrintWords Go.Proofs.YtbnjbjcokkcfcaaW.PrintLast Go.Proofs.YtbnjbjcokkcfcaaW.PrintMore Go.Proofs.Ytbnjbjcokkcfcaa.PSearchOwn
set_option linter.unusedVariables false
set_option linter.unusedSimpArgs false
/-- What Clone leaves. -/
def Cloned (W : World) (xs : List Int) (e : Ending) (w' : World) : Prop :=
  ∃ v', e = .returned v' ∧ w'.ownsRow W.heap.size 3 1 v' xs.length (nums .i64 xs) ∧ Below W.heap.size W w'
set_option maxHeartbeats 2000000 in
set_option maxRecDepth 100000 in
theorem clone_calls (W : World) {A : Option Addr} {c : Nat} {xs : List Int} (hA : (Kd.int .i64).C W A xs.length xs) (hc : xs.length ≤ c) (hbig : xs.length * 8 ≤ 140737488355328) (hnil : A = none → c = 0) :
    Calls Try.prog 36 #[.slice A xs.length c] W (Cloned W xs) := by
  have q25 : ∀ (w : World) (a : Option Addr) (n c n' c' : Nat), (binOp .eql 25 (.slice a n c) (.slice none n' c')).run Try.prog w = .ok (.bool a.isNone) w := fun w a n c n' c' => Lib.run_eql_slice_nil w _ _ a n c n' c' Try.underlying25
  obtain ⟨i0, hi, hx⟩ := Option.map_eq_some_iff.1 info3
  simp only [Prod.mk.injEq] at hx
  obtain ⟨hz0, hz1, hz2⟩ := hx
  have HA := Aside0.mk hA
  clear hA
  cases A with
  | none =>
    have h0 : xs = [] := by
      rcases xs with _ | ⟨x, r⟩
      · rfl
      · obtain ⟨ad, h, _⟩ := rd_int HA.out 0 (by simp)
        cases h
    subst h0
    go_enter Try.func36, Try.ntmps36
    go_wp2
    go_ret
    exact ⟨_, rfl, own_nil _ _ _ _, Below.refl _ _⟩
  | some ad =>
    clear hnil
    go_enter Try.func36, Try.ntmps36
    go_wp2_with (at_builtin; refine wpList_append_own _ rfl _ _ 25 rfl W.heap.size 3 i0 (.int .i64 0) 1 8 Try.underlying25 hi hz0 hz1 hz2 rfl (by decide) _ _ _ rfl (World.ownsRow_made W #[] 0 (Nat.le_refl _) (Nat.zero_le _) rfl) ad xs.length c (nums .i64 xs) rfl ?qc1 ?qc2 ?qc3 ?qc4 ?qc5 ?qc6 ?_)
    case qc1 => simp [nums]
    case qc2 =>
      intro j u hj
      have hjn : j < xs.length := by
        have := (List.getElem?_eq_some_iff.1 hj).1
        simpa [nums] using this
      obtain ⟨ad2, h, hcell⟩ := rd_int HA.out j hjn
      cases h
      refine Lib.cell?_alloc_some _ ?_
      rw [hcell]
      simp [nums, List.getElem?_eq_getElem hjn] at hj
      rw [← hj]
      simp [List.getD_eq_getElem?_getD, List.getElem?_eq_getElem hjn]
    case qc3 => intro u hu; obtain ⟨x, _, rfl⟩ := List.mem_map.1 hu; rfl
    case qc4 => unfold maxLen; omega
    case qc5 => omega
    case qc6 => simp
    intro v' w1 hown hgrow hnil
    go_wp2
    go_ret
    refine ⟨v', rfl, by simpa using hown, ?_⟩
    exact ((Below.refl _ W).alloc (Nat.le_refl _) _).grown hgrow (by simp) (by intro k hk; simp [Value.ownBlock] at hk; omega)
end Go.Proofs.Ytbnjbjcokkcfcaa.Sol
namespace Go.Proofs.Ytbnjbjcokkcfcaa.Sol
open Go.RowKit Go.Proofs.YtbnjbjcokkcfcaaW.PrintWords Go.Proofs.YtbnjbjcokkcfcaaW.PrintLast Go.Proofs.YtbnjbjcokkcfcaaW.PrintMore Go.Proofs.Ytbnjbjcokkcfcaa.PSearchOwn
set_option linter.unusedVariables false
set_option linter.unusedSimpArgs false
theorem own_C {w : World} {base n : Nat} {v : Value} {xs : List Int} (h : w.ownsRow base 3 1 v n (nums .i64 xs)) : ∃ A c, v = .slice A n c ∧ (Kd.int .i64).C w A n xs ∧ n ≤ c ∧ (A = none → c = 0) ∧ xs.length = n := by
  obtain ⟨A, c, rfl, hr⟩ := own_reads h
  have hl : xs.length = n := hr.1
  refine ⟨A, c, rfl, Kd.C_of_reads (d := (0 : Int)) ⟨hr.1, hr.2.1, hr.2.2⟩, ?_, ?_, hl⟩
  · rcases h.2 with ⟨e, h0⟩ | ⟨g, cap, cur, e, _, _, h1, _⟩
    · injection e with _ _ e; omega
    · injection e with _ _ e; omega
  · rintro rfl
    rcases h.2 with ⟨e, h0⟩ | ⟨g, cap, cur, e, _⟩
    · injection e
    · injection e with e; cases e
end Go.Proofs.Ytbnjbjcokkcfcaa.Sol
namespace Go.Proofs.Ytbnjbjcokkcfcaa.Sol
set_option linter.unusedVariables false
set_option linter.unusedSimpArgs false
def SOk (s : Nat × Nat) : Prop := s.1 < 2 ^ 64 ∧ s.2 < 2 ^ 64
def memS (s : Nat × Nat) (v : Nat) : Bool := if v ≤ 64 then s.1.testBit (v - 1) else s.2.testBit (v - 65)
def withoutS (s : Nat × Nat) (v : Nat) : Nat × Nat := if v ≤ 64 then (s.1 &&& (18446744073709551615 - 2 ^ (v - 1)), s.2) else (s.1, s.2 &&& (18446744073709551615 - 2 ^ (v - 65)))
def joinS (s t : Nat × Nat) : Nat × Nat := (s.1 ||| t.1, s.2 ||| t.2)
def meetS (s t : Nat × Nat) : Bool := if s.1 &&& t.1 ≠ 0 then true else decide (s.2 &&& t.2 ≠ 0)
def allS (n : Nat) : Nat × Nat := (List.range n).foldl (fun s i => withS s (i + 1)) (0, 0)
def varsS (l : List Int) : Nat × Nat := l.foldl (fun s x => withS s (varOf x).toNat) (0, 0)
def leastS (s : Nat × Nat) : Nat := ((List.range 128).find? (fun i => memS s (i + 1))).elim 0 (· + 1)
theorem SOk.zero : SOk (0, 0) := ⟨by decide, by decide⟩
theorem pow_lt64 {k : Nat} (h : k < 64) : 2 ^ k < 2 ^ 64 := Nat.pow_lt_pow_right (by decide) h
theorem SOk.with {s : Nat × Nat} (h : SOk s) {v : Nat} (h1 : 1 ≤ v) (h2 : v ≤ 128) : SOk (withS s v) := by
  unfold withS
  by_cases hv : v ≤ 64
  · rw [if_pos hv]; exact ⟨Nat.or_lt_two_pow h.1 (pow_lt64 (by omega)), h.2⟩
  · rw [if_neg hv]; exact ⟨h.1, Nat.or_lt_two_pow h.2 (pow_lt64 (by omega))⟩
theorem sub_lt64 (x : Nat) : 18446744073709551615 - x < 2 ^ 64 := Nat.lt_of_le_of_lt (Nat.sub_le _ _) (by decide)
theorem SOk.without {s : Nat × Nat} (h : SOk s) (v : Nat) : SOk (withoutS s v) := by
  unfold withoutS
  by_cases hv : v ≤ 64
  · rw [if_pos hv]; exact ⟨Nat.and_lt_two_pow _ (sub_lt64 _), h.2⟩
  · rw [if_neg hv]; exact ⟨h.1, Nat.and_lt_two_pow _ (sub_lt64 _)⟩
theorem SOk.join {s t : Nat × Nat} (h : SOk s) (k : SOk t) : SOk (joinS s t) := ⟨Nat.or_lt_two_pow h.1 k.1, Nat.or_lt_two_pow h.2 k.2⟩
theorem mem_zero (v : Nat) : memS (0, 0) v = false := by unfold memS; split <;> exact Nat.zero_testBit _
theorem mem_with (s : Nat × Nat) {v u : Nat} (h1 : 1 ≤ v) (h3 : 1 ≤ u) : memS (withS s v) u = (memS s u || decide (u = v)) := by
  unfold withS memS
  by_cases hv : v ≤ 64
  · rw [if_pos hv]
    by_cases hu : u ≤ 64
    · rw [if_pos hu, if_pos hu]
      simp only [Nat.testBit_or, Nat.testBit_two_pow]
      exact congrArg (fun b => s.1.testBit (u - 1) || b) (decide_eq_decide.2 (by omega))
    · rw [if_neg hu, if_neg hu, decide_eq_false (by omega), Bool.or_false]
  · rw [if_neg hv]
    by_cases hu : u ≤ 64
    · rw [if_pos hu, if_pos hu, decide_eq_false (by omega), Bool.or_false]
    · rw [if_neg hu, if_neg hu]
      simp only [Nat.testBit_or, Nat.testBit_two_pow]
      exact congrArg (fun b => s.2.testBit (u - 65) || b) (decide_eq_decide.2 (by omega))
theorem bit_not {k i : Nat} (h : k < 64) (hi : i < 64) : (18446744073709551615 - 2 ^ k).testBit i = !decide (i = k) := by
  have := Nat.testBit_two_pow_sub_succ (pow_lt64 h) i
  rw [show 18446744073709551615 - 2 ^ k = 2 ^ 64 - (2 ^ k + 1) by have := pow_lt64 h; omega, this, decide_eq_true hi, Bool.true_and, Nat.testBit_two_pow]
  exact congrArg (fun b => !b) (decide_eq_decide.2 (by omega))
theorem mem_without (s : Nat × Nat) {v u : Nat} (h1 : 1 ≤ v) (h2 : v ≤ 128) (h3 : 1 ≤ u) (h4 : u ≤ 128) : memS (withoutS s v) u = (memS s u && !decide (u = v)) := by
  unfold withoutS memS
  by_cases hv : v ≤ 64
  · rw [if_pos hv]
    by_cases hu : u ≤ 64
    · rw [if_pos hu, if_pos hu]
      simp only [Nat.testBit_and]
      rw [bit_not (by omega) (by omega)]
      exact congrArg (fun b => s.1.testBit (u - 1) && !b) (decide_eq_decide.2 (by omega))
    · rw [if_neg hu, if_neg hu, decide_eq_false (by omega)]; simp
  · rw [if_neg hv]
    by_cases hu : u ≤ 64
    · rw [if_pos hu, if_pos hu, decide_eq_false (by omega)]; simp
    · rw [if_neg hu, if_neg hu]
      simp only [Nat.testBit_and]
      rw [bit_not (by omega) (by omega)]
      exact congrArg (fun b => s.2.testBit (u - 65) && !b) (decide_eq_decide.2 (by omega))
theorem mem_join (s t : Nat × Nat) (u : Nat) : memS (joinS s t) u = (memS s u || memS t u) := by
  unfold joinS memS
  by_cases hu : u ≤ 64
  · simp only [if_pos hu, Nat.testBit_or]
  · simp only [if_neg hu, Nat.testBit_or]
theorem setS_ext {s t : Nat × Nat} (hs : SOk s) (ht : SOk t) (h : ∀ v, 1 ≤ v → v ≤ 128 → memS s v = memS t v) : s = t := by
  refine Prod.ext ?_ ?_
  · refine Nat.eq_of_testBit_eq fun i => ?_
    by_cases hi : i < 64
    · have := h (i + 1) (by omega) (by omega)
      unfold memS at this
      rwa [if_pos (by omega), if_pos (by omega)] at this
    · have hp : 2 ^ 64 ≤ 2 ^ i := Nat.pow_le_pow_right (by decide) (by omega)
      rw [Nat.testBit_lt_two_pow (Nat.lt_of_lt_of_le hs.1 hp), Nat.testBit_lt_two_pow (Nat.lt_of_lt_of_le ht.1 hp)]
  · refine Nat.eq_of_testBit_eq fun i => ?_
    by_cases hi : i < 64
    · have := h (i + 65) (by omega) (by omega)
      unfold memS at this
      rwa [if_neg (by omega), if_neg (by omega)] at this
    · have hp : 2 ^ 64 ≤ 2 ^ i := Nat.pow_le_pow_right (by decide) (by omega)
      rw [Nat.testBit_lt_two_pow (Nat.lt_of_lt_of_le hs.2 hp), Nat.testBit_lt_two_pow (Nat.lt_of_lt_of_le ht.2 hp)]
theorem and_ne {a b : Nat} (ha : a < 2 ^ 64) : a &&& b ≠ 0 ↔ ∃ i, i < 64 ∧ a.testBit i = true ∧ b.testBit i = true := by
  constructor
  · intro h
    obtain ⟨i, hi⟩ := Nat.exists_testBit_of_ne_zero h
    rw [Nat.testBit_and, Bool.and_eq_true] at hi
    refine ⟨i, ?_, hi⟩
    refine Nat.lt_of_not_le fun h64 => ?_
    have hp : 2 ^ 64 ≤ 2 ^ i := Nat.pow_le_pow_right (by decide) h64
    rw [Nat.testBit_lt_two_pow (Nat.lt_of_lt_of_le ha hp)] at hi
    cases hi.1
  · rintro ⟨i, _, h1, h2⟩ h0
    have : (a &&& b).testBit i = true := by rw [Nat.testBit_and, h1, h2]; rfl
    rw [h0, Nat.zero_testBit] at this
    cases this
theorem meet_iff {s t : Nat × Nat} (hs : SOk s) : meetS s t = true ↔ ∃ v, 1 ≤ v ∧ v ≤ 128 ∧ memS s v = true ∧ memS t v = true := by
  unfold meetS
  constructor
  · intro h
    split at h
    · rename_i h1
      obtain ⟨i, hi, h2, h3⟩ := (and_ne hs.1).1 h1
      refine ⟨i + 1, by omega, by omega, ?_, ?_⟩ <;> (unfold memS; rw [if_pos (by omega)]; assumption)
    · obtain ⟨i, hi, h2, h3⟩ := (and_ne hs.2).1 (of_decide_eq_true h)
      refine ⟨i + 65, by omega, by omega, ?_, ?_⟩ <;> (unfold memS; rw [if_neg (by omega)]; assumption)
  · rintro ⟨v, h1, h2, h3, h4⟩
    unfold memS at h3 h4
    by_cases hv : v ≤ 64
    · rw [if_pos hv] at h3 h4
      rw [if_pos ((and_ne hs.1).2 ⟨v - 1, by omega, h3, h4⟩)]
    · rw [if_neg hv] at h3 h4
      split
      · rfl
      · exact decide_eq_true ((and_ne hs.2).2 ⟨v - 65, by omega, h3, h4⟩)
theorem allS_succ (n : Nat) : allS (n + 1) = withS (allS n) (n + 1) := by unfold allS; rw [List.range_succ, List.foldl_append]; rfl
theorem SOk.all (n : Nat) (h : n ≤ 128) : SOk (allS n) := by
  induction n with
  | zero => exact SOk.zero
  | succ n ih => rw [allS_succ]; exact (ih (by omega)).with (by omega) (by omega)
theorem mem_all (n u : Nat) (hu : 1 ≤ u) : memS (allS n) u = decide (u ≤ n) := by
  induction n with
  | zero => rw [show allS 0 = (0, 0) from rfl, mem_zero, decide_eq_false (by omega)]
  | succ n ih =>
    rw [allS_succ, mem_with _ (by omega) hu, ih]
    by_cases h : u ≤ n
    · rw [decide_eq_true h, decide_eq_true (show u ≤ n + 1 by omega)]; rfl
    · rw [decide_eq_false h, Bool.false_or]
      exact decide_eq_decide.2 (by omega)
/-- Literals. -/
def Lits (l : List Int) : Prop := ∀ x ∈ l, varOf x ≠ 0
theorem varOf_le (x : Int) : varOf x ≤ 128 ∧ 0 ≤ varOf x := by unfold varOf; split <;> (try split) <;> omega
theorem varsS_snoc (l : List Int) (x : Int) : varsS (l ++ [x]) = withS (varsS l) (varOf x).toNat := by unfold varsS; rw [List.foldl_append]; rfl
theorem vars_all (l : List Int) (hl : Lits l) : SOk (varsS l) ∧ ∀ u, 1 ≤ u → memS (varsS l) u = l.any (fun x => decide ((varOf x).toNat = u)) := by
  have key : ∀ (l : List Int) (s : Nat × Nat), Lits l → SOk s → SOk (l.foldl (fun s x => withS s (varOf x).toNat) s) ∧ ∀ u, 1 ≤ u → memS (l.foldl (fun s x => withS s (varOf x).toNat) s) u = (memS s u || l.any (fun x => decide ((varOf x).toNat = u))) := by
    intro l
    induction l with
    | nil => intro s _ hs; exact ⟨hs, fun u _ => by simp⟩
    | cons x r ih =>
      intro s hl hs
      have hx := hl x (by simp)
      have hx2 := varOf_le x
      obtain ⟨h1, h2⟩ := ih (withS s (varOf x).toNat) (fun y hy => hl y (by simp [hy])) (hs.with (by omega) (by omega))
      refine ⟨h1, fun u hu => ?_⟩
      rw [List.foldl_cons, h2 u hu, mem_with _ (by omega) hu, List.any_cons, Bool.or_assoc]
      exact congrArg (fun b => memS s u || (b || _)) (decide_eq_decide.2 ⟨Eq.symm, Eq.symm⟩)
  obtain ⟨h1, h2⟩ := key l (0, 0) hl SOk.zero
  exact ⟨h1, fun u hu => by have := h2 u hu; rw [mem_zero, Bool.false_or] at this; exact this⟩
end Go.Proofs.Ytbnjbjcokkcfcaa.Sol
namespace Go.Proofs.Ytbnjbjcokkcfcaa.Sol
open Go.RowKit Go.Proofs.YtbnjbjcokkcfcaaW.PrintWords Go.Proofs.YtbnjbjcokkcfcaaW.PrintLast Go.Proofs.YtbnjbjcokkcfcaaW.PrintMore Go.Proofs.Ytbnjbjcokkcfcaa.PSearchOwn
set_option linter.unusedVariables false
set_option linter.unusedSimpArgs false
theorem andnot_u64 (a b : Nat) (ha : a < 2 ^ 64) (hb : b < 2 ^ 64) : bits .andNot .u64 (a : Int) (b : Int) = ((a &&& (18446744073709551615 - b) : Nat) : Int) := u64_andNot_nat a b (by omega) (by omega)
set_option maxHeartbeats 1000000 in
theorem without_calls (s : Nat × Nat) (v : Nat) (h1 : 1 ≤ v) (h2 : v ≤ 128) (W : World) (hs : SOk s) :
    Calls Try.prog 43 #[setV2 s, .int .i64 (v : Int)] W fun e w' => e = .returned (setV2 (withoutS s v)) ∧ Below W.heap.size W w' := by
  obtain ⟨a, b⟩ := s
  obtain ⟨ha, hb⟩ := hs
  have HP := Aside0.mk (fun W => place_calls v h1 h2 W)
  by_cases h : v ≤ 64
  · have e1 : (v - 1) / 64 = 0 := by omega
    have e2 : (v - 1) % 64 = v - 1 := by omega
    rw [e1, e2] at HP
    have e3 : withoutS (a, b) v = (a &&& (18446744073709551615 - 2 ^ (v - 1)), b) := by unfold withoutS; rw [if_pos h]
    rw [e3]
    have hp : (2 ^ (v - 1) : Nat) < 2 ^ 64 := Nat.pow_lt_pow_right (by decide) (by omega)
    clear e1 e2 e3
    generalize (2 ^ (v - 1) : Nat) = p at hp HP ⊢
    have ho := andnot_u64 a p ha hp
    generalize (a &&& (18446744073709551615 - p) : Nat) = q at ho ⊢
    have HO := Aside0.mk ho
    clear ha hb hp ho
    go_enter Try.func43, Try.ntmps43
    go_wp2_with (go_at_call 71; refine (HP.out _).mono ?_; rintro e w' ⟨rfl, ⟨n, rfl⟩⟩)
    rw [HO.out]
    refine bodyPost_ret (results_cell_row rfl _ _ (W.heap.size + 1) 34 #[.int .u64 (q : Int), .int .u64 (b : Int)] (0, 0) _ rfl ?_ Try.underlying34 rfl size34) rfl ⟨rfl, ?_⟩
    · have h0 : (W.alloc (.cells #[.int .u64 (a : Int), .int .u64 (b : Int)] 34)).heap.size = W.heap.size + 1 := by simp
      have hb1 := blk_new (W.alloc (.cells #[.int .u64 (a : Int), .int .u64 (b : Int)] 34)) (.cells #[.int .u64 0, .int .u64 0] 34)
      rw [h0] at hb1
      exact blk_put (blk_put (blk_far (p := ⟨W.heap.size, 0, none⟩) (blk_drewN hb1 n) (by show _ ≠ W.heap.size; omega) _) 0 _ rfl) 1 _ rfl
    · exact below_set (below_set (below_set (pw_below_drewN (below_alloc (below_alloc (Below.refl _ _) _) _) n) (Nat.le_refl _)) (Nat.le_succ _)) (Nat.le_succ _)
  · have e1 : (v - 1) / 64 = 1 := by omega
    have e2 : (v - 1) % 64 = v - 65 := by omega
    rw [e1, e2] at HP
    have e3 : withoutS (a, b) v = (a, b &&& (18446744073709551615 - 2 ^ (v - 65))) := by unfold withoutS; rw [if_neg h]
    rw [e3]
    have hp : (2 ^ (v - 65) : Nat) < 2 ^ 64 := Nat.pow_lt_pow_right (by decide) (by omega)
    clear e1 e2 e3
    generalize (2 ^ (v - 65) : Nat) = p at hp HP ⊢
    have ho := andnot_u64 b p hb hp
    generalize (b &&& (18446744073709551615 - p) : Nat) = q at ho ⊢
    have HO := Aside0.mk ho
    clear ha hb hp ho
    go_enter Try.func43, Try.ntmps43
    go_wp2_with (go_at_call 71; refine (HP.out _).mono ?_; rintro e w' ⟨rfl, ⟨n, rfl⟩⟩)
    rw [HO.out]
    refine bodyPost_ret (results_cell_row rfl _ _ (W.heap.size + 1) 34 #[.int .u64 (a : Int), .int .u64 (q : Int)] (0, 0) _ rfl ?_ Try.underlying34 rfl size34) rfl ⟨rfl, ?_⟩
    · have h0 : (W.alloc (.cells #[.int .u64 (a : Int), .int .u64 (b : Int)] 34)).heap.size = W.heap.size + 1 := by simp
      have hb1 := blk_new (W.alloc (.cells #[.int .u64 (a : Int), .int .u64 (b : Int)] 34)) (.cells #[.int .u64 0, .int .u64 0] 34)
      rw [h0] at hb1
      exact blk_put (blk_put (blk_far (p := ⟨W.heap.size, 1, none⟩) (blk_drewN hb1 n) (by show _ ≠ W.heap.size; omega) _) 0 _ rfl) 1 _ rfl
    · exact below_set (below_set (below_set (pw_below_drewN (below_alloc (below_alloc (Below.refl _ _) _) _) n) (Nat.le_refl _)) (Nat.le_succ _)) (Nat.le_succ _)
set_option maxHeartbeats 1000000 in
theorem join_calls (s t : Nat × Nat) (W : World) (hs : SOk s) (ht : SOk t) :
    Calls Try.prog 50 #[setV2 s, setV2 t] W fun e w' => e = .returned (setV2 (joinS s t)) ∧ Below W.heap.size W w' := by
  obtain ⟨a, b⟩ := s
  obtain ⟨c, d⟩ := t
  have h1 := or_u64 a c hs.1 ht.1
  have h2 := or_u64 b d hs.2 ht.2
  rw [show joinS (a, b) (c, d) = (a ||| c, b ||| d) from rfl]
  generalize (a ||| c : Nat) = p at h1 ⊢
  generalize (b ||| d : Nat) = q at h2 ⊢
  have HO := Aside0.mk (And.intro h1 h2)
  clear h1 h2 hs ht
  go_enter Try.func50, Try.ntmps50
  go_wp2
  rw [HO.out.1, HO.out.2]
  refine bodyPost_ret (results_cell_row rfl _ _ (W.heap.size + 1 + 1) 34 #[.int .u64 (p : Int), .int .u64 (q : Int)] (0, 0) _ rfl ?_ Try.underlying34 rfl size34) rfl ⟨rfl, below_alloc (below_alloc (below_alloc (Below.refl _ _) _) _) _⟩
  have := blk_new ((W.alloc (.cells #[.int .u64 (a : Int), .int .u64 (b : Int)] 34)).alloc (.cells #[.int .u64 (c : Int), .int .u64 (d : Int)] 34)) (.cells #[.int .u64 (p : Int), .int .u64 (q : Int)] 34)
  simpa using this
set_option maxHeartbeats 1000000 in
theorem meet_calls (s t : Nat × Nat) (W : World) (hs : SOk s) (ht : SOk t) :
    Calls Try.prog 78 #[setV2 s, setV2 t] W fun e w' => e = .returned (.bool (meetS s t)) ∧ Below W.heap.size W w' := by
  obtain ⟨a, b⟩ := s
  obtain ⟨c, d⟩ := t
  have h1 := and_u64 a c hs.1 ht.1
  have h2 := and_u64 b d hs.2 ht.2
  rw [show meetS (a, b) (c, d) = (if a &&& c ≠ 0 then true else decide (b &&& d ≠ 0)) from rfl]
  generalize (a &&& c : Nat) = p at h1 ⊢
  generalize (b &&& d : Nat) = q at h2 ⊢
  by_cases hp : p = 0
  · have hp0 : bits .and .u64 (a : Int) (c : Int) = 0 := by rw [h1, hp]; rfl
    have e : (bits .and .u64 (b : Int) (d : Int) != 0) = decide (q ≠ 0) := by
      rw [h2]
      by_cases hq : q = 0
      · rw [hq]; rfl
      · have : ((q : Int) != 0) = true := by simpa using hq
        rw [this, decide_eq_true hq]
    have HE := Aside0.mk e
    rw [if_neg (by omega)]
    clear h1 h2 hs ht hp e
    go_enter Try.func78, Try.ntmps78
    go_wp2
    go_ret
    exact ⟨by rw [HE.out]; rfl, below_alloc (below_alloc (Below.refl _ _) _) _⟩
  · have hp0 : ¬ bits .and .u64 (a : Int) (c : Int) = 0 := by rw [h1]; omega
    rw [if_pos hp]
    clear h1 h2 hs ht hp
    go_enter Try.func78, Try.ntmps78
    go_wp2
    go_ret
    exact ⟨rfl, below_alloc (below_alloc (Below.refl _ _) _) _⟩
end Go.Proofs.Ytbnjbjcokkcfcaa.Sol
namespace Go.Proofs.Ytbnjbjcokkcfcaa.Sol
open Go.RowKit Go.Proofs.YtbnjbjcokkcfcaaW.PrintWords Go.Proofs.YtbnjbjcokkcfcaaW.PrintLast Go.Proofs.YtbnjbjcokkcfcaaW.PrintMore Go.Proofs.Ytbnjbjcokkcfcaa.PSearchOwn
set_option linter.unusedVariables false
set_option linter.unusedSimpArgs false
theorem bit_tmod (a k : Nat) : (((a : Int) / 2 ^ k).tmod 2 == 1) = a.testBit k := by
  rw [Nat.testBit_eq_decide_div_mod_eq]
  have e : ((a : Int) / 2 ^ k) = ((a / 2 ^ k : Nat) : Int) := by simp
  rw [e]
  generalize a / 2 ^ k = m
  rw [Int.tmod_eq_emod_of_nonneg (by omega)]
  by_cases h : m % 2 = 1
  · rw [decide_eq_true h, show ((m : Int) % 2) = 1 by omega]; rfl
  · rw [decide_eq_false h, show ((m : Int) % 2) = 0 by omega]; rfl
set_option maxHeartbeats 1000000 in
theorem in_calls (s : Nat × Nat) (v : Nat) (h1 : 1 ≤ v) (h2 : v ≤ 128) (W : World) (hs : SOk s) :
    Calls Try.prog 52 #[setV2 s, .int .i64 (v : Int)] W fun e w' => e = .returned (.bool (memS s v)) ∧ Below W.heap.size W w' := by
  obtain ⟨a, b⟩ := s
  by_cases h : v ≤ 64
  · have e5 : (v - 1) / 64 = 0 := by omega
    have e6 : (v - 1) % 64 = v - 1 := by omega
    have e := bit_tmod a (v - 1)
    rw [show memS (a, b) v = a.testBit (v - 1) by unfold memS; rw [if_pos h]]
    rw [← e]
    have e4 : IntKind.u64.wrap (((v - 1 : Nat) : Int)) = ((v - 1 : Nat) : Int) := by simp [IntKind.wrap, IntKind.bits, IntKind.signed]; omega
    clear hs e
    go_enter Try.func52, Try.ntmps52
    go_wp2
    go_ret
    exact ⟨rfl, below_alloc (Below.refl _ _) _⟩
  · have e5 : (v - 1) / 64 = 1 := by omega
    have e6 : (v - 1) % 64 = v - 65 := by omega
    have e := bit_tmod b (v - 65)
    rw [show memS (a, b) v = b.testBit (v - 65) by unfold memS; rw [if_neg h]]
    rw [← e]
    have e4 : IntKind.u64.wrap (((v - 65 : Nat) : Int)) = ((v - 65 : Nat) : Int) := by simp [IntKind.wrap, IntKind.bits, IntKind.signed]; omega
    clear hs e
    go_enter Try.func52, Try.ntmps52
    go_wp2
    go_ret
    exact ⟨rfl, below_alloc (Below.refl _ _) _⟩
theorem or_shl (a k : Nat) (ha : a < 2 ^ 64) (hk : k < 64) : bits .or .u64 (a : Int) (IntKind.u64.wrap (2 ^ k)) = ((a ||| 2 ^ k : Nat) : Int) := by
  have hp : (2 : Nat) ^ k < 2 ^ 64 := pow_lt64 hk
  have e : IntKind.u64.wrap (2 ^ k) = ((2 ^ k : Nat) : Int) := by
    have e2 : ((2 : Int) ^ k) = ((2 ^ k : Nat) : Int) := by simp
    rw [e2]
    generalize (2 ^ k : Nat) = m at hp ⊢
    exact wraps_u64 _ (by omega) (by omega)
  rw [e, or_u64 a _ ha hp]
set_option maxHeartbeats 1000000 in
theorem with16_calls (s : Nat × Nat) (v : Nat) (h1 : 1 ≤ v) (h2 : v ≤ 128) (W : World) (hs : SOk s) :
    Calls Try.prog 53 #[setV2 s, .int .i64 (v : Int)] W fun e w' => e = .returned (setV2 (withS s v)) ∧ Below W.heap.size W w' := by
  obtain ⟨a, b⟩ := s
  by_cases h : v ≤ 64
  · have e5 : (v - 1) / 64 = 0 := by omega
    have e6 : (v - 1) % 64 = v - 1 := by omega
    have e4 : IntKind.u64.wrap (((v - 1 : Nat) : Int)) = ((v - 1 : Nat) : Int) := by simp [IntKind.wrap, IntKind.bits, IntKind.signed]; omega
    rw [show withS (a, b) v = (a ||| 2 ^ (v - 1), b) by unfold withS; rw [if_pos h]]
    have HO := Aside0.mk (or_shl a (v - 1) hs.1 (by omega))
    clear hs
    go_enter Try.func53, Try.ntmps53
    go_wp2
    rw [HO.out]
    refine bodyPost_ret (results_cell_row rfl _ _ (W.heap.size + 1) 34 #[.int .u64 ((a ||| 2 ^ (v - 1) : Nat) : Int), .int .u64 (b : Int)] (0, 0) _ rfl ?_ Try.underlying34 rfl size34) rfl ⟨rfl, below_alloc (below_alloc (Below.refl _ _) _) _⟩
    have := blk_new (W.alloc (.cells #[.int .u64 ((a ||| 2 ^ (v - 1) : Nat) : Int), .int .u64 (b : Int)] 34)) (.cells #[.int .u64 ((a ||| 2 ^ (v - 1) : Nat) : Int), .int .u64 (b : Int)] 34)
    simpa using this
  · have e5 : (v - 1) / 64 = 1 := by omega
    have e6 : (v - 1) % 64 = v - 65 := by omega
    have e4 : IntKind.u64.wrap (((v - 65 : Nat) : Int)) = ((v - 65 : Nat) : Int) := by simp [IntKind.wrap, IntKind.bits, IntKind.signed]; omega
    rw [show withS (a, b) v = (a, b ||| 2 ^ (v - 65)) by unfold withS; rw [if_neg h]]
    have HO := Aside0.mk (or_shl b (v - 65) hs.2 (by omega))
    clear hs
    go_enter Try.func53, Try.ntmps53
    go_wp2
    rw [HO.out]
    refine bodyPost_ret (results_cell_row rfl _ _ (W.heap.size + 1) 34 #[.int .u64 (a : Int), .int .u64 ((b ||| 2 ^ (v - 65) : Nat) : Int)] (0, 0) _ rfl ?_ Try.underlying34 rfl size34) rfl ⟨rfl, below_alloc (below_alloc (Below.refl _ _) _) _⟩
    have := blk_new (W.alloc (.cells #[.int .u64 (a : Int), .int .u64 ((b ||| 2 ^ (v - 65) : Nat) : Int)] 34)) (.cells #[.int .u64 (a : Int), .int .u64 ((b ||| 2 ^ (v - 65) : Nat) : Int)] 34)
    simpa using this
set_option maxHeartbeats 1000000 in
theorem all_calls24 (n : Nat) (hn : n ≤ 128) (W : World) :
    Calls Try.prog 24 #[.int .i64 (n : Int)] W fun e w' => e = .returned (setV2 (allS n)) ∧ Below W.heap.size W w' := by
  have hwith : ∀ (w : World) (i : Nat), i < n → Calls Try.prog 45 #[setV2 (allS i), .int .i64 ((i : Int) + 1)] w fun e w' => e = .returned (setV2 (allS (i + 1))) ∧ Below w.heap.size w w' := fun w i hi => by
    rw [allS_succ]
    exact with_calls (allS i) (i + 1) (by omega) (by omega) w (SOk.all i (by omega)).1 (SOk.all i (by omega)).2
  have HW := Aside0.mk hwith
  clear hwith
  have hmin : min (n : Int) 128 = (n : Int) := by omega
  have hz : allS 0 = (0, 0) := rfl
  have hR0 := blk_alloc (blk_new W (.cells #[.int .u64 0, .int .u64 0] 34)) (.cells #[.int .u64 0, .int .u64 0] 34)
  have hS0 := blk_new (W.alloc (.cells #[.int .u64 0, .int .u64 0] 34)) (.cells #[.int .u64 0, .int .u64 0] 34)
  rw [show (W.alloc (.cells #[.int .u64 0, .int .u64 0] 34)).heap.size = W.heap.size + 1 by simp] at hS0
  have HR0 := Aside0.mk hR0
  have HS0 := Aside0.mk hS0
  have HB0 := Aside0.mk (below_alloc (below_alloc (Below.refl W.heap.size W) (.cells #[.int .u64 0, .int .u64 0] 34)) (.cells #[.int .u64 0, .int .u64 0] 34))
  clear hR0 hS0
  go_enter Try.func24, Try.ntmps24
  go_wp2
  generalize (W.alloc (.cells #[.int .u64 0, .int .u64 0] 34)).alloc (.cells #[.int .u64 0, .int .u64 0] 34) = w1 at HR0 HS0 HB0 ⊢
  go_loopg [4] n (fun gk v4 w' => ∃ (i : Nat), i + gk = n ∧ v4 = .int .i64 ((i : Int) + 1) ∧ Aside0 (w'.heap[W.heap.size + 1]? = some (.cells #[.int .u64 ((allS i).1 : Int), .int .u64 ((allS i).2 : Int)] 34 (0, 0))) ∧ Aside0 (w'.heap[W.heap.size]? = some (.cells #[.int .u64 0, .int .u64 0] 34 (0, 0))) ∧ Aside0 (Below W.heap.size W w'))
  case atStart => exact ⟨0, by omega, rfl, HS0, HR0, HB0⟩
  case round =>
    clear HR0 HS0 HB0
    obtain ⟨i, hig, rfl, HS, HR, HB⟩ := hrel
    have hc0 : wr.cell? ⟨W.heap.size + 1, 0, none⟩ = some (.int .u64 ((allS i).1 : Int)) := (blk_cell HS.out 0).trans rfl
    have hc1 : wr.cell? ⟨W.heap.size + 1, 1, none⟩ = some (.int .u64 ((allS i).2 : Int)) := (blk_cell HS.out 1).trans rfl
    cases gk with
    | zero =>
      have hi : i = n := by omega
      subst hi
      have hr0 : wr.cell? ⟨W.heap.size, 0, none⟩ = some (.int .u64 0) := (blk_cell HR.out 0).trans rfl
      have hr1 : wr.cell? ⟨W.heap.size, 1, none⟩ = some (.int .u64 0) := (blk_cell HR.out 1).trans rfl
      have hf0 := blk_frozen HR.out 0
      have hf1 := blk_frozen HR.out 1
      go_wp2
      refine bodyPost_ret (results_cell_row rfl _ _ W.heap.size 34 #[.int .u64 ((allS i).1 : Int), .int .u64 ((allS i).2 : Int)] (0, 0) _ rfl (blk_put (blk_put HR.out 0 _ rfl) 1 _ rfl) Try.underlying34 rfl size34) rfl ⟨rfl, below_set (below_set HB.out (Nat.le_refl _)) (Nat.le_refl _)⟩
    | succ gk =>
      have hcall := Aside0.mk (HW.out wr i (by omega))
      go_wp2_with (go_at_call 45; refine (hcall.out).mono ?_; rintro e w2 ⟨rfl, hb2⟩; have HS2 := Aside0.mk (blk_below HS.out hb2); have HR2 := Aside0.mk (blk_below HR.out hb2); have HB2 := Aside0.mk (below_step HB.out hb2); have hq0 : w2.cell? ⟨W.heap.size + 1, 0, none⟩ = some (.int .u64 ((allS i).1 : Int)) := (blk_cell HS2.out 0).trans rfl; have hq1 : w2.cell? ⟨W.heap.size + 1, 1, none⟩ = some (.int .u64 ((allS i).2 : Int)) := (blk_cell HS2.out 1).trans rfl; have hf0 := blk_frozen HS2.out 0; have hf1 := blk_frozen HS2.out 1; clear hb2)
      go_roundg gk
      case measure => omega
      case rel => exact ⟨i + 1, by omega, rfl, ⟨blk_put (blk_put HS2.out 0 _ rfl) 1 _ rfl⟩, ⟨blk_far (blk_far HR2.out (by show _ ≠ W.heap.size + 1; omega) _) (by show _ ≠ W.heap.size + 1; omega) _⟩, ⟨below_set (below_set HB2.out (Nat.le_succ _)) (Nat.le_succ _)⟩⟩
end Go.Proofs.Ytbnjbjcokkcfcaa.Sol
namespace Go.Proofs.Ytbnjbjcokkcfcaa.Sol
open Go.RowKit Go.Proofs.YtbnjbjcokkcfcaaW.PrintWords Go.Proofs.YtbnjbjcokkcfcaaW.PrintLast Go.Proofs.YtbnjbjcokkcfcaaW.PrintMore Go.Proofs.Ytbnjbjcokkcfcaa.PSearchOwn
set_option linter.unusedVariables false
set_option linter.unusedSimpArgs false
def q47r5T : Bool × List (List Nat × List Nat) := (true, [([], []), ([], []), ([], []), ([1, 2], [1, 2]), ([3], [3]), ([4], [4]), ([0, 5, 5], [0, 5]), ([6, 6, 0, 1, 2, 3, 4, 5, 6], [6])])
def q47r5B : List Nat := [0, 0, 0, 6, 14, 30, 63, 127]
theorem q47r5tab : rtab .any (opsOf Try.f47 5) = q47r5T := by kernel_rfl
theorem q47r5bits : waitsOk q47r5T.2 q47r5B = true := by kernel_rfl
set_option maxHeartbeats 2000000 in
set_option maxRecDepth 100000 in
theorem vars_calls {A : Option Addr} {c : Nat} {l : List Int} {W : World} (hl : (Kd.int .i64).C W A l.length l) (hv : Lits l) :
    Calls Try.prog 47 #[.slice A l.length c] W fun e w' => e = .returned (setV2 (varsS l)) ∧ Below W.heap.size W w' := by
  have hwith : ∀ (w : World) (i : Nat) (x : Int), l[i]? = some x → Calls Try.prog 53 #[setV2 (varsS (l.take i)), .int .i64 (varOf x)] w fun e w' => e = .returned (setV2 (varsS (l.take (i + 1)))) ∧ Below w.heap.size w w' := fun w i x hi => by
    have htk : l.take (i + 1) = l.take i ++ [x] := by rw [List.take_add_one, hi]; rfl
    have hx := hv x (List.mem_of_getElem? hi)
    have hx2 := varOf_le x
    rw [htk, varsS_snoc, show varOf x = (((varOf x).toNat : Nat) : Int) by omega]
    exact with16_calls _ _ (by omega) (by omega) w (vars_all (l.take i) (fun y hy => hv y (List.mem_of_mem_take hy))).1
  have HW := Aside0.mk hwith
  have HVar := Aside0.mk (fun (x : Int) (w : World) => var04_calls (W := w) x)
  have HL := Aside0.mk hl
  have hmax := Kd.C_max hl
  clear hwith hl hv
  have hz : varsS (l.take 0) = (0, 0) := rfl
  have hR0 := blk_alloc (blk_new W (.cells #[.int .u64 0, .int .u64 0] 34)) (.cells #[.int .u64 0, .int .u64 0] 34)
  have hS0 := blk_new (W.alloc (.cells #[.int .u64 0, .int .u64 0] 34)) (.cells #[.int .u64 0, .int .u64 0] 34)
  rw [show (W.alloc (.cells #[.int .u64 0, .int .u64 0] 34)).heap.size = W.heap.size + 1 by simp] at hS0
  have HR0 := Aside0.mk hR0
  have HS0 := Aside0.mk hS0
  have HB0 := Aside0.mk (below_alloc (below_alloc (Below.refl W.heap.size W) (.cells #[.int .u64 0, .int .u64 0] 34)) (.cells #[.int .u64 0, .int .u64 0] 34))
  clear hR0 hS0
  go_enter Try.func47, Try.ntmps47
  go_wp2
  generalize (W.alloc (.cells #[.int .u64 0, .int .u64 0] 34)).alloc (.cells #[.int .u64 0, .int .u64 0] 34) = w1 at HR0 HS0 HB0 ⊢
  go_loopg [4] l.length (fun gk v4 w' => ∃ (i : Nat), i + gk = l.length ∧ v4 = .int .i64 (i : Int) ∧ Aside0 (w'.heap[W.heap.size + 1]? = some (.cells #[.int .u64 ((varsS (l.take i)).1 : Int), .int .u64 ((varsS (l.take i)).2 : Int)] 34 (0, 0))) ∧ Aside0 (w'.heap[W.heap.size]? = some (.cells #[.int .u64 0, .int .u64 0] 34 (0, 0))) ∧ Aside0 (Below W.heap.size W w'))
  case atStart => exact ⟨0, by omega, rfl, HS0, HR0, HB0⟩
  case round =>
    clear HR0 HS0 HB0
    obtain ⟨i, hig, rfl, HS, HR, HB⟩ := hrel
    have hc0 : wr.cell? ⟨W.heap.size + 1, 0, none⟩ = some (.int .u64 ((varsS (l.take i)).1 : Int)) := (blk_cell HS.out 0).trans rfl
    have hc1 : wr.cell? ⟨W.heap.size + 1, 1, none⟩ = some (.int .u64 ((varsS (l.take i)).2 : Int)) := (blk_cell HS.out 1).trans rfl
    cases gk with
    | zero =>
      have hi : i = l.length := by omega
      subst hi
      rw [List.take_length] at hc0 hc1 HS
      have hr0 : wr.cell? ⟨W.heap.size, 0, none⟩ = some (.int .u64 0) := (blk_cell HR.out 0).trans rfl
      have hr1 : wr.cell? ⟨W.heap.size, 1, none⟩ = some (.int .u64 0) := (blk_cell HR.out 1).trans rfl
      have hf0 := blk_frozen HR.out 0
      have hf1 := blk_frozen HR.out 1
      go_wp2
      refine bodyPost_ret (results_cell_row rfl _ _ W.heap.size 34 #[.int .u64 ((varsS l).1 : Int), .int .u64 ((varsS l).2 : Int)] (0, 0) _ rfl (blk_put (blk_put HR.out 0 _ rfl) 1 _ rfl) Try.underlying34 rfl size34) rfl ⟨rfl, below_set (below_set HB.out (Nat.le_refl _)) (Nat.le_refl _)⟩
    | succ gk =>
      have hi : (i : Int) < (l.length : Int) := by omega
      obtain ⟨ad, hA2, hx⟩ := rd_int HL.out i (by omega)
      subst hA2
      replace hx := (HB.out.cell (World.block_lt_of_cell? W _ hx)).trans hx
      obtain ⟨x, hxe⟩ : ∃ x, l.getD i 0 = x := ⟨_, rfl⟩
      rw [hxe] at hx
      have hgei : l[i]? = some x := by
        rw [← hxe]; simp [List.getD_eq_getElem?_getD, List.getElem?_eq_getElem (show i < l.length by omega)]
      go_wp2_with fail
      try go_step3
      refine start_ (n := 8) (S := fun w' => w'.cell? ⟨W.heap.size + 1, 0, none⟩ = some (.int .u64 ((varsS (l.take i)).1 : Int)) ∧ w'.cell? ⟨W.heap.size + 1, 1, none⟩ = some (.int .u64 ((varsS (l.take i)).2 : Int)) ∧ w'.cell? (ad.add i) = some (.int .i64 x)) (ds := [7]) #[false, false, false, false, false, false, false, false] (by kernel_rfl) rfl rfl (⟨hc0, hc1, hx⟩) (fun hHeld => ?_)
      refine with_tabW q47r5tab q47r5bits (fun HT_ HW_ => ?_)
      refine take_ (i := 0) (N := some 11) (v := ?_) (a' := ?_) #[true, false, false, false, false, false, false, false] rfl rfl (take_ofW HT_.out HW_.out (by kernel_rfl)) (fun _ _ _ h => h) (Or.inl ⟨by rfl, ?_⟩) hHeld ?_ ?_
      rotate_left
      · rintro w' ⟨s0, s1, s2⟩
        go_simp
        with_reducible rfl
      rotate_left
      · simp only [Act.put, List.setIfInBounds_toArray, List.set_cons_zero, List.set_cons_succ, i64_w, i32_w]
        rfl
      refine pure_ (i := 1) (N := some 12) (v := ?_) (a' := ?_) #[true, true, false, false, false, false, false, false] rfl rfl (any_of HT_.out (by kernel_rfl)) (fun _ _ _ h => h) (Or.inl ⟨by rfl, ?_⟩) ?_ ?_
      rotate_left
      · intro w'
        go_simp
        with_reducible rfl
      rotate_left
      · simp only [Act.put, List.setIfInBounds_toArray, List.set_cons_zero, List.set_cons_succ, i64_w, i32_w]
        rfl
      refine pure_ (i := 2) (N := some 13) (v := ?_) (a' := ?_) #[true, true, true, false, false, false, false, false] rfl rfl (any_of HT_.out (by kernel_rfl)) (fun _ _ _ h => h) (Or.inl ⟨by rfl, ?_⟩) ?_ ?_
      rotate_left
      · intro w'
        go_simp
        with_reducible rfl
      rotate_left
      · simp only [Act.put, List.setIfInBounds_toArray, List.set_cons_zero, List.set_cons_succ, i64_w, i32_w]
        rfl
      refine pure_ (i := 3) (N := some 14) (v := ?_) (a' := ?_) #[true, true, true, true, false, false, false, false] rfl rfl (any_of HT_.out (by kernel_rfl)) (fun _ _ _ h => h) (Or.inl ⟨by rfl, ?_⟩) ?_ ?_
      rotate_left
      · intro w'
        go_simp
        with_reducible rfl
      rotate_left
      · simp only [Act.put, List.setIfInBounds_toArray, List.set_cons_zero, List.set_cons_succ, i64_w, i32_w]
        rfl
      refine take_ (i := 4) (N := some 15) (v := ?_) (a' := ?_) #[true, true, true, true, true, false, false, false] rfl rfl (take_ofW HT_.out HW_.out (by kernel_rfl)) (fun _ _ _ h => h) (Or.inl ⟨by rfl, ?_⟩) hHeld ?_ ?_
      rotate_left
      · rintro w' ⟨s0, s1, s2⟩
        go_simp
        with_reducible rfl
      rotate_left
      · simp only [Act.put, List.setIfInBounds_toArray, List.set_cons_zero, List.set_cons_succ, i64_w, i32_w]
        rfl
      refine one_ (i := 5) (N := some 16) #[true, true, true, true, true, true, false, false] rfl rfl (one_of HT_.out (by kernel_rfl)) (by decide) (fun K hK => ?_)
      refine goes_ Try.func75 (by kernel_rfl) rfl #[.int .i64 x] (by rfl) rfl rfl (by simp only [List.map_toArray, List.map_cons, List.map_nil]; rfl) ?_
      refine (HVar.out x _).mono ?_
      rintro e_ w_ ⟨rfl, ⟨n_, rfl⟩⟩
      refine ⟨_, rfl, ?_⟩
      replace HS := Aside0.mk (blk_drewN (blk_drew HS.out) n_)
      replace HR := Aside0.mk (blk_drewN (blk_drew HR.out) n_)
      replace HB := Aside0.mk (pw_below_drewN (below_drew HB.out) n_)
      have hx2 : (wr.drew.drewN n_).cell? (ad.add i) = some (.int .i64 x) := hx
      clear hc0 hc1 hx
      generalize wr.drew.drewN n_ = w2 at HS HR HB hx2 ⊢
      refine hK.out _ _ (⟨(blk_cell HS.out 0).trans rfl, (blk_cell HS.out 1).trans rfl, hx2⟩) (fun hHeld => ?_)
      clear hK K
      refine norm_ (a' := ?_) ?_ ?_
      rotate_left
      · show Act.put _ (some 16) _ = _
        simp only [Act.put, List.setIfInBounds_toArray, List.set_cons_zero, List.set_cons_succ, i64_w, i32_w]
        rfl
      refine one_ (i := 6) (N := some 17) #[true, true, true, true, true, true, true, false] rfl rfl (one_of HT_.out (by kernel_rfl)) (by decide) (fun K hK => ?_)
      refine goes_ Try.func53 (by kernel_rfl) rfl #[setV2 (varsS (l.take i)), .int .i64 (varOf x)] (by rfl) rfl rfl (by simp only [List.map_toArray, List.map_cons, List.map_nil]; rfl) ?_
      refine (HW.out _ i x hgei).mono ?_
      rintro e_ w_ ⟨rfl, hb3⟩
      refine ⟨_, rfl, ?_⟩
      replace HS := Aside0.mk (blk_below HS.out hb3)
      replace HR := Aside0.mk (blk_below HR.out hb3)
      replace HB := Aside0.mk (below_step HB.out hb3)
      have hx3 := (hb3.cell (World.block_lt_of_cell? w2 _ hx2)).trans hx2
      clear hx2 hb3
      refine hK.out _ _ (⟨(blk_cell HS.out 0).trans rfl, (blk_cell HS.out 1).trans rfl, hx3⟩) (fun hHeld => ?_)
      clear hK K
      refine norm_ (a' := ?_) ?_ ?_
      rotate_left
      · show Act.put _ (some 17) _ = _
        simp only [Act.put, List.setIfInBounds_toArray, List.set_cons_zero, List.set_cons_succ, i64_w, i32_w]
        rfl
      refine last_ (i := 7) (N := none) #[true, true, true, true, true, true, true, true] rfl rfl (one_of HT_.out (by kernel_rfl)) (by decide) (fun K hK => ?_)
      have hf0 := blk_frozen HS.out 0
      have hf1 := blk_frozen HS.out 1
      have hq0 : w_.cell? ⟨W.heap.size + 1, 0, none⟩ = some (.int .u64 ((varsS (l.take i)).1 : Int)) := (blk_cell HS.out 0).trans rfl
      have hq1 : w_.cell? ⟨W.heap.size + 1, 1, none⟩ = some (.int .u64 ((varsS (l.take i)).2 : Int)) := (blk_cell HS.out 1).trans rfl
      refine skip_ (w1 := ?_) (by rfl) rfl ?_ ?_
      rotate_left
      · go_simp
        rfl
      refine hK.out _ _ ?_
      clear hK K
      refine done_ (done_of HT_.out (by kernel_rfl)) ?_
      go_wp2
      go_roundg gk
      case measure => omega
      case rel => exact ⟨i + 1, by omega, by go_num, ⟨blk_put (blk_put HS.out 0 _ rfl) 1 _ rfl⟩, ⟨blk_far (blk_far HR.out (by show _ ≠ W.heap.size + 1; omega) _) (by show _ ≠ W.heap.size + 1; omega) _⟩, ⟨below_set (below_set HB.out (Nat.le_succ _)) (Nat.le_succ _)⟩⟩
set_option maxHeartbeats 2000000 in
theorem least_calls (s : Nat × Nat) (W : World) (hs : SOk s) :
    Calls Try.prog 51 #[setV2 s] W fun e w' => e = .returned (.int .i64 (leastS s : Int)) ∧ Below W.heap.size W w' := by
  have HI := Aside0.mk (fun (w : World) (v : Nat) (h1 : 1 ≤ v) (h2 : v ≤ 128) => in_calls s v h1 h2 w hs)
  clear hs
  have HT0 := Aside0.mk (blk_new W (.cells #[.int .u64 (s.1 : Int), .int .u64 (s.2 : Int)] 34))
  have HB0 := Aside0.mk (below_alloc (Below.refl W.heap.size W) (.cells #[.int .u64 (s.1 : Int), .int .u64 (s.2 : Int)] 34))
  go_enter Try.func51, Try.ntmps51
  go_wp2
  generalize W.alloc (.cells #[.int .u64 (s.1 : Int), .int .u64 (s.2 : Int)] 34) = w1 at HT0 HB0 ⊢
  go_loopg [3] 128 (fun gk v3 w' => ∃ (i : Nat), i + gk = 128 ∧ v3 = .int .i64 ((i : Int) + 1) ∧ (leastS s = (((List.range' i gk).find? (fun i => memS s (i + 1))).elim 0 (· + 1))) ∧ Aside0 (w'.heap[W.heap.size]? = some (.cells #[.int .u64 (s.1 : Int), .int .u64 (s.2 : Int)] 34 (0, 0))) ∧ Aside0 (Below W.heap.size W w'))
  case atStart => exact ⟨0, by omega, rfl, by unfold leastS; rw [List.range_eq_range'], HT0, HB0⟩
  case round =>
    clear HT0 HB0
    obtain ⟨i, hig, rfl, hle, HT, HB⟩ := hrel
    have hc0 : wr.cell? ⟨W.heap.size, 0, none⟩ = some (.int .u64 (s.1 : Int)) := (blk_cell HT.out 0).trans rfl
    have hc1 : wr.cell? ⟨W.heap.size, 1, none⟩ = some (.int .u64 (s.2 : Int)) := (blk_cell HT.out 1).trans rfl
    cases gk with
    | zero =>
      have hi : i = 128 := by omega
      subst hi
      go_wp2
      go_ret
      exact ⟨by first | rfl | (rw [hle]; rfl), HB.out⟩
    | succ gk =>
      have hi : (i : Int) + 1 ≤ 128 := by omega
      rw [List.range'_succ, List.find?_cons] at hle
      have hcall := Aside0.mk (HI.out wr (i + 1) (by omega) (by omega))
      cases hm : memS s (i + 1) with
      | true =>
        rw [hm] at hle hcall
        simp only [Option.elim_some] at hle
        go_wp2_with (go_at_call 52; refine (hcall.out).mono ?_; rintro e w2 ⟨rfl, hb2⟩; have HB2 := Aside0.mk (below_step HB.out hb2); clear hb2)
        go_ret
        exact ⟨by first | rfl | (rw [hle]; rfl), HB2.out⟩
      | false =>
        rw [hm] at hle hcall
        go_wp2_with (go_at_call 52; refine (hcall.out).mono ?_; rintro e w2 ⟨rfl, hb2⟩; have HT2 := Aside0.mk (blk_below HT.out hb2); have HB2 := Aside0.mk (below_step HB.out hb2); clear hb2)
        go_roundg gk
        case measure => omega
        case rel => exact ⟨i + 1, by omega, by go_num, hle, HT2, HB2⟩
end Go.Proofs.Ytbnjbjcokkcfcaa.Sol
namespace Go.Proofs.Ytbnjbjcokkcfcaa.Sol
open Go.Shelf
def sortRen : Go.Shelf.Ren := ⟨fun | 6 => 98 | 15 => 107 | 14 => 106 | 28 => 117 | 29 => 118 | 20 => 109 | 21 => 110 | 22 => 111 | 23 => 112 | 24 => 113 | 25 => 114 | 26 => 115 | 27 => 116 | 46 => 120 | 47 => 121 | 48 => 122 | 49 => 123 | 50 => 124 | 57 => 125 | n => n, fun | 22 => 25 | 24 => 3 | 25 => 112 | 3 => 3 | 39 => 97 | 0 => 0 | 53 => 130 | 55 => 32 | 4 => 4 | 46 => 124 | 45 => 123 | 50 => 120 | 5 => 5 | 9 => 9 | 66 => 132 | 70 => 136 | 76 => 138 | 77 => 139 | n => n, fun | n => n⟩
theorem sortLays : Go.Proofs.SlLaysF.n6 Try.prog sortRen := {
  mixed := by kernel_rfl
  f6 := ⟨Try.f98.name, by decide, Try.func98.trans (congrArg some (by kernel_rfl))⟩
  f14 := ⟨Try.f106.name, by decide, Try.func106.trans (congrArg some (by kernel_rfl))⟩
  f15 := Try.func107.trans (congrArg some (by kernel_rfl))
  f20 := ⟨Try.f109.name, by decide, Try.func109.trans (congrArg some (by kernel_rfl))⟩
  f21 := ⟨Try.f110.name, by decide, Try.func110.trans (congrArg some (by kernel_rfl))⟩
  f22 := ⟨Try.f111.name, by decide, Try.func111.trans (congrArg some (by kernel_rfl))⟩
  f23 := ⟨Try.f112.name, by decide, Try.func112.trans (congrArg some (by kernel_rfl))⟩
  f24 := ⟨Try.f113.name, by decide, Try.func113.trans (congrArg some (by kernel_rfl))⟩
  f25 := ⟨Try.f114.name, by decide, Try.func114.trans (congrArg some (by kernel_rfl))⟩
  f26 := ⟨Try.f115.name, by decide, Try.func115.trans (congrArg some (by kernel_rfl))⟩
  f27 := ⟨Try.f116.name, by decide, Try.func116.trans (congrArg some (by kernel_rfl))⟩
  f28 := Try.func117.trans (congrArg some (by kernel_rfl))
  f29 := Try.func118.trans (congrArg some (by kernel_rfl))
  f46 := ⟨Try.f120.name, by decide, Try.func120.trans (congrArg some (by kernel_rfl))⟩
  f47 := Try.func121.trans (congrArg some (by kernel_rfl))
  f48 := Try.func122.trans (congrArg some (by kernel_rfl))
  f49 := ⟨Try.f123.name, by decide, Try.func123.trans (congrArg some (by kernel_rfl))⟩
  f50 := ⟨Try.f124.name, by decide, Try.func124.trans (congrArg some (by kernel_rfl))⟩
  f57 := ⟨Try.f125.name, by decide, Try.func125.trans (congrArg some (by kernel_rfl))⟩
  t0 := Try.underlying0
  a0 := Try.isAgg0
  z0 := Try.sizeOf0
  v0 := Try.zeroValue0
  t3 := Try.underlying3
  a3 := Try.isAgg3
  z3 := Try.sizeOf3
  v3 := Try.zeroValue3
  t4 := Try.underlying4
  a4 := Try.isAgg4
  z4 := Try.sizeOf4
  v4 := Try.zeroValue4
  t5 := Try.underlying5
  a5 := Try.isAgg5
  z5 := Try.sizeOf5
  v5 := Try.zeroValue5
  t9 := Try.underlying9
  a9 := Try.isAgg9
  z9 := Try.sizeOf9
  v9 := Try.zeroValue9
  t22 := Try.underlying25
  a22 := Try.isAgg25
  z22 := Try.sizeOf25
  v22 := Try.zeroValue25
  a24 := Try.isAgg3
  z24 := Try.sizeOf3
  t25 := Try.underlying112
  a25 := Try.isAgg112
  z25 := Try.sizeOf112
  v25 := Try.zeroValue112
  t39 := Try.underlying97
  a39 := Try.isAgg97
  z39 := Try.sizeOf97
  v39 := Try.zeroValue97
  t45 := Try.underlying123
  a45 := Try.isAgg123
  z45 := Try.sizeOf123
  v45 := Try.zeroValue123
  t46 := Try.underlying124
  a46 := Try.isAgg124
  z46 := Try.sizeOf124
  v46 := Try.zeroValue124
  t50 := Try.underlying120
  a50 := Try.isAgg120
  z50 := Try.sizeOf120
  v50 := Try.zeroValue120
  t53 := Try.underlying130
  a53 := Try.isAgg130
  z53 := Try.sizeOf130
  v53 := Try.zeroValue130
  t55 := Try.underlying32
  a55 := Try.isAgg32
  z55 := Try.sizeOf32
  v55 := Try.zeroValue32
  t66 := Try.underlying132
  a66 := Try.isAgg132
  z66 := Try.sizeOf132
  v66 := Try.zeroValue132
  t70 := Try.underlying136
  a70 := Try.isAgg136
  z70 := Try.sizeOf136
  v70 := Try.zeroValue136
  t76 := Try.underlying138
  a76 := Try.isAgg138
  z76 := Try.sizeOf138
  v76 := Try.zeroValue138
  t77 := Try.underlying139
  a77 := Try.isAgg139
  z77 := Try.sizeOf139
  v77 := Try.zeroValue139 }
def cmpRen : Go.Shelf.Ren := ⟨fun | 20 => 101 | n => n, fun | 22 => 25 | 3 => 3 | 4 => 4 | 0 => 0 | n => n, fun | n => n⟩
theorem cmpLays : Go.Proofs.Lays2.n20 Try.prog cmpRen := {
  mixed := by kernel_rfl
  f20 := Try.func101.trans (congrArg some (by kernel_rfl))
  t0 := Try.underlying0
  a0 := Try.isAgg0
  z0 := Try.sizeOf0
  v0 := Try.zeroValue0
  t3 := Try.underlying3
  a3 := Try.isAgg3
  z3 := Try.sizeOf3
  v3 := Try.zeroValue3
  t4 := Try.underlying4
  a4 := Try.isAgg4
  z4 := Try.sizeOf4
  v4 := Try.zeroValue4
  t22 := Try.underlying25
  a22 := Try.isAgg25
  z22 := Try.sizeOf25
  v22 := Try.zeroValue25
  i3 := by kernel_rfl }
end Go.Proofs.Ytbnjbjcokkcfcaa.Sol
namespace Go.Proofs.Ytbnjbjcokkcfcaa.Sol
open Go.RowKit
set_option linter.unusedVariables false
set_option linter.unusedSimpArgs false
/-- The place of a literal in the order. -/
def key (x : Int) : Int := 2 * varOf x + (if x > 0 then 1 else 0)
def cmpF (x y : Int) : Int := if varOf x ≠ varOf y then varOf x - varOf y else x - y
abbrev L9 : Type := {x : Int // -128 ≤ x ∧ x ≤ 128}
instance : Inhabited L9 := ⟨⟨0, by decide⟩⟩
theorem varOf_abs {x : Int} (h : -128 ≤ x ∧ x ≤ 128) : varOf x = if x ≥ 0 then x else -x := by
  unfold varOf
  split
  · rw [if_pos (by omega)]
  · split
    · rw [if_neg (by omega)]
    · split <;> omega
theorem cmpF_lt (x y : L9) : (cmpF x.1 y.1 < 0) ↔ key x.1 < key y.1 := by
  obtain ⟨x, hx⟩ := x
  obtain ⟨y, hy⟩ := y
  show cmpF x y < 0 ↔ key x < key y
  unfold cmpF key
  rw [varOf_abs hx, varOf_abs hy]
  split <;> split <;> split <;> split <;> (try split) <;> omega
theorem key_inj {x y : L9} (h : key x.1 = key y.1) : x = y := by
  obtain ⟨x, hx⟩ := x
  obtain ⟨y, hy⟩ := y
  have h2 : key x = key y := h
  unfold key at h2
  rw [varOf_abs hx, varOf_abs hy] at h2
  refine Subtype.ext ?_
  show x = y
  split at h2 <;> split at h2 <;> split at h2 <;> split at h2 <;> omega
abbrev ltL : L9 → L9 → Bool := Go.Proofs.ltOf (fun x y : L9 => cmpF x.1 y.1)
theorem ltL_iff (x y : L9) : ltL x y = decide (key x.1 < key y.1) := by
  unfold ltL Go.Proofs.ltOf
  exact decide_eq_decide.2 (cmpF_lt x y)
theorem swoL : Go.Sort.SWO ltL := by
  refine ⟨fun x => ?_, fun x y z h1 h2 => ?_, fun x y z h1 h2 => ?_⟩
  · rw [ltL_iff]; exact decide_eq_false (by omega)
  · rw [ltL_iff] at *
    have := of_decide_eq_true h1; have := of_decide_eq_true h2
    exact decide_eq_true (by omega)
  · rw [ltL_iff] at *
    have := of_decide_eq_false h1; have := of_decide_eq_false h2
    exact decide_eq_false (by omega)
theorem totL (x y : L9) (h1 : ltL x y = false) (h2 : ltL y x = false) : x = y := by
  rw [ltL_iff] at *
  have := of_decide_eq_false h1; have := of_decide_eq_false h2
  exact key_inj (by omega)
def sortL (d : List L9) : List L9 := d.mergeSort fun x y => !ltL y x
theorem sortL_mem (d : List L9) (x : L9) : x ∈ sortL d ↔ x ∈ d := List.mem_mergeSort
theorem sortL_length (d : List L9) : (sortL d).length = d.length := List.length_mergeSort _
theorem sortL_sorted (d : List L9) : (sortL d).Pairwise (fun x y => key x.1 ≤ key y.1) := by
  have := List.pairwise_mergeSort (le := fun x y : L9 => !ltL y x) (fun a b c h1 h2 => by
    rw [Bool.not_eq_true'] at *
    exact swoL.ntrans c b a h2 h1) (fun a b => by
    rw [ltL_iff, ltL_iff]
    by_cases h : key b.1 < key a.1
    · rw [decide_eq_true h, decide_eq_false (show ¬ key a.1 < key b.1 by omega)]; rfl
    · rw [decide_eq_false h]; rfl) d
  refine this.imp fun {a b} h => ?_
  rw [Bool.not_eq_true', ltL_iff] at h
  have := of_decide_eq_false h
  omega
/-- Striking out repetitions of a sorted list. -/
theorem compact_sorted (zs : List Int) (hs : zs.Pairwise (fun x y => key x ≤ key y)) (hi : ∀ x ∈ zs, ∀ y ∈ zs, key x = key y → x = y) :
    (∀ x, x ∈ Go.Lib.compact zs ↔ x ∈ zs) ∧ (Go.Lib.compact zs).Pairwise (fun x y => key x < key y) := by
  have get : ∀ j (hj : j < zs.length), zs.toArray[j]! = zs[j] := fun j hj => by simp [getElem!_pos, hj]
  have main : ∀ m, m ≤ zs.length → (∀ x, x ∈ Go.Lib.compactUpTo zs.toArray m ↔ x ∈ zs.take m) ∧ (Go.Lib.compactUpTo zs.toArray m).Pairwise (fun x y => key x < key y) := by
    intro m
    induction m with
    | zero => intro _; simp [Go.Lib.compactUpTo]
    | succ m ih =>
      intro hm
      obtain ⟨h1, h2⟩ := ih (by omega)
      have hlt : m < zs.length := by omega
      rw [Go.Lib.compactUpTo_succ, List.take_succ_eq_append_getElem hlt]
      by_cases hk : Go.Lib.keeps zs.toArray m = true
      · rw [if_pos hk, get m hlt]
        refine ⟨fun x => by rw [List.mem_append, List.mem_append, h1], ?_⟩
        rw [List.pairwise_append]
        refine ⟨h2, List.pairwise_singleton _ _, fun a ha b hb => ?_⟩
        rw [List.mem_singleton] at hb
        subst hb
        rw [h1] at ha
        have hk2 := of_decide_eq_true hk
        obtain ⟨j, hj, rfl⟩ := List.mem_take_iff_getElem.1 ha
        have hjm : j < m := by omega
        have hne : zs[m] ≠ zs[m - 1] := by
          rcases hk2 with hk2 | hk2
          · omega
          · rwa [get m hlt, get (m - 1) (by omega)] at hk2
        have a1 : key zs[m - 1] ≤ key zs[m] := List.pairwise_iff_getElem.1 hs (m - 1) m (by omega) hlt (by omega)
        have a2 : key zs[j] ≤ key zs[m - 1] := by
          by_cases hjj : j = m - 1
          · subst hjj; omega
          · exact List.pairwise_iff_getElem.1 hs j (m - 1) (by omega) (by omega) (by omega)
        have a3 : key zs[m - 1] ≠ key zs[m] := fun h => hne (hi _ (List.getElem_mem _) _ (List.getElem_mem _) h.symm)
        omega
      · rw [if_neg hk, List.append_nil]
        refine ⟨fun x => ?_, h2⟩
        rw [h1, List.mem_append, List.mem_singleton]
        refine ⟨Or.inl, fun h => h.elim id fun h => ?_⟩
        subst h
        have hk2 := of_decide_eq_false (eq_false_of_ne_true hk)
        have hm0 : m ≠ 0 := fun h => hk2 (Or.inl h)
        have he : zs.toArray[m]! = zs.toArray[m - 1]! := Classical.not_not.1 (fun h => hk2 (Or.inr h))
        rw [get m hlt, get (m - 1) (by omega)] at he
        rw [he]
        exact List.mem_take_iff_getElem.2 ⟨m - 1, by omega, rfl⟩
  have := main zs.length (Nat.le_refl _)
  rw [List.take_length] at this
  exact this
theorem adj_mem : ∀ {l : List Int}, adj l = true → ∃ a, a ∈ l ∧ -a ∈ l
  | [], h => by simp [adj] at h
  | [_], h => by simp [adj] at h
  | a :: b :: r, h => by
    rw [adj] at h
    split at h
    · rename_i hb
      exact ⟨a, by simp, by rw [← hb]; simp⟩
    · obtain ⟨c, h1, h2⟩ := adj_mem h
      exact ⟨c, List.mem_cons_of_mem _ h1, List.mem_cons_of_mem _ h2⟩
theorem mem_adj : ∀ {l : List Int} {p : Int}, l.Pairwise (fun x y => key x < key y) → p ∈ l → -p ∈ l → key p < key (-p) → (∀ x, key p < key x → key x < key (-p) → False) → (∀ x ∈ l, key x = key (-p) → x = -p) → adj l = true
  | [], p, _, h, _, _, _, _ => by cases h
  | [a], p, _, h1, h2, h3, _, _ => by
    rw [List.mem_singleton] at h1 h2
    rw [h2, ← h1] at h3; omega
  | a :: b :: r, p, hs, h1, h2, h3, h4, h5 => by
    have hs2 := List.pairwise_cons.1 hs
    rw [adj]
    split
    · rfl
    · rename_i hne
      by_cases ha : p = a
      · exfalso
        subst ha
        have hb : key p < key b := hs2.1 b (by simp)
        have h2' : -p ∈ b :: r := by
          rcases List.mem_cons.1 h2 with h | h
          · rw [h] at h3; omega
          · exact h
        have hbp : key b ≤ key (-p) := by
          rcases List.mem_cons.1 h2' with h | h
          · rw [h]; omega
          · have := (List.pairwise_cons.1 hs2.2).1 _ h; omega
        have : key b = key (-p) := by
          rcases Int.lt_or_eq_of_le hbp with h | h
          · exact absurd trivial (fun _ => h4 b hb h)
          · exact h
        exact hne (h5 b (by simp) this)
      · have h1' : p ∈ b :: r := by
          rcases List.mem_cons.1 h1 with h | h
          · exact absurd h ha
          · exact h
        have hap := hs2.1 p h1'
        have h2' : -p ∈ b :: r := by
          rcases List.mem_cons.1 h2 with h | h
          · rw [h] at h3; omega
          · exact h
        exact mem_adj hs2.2 h1' h2' h3 h4 (fun x hx => h5 x (List.mem_cons_of_mem _ hx))
end Go.Proofs.Ytbnjbjcokkcfcaa.Sol
namespace Go.Proofs.Ytbnjbjcokkcfcaa.Sol
open Go.RowKit Go.Proofs.YtbnjbjcokkcfcaaW.PrintWords Go.Proofs.YtbnjbjcokkcfcaaW.PrintLast Go.Proofs.YtbnjbjcokkcfcaaW.PrintMore Go.Proofs.Ytbnjbjcokkcfcaa.PSearchOwn
set_option linter.unusedVariables false
set_option linter.unusedSimpArgs false
set_option maxHeartbeats 1000000 in
theorem compare_calls (x y : Int) (hx : -128 ≤ x ∧ x ≤ 128) (hy : -128 ≤ y ∧ y ≤ 128) (W : World) :
    Calls Try.prog 100 #[.int .i64 x, .int .i64 y] W fun e w' => e = .returned (.int .i64 (cmpF x y)) ∧ Drawn0 W w' := by
  have HV := Aside0.mk (fun (x : Int) (w : World) => varL_calls (W := w) x)
  have h1 := varOf_le x
  have h2 := varOf_le y
  unfold cmpF
  by_cases h : varOf x ≠ varOf y
  · have hw : wrap64 (varOf x - varOf y) = varOf x - varOf y := by unfold wrap64; omega
    rw [if_pos h]
    go_enter Try.func100, Try.ntmps100
    go_wp2_with (go_at_call 28; refine (HV.out _ _).mono ?_; rintro e w' ⟨rfl, ⟨n, rfl⟩⟩)
    go_ret
    exact ⟨rfl, ⟨_, rfl⟩⟩
  · have hw : wrap64 (x - y) = x - y := by unfold wrap64; omega
    rw [if_neg h]
    have h' : varOf x = varOf y := Classical.not_not.1 h
    go_enter Try.func100, Try.ntmps100
    go_wp2_with (go_at_call 28; refine (HV.out _ _).mono ?_; rintro e w' ⟨rfl, ⟨n, rfl⟩⟩)
    go_ret
    exact ⟨rfl, ⟨_, rfl⟩⟩
theorem order1_calls (x y : Int) (hx : -128 ≤ x ∧ x ≤ 128) (hy : -128 ≤ y ∧ y ≤ 128) (W : World) :
    Calls Try.prog 99 #[.int .i64 x, .int .i64 y] W fun e w' => e = .returned (.int .i64 (cmpF x y)) ∧ Drawn0 W w' := by
  have HV := Aside0.mk (fun (w : World) => compare_calls x y hx hy w)
  go_enter Try.func99, Try.ntmps99
  go_wp2_with (go_at_call 100; refine (HV.out _).mono ?_; rintro e w' ⟨rfl, ⟨n, rfl⟩⟩)
  go_ret
  exact ⟨rfl, ⟨_, rfl⟩⟩
abbrev enc9 (x : L9) : Value := .int .i64 x.1
theorem one9 : Go.Proofs.OneCell enc9 := fun x => rfl
theorem enter99 (args : Array Value) (w : World) : (callFunc 99 args).run Try.prog w = .ok (.enter 99 args) w := Go.Proofs.enters_of Try.func99 (by kernel_rfl) rfl args w
/-- What the sort leaves. -/
theorem sort_calls (W : World) (base : Nat) {v : Value} {xs : List Int} (h : W.ownsRow base 3 1 v xs.length (nums .i64 xs)) (hx : ∀ x ∈ xs, -128 ≤ x ∧ x ≤ 128) (hlen : xs.length ≤ 4096) :
    Calls Try.prog 98 #[v, .func (.func 99) #[] #[]] W fun e w' => e = .returned (.tuple #[]) ∧ ∃ ys : List Int, ys.length = xs.length ∧ (∀ x, x ∈ ys ↔ x ∈ xs) ∧ ys.Pairwise (fun x y => key x ≤ key y) ∧ w'.ownsRow base 3 1 v xs.length (nums .i64 ys) ∧ ∀ w0 B, Below B w0 W → B ≤ base → Below B w0 w' := by
  by_cases hv : v = .slice none 0 0
  · subst hv
    have hl : xs.length = 0 := by
      rcases h.2 with ⟨_, h0⟩ | ⟨g, cap, cur, h1, _⟩
      · exact h0
      · cases h1
    have h0 : xs = [] := List.eq_nil_of_length_eq_zero hl
    subst h0
    refine (Go.Proofs.AnyF.slices_SortFunc_none { sortLays with } none 0 (.func (.func 99) #[] #[]) W).mono ?_
    rintro e w' ⟨rfl, rfl⟩
    exact ⟨rfl, [], rfl, fun x => Iff.rfl, List.Pairwise.nil, h, fun _ _ hb _ => hb⟩
  · obtain ⟨d, hd⟩ : ∃ d : List L9, d.map (fun x => x.1) = xs := ⟨xs.pmap (fun x h => (⟨x, h⟩ : L9)) hx, by rw [List.map_pmap]; simp⟩
    have hnum : nums .i64 xs = d.map enc9 := by rw [← hd]; simp [nums, encs, enc9]
    have hdl : d.length = xs.length := by rw [← hd, List.length_map]
    have h2 := h
    rw [hnum] at h2
    obtain ⟨g, cap, rfl, hb, hlt, hn, hm, hl, hH⟩ := Go.Lib.holds_of_ownsRow (enc := enc9) h2 hv
    have hcmp : Go.Proofs.CmpLays1 Try.prog 99 #[] enc9 (fun x y : L9 => cmpF x.1 y.1) g 0 d.toArray.size W := Go.Proofs.CmpReads.lays (fun m os dk _ x y => (order1_calls x.1 y.1 x.2 y.2 _).mono (fun e w' hw => ⟨hw.1, hw.2.out⟩))
    have hs := Go.Proofs.Any.slices_SortFunc_total sortLays enc9 one9 (fun x y : L9 => cmpF x.1 y.1) swoL 99 #[] g 0 cap d.toArray W enter99 hcmp hH hlt (by simp; omega) totL
    have hsz : d.toArray.size = xs.length := by simpa using hdl
    rw [hsz] at hs
    refine hs.mono ?_
    rintro e w' ⟨rfl, n, os, rfl⟩
    have hml : (sortL d).length = xs.length := by rw [sortL_length, hdl]
    refine ⟨rfl, (sortL d).map (fun x => x.1), by rw [List.length_map, hml], fun x => ?_, ?_, ?_, fun w0 B hB hle => ?_⟩
    · rw [← hd, List.mem_map, List.mem_map]
      exact ⟨fun ⟨a, h1, h2⟩ => ⟨a, (sortL_mem d a).1 h1, h2⟩, fun ⟨a, h1, h2⟩ => ⟨a, (sortL_mem d a).2 h1, h2⟩⟩
    · rw [List.pairwise_map]; exact sortL_sorted d
    · have hp := Go.Lib.ownsRow_putRow (enc := enc9) (q := n) (k := xs.length) (ys := sortL d) h2 hml (Nat.le_refl _)
      rw [List.take_of_length_le (by omega)] at hp
      have hg := own_move (w1 := Go.Sort.grow (Go.Sort.putRow enc9 (Go.Sort.ahead W n) g 0 (sortL d).toArray) os) hp (fun k hk => Go.Sort.heap_grow_old _ os (own_lt hp k hk))
      have hnum2 : nums .i64 ((sortL d).map (fun x => x.1)) = (sortL d).map enc9 := by simp [nums, encs, enc9]
      rw [hnum2]
      exact hg
    · have hb1 := Go.Lib.below_putRow (enc := enc9) (q := n) (d := (sortL d).toArray) hB (show B ≤ g by omega)
      exact ⟨hb1.os, hb1.tape, hb1.output, Nat.le_trans hb1.size (by show _ ≤ (Go.Sort.grow _ os).heap.size; simp [Go.Sort.grow]), fun k hk => (Go.Sort.heap_grow_old _ os (by
        have hsz2 : (Go.Sort.putRow enc9 (Go.Sort.ahead W n) g 0 (sortL d).toArray).heap.size = W.heap.size := by simp [Go.Sort.putRow, Go.Sort.mapBlock, Go.Sort.ahead]
        show k < (Go.Sort.putRow enc9 (Go.Sort.ahead W n) g 0 (sortL d).toArray).heap.size
        rw [hsz2]; omega)).trans (hb1.block k hk)⟩
/-- What Compact leaves. -/
theorem compact_calls (W : World) (base : Nat) {v : Value} {xs : List Int} (h : W.ownsRow base 3 1 v xs.length (nums .i64 xs)) (hlen : xs.length ≤ 4096) :
    Calls Try.prog 101 #[v] W fun e w' => ∃ v', e = .returned v' ∧ w'.ownsRow base 3 1 v' (Go.Lib.compact xs).length (nums .i64 (Go.Lib.compact xs)) ∧ ∀ w0 B, Below B w0 W → B ≤ base → Below B w0 w' := by
  by_cases hv : v = .slice none 0 0
  · subst hv
    have hl : xs.length = 0 := by
      rcases h.2 with ⟨_, h0⟩ | ⟨g, cap, cur, h1, _⟩
      · exact h0
      · cases h1
    have h0 : xs = [] := List.eq_nil_of_length_eq_zero hl
    subst h0
    refine (Go.Proofs.Any.slices_Compact_int_empty cmpLays none 0 W).mono ?_
    rintro e w' ⟨rfl, rfl⟩
    exact ⟨_, rfl, h, fun _ _ hb _ => hb⟩
  · obtain ⟨g, cap, rfl, hb, hlt, hn, hm, hl, hH⟩ := Go.Lib.holds_of_ownsRow (enc := Value.int .i64) h hv
    refine (Go.Proofs.Any.slices_Compact_int cmpLays g 0 cap xs W hH (by omega) hn).mono ?_
    rintro e w' ⟨rfl, q, rfl⟩
    have hle := Go.Lib.compact_length_le xs
    refine ⟨_, rfl, ?_, fun w0 B hB hle => Go.Lib.below_putRow hB (by omega)⟩
    have := Go.Lib.ownsRow_putRow (enc := Value.int .i64) (q := q) (k := (Go.Lib.compact xs).length) (ys := Go.Lib.compact xs ++ List.replicate (xs.length - (Go.Lib.compact xs).length) 0) h (by simp; omega) hle
    rw [List.take_left] at this
    exact this
/-- A list in order, without repetitions. -/
def Tidy (ys l : List Int) : Prop := (∀ x, x ∈ ys ↔ x ∈ l) ∧ adj ys = oppB l ∧ ys.length ≤ l.length
theorem lit_range {n : Int} {l : List Int} (hv : litsB l n = true) : ∀ x ∈ l, (-128 ≤ x ∧ x ≤ 128) ∧ x ≠ 0 := fun x hx => by
  have h1 : varOf x ≠ 0 ∧ varOf x ≤ n := of_decide_eq_true (List.all_eq_true.1 hv x hx)
  have h2 := h1.1
  unfold varOf at h2
  split at h2
  · omega
  · split at h2 <;> omega
theorem key_of {x : Int} (h : -128 ≤ x ∧ x ≤ 128) : key x = if x > 0 then 2 * x + 1 else -(2 * x) := by
  unfold key
  rw [varOf_abs h]
  split <;> split <;> omega
theorem tidy_of {n : Int} {l ys : List Int} (hv : litsB l n = true) (hm : ∀ x, x ∈ ys ↔ x ∈ l) (hs : ys.Pairwise (fun x y => key x ≤ key y)) (hl : ys.length = l.length) : Tidy (Go.Lib.compact ys) l := by
  have hr := lit_range hv
  have hry : ∀ x ∈ ys, (-128 ≤ x ∧ x ≤ 128) ∧ x ≠ 0 := fun x hx => hr x ((hm x).1 hx)
  obtain ⟨h1, h2⟩ := compact_sorted ys hs (fun x hx y hy he => by
    have := key_inj (x := ⟨x, (hry x hx).1⟩) (y := ⟨y, (hry y hy).1⟩) he
    exact congrArg Subtype.val this)
  refine ⟨fun x => (h1 x).trans (hm x), ?_, by have := Go.Lib.compact_length_le ys; omega⟩
  refine Bool.eq_iff_iff.2 ⟨fun h => ?_, fun h => ?_⟩
  · obtain ⟨a, ha, hb⟩ := adj_mem h
    exact List.any_eq_true.2 ⟨a, (hm a).1 ((h1 a).1 ha), decide_eq_true ((hm _).1 ((h1 _).1 hb))⟩
  · obtain ⟨a, ha, hb⟩ := List.any_eq_true.1 h
    have hb := of_decide_eq_true hb
    have key2 : ∀ p : Int, p < 0 → p ∈ l → -p ∈ l → adj (Go.Lib.compact ys) = true := fun p hp h3 h4 => by
      have rp := (hr p h3).1
      have rq := (hr _ h4).1
      have e1 := key_of rp
      have e2 := key_of rq
      rw [if_neg (by omega)] at e1
      rw [if_pos (by omega)] at e2
      refine mem_adj h2 ((h1 _).2 ((hm _).2 h3)) ((h1 _).2 ((hm _).2 h4)) (by omega) (fun x _ _ => by omega) (fun x hx he => ?_)
      have rx := (hry x ((h1 x).1 hx)).1
      have := key_of rx
      split at this <;> omega
    have ha0 := (hr a ha).2
    by_cases hneg : a < 0
    · exact key2 a hneg ha hb
    · exact key2 (-a) (by omega) hb (by rw [Int.neg_neg]; exact ha)
set_option maxHeartbeats 1000000 in
theorem order_calls (W : World) {A : Option Addr} {c : Nat} {l : List Int} {n : Int} (hA : (Kd.int .i64).C W A l.length l) (hc : l.length ≤ c) (hlen : l.length ≤ 4096) (hnil : A = none → c = 0) (hv : litsB l n = true) :
    Calls Try.prog 89 #[.slice A l.length c] W fun e w' => ∃ v ys, e = .returned v ∧ w'.ownsRow W.heap.size 3 1 v ys.length (nums .i64 ys) ∧ Tidy ys l ∧ Below W.heap.size W w' := by
  have HC := Aside0.mk (clone_calls W hA hc (by omega) hnil)
  have HR := Aside0.mk (lit_range hv)
  have HV := Aside0.mk hv
  clear hA hv
  go_enter Try.func89, Try.ntmps89
  go_wp2_with (first
    | (go_at_call 36; refine (HC.out).mono ?_; rintro e w1 ⟨v1, rfl, ho1, hb1⟩; have HB1 := Aside0.mk hb1; have HS := Aside0.mk (sort_calls w1 _ ho1 (fun x hx => (HR.out x hx).1) hlen); clear ho1 hb1)
    | (go_at_call 98; refine (HS.out).mono ?_; rintro e w2 ⟨rfl, ys, hyl, hym, hys, ho2, hb2⟩; have HB2 := Aside0.mk (hb2 _ _ HB1.out (Nat.le_refl _)); have HT := Aside0.mk (tidy_of HV.out hym hys hyl); rw [← hyl] at ho2; have HK := Aside0.mk (compact_calls w2 _ ho2 (by omega)); clear ho2 hb2 hym hys hyl)
    | (go_at_call 101; refine (HK.out).mono ?_; rintro e w3 ⟨v3, rfl, ho3, hb3⟩; have HO3 := Aside0.mk ho3; have HB3 := Aside0.mk (hb3 _ _ HB2.out (Nat.le_refl _)); clear ho3 hb3))
  go_ret
  exact ⟨_, _, rfl, HO3.out, HT.out, HB3.out⟩
theorem valid1_calls (g : Nat) (n x : Int) (W : World) (hg : W.heap[g]? = some (.cells #[.int .i64 n] 3 (0, 0))) :
    Calls Try.prog 97 #[.int .i64 x, .pointer (some ⟨g, 0, none⟩)] W fun e w' => e = .returned (.bool (!validB x n)) ∧ Drawn0 W w' := by
  have hc : W.cell? ⟨g, 0, none⟩ = some (.int .i64 n) := (blk_cell hg 0).trans rfl
  have HV := Aside0.mk (fun (w : World) => validL_calls (W := w) x n)
  clear hg
  go_enter Try.func97, Try.ntmps97
  go_wp2_with (go_at_call 32; refine (HV.out _).mono ?_; rintro e w' ⟨rfl, ⟨n, rfl⟩⟩)
  go_ret
  exact ⟨rfl, ⟨_, rfl⟩⟩
set_option maxHeartbeats 1000000 in
/-- IndexFunc, with a closure that answers as p and leaves the world but for draws. -/
theorem indexfunc_calls (f : Nat) (cb : Array Value) (p : Int → Bool) (W : World) {A : Option Addr} {c : Nat} {l : List Int} (hA : (Kd.int .i64).C W A l.length l) (ef : ∀ args w, (callFunc f args).run Try.prog w = .ok (.enter f args) w)
    (hf : ∀ w x, x ∈ l → Drawn0 W w → Calls Try.prog f (#[.int .i64 x] ++ cb) w fun e w' => e = .returned (.bool (p x)) ∧ Drawn0 w w') :
    Calls Try.prog 86 #[.slice A l.length c, .func (.func f) #[] cb] W fun e w' => (∃ r : Int, e = .returned (.int .i64 r) ∧ (decide (r ≥ 0) = l.any p)) ∧ Drawn0 W w' := by
  have HF := Aside0.mk hf
  have HL := Aside0.mk hA
  have hmax := Kd.C_max hA
  clear hf hA
  go_enter Try.func86, Try.ntmps86
  go_wp2
  go_loopg [8] l.length (fun gk v8 w' => ∃ (i : Nat), i + gk = l.length ∧ v8 = .int .i64 (i : Int) ∧ Aside0 (l.any p = (l.drop i).any p) ∧ Aside0 (Drawn0 W w'))
  case atStart => exact ⟨0, by omega, rfl, ⟨by rw [List.drop_zero]⟩, ⟨Drawn0.refl W⟩⟩
  case round =>
    obtain ⟨i, hig, rfl, HP, HD⟩ := hrel
    cases gk with
    | zero =>
      have hi : ¬ ((i : Int) < (l.length : Int)) := by omega
      go_wp2
      go_ret
      exact ⟨⟨-1, rfl, by rw [HP.out, List.drop_eq_nil_of_le (by omega)]; rfl⟩, HD.out⟩
    | succ gk =>
      have hi : (i : Int) < (l.length : Int) := by omega
      obtain ⟨ad, hA2, hx⟩ := rd_int HL.out i (by omega)
      subst hA2
      obtain ⟨x, hxe⟩ : ∃ x, l.getD i 0 = x := ⟨_, rfl⟩
      rw [hxe] at hx
      have hxl : l[i]'(by omega) = x := by rw [← hxe]; simp [List.getD_eq_getElem?_getD, List.getElem?_eq_getElem (show i < l.length by omega)]
      have hdr : l.drop i = x :: l.drop (i + 1) := by rw [List.drop_eq_getElem_cons (show i < l.length by omega), hxl]
      have hx2 : wr.cell? (ad.add i) = some (.int .i64 x) := by
        obtain ⟨⟨n, rfl⟩⟩ := HD.out
        exact hx
      have HC := Aside0.mk (HF.out wr x (hxl ▸ List.getElem_mem _) HD.out)
      have hany : (l.drop i).any p = (p x || (l.drop (i + 1)).any p) := by rw [hdr, List.any_cons]
      have HAny := Aside0.mk hany
      clear hdr hxl hxe hany
      go_wp2_with fail
      refine (HC.out).mono ?_
      rintro e w2 ⟨rfl, hd2⟩
      have HD2 := Aside0.mk (show Drawn0 W w2 from by
        obtain ⟨⟨n, rfl⟩⟩ := HD.out
        obtain ⟨⟨m, rfl⟩⟩ := hd2
        exact (Drawn0.mk ⟨n, rfl⟩).step m)
      clear hd2 HC hx hx2
      cases hp : p x with
      | true =>
        go_wp2
        go_ret
        refine ⟨⟨(i : Int), rfl, ?_⟩, HD2.out⟩
        rw [HP.out, HAny.out, hp, Bool.true_or]
        exact decide_eq_true (by omega)
      | false =>
        go_wp2
        go_roundg gk
        case measure => omega
        case rel => exact ⟨i + 1, by omega, by go_num, ⟨by rw [HP.out, HAny.out, hp, Bool.false_or]⟩, HD2⟩
theorem containsfunc_calls (f : Nat) (cb : Array Value) (p : Int → Bool) (W : World) {A : Option Addr} {c : Nat} {l : List Int} (hA : (Kd.int .i64).C W A l.length l) (ef : ∀ args w, (callFunc f args).run Try.prog w = .ok (.enter f args) w)
    (hf : ∀ w x, x ∈ l → Drawn0 W w → Calls Try.prog f (#[.int .i64 x] ++ cb) w fun e w' => e = .returned (.bool (p x)) ∧ Drawn0 w w') :
    Calls Try.prog 63 #[.slice A l.length c, .func (.func f) #[] cb] W fun e w' => e = .returned (.bool (l.any p)) ∧ Drawn0 W w' := by
  have HI := Aside0.mk (indexfunc_calls (c := c) f cb p W hA ef hf)
  clear hA hf
  go_enter Try.func63, Try.ntmps63
  go_wp2_with (go_at_call 86; refine (HI.out).mono ?_; rintro e w' ⟨⟨r, rfl, hr⟩, hd⟩; have HD := Aside0.mk hd; have HR := Aside0.mk hr; clear hd hr)
  go_ret
  exact ⟨by rw [← HR.out]; rfl, HD.out⟩
theorem enter97 (args : Array Value) (w : World) : (callFunc 97 args).run Try.prog w = .ok (.enter 97 args) w := Go.Proofs.enters_of Try.func97 (by kernel_rfl) rfl args w
theorem validL88_calls (n : Int) (W : World) {A : Option Addr} {c : Nat} {l : List Int} (hA : (Kd.int .i64).C W A l.length l) :
    Calls Try.prog 88 #[.slice A l.length c, .int .i64 n] W fun e w' => e = .returned (.bool (litsB l n)) ∧ Below W.heap.size W w' := by
  have hg := blk_new W (.cells #[.int .i64 n] 3)
  have hb := below_alloc (Below.refl W.heap.size W) (.cells #[.int .i64 n] 3)
  have HC := Aside0.mk (containsfunc_calls (c := c) 97 #[.pointer (some ⟨W.heap.size, 0, none⟩)] (fun x => !validB x n) _ (Kd.C_below hA hb) enter97 (fun w x _ hd => valid1_calls W.heap.size n x w (by obtain ⟨⟨m, rfl⟩⟩ := hd; exact hg)))
  have HB := Aside0.mk hb
  have HE := Aside0.mk (show (!(l.any fun x => !validB x n)) = litsB l n by unfold litsB; rw [← List.all_eq_not_any_not])
  clear hA hg hb
  go_enter Try.func88, Try.ntmps88
  go_wp2_with (go_at_call 63; refine (HC.out).mono ?_; rintro e w' ⟨rfl, ⟨n, rfl⟩⟩)
  go_ret
  exact ⟨by rw [← HE.out]; rfl, pw_below_drewN HB.out n⟩
theorem order2_calls (W : World) {A : Option Addr} {c : Nat} {l : List Int} {n : Int} (hA : (Kd.int .i64).C W A l.length l) (hc : l.length ≤ c) (hlen : l.length ≤ 4096) (hnil : A = none → c = 0) (hv : litsB l n = true) :
    Calls Try.prog 89 #[.slice A l.length c] W fun e w' => ∃ A3 c3 ys, e = .returned (.slice A3 ys.length c3) ∧ w'.ownsRow W.heap.size 3 1 (.slice A3 ys.length c3) ys.length (nums .i64 ys) ∧ Tidy ys l ∧ Below W.heap.size W w' ∧ Calls Try.prog 90 #[.slice A3 ys.length c3] w' fun e w'' => e = .returned (.bool (oppB l)) ∧ Drawn0 w' w'' := by
  refine (order_calls W hA hc hlen hnil hv).mono ?_
  rintro e w' ⟨v, ys, rfl, ho, ht, hb⟩
  obtain ⟨A3, c3, rfl, hC3, hc3, _, _⟩ := own_C ho
  refine ⟨A3, c3, ys, rfl, ho, ht, hb, ?_⟩
  have hr := lit_range hv
  have := opposite_calls hC3 hc3 (Nat.le_trans ht.2.2 hlen) (fun x hx => by
    have := (hr x ((ht.1 x).1 hx)).1
    omega)
  rw [ht.2.1] at this
  exact this
/-- What Term leaves: nothing, or the literals in order. -/
def TermPost (W : World) (n : Int) (l : List Int) (e : Ending) (w' : World) : Prop :=
  (∃ v ys, e = .returned (.tuple #[v, .bool (litsB l n && !oppB l)]) ∧ ((litsB l n && !oppB l) = true → w'.ownsRow W.heap.size 3 1 v ys.length (nums .i64 ys) ∧ Tidy ys l)) ∧ Below W.heap.size W w'
theorem term_calls (n : Int) (W : World) {A : Option Addr} {c : Nat} {l : List Int} (hA : (Kd.int .i64).C W A l.length l) (hc : l.length ≤ c) (hlen : l.length ≤ 4096) (hnil : A = none → c = 0) :
    Calls Try.prog 70 #[.slice A l.length c, .int .i64 n] W (TermPost W n l) := by
  have HV := Aside0.mk (validL88_calls (c := c) n W hA)
  cases hv : litsB l n with
  | false =>
    rw [hv] at HV
    have HN := Aside0.mk hv
    clear hA hv
    go_enter Try.func70, Try.ntmps70
    go_wp2_with (go_at_call 88; refine (HV.out).mono ?_; rintro e w' ⟨rfl, hb⟩; have HB := Aside0.mk hb; clear hb)
    go_ret2
    exact ⟨⟨_, [], by rw [HN.out]; rfl, fun h => by rw [HN.out] at h; cases h⟩, HB.out⟩
  | true =>
    have HO := Aside0.mk (fun (w : World) (hb : Below W.heap.size W w) => order2_calls w (Kd.C_below hA hb) hc hlen hnil hv)
    rw [hv] at HV
    have HN := Aside0.mk hv
    have HLr := Aside0.mk (lit_range hv)
    clear hA hv
    cases ho : oppB l with
    | true =>
      have HOp := Aside0.mk ho
      clear ho
      go_enter Try.func70, Try.ntmps70
      go_wp2_with (first
        | (go_at_call 88; refine (HV.out).mono ?_; rintro e w1 ⟨rfl, hb⟩; have HB := Aside0.mk hb; clear hb)
        | (go_at_call 89; refine (HO.out _ HB.out).mono ?_; rintro e w2 ⟨A3, c3, ys, rfl, ho2, ht2, hb2, ha2⟩; have HB2 := Aside0.mk (below_step HB.out hb2); have HO2 := Aside0.mk (own_less ho2 HB.out.size); have HT2 := Aside0.mk ht2; rw [HOp.out] at ha2; have HAdj := Aside0.mk ha2; clear ho2 ht2 hb2 ha2)
        | (go_at_call 90; refine (HAdj.out).mono ?_; rintro e w3 ⟨rfl, ⟨m, rfl⟩⟩))
      go_ret2
      exact ⟨⟨_, [], by rw [HN.out, HOp.out]; rfl, fun h => by rw [HN.out, HOp.out] at h; cases h⟩, pw_below_drewN HB2.out m⟩
    | false =>
      have HOp := Aside0.mk ho
      clear ho
      go_enter Try.func70, Try.ntmps70
      go_wp2_with (first
        | (go_at_call 88; refine (HV.out).mono ?_; rintro e w1 ⟨rfl, hb⟩; have HB := Aside0.mk hb; clear hb)
        | (go_at_call 89; refine (HO.out _ HB.out).mono ?_; rintro e w2 ⟨A3, c3, ys, rfl, ho2, ht2, hb2, ha2⟩; have HB2 := Aside0.mk (below_step HB.out hb2); have HO2 := Aside0.mk (own_less ho2 HB.out.size); have HT2 := Aside0.mk ht2; rw [HOp.out] at ha2; have HAdj := Aside0.mk ha2; clear ho2 ht2 hb2 ha2)
        | (go_at_call 90; refine (HAdj.out).mono ?_; rintro e w3 ⟨rfl, ⟨m, rfl⟩⟩))
      go_ret2
      exact ⟨⟨_, ys, by rw [HN.out, HOp.out]; rfl, fun h => ⟨own_move HO2.out (fun _ _ => rfl), HT2.out⟩⟩, pw_below_drewN HB2.out m⟩
end Go.Proofs.Ytbnjbjcokkcfcaa.Sol
namespace Go.Proofs.Ytbnjbjcokkcfcaa.Sol
open Go.RowKit Go.Proofs.YtbnjbjcokkcfcaaW.PrintWords Go.Proofs.YtbnjbjcokkcfcaaW.PrintLast Go.Proofs.YtbnjbjcokkcfcaaW.PrintMore Go.Proofs.Ytbnjbjcokkcfcaa.PSearchOwn
set_option linter.unusedVariables false
set_option linter.unusedSimpArgs false
theorem okB_iff (n : Int) (L : List (List Int)) (l : List Int) : okB n L l = (decide (checkF n L = 0) && (litsB l n && !oppB l)) := by
  unfold okB
  by_cases h : checkF n L = 0
  · rw [if_pos h, decide_eq_true h, Bool.true_and]
    cases litsB l n <;> rfl
  · rw [if_neg h, decide_eq_false h, Bool.false_and]
/-- What checked leaves. -/
def CheckedPost (W : World) (N : Int) (L : List (List Int)) (l : List Int) (e : Ending) (w' : World) : Prop :=
  (∃ v ys, e = .returned (.tuple #[v, .int .i64 (if okB N L l then 0 else 1)]) ∧ (okB N L l = true → w'.ownsRow W.heap.size 3 1 v ys.length (nums .i64 ys) ∧ Tidy ys l)) ∧ Below W.heap.size W w'
theorem checked_calls {N : Int} {W : World} {AL : Option Addr} {cL : Nat} {L : List (List Int)} {A : Option Addr} {c : Nat} {l : List Int} (hL : Kd.C (Kd.slice 3 (Kd.int .i64)) W AL L.length L) (hcL : L.length ≤ cL) (hA : (Kd.int .i64).C W A l.length l) (hc : l.length ≤ c) (hlen : l.length ≤ 4096) (hnil : A = none → c = 0) :
    Calls Try.prog 41 #[.agg #[.int .i64 N, .slice AL L.length cL], .slice A l.length c] W (CheckedPost W N L l) := by
  have HB0 := Aside0.mk (below_alloc (Below.refl W.heap.size W) (.cells #[.int .i64 N, .slice AL L.length cL] 24))
  have HT0 := Aside0.mk (blk_new W (.cells #[.int .i64 N, .slice AL L.length cL] 24))
  have HCK := Aside0.mk (fun (w : World) (hb : Below W.heap.size W w) => check_calls (N := N) (Kd.C_below hL hb) hcL)
  have HTM := Aside0.mk (fun (w : World) (hb : Below W.heap.size W w) => term_calls N w (Kd.C_below hA hb) hc hlen hnil)
  clear hL hA
  have hok := okB_iff N L l
  by_cases h0 : checkF N L = 0
  · rw [decide_eq_true h0, Bool.true_and] at hok
    rw [h0] at HCK
    cases hv : litsB l N && !oppB l with
    | false =>
      rw [hv] at hok
      have HOk := Aside0.mk hok
      have HV := Aside0.mk hv
      clear hok hv
      go_enter Try.func41, Try.ntmps41
      go_wp2_with (first
        | (go_at_call 31; refine (HCK.out _ HB0.out).mono ?_; rintro e w2 ⟨rfl, hb2⟩; have HB2 := Aside0.mk (below_step HB0.out hb2); have HT2 := Aside0.mk (blk_below HT0.out hb2); clear hb2; have hc0 : w2.cell? ⟨W.heap.size, 0, none⟩ = some (.int .i64 N) := (blk_cell HT2.out 0).trans rfl)
        | (go_at_call 70; refine (HTM.out _ HB2.out).mono ?_; rintro e w3 ⟨⟨v, ys, rfl, hy⟩, hb3⟩; rw [HV.out]; have HB3 := Aside0.mk (below_step HB2.out hb3); clear hy hb3))
      go_ret2
      exact ⟨⟨_, [], by rw [HOk.out]; rfl, fun h => by rw [HOk.out] at h; cases h⟩, HB3.out⟩
    | true =>
      rw [hv] at hok
      have HOk := Aside0.mk hok
      have HV := Aside0.mk hv
      clear hok hv
      go_enter Try.func41, Try.ntmps41
      go_wp2_with (first
        | (go_at_call 31; refine (HCK.out _ HB0.out).mono ?_; rintro e w2 ⟨rfl, hb2⟩; have HB2 := Aside0.mk (below_step HB0.out hb2); have HT2 := Aside0.mk (blk_below HT0.out hb2); clear hb2; have hc0 : w2.cell? ⟨W.heap.size, 0, none⟩ = some (.int .i64 N) := (blk_cell HT2.out 0).trans rfl)
        | (go_at_call 70; refine (HTM.out _ HB2.out).mono ?_; rintro e w3 ⟨⟨v, ys, rfl, hy⟩, hb3⟩; have HY := Aside0.mk (hy HV.out); rw [HV.out]; have HB3 := Aside0.mk (below_step HB2.out hb3); clear hy hb3))
      go_ret2
      exact ⟨⟨_, ys, by rw [HOk.out]; rfl, fun _ => ⟨own_less HY.out.1 HB2.out.size, HY.out.2⟩⟩, HB3.out⟩
  · rw [decide_eq_false h0, Bool.false_and] at hok
    have HOk := Aside0.mk hok
    clear hok
    go_enter Try.func41, Try.ntmps41
    go_wp2_with (go_at_call 31; refine (HCK.out _ HB0.out).mono ?_; rintro e w2 ⟨rfl, hb2⟩; have HB2 := Aside0.mk (below_step HB0.out hb2); clear hb2)
    go_ret2
    exact ⟨⟨_, [], by rw [HOk.out]; rfl, fun h => by rw [HOk.out] at h; cases h⟩, HB2.out⟩
end Go.Proofs.Ytbnjbjcokkcfcaa.Sol
namespace Go.Proofs.Ytbnjbjcokkcfcaa.Sol
open Go.RowKit Go.Proofs.YtbnjbjcokkcfcaaW.PrintWords Go.Proofs.YtbnjbjcokkcfcaaW.PrintLast Go.Proofs.YtbnjbjcokkcfcaaW.PrintMore Go.Proofs.Ytbnjbjcokkcfcaa.PSearchOwn
set_option linter.unusedVariables false
set_option linter.unusedSimpArgs false
section
variable {P : Program} {ops : Array Oper} {Q : Exit → Act → World → Prop}
theorem goesV_ {oi : Oper} {N : Option Tmp} {a : Act} {w : World} {K : Act → World → Prop} {f : FuncId} {fn : Func} {asx : Array Operand} {ts : Array TypeId} (hf : P.funcs[f]? = some fn) (hname : (fn.name == "runtime.NumGoroutine") = false) (hb : fn.body.isSome = true) (args cb : Array Value) (x : Operand)
    (hw : Region.wanted oi (yielded ops a.tmps) = true) (hN : oi.dst = N) (hop : oi.op = .call { callee := .value x, args := asx, argTypes := ts }) (hx : a.eval x = .func (.func f) #[] cb) (hargs : asx.map a.eval = args)
    (h : Calls P f (args ++ cb) w fun e w' => ∃ v, e = .returned v ∧ K (a.put N v) w') : if Region.wanted oi (yielded ops a.tmps) = true then Oper.wp P oi a w K Q else K (a.put N undef) w := by
  refine call_ f (args ++ cb) hw hN ?_ h
  have he := enters_ hf hname hb (args ++ cb) w
  unfold execOp
  simp [hop, resolve, Deferred.ofValue, invoke, hx, hargs, he]
end
end Go.Proofs.Ytbnjbjcokkcfcaa.Sol
namespace Go.Proofs.Ytbnjbjcokkcfcaa.Sol
open Go.RowKit Go.Proofs.YtbnjbjcokkcfcaaW.PrintWords Go.Proofs.YtbnjbjcokkcfcaaW.PrintLast Go.Proofs.YtbnjbjcokkcfcaaW.PrintMore Go.Proofs.Ytbnjbjcokkcfcaa.PSearchOwn
set_option linter.unusedVariables false
set_option linter.unusedSimpArgs false
/-- The cells of the parents. -/
def upC (up : Nat → Nat) : Array Value := ((List.range 129).map fun i => Value.int .i64 (up i : Int)).toArray
structure Rooted (up R : Nat → Nat) : Prop where
  at0 : ∀ v, v < 129 → up v = 0 → R v = v
  at1 : ∀ v, v < 129 → up v ≠ 0 → up v < v ∧ R (up v) = R v
theorem Rooted.le {up R : Nat → Nat} (h : Rooted up R) : ∀ v, v < 129 → R v ≤ v ∧ up (R v) = 0 ∧ (1 ≤ v → 1 ≤ R v) := by
  intro v
  induction v using Nat.strongRecOn with
  | ind v ih =>
    intro hv
    by_cases h0 : up v = 0
    · rw [h.at0 v hv h0]; exact ⟨Nat.le_refl _, h0, id⟩
    · obtain ⟨h1, h2⟩ := h.at1 v hv h0
      obtain ⟨h3, h4, h5⟩ := ih (up v) h1 (by omega)
      rw [h2] at h3 h4 h5
      exact ⟨by omega, h4, fun _ => h5 (by omega)⟩
theorem Rooted.idem {up R : Nat → Nat} (h : Rooted up R) {v : Nat} (hv : v < 129) : R (R v) = R v := by
  obtain ⟨h1, h2, _⟩ := h.le v hv
  exact h.at0 (R v) (by omega) h2
/-- The path is made short. -/
theorem Rooted.short {up R : Nat → Nat} (h : Rooted up R) {v : Nat} (hv : v < 129) (h0 : up v ≠ 0) : Rooted (fun i => if i = v then R v else up i) R := by
  obtain ⟨h1, h2⟩ := h.at1 v hv h0
  obtain ⟨h3, h4, h5⟩ := h.le (up v) (by omega)
  rw [h2] at h3 h4 h5
  refine ⟨fun w hw hz => ?_, fun w hw hz => ?_⟩
  · by_cases e : w = v
    · simp only [e, if_true] at hz; omega
    · simp only [if_neg e] at hz; exact h.at0 w hw hz
  · by_cases e : w = v
    · subst e; simp only [if_true]; exact ⟨by omega, h.idem hw⟩
    · simp only [if_neg e] at hz ⊢; exact h.at1 w hw hz
/-- Two roots are joined. -/
def uni (R : Nat → Nat) (x y : Nat) : Nat → Nat := fun z => if R z = max (R x) (R y) then min (R x) (R y) else R z
theorem Rooted.join {up R : Nat → Nat} (h : Rooted up R) {x y : Nat} (hx : x < 129) (hy : y < 129) (hx1 : 1 ≤ x) (hy1 : 1 ≤ y) (hne : R x ≠ R y) : Rooted (fun i => if i = max (R x) (R y) then min (R x) (R y) else up i) (uni R x y) := by
  obtain ⟨a1, a2, a3⟩ := h.le x hx
  obtain ⟨b1, b2, b3⟩ := h.le y hy
  have a3 := a3 hx1
  have b3 := b3 hy1
  have i1 := h.idem hx
  have i2 := h.idem hy
  have hm : R (min (R x) (R y)) = min (R x) (R y) := by
    rcases Nat.le_total (R x) (R y) with h | h
    · rw [Nat.min_eq_left h]; exact i1
    · rw [Nat.min_eq_right h]; exact i2
  have hM : R (max (R x) (R y)) = max (R x) (R y) := by
    rcases Nat.le_total (R x) (R y) with h | h
    · rw [Nat.max_eq_right h]; exact i2
    · rw [Nat.max_eq_left h]; exact i1
  refine ⟨fun w hw hz => ?_, fun w hw hz => ?_⟩
  · by_cases e : w = max (R x) (R y)
    · simp only [e, if_true] at hz; omega
    · simp only [if_neg e] at hz
      unfold uni
      rw [if_neg (by rw [h.at0 w hw hz]; exact e)]
      exact h.at0 w hw hz
  · by_cases e : w = max (R x) (R y)
    · subst e; simp only [if_true]
      refine ⟨by omega, ?_⟩
      unfold uni
      rw [hm, hM, if_neg (by omega), if_pos rfl]
    · simp only [if_neg e] at hz ⊢
      obtain ⟨h1, h2⟩ := h.at1 w hw hz
      refine ⟨h1, ?_⟩
      unfold uni
      rw [h2]
theorem uni_same {R : Nat → Nat} {x y : Nat} (h : R x = R y) : uni R x y = R := by
  funext z
  unfold uni
  rw [h, Nat.max_self, Nat.min_self]
  split
  · rename_i h2; exact h2.symm
  · rfl
structure UF (W : World) (gu gf : Nat) (up : Nat → Nat) : Prop where
  u : W.heap[gu]? = some (.cells (upC up) 72 (0, 0))
  f : W.heap[gf]? = some (.cells #[.func (.func 42) #[] #[.pointer (some ⟨gu, 0, none⟩), .pointer (some ⟨gf, 0, none⟩)]] 55 (0, 0))
theorem up_cell {W : World} {gu gf : Nat} {up : Nat → Nat} (h : UF W gu gf up) {v : Nat} (hv : v < 129) : W.cell? ⟨gu, v, none⟩ = some (.int .i64 (up v : Int)) := by
  rw [blk_cell h.u v]
  simp [upC, hv]
theorem upC_set (up : Nat → Nat) {v x : Nat} (hv : v < 129) : (upC up).setIfInBounds v (.int .i64 (x : Int)) = upC (fun i => if i = v then x else up i) := by
  apply Array.ext_getElem?
  intro i
  rw [Array.getElem?_setIfInBounds]
  by_cases h : v = i
  · subst h; simp [upC, hv]
  · rw [if_neg h]
    by_cases hi : i < 129
    · simp [upC, hi, Ne.symm h]
    · simp [upC, hi]
theorem UF.drewN {W : World} {gu gf : Nat} {up : Nat → Nat} (h : UF W gu gf up) (n : Nat) : UF (W.drewN n) gu gf up := ⟨h.u, h.f⟩
theorem UF.below {W w : World} {gu gf : Nat} {up : Nat → Nat} (h : UF W gu gf up) (hb : Below W.heap.size W w) : UF w gu gf up := ⟨blk_below h.u hb, blk_below h.f hb⟩
theorem UF.set {W : World} {gu gf : Nat} {up : Nat → Nat} (h : UF W gu gf up) {v x : Nat} (hv : v < 129) : UF (W.setCell ⟨gu, v, none⟩ (.int .i64 (x : Int))) gu gf (fun i => if i = v then x else up i) :=
  ⟨by have := blk_set h.u v (.int .i64 (x : Int)); rwa [upC_set up hv] at this, blk_far h.f (blk_ne h.f h.u (by decide)) _⟩
/-- What top leaves. -/
def TopPost (W : World) (gu gf : Nat) (R up : Nat → Nat) (v : Nat) (e : Ending) (w' : World) : Prop :=
  e = .returned (.int .i64 (R v : Int)) ∧ ∃ up', Rooted up' R ∧ UF w' gu gf up' ∧ Kept W w' (fun k => k = gu) ∧ (∀ i, v < i → up' i = up i) ∧ ∀ B w0, Below B w0 W → B ≤ gu → Below B w0 w'
def q42r3T : Bool × List (List Nat × List Nat) := (true, [([], []), ([], []), ([], []), ([2], [2]), ([3], [3]), ([1, 4], [1, 4]), ([0, 0, 1, 2, 3, 4, 5], [0]), ([6, 5, 5, 0, 1, 2, 3, 4, 5], [5, 6])])
def q42r3B : List Nat := [0, 0, 0, 4, 12, 30, 63, 127]
theorem q42r3tab : rtab .any (opsOf Try.f42 3) = q42r3T := by kernel_rfl
theorem q42r3bits : waitsOk q42r3T.2 q42r3B = true := by kernel_rfl
set_option maxHeartbeats 2000000 in
set_option maxRecDepth 100000 in
theorem top_calls {gu gf : Nat} {R : Nat → Nat} : ∀ v : Nat, v < 129 → ∀ up, Rooted up R → ∀ W, UF W gu gf up → Calls Try.prog 42 #[.int .i64 (v : Int), .pointer (some ⟨gu, 0, none⟩), .pointer (some ⟨gf, 0, none⟩)] W (TopPost W gu gf R up v) := by
  intro v
  induction v using Nat.strongRecOn with
  | ind v ih =>
  intro hv up hR W hU
  have HU := Aside0.mk hU
  have hc0 := up_cell hU hv
  by_cases h0 : up v = 0
  · have hr := hR.at0 v hv h0
    have HR := Aside0.mk hR
    rw [h0] at hc0
    clear hU hR ih
    go_enter Try.func42, Try.ntmps42
    go_wp2
    go_ret
    exact ⟨by rw [hr]; rfl, up, HR.out, HU.out, Kept.refl _ _, fun _ _ => rfl, fun _ _ hb _ => hb⟩
  · have hlt := hR.at1 v hv h0
    have hne : ¬ ((up v : Int) = 0) := by omega
    have hvI : (v : Int) < 129 := by omega
    have hle := hR.le (up v) (by omega)
    have HIh := Aside0.mk ih
    have HRt := Aside0.mk hR
    have HLt := Aside0.mk hlt
    have HLe := Aside0.mk hle
    clear hU ih hR hlt hle
    go_enter Try.func42, Try.ntmps42
    try go_wp2
    refine start_ (n := 8) (S := fun w' => w'.cell? ⟨gf, 0, none⟩ = some (.func (.func 42) #[] #[.pointer (some ⟨gu, 0, none⟩), .pointer (some ⟨gf, 0, none⟩)]) ∧ w'.cell? ⟨gu, v, none⟩ = some (.int .i64 (up v : Int))) (ds := [7]) #[false, false, false, false, false, false, false, false] (by kernel_rfl) rfl rfl (⟨(blk_cell HU.out.f 0).trans rfl, up_cell HU.out hv⟩) (fun hHeld => ?_)
    refine with_tabW q42r3tab q42r3bits (fun HT_ HW_ => ?_)
    refine pure_ (i := 0) (N := some 10) (v := ?_) (a' := ?_) #[true, false, false, false, false, false, false, false] rfl rfl (any_of HT_.out (by kernel_rfl)) (fun _ _ _ h => h) (Or.inl ⟨by rfl, ?_⟩) ?_ ?_
    rotate_left
    · intro w'
      go_simp
      with_reducible rfl
    rotate_left
    · simp only [Act.put, List.setIfInBounds_toArray, List.set_cons_zero, List.set_cons_succ, i64_w, i32_w]
      rfl
    refine take_ (i := 1) (N := some 11) (v := ?_) (a' := ?_) #[true, true, false, false, false, false, false, false] rfl rfl (take_ofW HT_.out HW_.out (by kernel_rfl)) (fun _ _ _ h => h) (Or.inl ⟨by rfl, ?_⟩) hHeld ?_ ?_
    rotate_left
    · rintro w' ⟨s0, s1⟩
      go_simp
      with_reducible rfl
    rotate_left
    · simp only [Act.put, List.setIfInBounds_toArray, List.set_cons_zero, List.set_cons_succ, i64_w, i32_w]
      rfl
    refine pure_ (i := 2) (N := some 12) (v := ?_) (a' := ?_) #[true, true, true, false, false, false, false, false] rfl rfl (any_of HT_.out (by kernel_rfl)) (fun _ _ _ h => h) (Or.inl ⟨by rfl, ?_⟩) ?_ ?_
    rotate_left
    · intro w'
      go_simp
      with_reducible rfl
    rotate_left
    · simp only [Act.put, List.setIfInBounds_toArray, List.set_cons_zero, List.set_cons_succ, i64_w, i32_w]
      rfl
    refine pure_ (i := 3) (N := some 13) (v := ?_) (a' := ?_) #[true, true, true, true, false, false, false, false] rfl rfl (any_of HT_.out (by kernel_rfl)) (fun _ _ _ h => h) (Or.inl ⟨by rfl, ?_⟩) ?_ ?_
    rotate_left
    · intro w'
      go_simp
      with_reducible rfl
    rotate_left
    · simp only [Act.put, List.setIfInBounds_toArray, List.set_cons_zero, List.set_cons_succ, i64_w, i32_w]
      rfl
    refine take_ (i := 4) (N := some 14) (v := ?_) (a' := ?_) #[true, true, true, true, true, false, false, false] rfl rfl (take_ofW HT_.out HW_.out (by kernel_rfl)) (fun _ _ _ h => h) (Or.inl ⟨by rfl, ?_⟩) hHeld ?_ ?_
    rotate_left
    · rintro w' ⟨s0, s1⟩
      go_simp
      with_reducible rfl
    rotate_left
    · simp only [Act.put, List.setIfInBounds_toArray, List.set_cons_zero, List.set_cons_succ, i64_w, i32_w]
      rfl
    refine one_ (i := 5) (N := some 15) #[true, true, true, true, true, true, false, false] rfl rfl (one_of HT_.out (by kernel_rfl)) (by decide) (fun K hK => ?_)
    refine goesV_ Try.func42 (by kernel_rfl) rfl #[.int .i64 (up v : Int)] #[.pointer (some ⟨gu, 0, none⟩), .pointer (some ⟨gf, 0, none⟩)] (.tmp 11) (by rfl) rfl rfl (by rfl) (by simp only [List.map_toArray, List.map_cons, List.map_nil]; rfl) ?_
    have hcall := HIh.out (up v) HLt.out.1 (by have := HLt.out.1; omega) up HRt.out W.drew ⟨HU.out.u, HU.out.f⟩
    unfold TopPost at hcall
    rw [HLt.out.2] at hcall
    refine hcall.mono ?_
    clear hcall
    rintro e_ w_ ⟨rfl, up2, hR2, hU2, hk2, hi2, hb2⟩
    refine ⟨_, rfl, ?_⟩
    have hv2 : up2 v = up v := hi2 v HLt.out.1
    have HU2 := Aside0.mk hU2
    have HR2 := Aside0.mk hR2
    have HB2 := Aside0.mk hb2
    have HK2 := Aside0.mk hk2
    have HI2 := Aside0.mk hi2
    have hq0 := up_cell hU2 hv
    have hf2 := blk_frozen hU2.u v
    rw [hv2] at hq0
    have HV2 := Aside0.mk hv2
    clear hU2 hR2 hb2 hk2 hi2 hc0 hv2
    refine hK.out _ _ (⟨(blk_cell HU2.out.f 0).trans rfl, hq0⟩) (fun hHeld => ?_)
    clear hK K
    refine norm_ (a' := ?_) ?_ ?_
    rotate_left
    · show Act.put _ (some 15) _ = _
      simp only [Act.put, List.setIfInBounds_toArray, List.set_cons_zero, List.set_cons_succ, i64_w, i32_w]
      rfl
    refine pure_ (i := 6) (N := some 16) (v := ?_) (a' := ?_) #[true, true, true, true, true, true, true, false] rfl rfl (any_of HT_.out (by kernel_rfl)) (fun _ _ _ h => h) (Or.inl ⟨by rfl, ?_⟩) ?_ ?_
    rotate_left
    · intro w'
      go_simp
      with_reducible rfl
    rotate_left
    · simp only [Act.put, List.setIfInBounds_toArray, List.set_cons_zero, List.set_cons_succ, i64_w, i32_w]
      rfl
    refine last_ (i := 7) (N := none) #[true, true, true, true, true, true, true, true] rfl rfl (one_of HT_.out (by kernel_rfl)) (by decide) (fun K hK => ?_)
    refine skip_ (w1 := ?_) (by rfl) rfl ?_ ?_
    rotate_left
    · go_simp
      rfl
    refine hK.out _ _ ?_
    clear hK K
    refine done_ (done_of HT_.out (by kernel_rfl)) ?_
    have HU3 := Aside0.mk (HU2.out.set (x := R v) hv)
    have hq3 := up_cell HU3.out hv
    simp only [if_true] at hq3
    go_wp2
    go_ret
    refine ⟨rfl, _, HR2.out.short hv (by rw [HV2.out]; exact h0), HU3.out, HK2.out.setCell (Or.inl rfl) _, fun i hi => ?_, fun B w0 hB hle => ?_⟩
    · simp only [if_neg (show i ≠ v by omega)]; exact HI2.out i (by have := HLt.out.1; omega)
    · exact (HB2.out B w0 hB.drew hle).setCell hle _
end Go.Proofs.Ytbnjbjcokkcfcaa.Sol
