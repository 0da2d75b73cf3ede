/- The search as a plain function, and what it keeps. -/
import Derived.Test.YtbnjbjcokkcfcaaA4
namespace Go.Proofs.Ytbnjbjcokkcfcaa.Sol
open Go.RowKit Go.Proofs.YtbnjbjcokkcfcaaW.PrintWords Go.Proofs.YtbnjbjcokkcfcaaW.PrintLast Go.Proofs.YtbnjbjcokkcfcaaW.PrintMore Go.Proofs.Ytbnjbjcokkcfcaa.PSearchOwn
set_option linter.unusedVariables false
set_option linter.unusedSimpArgs false

/-- The first variable from v on (d at most are to come) that has no value. -/
def next (vs : List Int) : Nat → Nat → Nat
  | 0, v => v
  | d + 1, v => if vat vs v = 0 then v else next vs d (v + 1)
def undo (vs ts : List Int) (m : Nat) : List Int × List Int := (backV vs (ts.drop m), ts.take m)
/-- try(v); n: the number of variables and 1. -/
def tryF (L : List (List Int)) (n K : Nat) : Nat → Nat → List Int → List Int → Option (Bool × List Int × List Int)
  | 0, _, _, _ => none
  | f + 1, v, vs, ts => (prop L K vs ts).bind fun r =>
    if r.1 = false then some r else
    if n ≤ next r.2.1 (n - v) v then some r else
    (tryF L n K f (next r.2.1 (n - v) v + 1) (setV r.2.1 (-(next r.2.1 (n - v) v : Int))) (setT r.2.1 r.2.2 (-(next r.2.1 (n - v) v : Int)))).bind fun r2 =>
      if r2.1 then some r2 else
      (tryF L n K f (next r.2.1 (n - v) v + 1) (setV (undo r2.2.1 r2.2.2 r.2.2.length).1 (next r.2.1 (n - v) v)) (setT (undo r2.2.1 r2.2.2 r.2.2.length).1 (undo r2.2.1 r2.2.2 r.2.2.length).2 (next r.2.1 (n - v) v))).bind fun r3 =>
        if r3.1 then some r3 else some (false, undo r3.2.1 r3.2.2 r.2.2.length)

/-- What holds of values and trail at every step. -/
structure Inv (n : Nat) (vs ts : List Int) : Prop where
  len : vs.length = n
  room : Room vs ts
  tr : TrOk n ts
  zero : vat vs 0 = 0
theorem next_le (vs : List Int) : ∀ d v, next vs d v ≤ v + d
  | 0, v => by simp [next]
  | d + 1, v => by
    simp only [next]
    split
    · omega
    · have := next_le vs d (v + 1); omega
theorem le_next (vs : List Int) : ∀ d v, v ≤ next vs d v
  | 0, v => by simp [next]
  | d + 1, v => by
    simp only [next]
    split
    · omega
    · have := le_next vs d (v + 1); omega
theorem vat_set (vs : List Int) (i : Nat) (x : Int) : vat (vs.set i x) 0 = if i = 0 ∧ 0 < vs.length then x else vat vs 0 := by
  unfold vat
  simp only [List.getD_eq_getElem?_getD, Int.toNat_zero, List.getElem?_set]
  by_cases h : i = 0
  · subst h
    by_cases h2 : 0 < vs.length
    · simp [h2]
    · simp at h2; simp [h2]
  · simp [h]
theorem zero_set {vs : List Int} {n : Nat} {l : Int} (hl : LitOk n l) (h : vat vs 0 = 0) : vat (setV vs l) 0 = 0 := by
  obtain ⟨h0, h1, h2⟩ := hl
  unfold setV
  split
  · split
    · rw [vat_set, if_neg (by omega)]; exact h
    · rw [vat_set, if_neg (by omega)]; exact h
  · exact h
theorem zero_back {vs : List Int} (l : List Int) (h : vat vs 0 = 0) : vat (backV vs l) 0 = 0 := by
  unfold backV
  induction l generalizing vs with
  | nil => exact h
  | cons a l ih =>
    rw [List.foldl_cons]
    refine ih ?_
    rw [vat_set]; split
    · rfl
    · exact h
theorem Inv.set {n : Nat} {vs ts : List Int} (h : Inv n vs ts) {l : Int} (hl : LitOk n l) : Inv n (setV vs l) (setT vs ts l) := by
  refine ⟨by rw [setV_length]; exact h.len, h.room.set h.len hl, ?_, zero_set hl h.zero⟩
  unfold setT
  split
  · intro v hv
    rcases List.mem_append.1 hv with hv | hv
    · exact h.tr v hv
    · obtain ⟨h0, h1, h2⟩ := hl
      simp at hv; omega
  · exact h.tr
theorem setT_le (vs ts : List Int) (l : Int) : ts.length ≤ (setT vs ts l).length := by unfold setT; split <;> simp
theorem count_back (vs : List Int) (l : List Int) : (backV vs l).count 0 ≤ vs.count 0 + l.length := by
  unfold backV
  induction l generalizing vs with
  | nil => simp
  | cons a l ih =>
    rw [List.foldl_cons]
    have h1 := ih (vs.set a.toNat 0)
    have h2 : (vs.set a.toNat 0).count 0 ≤ vs.count 0 + 1 := by
      by_cases hlt : a.toNat < vs.length
      · rw [List.count_set hlt]; simp
      · rw [List.set_eq_of_length_le (by omega)]; omega
    simp; omega
theorem Inv.undo {n : Nat} {vs ts : List Int} (h : Inv n vs ts) (m : Nat) : Inv n (undo vs ts m).1 (undo vs ts m).2 := by
  refine ⟨by simp [Sol.undo, backV_length, h.len], ?_, fun v hv => h.tr v (List.mem_of_mem_take hv), zero_back _ h.zero⟩
  have h1 := count_back vs (ts.drop m)
  have h2 := h.room
  unfold Room at *
  simp only [Sol.undo, List.length_take, List.length_drop] at *
  omega
theorem scan_lit {vs : List Int} {n : Nat} : ∀ (c : List Int) (o r : Int), (∀ l ∈ c, LitOk n l) → (o = 0 ∨ LitOk n o) → scan vs c o = some r → r = 0 ∨ LitOk n r
  | [], o, r, _, ho, h => by simp [scan] at h; subst h; exact ho
  | l :: c, o, r, hc, ho, h => by
    simp only [scan] at h
    have hc' : ∀ l ∈ c, LitOk n l := fun x hx => hc x (List.mem_cons_of_mem _ hx)
    split at h
    · cases h
    · split at h
      · split at h
        · cases h
        · exact scan_lit c l r hc' (.inr (hc l List.mem_cons_self)) h
      · exact scan_lit c o r hc' ho h
theorem pass_inv {n : Nat} : ∀ (L : List (List Int)) (vs ts : List Int) (ch : Bool), AllOk n L → Inv n vs ts → Inv n (pass L vs ts ch).2.1 (pass L vs ts ch).2.2.1 ∧ ts.length ≤ (pass L vs ts ch).2.2.1.length
  | [], vs, ts, ch, _, h => ⟨h, Nat.le_refl _⟩
  | c :: L, vs, ts, ch, hL, h => by
    have hL' : AllOk n L := fun x hx => hL x (List.mem_cons_of_mem _ hx)
    simp only [pass]
    cases hs : scan vs c 0 with
    | none => exact pass_inv L vs ts ch hL' h
    | some o =>
      simp only []
      by_cases ho : o = 0
      · rw [if_pos ho]; exact ⟨h, Nat.le_refl _⟩
      · rw [if_neg ho]
        have hlit := (scan_lit c 0 o (hL c List.mem_cons_self) (.inl rfl) hs).resolve_left ho
        obtain ⟨h1, h2⟩ := pass_inv L (setV vs o) (setT vs ts o) true hL' (h.set hlit)
        exact ⟨h1, Nat.le_trans (setT_le vs ts o) h2⟩
theorem prop_inv {n : Nat} {L : List (List Int)} (hL : AllOk n L) : ∀ (K : Nat) (vs ts : List Int) (r : Bool × List Int × List Int), Inv n vs ts → prop L K vs ts = some r → Inv n r.2.1 r.2.2 ∧ ts.length ≤ r.2.2.length
  | 0, vs, ts, r, _, h => by simp [prop] at h
  | K + 1, vs, ts, r, hi, h => by
    have hp := pass_inv L vs ts false hL hi
    simp only [prop] at h
    rcases hR : pass L vs ts false with ⟨b1, v1, t1, c1⟩
    rw [hR] at h hp
    cases b1 with
    | false => simp only [Option.some.injEq] at h; subst h; exact hp
    | true =>
      cases c1 with
      | false => simp only [Option.some.injEq] at h; subst h; exact hp
      | true =>
        obtain ⟨h1, h2⟩ := prop_inv hL K v1 t1 r hp.1 h
        exact ⟨h1, Nat.le_trans hp.2 h2⟩
theorem undo_len {vs ts : List Int} {m : Nat} (h : m ≤ ts.length) : (undo vs ts m).2.length = m := by simp [undo]; omega
theorem tryF_inv {n : Nat} {L : List (List Int)} (hL : AllOk n L) (K : Nat) : ∀ (f v : Nat) (vs ts : List Int) (r : Bool × List Int × List Int), 1 ≤ v → Inv n vs ts → tryF L n K f v vs ts = some r → Inv n r.2.1 r.2.2 ∧ ts.length ≤ r.2.2.length
  | 0, v, vs, ts, r, _, _, h => by simp [tryF] at h
  | f + 1, v, vs, ts, r, hv, hi, h => by
    simp only [tryF] at h
    obtain ⟨r1, hr1, h⟩ := Option.bind_eq_some_iff.1 h
    obtain ⟨hi1, hl1⟩ := prop_inv hL K vs ts r1 hi hr1
    split at h
    · simp only [Option.some.injEq] at h; subst h; exact ⟨hi1, hl1⟩
    split at h
    · simp only [Option.some.injEq] at h; subst h; exact ⟨hi1, hl1⟩
    · rename_i hn
      have hle := le_next r1.2.1 (n - v) v
      generalize next r1.2.1 (n - v) v = x at h hn hle
      obtain ⟨r2, hr2, h⟩ := Option.bind_eq_some_iff.1 h
      have hx1 : LitOk n (-(x : Int)) := ⟨by omega, by omega, by omega⟩
      have hx2 : LitOk n (x : Int) := ⟨by omega, by omega, by omega⟩
      obtain ⟨hi2, hl2⟩ := tryF_inv hL K f (x + 1) _ _ r2 (by omega) (hi1.set hx1) hr2
      have hl2' := Nat.le_trans (setT_le r1.2.1 r1.2.2 (-(x : Int))) hl2
      split at h
      · simp only [Option.some.injEq] at h; subst h; exact ⟨hi2, by omega⟩
      · obtain ⟨r3, hr3, h⟩ := Option.bind_eq_some_iff.1 h
        obtain ⟨hi3, hl3⟩ := tryF_inv hL K f (x + 1) _ _ r3 (by omega) ((hi2.undo _).set hx2) hr3
        have hl3' := Nat.le_trans (setT_le _ _ _) hl3
        rw [undo_len hl2'] at hl3'
        split at h
        · simp only [Option.some.injEq] at h; subst h; exact ⟨hi3, by omega⟩
        · simp only [Option.some.injEq] at h; subst h
          refine ⟨hi3.undo _, ?_⟩
          show ts.length ≤ (undo _ _ _).2.length
          rw [undo_len hl3']; exact hl1
end Go.Proofs.Ytbnjbjcokkcfcaa.Sol
