/- Propagation: the plain function, and the walk of propagate. -/
import Derived.Test.YtbnjbjcokkcfcaaA1
namespace Go.Proofs.Ytbnjbjcokkcfcaa.Sol
open Go.RowKit Go.Proofs.YtbnjbjcokkcfcaaW.PrintWords Go.Proofs.YtbnjbjcokkcfcaaW.PrintLast Go.Proofs.YtbnjbjcokkcfcaaW.PrintMore Go.Proofs.Ytbnjbjcokkcfcaa.PSearchOwn
set_option linter.unusedVariables false
set_option linter.unusedSimpArgs false

/-! ### The plain function -/
/-- The open literal of a clause (0: none), or none: the clause is passed over. -/
def scan (vs : List Int) : List Int → Int → Option Int
  | [], o => some o
  | l :: r, o => if tru vs l = 1 then none else if tru vs l = 0 then (if o ≠ 0 ∧ o ≠ l then none else scan vs r l) else scan vs r o
/-- One pass over the clauses: ok, values, trail, changed. -/
def pass : List (List Int) → List Int → List Int → Bool → Bool × List Int × List Int × Bool
  | [], vs, ts, ch => (true, vs, ts, ch)
  | c :: r, vs, ts, ch => match scan vs c 0 with
    | none => pass r vs ts ch
    | some o => if o = 0 then (false, vs, ts, ch) else pass r (setV vs o) (setT vs ts o) true
def prop (L : List (List Int)) : Nat → List Int → List Int → Option (Bool × List Int × List Int)
  | 0, _, _ => none
  | k + 1, vs, ts => match pass L vs ts false with
    | (false, vs1, ts1, _) => some (false, vs1, ts1)
    | (true, vs1, ts1, true) => prop L k vs1 ts1
    | (true, vs1, ts1, false) => some (true, vs1, ts1)

/-- A literal of n - 1 variables. -/
def LitOk (n : Nat) (l : Int) : Prop := l ≠ 0 ∧ -(n : Int) < l ∧ l < n
def AllOk (n : Nat) (L : List (List Int)) : Prop := ∀ c ∈ L, ∀ l ∈ c, LitOk n l
/-- What bounds the trail. -/
def Room (vs ts : List Int) : Prop := ts.length + vs.count 0 ≤ 2000

theorem setV_length (vs : List Int) (l : Int) : (setV vs l).length = vs.length := by unfold setV; split <;> (try split) <;> simp
theorem vat_get {vs : List Int} {i : Nat} (h : i < vs.length) : vat vs i = vs[i] := by unfold vat; simp [List.getD_eq_getElem?_getD, h]
theorem count_set {vs : List Int} {i : Nat} (h : i < vs.length) (h0 : vs[i] = 0) (x : Int) (hx : x ≠ 0) : (vs.set i x).count 0 + 1 = vs.count 0 := by
  have e := List.count_set (a := x) (b := 0) h
  rw [e]
  have hp : 0 < vs.count 0 := List.count_pos_iff.2 (h0 ▸ List.getElem_mem h)
  simp [h0, hx]; omega
theorem Room.set {vs ts : List Int} {n : Nat} (h : Room vs ts) (hn : vs.length = n) {l : Int} (hl : LitOk n l) : Room (setV vs l) (setT vs ts l) := by
  unfold Room at *
  obtain ⟨h0, h1, h2⟩ := hl
  unfold setV setT
  by_cases ht : tru vs l = 0
  · rw [if_pos ht, if_pos ht]
    by_cases hp : l > 0
    · rw [if_pos hp]
      have hi : l.toNat < vs.length := by omega
      have hz : vs[l.toNat] = 0 := by
        unfold tru at ht
        rw [if_neg (by omega)] at ht
        have := vat_get hi
        rwa [Int.toNat_of_nonneg (by omega), ht, eq_comm] at this
      have := count_set hi hz 1 (by omega)
      simp; omega
    · rw [if_neg hp]
      have hi : (-l).toNat < vs.length := by omega
      have hz : vs[(-l).toNat] = 0 := by
        unfold tru at ht
        rw [if_pos (by omega)] at ht
        have := vat_get hi
        rw [Int.toNat_of_nonneg (by omega)] at this
        omega
      have := count_set hi hz (-1) (by omega)
      simp; omega
  · rw [if_neg ht, if_neg ht]; exact h

/-! ### What is read -/
theorem rd_int {w : World} {A : Option Addr} {n : Nat} {xs : List Int} (h : (Kd.int .i64).C w A n xs) (j : Nat) (hj : j < n) : ∃ ad, A = some ad ∧ w.cell? (ad.add j) = some (.int .i64 (xs.getD j 0)) := by
  obtain ⟨ad, c, e, _, hK, hc0⟩ := Kd.C_get h (0 : Int) (j : Int) (by omega) (by omega)
  have hc : ∀ i u, c[i]? = some u → w.cell? (ad.add ((j : Int).toNat * 1 + i)) = some u := hc0
  have hK' : c = [.int .i64 (xs.getD (j : Int).toNat 0)] := hK
  refine ⟨ad, e, ?_⟩
  have := hc 0 (.int .i64 (xs.getD j 0)) (by rw [hK']; simp)
  simpa using this
theorem rd_row {w : World} {A : Option Addr} {n : Nat} {xs : List (List Int)} (h : (Kd.slice 3 (Kd.int .i64)).C w A n xs) (j : Nat) (hj : j < n) : ∃ ad A0 c0, A = some ad ∧ w.cell? (ad.add j) = some (.slice A0 (xs.getD j []).length c0) ∧ (xs.getD j []).length ≤ c0 ∧ (Kd.int .i64).C w A0 (xs.getD j []).length (xs.getD j []) := by
  obtain ⟨ad, A0, c0, e, h1, h2, h3⟩ := at_L1 h (j : Int) (by omega) (by omega)
  exact ⟨ad, A0, c0, e, by simpa [rd_L1] using h1, by simpa [rd_L1] using h2, by simpa [rd_L1] using h3⟩

theorem set_calls {w0 W : World} {g gv : Nat} {N : Int} {AL : Option Addr} {cL : Nat} {L : List (List Int)} {vs ts : List Int} {tv : Value} (h : St w0 W g gv N AL cL L vs ts tv) (l : Int) (hl : LitOk vs.length l) (h128 : vs.length ≤ 129) (hr : Room vs ts) :
    Calls Try.prog 66 #[.pointer (some ⟨g, 0, none⟩), .int .i64 l] W (SetPost w0 W g gv N AL cL L vs ts tv (setB vs l) (setV vs l) (setT vs ts l)) := by
  obtain ⟨h0, h1, h2⟩ := hl
  by_cases hb : tru vs l = 0
  · exact set_new h l ⟨h1, h2⟩ h0 (by omega) hb (by unfold Room at hr; omega)
  · refine set_same h l ⟨h1, h2⟩ ?_
    have hs : -1 ≤ tru vs l ∧ tru vs l ≤ 1 := by
      unfold tru
      split
      · have := h.small.vat (-l); omega
      · exact h.small.vat l
    omega
end Go.Proofs.Ytbnjbjcokkcfcaa.Sol
