/- A theory and a list of numbers that came in, as lists. -/
import Derived.Test.YtbnjbjcokkcfcaaRows
import Derived.Test.YtbnjbjcokkcfcaaPSearchOwnx0
import Derived.ProofKit
import Derived.OpenShut
import Derived.ChangeOld
import Derived.SizedLaws
import Derived.Deep.Matrix
import Derived.Lib.SmallJoins
namespace Go.Proofs.Ytbnjbjcokkcfcaa.Sol
open Go.ChangeShapes Go.WideShapes Go.ChangeAt Go.RowKit Go.Deep Go.Joins Go.Proofs.YtbnjbjcokkcfcaaW.PrintWords
set_option linter.unusedVariables false
set_option linter.unusedSimpArgs false

variable {H : Type} {enc : TypeId × Value → H}
theorem cells24 : Try.prog.cellsOf 24 = 2 := by kernel_rfl
theorem laidOut : laidOutB Try.prog = true := by kernel_rfl

theorem ints_C {w : World} {A : Option Addr} {n c : Nat} {zs : List Int} (hn : n ≤ c) (hc : c ≤ maxLen) (hz : zs.length = c) (h : ∀ a, A = some a → ∀ j, j < c → w.cell? (a.add j) = some (.int .i64 (zs.getD j 0))) (hA : A = none → c = 0) :
    (Kd.int .i64).C w A (zs.take n).length (zs.take n) := by
  have hl : (zs.take n).length = n := by simp; omega
  rw [hl]
  refine Kd.C_of_reads (d := (0 : Int)) ⟨hl, by unfold maxLen at hc; omega, fun h0 => ?_⟩
  cases A with
  | none => have := hA rfl; omega
  | some a =>
    refine ⟨a, rfl, fun j hj => ?_⟩
    rw [h a rfl j (by omega)]
    simp [List.getD_eq_getElem?_getD, List.getElem?_take, hj]

set_option maxRecDepth 100000 in
/-- A list of numbers. -/
theorem open_list {w : World} {b0 : Nat} {v : Value} {d : DataW H} {p : List MemPlace} (hv : Value.okWide Try.prog w .any b0 25 v) (h : DataW.Trod enc Try.prog w 0 (fun _ => true) true 25 v d p) :
    ∃ (A : Option Addr) (c : Nat) (l : List Int), v = .slice A l.length c ∧ (Kd.int .i64).C w A l.length l ∧ l.length ≤ c ∧ (A = none → c = 0) := by
  obtain ⟨a0, len0, cap0, rfl⟩ := okWide_slice Try.underlying25 hv
  obtain ⟨fuel, hf⟩ := h
  rcases open_ints Try.underlying25 Try.underlying3 (by kernel_rfl) hf with ⟨hcs, _⟩ | ⟨x, l, c, zs, hcs, _, hl, hm, hz, _, hcell, hwz⟩
  · simp [Value.cells] at hcs
    obtain ⟨rfl, rfl, rfl⟩ := hcs
    exact ⟨none, 0, [], rfl, Kd.C_nil _ _, Nat.le_refl _, fun _ => rfl⟩
  · simp [Value.cells] at hcs
    obtain ⟨rfl, rfl, rfl⟩ := hcs
    have hz2 : zs.length = cap0 := by simpa using hz
    have hl2 : (zs.take len0).length = len0 := by simp; omega
    have hC := ints_C (A := some x) (n := len0) hl hm hz2 (fun a ha j hj => by cases ha; exact hcell j (by omega)) (fun h => by cases h)
    exact ⟨some x, cap0, zs.take len0, by rw [hl2], hC, by omega, fun h => by cases h⟩

set_option maxRecDepth 100000 in
/-- A theory. -/
theorem open_theory {w : World} {b0 : Nat} {v : Value} {d : DataW H} {p : List MemPlace} (hv : Value.okWide Try.prog w .any b0 24 v) (h : DataW.Trod enc Try.prog w 0 (fun _ => true) true 24 v d p) :
    ∃ (N : Int) (A : Option Addr) (c : Nat) (L : List (List Int)), v = .agg #[.int .i64 N, .slice A L.length c] ∧ Kd.C (Kd.slice 3 (Kd.int .i64)) w A L.length L ∧ L.length ≤ c := by
  obtain ⟨c0, c1, y0, y1, n, rfl, rfl, rfl, h0, h1⟩ := open_agg2 Try.underlying24 (by kernel_rfl) cells24 hv h
  obtain ⟨N, e0, _⟩ := DataW.trod_int Try.underlying3 h0
  simp only [List.cons.injEq, and_true] at e0
  subst e0
  rcases open_int_rows Try.underlying22 Try.underlying25 Try.underlying3 (by kernel_rfl) (by kernel_rfl) h1 with ⟨e, _⟩ | ⟨a, len, cap, A, L, C, Z, e, _, hl, hm, _, hr⟩
  · simp only [List.cons.injEq, and_true] at e
    subst e
    exact ⟨N, none, 0, [], rfl, Kd.C_nil _ _, Nat.le_refl _⟩
  · simp only [List.cons.injEq, and_true] at e
    subst e
    have hlen : ((List.range len).map fun r => (Z r).take (L r)).length = len := by simp
    refine ⟨N, some a, cap, (List.range len).map fun r => (Z r).take (L r), by rw [hlen], ?_, by rw [hlen]; exact hl⟩
    refine ⟨rfl, by rw [hlen]; unfold maxLen at hm; omega, fun hpos => ⟨a, rfl, fun j q hj => ?_⟩⟩
    have hjl : j < len := by
      have := (List.getElem?_eq_some_iff.1 hj).1
      simpa using this
    obtain ⟨hc1, hc2, hc3, hc4, _, hc5, hc6⟩ := hr j (by omega)
    have hq : q = (Z j).take (L j) := by simpa [hjl] using hj.symm
    subst hq
    have hl2 : ((Z j).take (L j)).length = L j := by simp; omega
    refine ⟨[.slice (A j) ((Z j).take (L j)).length (C j)], rfl, ⟨A j, C j, rfl, by omega, ints_C hc2 hc3 hc4 (fun a' ha' k hk => (hc6 a' ha').2 k hk) hc5⟩, fun i u hu => ?_⟩
    have hi : i = 0 := by
      have := (List.getElem?_eq_some_iff.1 hu).1
      simpa using this
    subst hi
    simp only [List.getElem?_cons_zero, Option.some.injEq] at hu
    subst hu
    rw [hl2]
    simpa [Kd.slice] using hc1
end Go.Proofs.Ytbnjbjcokkcfcaa.Sol
