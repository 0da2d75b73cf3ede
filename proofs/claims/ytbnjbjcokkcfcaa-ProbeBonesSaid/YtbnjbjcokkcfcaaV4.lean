/- The order of literals, sets of variables, terms, Eval. -/
import Derived.Test.YtbnjbjcokkcfcaaV3
import Derived.Ground.Names2Prog
import Derived.Ground.SlsfProg
import Derived.Shelf.Slices.CompactI
import Derived.Shelf.SlSortCmp.NoneTotal
import Derived.Shelf.SlSortCmp.Whole1
import Derived.Lib.OwnBridge
import Derived.Shelf.Slices.Delete
import Derived.Shelf.Slices.Empties
import Derived.WalkSpells
import Derived.Laws.BitsAllLaws
import Derived.ChangeKeysEq
import Derived.Laws.StructEq
namespace Go.Proofs.Ytbnjbjcokkcfcaa.Sol
open Go.RowKit Go.Proofs.YtbnjbjcokkcfcaaW.PrintWords Go.Proofs.Ytbnjbjcokkcfcaa.PSearchOwn
set_option linter.unusedVariables false
set_option linter.unusedSimpArgs false
theorem down {P : Nat → Prop} {n : Nat} (hend : P n) (hstep : ∀ i, i < n → P (i + 1) → P i) : P 0 := by
  have key : ∀ d i, i + d = n → P i := by
    intro d
    induction d with
    | zero => intro i hi; rw [show i = n by omega]; exact hend
    | succ d ih => intro i hi; exact hstep i (by omega) (ih (i + 1) (by omega))
  exact key n 0 (by omega)
theorem Ev.get {α : Type} {f : Nat → Option α} {r s : α} (h : Ev f r) (e : r = s) : Ev f s := e ▸ h
end Go.Proofs.Ytbnjbjcokkcfcaa.Sol
namespace Go.Proofs.Ytbnjbjcokkcfcaa.Sol
open Go.RowKit Go.Proofs.YtbnjbjcokkcfcaaW.PrintWords Go.Proofs.Ytbnjbjcokkcfcaa.PSearchOwn
set_option linter.unusedVariables false
set_option linter.unusedSimpArgs false
theorem litsB_hit {l : List Int} {n x : Int} (h : validB x n = true) : litsB (x :: l) n = litsB l n := by simp [litsB, h]
/-- Opposite literals. -/
def oppB (l : List Int) : Bool := l.any (fun x => decide (-x ∈ l))
end Go.Proofs.Ytbnjbjcokkcfcaa.Sol
namespace Go.Proofs.Ytbnjbjcokkcfcaa.Sol
open Go.RowKit Go.Proofs.YtbnjbjcokkcfcaaW.PrintWords Go.Proofs.Ytbnjbjcokkcfcaa.PSearchOwn
set_option linter.unusedVariables false
set_option linter.unusedSimpArgs false
/-- Neighbours that are opposite. -/
def adj : List Int → Bool
  | a :: b :: r => if b = -a then true else adj (b :: r)
  | _ => false
theorem ev_opposite (l : List Int) (hl : l.length ≤ 4096) (hw : ∀ x ∈ l, -9223372036854775807 ≤ x ∧ x ≤ 9223372036854775807) : Ev (fun k => PPartsSplit.lit_opposite.f k l) (adj l) := by
  unfold PPartsSplit.lit_opposite.f
  cases l with
  | nil =>
    refine Ev.step (f := fun _ => some false) (fun k => ?_) (Ev.now _)
    simp [PPartsSplit.lit_opposite.l0]
  | cons a r =>
    have key := down (n := r.length) (P := fun i => Ev (fun k => PPartsSplit.lit_opposite.l0 k (a :: r) ((i : Int) + 1)) (adj ((a :: r).drop i))) (by
      rw [show (a :: r).drop r.length = [(a :: r)[r.length]] from ?_]
      · refine Ev.step (f := fun _ => some false) (fun k => ?_) (Ev.now _)
        simp only [PPartsSplit.lit_opposite.l0]
        rw [if_neg (by simp)]
      · rw [List.drop_eq_getElem_cons (by simp), List.drop_eq_nil_of_le (by simp)]) (fun i hi ih => by
      have h1 : i < (a :: r).length := by simp; omega
      have h2 : i + 1 < (a :: r).length := by simp; omega
      obtain ⟨hw1, hw2⟩ := hw _ (List.getElem_mem h1)
      have hle : (a :: r).length ≤ 4096 := hl
      refine Ev.step (f := fun k => if (a :: r)[i + 1] = -(a :: r)[i] then some true else PPartsSplit.lit_opposite.l0 k (a :: r) (((i + 1 : Nat) : Int) + 1)) (fun k => ?_) ?_
      · simp only [PPartsSplit.lit_opposite.l0]
        have e1 : wrap64 ((i : Int) + 1 - 1) = (i : Int) := by rw [wrap_id (by omega) (by omega)]; omega
        have e2 : rd (a :: r) ((i : Int) + 1) = (a :: r)[i + 1] := rd_at h2
        rw [if_pos (by omega), if_pos (by omega), e1, if_pos (by omega), if_pos (by omega), e2, rd_at h1, wrap_id (i := -(a :: r)[i]) (by omega) (by omega), wrap_id (i := (i : Int) + 1 + 1) (by omega) (by omega)]
        rfl
      · rw [List.drop_eq_getElem_cons h2] at ih
        rw [List.drop_eq_getElem_cons h1, List.drop_eq_getElem_cons h2]
        by_cases h : (a :: r)[i + 1] = -(a :: r)[i]
        · simp only [if_pos h]; exact Ev.get (Ev.now _) (by simp only [adj]; rw [if_pos h])
        · simp only [if_neg h]; exact Ev.get ih (by simp only [adj]; rw [if_neg h]))
    exact key
section
variable {W : World} {AL A B : Option Addr} {cL c c2 : Nat} {N : Int} {L : List (List Int)} {l l2 : List Int}
theorem check_calls (hL : Kd.C (Kd.slice 3 (Kd.int .i64)) W AL L.length L) (hcL : L.length ≤ cL) :
    Calls Try.prog 31 #[.agg #[.int .i64 N, .slice AL L.length cL]] W fun e w' => e = .returned (.int .i64 (checkF N L)) ∧ Below W.heap.size W w' := by
  obtain ⟨k, hk⟩ := (ev_check N L (Kd.C_max hL)).rounds
  exact theory_Check.calls k N AL cL L _ W hL hcL hk
theorem opposite_calls (hl : Kd.C (Kd.int .i64) W A l.length l) (hc : l.length ≤ c) (h1 : l.length ≤ 4096) (hw : ∀ x ∈ l, -9223372036854775807 ≤ x ∧ x ≤ 9223372036854775807) :
    Calls Try.prog 90 #[.slice A l.length c] W fun e w' => e = .returned (.bool (adj l)) ∧ Drawn0 W w' := by
  obtain ⟨k, hk⟩ := (ev_opposite l h1 hw).rounds
  exact PPartsSplit.lit_opposite.calls k A c l _ W hl hc hk
theorem varL_calls (a : Int) : Calls Try.prog 28 #[.int .i64 a] W fun e w' => e = .returned (.int .i64 (varOf a)) ∧ Drawn0 W w' := by
  obtain ⟨k, hk⟩ := (ev_var a).rounds
  exact lit_Var.calls k a _ W hk
theorem validL_calls (a n : Int) : Calls Try.prog 32 #[.int .i64 a, .int .i64 n] W fun e w' => e = .returned (.bool (validB a n)) ∧ Drawn0 W w' := by
  obtain ⟨k, hk⟩ := (ev_valid a n).rounds
  exact lit_Valid.calls k a n _ W hk
end
end Go.Proofs.Ytbnjbjcokkcfcaa.Sol
namespace Go.Proofs.Ytbnjbjcokkcfcaa.Sol
open Go.Shelf
def sortRen : Go.Shelf.Ren := ⟨fun | 6 => 98 | 15 => 107 | 14 => 106 | 28 => 117 | 29 => 118 | 20 => 109 | 21 => 110 | 22 => 111 | 23 => 112 | 24 => 113 | 25 => 114 | 26 => 115 | 27 => 116 | 46 => 120 | 47 => 121 | 48 => 122 | 49 => 123 | 50 => 124 | 57 => 125 | n => n, fun | 22 => 25 | 24 => 3 | 25 => 112 | 3 => 3 | 39 => 97 | 0 => 0 | 53 => 130 | 55 => 32 | 4 => 4 | 46 => 124 | 45 => 123 | 50 => 120 | 5 => 5 | 9 => 9 | 66 => 132 | 70 => 136 | 76 => 138 | 77 => 139 | n => n, fun | n => n⟩
theorem sortLays : Go.Proofs.SlLaysF.n6 Try.prog sortRen := {
  mixed := by kernel_rfl
  f6 := ⟨Try.f98.name, by decide, Try.func98.trans (congrArg some (by kernel_rfl))⟩
  f14 := ⟨Try.f106.name, by decide, Try.func106.trans (congrArg some (by kernel_rfl))⟩
  f15 := Try.func107.trans (congrArg some (by kernel_rfl))
  f20 := ⟨Try.f109.name, by decide, Try.func109.trans (congrArg some (by kernel_rfl))⟩
  f21 := ⟨Try.f110.name, by decide, Try.func110.trans (congrArg some (by kernel_rfl))⟩
  f22 := ⟨Try.f111.name, by decide, Try.func111.trans (congrArg some (by kernel_rfl))⟩
  f23 := ⟨Try.f112.name, by decide, Try.func112.trans (congrArg some (by kernel_rfl))⟩
  f24 := ⟨Try.f113.name, by decide, Try.func113.trans (congrArg some (by kernel_rfl))⟩
  f25 := ⟨Try.f114.name, by decide, Try.func114.trans (congrArg some (by kernel_rfl))⟩
  f26 := ⟨Try.f115.name, by decide, Try.func115.trans (congrArg some (by kernel_rfl))⟩
  f27 := ⟨Try.f116.name, by decide, Try.func116.trans (congrArg some (by kernel_rfl))⟩
  f28 := Try.func117.trans (congrArg some (by kernel_rfl))
  f29 := Try.func118.trans (congrArg some (by kernel_rfl))
  f46 := ⟨Try.f120.name, by decide, Try.func120.trans (congrArg some (by kernel_rfl))⟩
  f47 := Try.func121.trans (congrArg some (by kernel_rfl))
  f48 := Try.func122.trans (congrArg some (by kernel_rfl))
  f49 := ⟨Try.f123.name, by decide, Try.func123.trans (congrArg some (by kernel_rfl))⟩
  f50 := ⟨Try.f124.name, by decide, Try.func124.trans (congrArg some (by kernel_rfl))⟩
  f57 := ⟨Try.f125.name, by decide, Try.func125.trans (congrArg some (by kernel_rfl))⟩
  t0 := Try.underlying0
  a0 := Try.isAgg0
  z0 := Try.sizeOf0
  v0 := Try.zeroValue0
  t3 := Try.underlying3
  a3 := Try.isAgg3
  z3 := Try.sizeOf3
  v3 := Try.zeroValue3
  t4 := Try.underlying4
  a4 := Try.isAgg4
  z4 := Try.sizeOf4
  v4 := Try.zeroValue4
  t5 := Try.underlying5
  a5 := Try.isAgg5
  z5 := Try.sizeOf5
  v5 := Try.zeroValue5
  t9 := Try.underlying9
  a9 := Try.isAgg9
  z9 := Try.sizeOf9
  v9 := Try.zeroValue9
  t22 := Try.underlying25
  a22 := Try.isAgg25
  z22 := Try.sizeOf25
  v22 := Try.zeroValue25
  a24 := Try.isAgg3
  z24 := Try.sizeOf3
  t25 := Try.underlying112
  a25 := Try.isAgg112
  z25 := Try.sizeOf112
  v25 := Try.zeroValue112
  t39 := Try.underlying97
  a39 := Try.isAgg97
  z39 := Try.sizeOf97
  v39 := Try.zeroValue97
  t45 := Try.underlying123
  a45 := Try.isAgg123
  z45 := Try.sizeOf123
  v45 := Try.zeroValue123
  t46 := Try.underlying124
  a46 := Try.isAgg124
  z46 := Try.sizeOf124
  v46 := Try.zeroValue124
  t50 := Try.underlying120
  a50 := Try.isAgg120
  z50 := Try.sizeOf120
  v50 := Try.zeroValue120
  t53 := Try.underlying130
  a53 := Try.isAgg130
  z53 := Try.sizeOf130
  v53 := Try.zeroValue130
  t55 := Try.underlying32
  a55 := Try.isAgg32
  z55 := Try.sizeOf32
  v55 := Try.zeroValue32
  t66 := Try.underlying132
  a66 := Try.isAgg132
  z66 := Try.sizeOf132
  v66 := Try.zeroValue132
  t70 := Try.underlying136
  a70 := Try.isAgg136
  z70 := Try.sizeOf136
  v70 := Try.zeroValue136
  t76 := Try.underlying138
  a76 := Try.isAgg138
  z76 := Try.sizeOf138
  v76 := Try.zeroValue138
  t77 := Try.underlying139
  a77 := Try.isAgg139
  z77 := Try.sizeOf139
  v77 := Try.zeroValue139 }
def cmpRen : Go.Shelf.Ren := ⟨fun | 20 => 101 | n => n, fun | 22 => 25 | 3 => 3 | 4 => 4 | 0 => 0 | n => n, fun | n => n⟩
theorem cmpLays : Go.Proofs.Lays2.n20 Try.prog cmpRen := {
  mixed := by kernel_rfl
  f20 := Try.func101.trans (congrArg some (by kernel_rfl))
  t0 := Try.underlying0
  a0 := Try.isAgg0
  z0 := Try.sizeOf0
  v0 := Try.zeroValue0
  t3 := Try.underlying3
  a3 := Try.isAgg3
  z3 := Try.sizeOf3
  v3 := Try.zeroValue3
  t4 := Try.underlying4
  a4 := Try.isAgg4
  z4 := Try.sizeOf4
  v4 := Try.zeroValue4
  t22 := Try.underlying25
  a22 := Try.isAgg25
  z22 := Try.sizeOf25
  v22 := Try.zeroValue25
  i3 := by kernel_rfl }
end Go.Proofs.Ytbnjbjcokkcfcaa.Sol
namespace Go.Proofs.Ytbnjbjcokkcfcaa.Sol
open Go.RowKit
set_option linter.unusedVariables false
set_option linter.unusedSimpArgs false
/-- The place of a literal in the order. -/
def key (x : Int) : Int := 2 * varOf x + (if x > 0 then 1 else 0)
def cmpF (x y : Int) : Int := if varOf x ≠ varOf y then varOf x - varOf y else x - y
abbrev L9 : Type := {x : Int // -128 ≤ x ∧ x ≤ 128}
instance : Inhabited L9 := ⟨⟨0, by decide⟩⟩
theorem varOf_abs {x : Int} (h : -128 ≤ x ∧ x ≤ 128) : varOf x = if x ≥ 0 then x else -x := by
  unfold varOf
  split
  · rw [if_pos (by omega)]
  · split
    · rw [if_neg (by omega)]
    · split <;> omega
theorem cmpF_lt (x y : L9) : (cmpF x.1 y.1 < 0) ↔ key x.1 < key y.1 := by
  obtain ⟨x, hx⟩ := x
  obtain ⟨y, hy⟩ := y
  show cmpF x y < 0 ↔ key x < key y
  unfold cmpF key
  rw [varOf_abs hx, varOf_abs hy]
  split <;> split <;> split <;> split <;> (try split) <;> omega
theorem key_inj {x y : L9} (h : key x.1 = key y.1) : x = y := by
  obtain ⟨x, hx⟩ := x
  obtain ⟨y, hy⟩ := y
  have h2 : key x = key y := h
  unfold key at h2
  rw [varOf_abs hx, varOf_abs hy] at h2
  refine Subtype.ext ?_
  show x = y
  split at h2 <;> split at h2 <;> split at h2 <;> split at h2 <;> omega
abbrev ltL : L9 → L9 → Bool := Go.Proofs.ltOf (fun x y : L9 => cmpF x.1 y.1)
theorem ltL_iff (x y : L9) : ltL x y = decide (key x.1 < key y.1) := by
  unfold ltL Go.Proofs.ltOf
  exact decide_eq_decide.2 (cmpF_lt x y)
theorem swoL : Go.Sort.SWO ltL := by
  refine ⟨fun x => ?_, fun x y z h1 h2 => ?_, fun x y z h1 h2 => ?_⟩
  · rw [ltL_iff]; exact decide_eq_false (by omega)
  · rw [ltL_iff] at *
    have := of_decide_eq_true h1; have := of_decide_eq_true h2
    exact decide_eq_true (by omega)
  · rw [ltL_iff] at *
    have := of_decide_eq_false h1; have := of_decide_eq_false h2
    exact decide_eq_false (by omega)
theorem totL (x y : L9) (h1 : ltL x y = false) (h2 : ltL y x = false) : x = y := by
  rw [ltL_iff] at *
  have := of_decide_eq_false h1; have := of_decide_eq_false h2
  exact key_inj (by omega)
def sortL (d : List L9) : List L9 := d.mergeSort fun x y => !ltL y x
theorem sortL_mem (d : List L9) (x : L9) : x ∈ sortL d ↔ x ∈ d := List.mem_mergeSort
theorem sortL_length (d : List L9) : (sortL d).length = d.length := List.length_mergeSort _
theorem sortL_sorted (d : List L9) : (sortL d).Pairwise (fun x y => key x.1 ≤ key y.1) := by
  have := List.pairwise_mergeSort (le := fun x y : L9 => !ltL y x) (fun a b c h1 h2 => by
    rw [Bool.not_eq_true'] at *
    exact swoL.ntrans c b a h2 h1) (fun a b => by
    rw [ltL_iff, ltL_iff]
    by_cases h : key b.1 < key a.1
    · rw [decide_eq_true h, decide_eq_false (show ¬ key a.1 < key b.1 by omega)]; rfl
    · rw [decide_eq_false h]; rfl) d
  refine this.imp fun {a b} h => ?_
  rw [Bool.not_eq_true', ltL_iff] at h
  have := of_decide_eq_false h
  omega
/-- Striking out repetitions of a sorted list. -/
theorem compact_sorted (zs : List Int) (hs : zs.Pairwise (fun x y => key x ≤ key y)) (hi : ∀ x ∈ zs, ∀ y ∈ zs, key x = key y → x = y) :
    (∀ x, x ∈ Go.Lib.compact zs ↔ x ∈ zs) ∧ (Go.Lib.compact zs).Pairwise (fun x y => key x < key y) := by
  have get : ∀ j (hj : j < zs.length), zs.toArray[j]! = zs[j] := fun j hj => by simp [getElem!_pos, hj]
  have main : ∀ m, m ≤ zs.length → (∀ x, x ∈ Go.Lib.compactUpTo zs.toArray m ↔ x ∈ zs.take m) ∧ (Go.Lib.compactUpTo zs.toArray m).Pairwise (fun x y => key x < key y) := by
    intro m
    induction m with
    | zero => intro _; simp [Go.Lib.compactUpTo]
    | succ m ih =>
      intro hm
      obtain ⟨h1, h2⟩ := ih (by omega)
      have hlt : m < zs.length := by omega
      rw [Go.Lib.compactUpTo_succ, List.take_succ_eq_append_getElem hlt]
      by_cases hk : Go.Lib.keeps zs.toArray m = true
      · rw [if_pos hk, get m hlt]
        refine ⟨fun x => by rw [List.mem_append, List.mem_append, h1], ?_⟩
        rw [List.pairwise_append]
        refine ⟨h2, List.pairwise_singleton _ _, fun a ha b hb => ?_⟩
        rw [List.mem_singleton] at hb
        subst hb
        rw [h1] at ha
        have hk2 := of_decide_eq_true hk
        obtain ⟨j, hj, rfl⟩ := List.mem_take_iff_getElem.1 ha
        have hjm : j < m := by omega
        have hne : zs[m] ≠ zs[m - 1] := by
          rcases hk2 with hk2 | hk2
          · omega
          · rwa [get m hlt, get (m - 1) (by omega)] at hk2
        have a1 : key zs[m - 1] ≤ key zs[m] := List.pairwise_iff_getElem.1 hs (m - 1) m (by omega) hlt (by omega)
        have a2 : key zs[j] ≤ key zs[m - 1] := by
          by_cases hjj : j = m - 1
          · subst hjj; omega
          · exact List.pairwise_iff_getElem.1 hs j (m - 1) (by omega) (by omega) (by omega)
        have a3 : key zs[m - 1] ≠ key zs[m] := fun h => hne (hi _ (List.getElem_mem _) _ (List.getElem_mem _) h.symm)
        omega
      · rw [if_neg hk, List.append_nil]
        refine ⟨fun x => ?_, h2⟩
        rw [h1, List.mem_append, List.mem_singleton]
        refine ⟨Or.inl, fun h => h.elim id fun h => ?_⟩
        subst h
        have hk2 := of_decide_eq_false (eq_false_of_ne_true hk)
        have hm0 : m ≠ 0 := fun h => hk2 (Or.inl h)
        have he : zs.toArray[m]! = zs.toArray[m - 1]! := Classical.not_not.1 (fun h => hk2 (Or.inr h))
        rw [get m hlt, get (m - 1) (by omega)] at he
        rw [he]
        exact List.mem_take_iff_getElem.2 ⟨m - 1, by omega, rfl⟩
  have := main zs.length (Nat.le_refl _)
  rw [List.take_length] at this
  exact this
theorem adj_mem : ∀ {l : List Int}, adj l = true → ∃ a, a ∈ l ∧ -a ∈ l
  | [], h => by simp [adj] at h
  | [_], h => by simp [adj] at h
  | a :: b :: r, h => by
    rw [adj] at h
    split at h
    · rename_i hb
      exact ⟨a, by simp, by rw [← hb]; simp⟩
    · obtain ⟨c, h1, h2⟩ := adj_mem h
      exact ⟨c, List.mem_cons_of_mem _ h1, List.mem_cons_of_mem _ h2⟩
theorem mem_adj : ∀ {l : List Int} {p : Int}, l.Pairwise (fun x y => key x < key y) → p ∈ l → -p ∈ l → key p < key (-p) → (∀ x, key p < key x → key x < key (-p) → False) → (∀ x ∈ l, key x = key (-p) → x = -p) → adj l = true
  | [], p, _, h, _, _, _, _ => by cases h
  | [a], p, _, h1, h2, h3, _, _ => by
    rw [List.mem_singleton] at h1 h2
    rw [h2, ← h1] at h3; omega
  | a :: b :: r, p, hs, h1, h2, h3, h4, h5 => by
    have hs2 := List.pairwise_cons.1 hs
    rw [adj]
    split
    · rfl
    · rename_i hne
      by_cases ha : p = a
      · exfalso
        subst ha
        have hb : key p < key b := hs2.1 b (by simp)
        have h2' : -p ∈ b :: r := by
          rcases List.mem_cons.1 h2 with h | h
          · rw [h] at h3; omega
          · exact h
        have hbp : key b ≤ key (-p) := by
          rcases List.mem_cons.1 h2' with h | h
          · rw [h]; omega
          · have := (List.pairwise_cons.1 hs2.2).1 _ h; omega
        have : key b = key (-p) := by
          rcases Int.lt_or_eq_of_le hbp with h | h
          · exact absurd trivial (fun _ => h4 b hb h)
          · exact h
        exact hne (h5 b (by simp) this)
      · have h1' : p ∈ b :: r := by
          rcases List.mem_cons.1 h1 with h | h
          · exact absurd h ha
          · exact h
        have hap := hs2.1 p h1'
        have h2' : -p ∈ b :: r := by
          rcases List.mem_cons.1 h2 with h | h
          · rw [h] at h3; omega
          · exact h
        exact mem_adj hs2.2 h1' h2' h3 h4 (fun x hx => h5 x (List.mem_cons_of_mem _ hx))
end Go.Proofs.Ytbnjbjcokkcfcaa.Sol
namespace Go.Proofs.Ytbnjbjcokkcfcaa.Sol
open Go.Shelf
end Go.Proofs.Ytbnjbjcokkcfcaa.Sol
namespace Go.Proofs.Ytbnjbjcokkcfcaa.Sol
open Go.RowKit Go.Proofs.YtbnjbjcokkcfcaaW.PrintWords Go.Proofs.YtbnjbjcokkcfcaaW.PrintLast Go.Proofs.YtbnjbjcokkcfcaaW.PrintMore Go.Proofs.Ytbnjbjcokkcfcaa.PSearchOwn
set_option linter.unusedVariables false
set_option linter.unusedSimpArgs false
/-- What Clone leaves. -/
def Cloned (W : World) (xs : List Int) (e : Ending) (w' : World) : Prop :=
  ∃ v', e = .returned v' ∧ w'.ownsRow W.heap.size 3 1 v' xs.length (nums .i64 xs) ∧ Below W.heap.size W w'
set_option maxHeartbeats 2000000 in
set_option maxRecDepth 100000 in
theorem clone_calls (W : World) {A : Option Addr} {c : Nat} {xs : List Int} (hA : (Kd.int .i64).C W A xs.length xs) (hc : xs.length ≤ c) (hbig : xs.length * 8 ≤ 140737488355328) (hnil : A = none → c = 0) :
    Calls Try.prog 36 #[.slice A xs.length c] W (Cloned W xs) := by
  have q25 : ∀ (w : World) (a : Option Addr) (n c n' c' : Nat), (binOp .eql 25 (.slice a n c) (.slice none n' c')).run Try.prog w = .ok (.bool a.isNone) w := fun w a n c n' c' => Lib.run_eql_slice_nil w _ _ a n c n' c' Try.underlying25
  obtain ⟨i0, hi, hx⟩ := Option.map_eq_some_iff.1 info3
  simp only [Prod.mk.injEq] at hx
  obtain ⟨hz0, hz1, hz2⟩ := hx
  have HA := Aside0.mk hA
  clear hA
  cases A with
  | none =>
    have h0 : xs = [] := by
      rcases xs with _ | ⟨x, r⟩
      · rfl
      · obtain ⟨ad, h, _⟩ := rd_int HA.out 0 (by simp)
        cases h
    subst h0
    go_enter Try.func36, Try.ntmps36
    go_wp2
    go_ret
    exact ⟨_, rfl, own_nil _ _ _ _, Below.refl _ _⟩
  | some ad =>
    clear hnil
    go_enter Try.func36, Try.ntmps36
    go_wp2_with (at_builtin; refine wpList_append_own _ rfl _ _ 25 rfl W.heap.size 3 i0 (.int .i64 0) 1 8 Try.underlying25 hi hz0 hz1 hz2 rfl (by decide) _ _ _ rfl (World.ownsRow_made W #[] 0 (Nat.le_refl _) (Nat.zero_le _) rfl) ad xs.length c (nums .i64 xs) rfl ?qc1 ?qc2 ?qc3 ?qc4 ?qc5 ?qc6 ?_)
    case qc1 => simp [nums]
    case qc2 =>
      intro j u hj
      have hjn : j < xs.length := by
        have := (List.getElem?_eq_some_iff.1 hj).1
        simpa [nums] using this
      obtain ⟨ad2, h, hcell⟩ := rd_int HA.out j hjn
      cases h
      refine Lib.cell?_alloc_some _ ?_
      rw [hcell]
      simp [nums, List.getElem?_eq_getElem hjn] at hj
      rw [← hj]
      simp [List.getD_eq_getElem?_getD, List.getElem?_eq_getElem hjn]
    case qc3 => intro u hu; obtain ⟨x, _, rfl⟩ := List.mem_map.1 hu; rfl
    case qc4 => unfold maxLen; omega
    case qc5 => omega
    case qc6 => simp
    intro v' w1 hown hgrow hnil
    go_wp2
    go_ret
    refine ⟨v', rfl, by simpa using hown, ?_⟩
    exact ((Below.refl _ W).alloc (Nat.le_refl _) _).grown hgrow (by simp) (by intro k hk; simp [Value.ownBlock] at hk; omega)
end Go.Proofs.Ytbnjbjcokkcfcaa.Sol
namespace Go.Proofs.Ytbnjbjcokkcfcaa.Sol
open Go.RowKit Go.Proofs.YtbnjbjcokkcfcaaW.PrintWords Go.Proofs.YtbnjbjcokkcfcaaW.PrintLast Go.Proofs.YtbnjbjcokkcfcaaW.PrintMore Go.Proofs.Ytbnjbjcokkcfcaa.PSearchOwn
set_option linter.unusedVariables false
set_option linter.unusedSimpArgs false
theorem valid_ok {m : Nat} (hm : m ≤ 128) {l : Int} (h : validB l (m : Int) = true) : LitOk (m + 1) l := by
  have h2 := of_decide_eq_true h
  unfold varOf at h2
  refine ⟨?_, ?_, ?_⟩ <;> (split at h2 <;> (try split at h2)) <;> omega
theorem litsB_ok {m : Nat} (hm : m ≤ 128) {l : List Int} (h : litsB l (m : Int) = true) : ∀ x ∈ l, LitOk (m + 1) x := fun x hx => valid_ok hm (List.all_eq_true.1 h x hx)
theorem clausesF_ok {n : Int} : ∀ (L : List (List Int)), clausesF n L = 0 → ∀ c ∈ L, c.length ≤ 128 ∧ litsB c n = true
  | [], _, c, hc => by cases hc
  | d :: L, h, c, hc => by
    simp only [clausesF] at h
    split at h
    · omega
    · split at h
      · rename_i h1 h2
        rcases List.mem_cons.1 hc with rfl | hc
        · exact ⟨by omega, h2⟩
        · exact clausesF_ok L h c hc
      · omega
/-- A valid theory. -/
theorem checkF_ok {N : Int} {L : List (List Int)} (h : checkF N L = 0) : ∃ m : Nat, N = m ∧ m ≤ 128 ∧ L.length ≤ 4096 ∧ AllOk (m + 1) L ∧ ∀ c ∈ L, c.length ≤ 128 := by
  unfold checkF at h
  split at h
  · omega
  · split at h
    · omega
    · rename_i h1 h2
      obtain ⟨m, rfl⟩ := Int.eq_ofNat_of_zero_le (show 0 ≤ N by omega)
      have hc := clausesF_ok L h
      exact ⟨m, rfl, by omega, by omega, fun c hc2 => litsB_ok (by omega) (hc c hc2).2, fun c hc2 => (hc c hc2).1⟩
theorem own_C {w : World} {base n : Nat} {v : Value} {xs : List Int} (h : w.ownsRow base 3 1 v n (nums .i64 xs)) : ∃ A c, v = .slice A n c ∧ (Kd.int .i64).C w A n xs ∧ n ≤ c ∧ (A = none → c = 0) ∧ xs.length = n := by
  obtain ⟨A, c, rfl, hr⟩ := own_reads h
  have hl : xs.length = n := hr.1
  refine ⟨A, c, rfl, Kd.C_of_reads (d := (0 : Int)) ⟨hr.1, hr.2.1, hr.2.2⟩, ?_, ?_, hl⟩
  · rcases h.2 with ⟨e, h0⟩ | ⟨g, cap, cur, e, _, _, h1, _⟩
    · injection e with _ _ e; omega
    · injection e with _ _ e; omega
  · rintro rfl
    rcases h.2 with ⟨e, h0⟩ | ⟨g, cap, cur, e, _⟩
    · injection e
    · injection e with e; cases e
theorem sat_calls {m : Nat} {W : World} {AL : Option Addr} {cL : Nat} {L : List (List Int)} {A : Option Addr} {c : Nat} {asm : List Int} (hL : Kd.C (Kd.slice 3 (Kd.int .i64)) W AL L.length L) (hcL : L.length ≤ cL) (hA : (Kd.int .i64).C W A asm.length asm) (hm : m ≤ 128)
    (hok : AllOk (m + 1) L) (hasm : ∀ l ∈ asm, LitOk (m + 1) l) :
    Calls Try.prog 35 #[.agg #[.int .i64 (m : Int), .slice AL L.length cL], .slice A asm.length c] W (SolvePost W (satF L m asm)) :=
  solve_calls (m + 2) (m + 2) m W hL hcL hA hm hok hasm (solveF_some hm hok hasm)
end Go.Proofs.Ytbnjbjcokkcfcaa.Sol
namespace Go.Proofs.Ytbnjbjcokkcfcaa.Sol
open Go.RowKit Go.Proofs.YtbnjbjcokkcfcaaW.PrintWords Go.Proofs.YtbnjbjcokkcfcaaW.PrintLast Go.Proofs.YtbnjbjcokkcfcaaW.PrintMore Go.Proofs.Ytbnjbjcokkcfcaa.PSearchOwn
set_option linter.unusedVariables false
set_option linter.unusedSimpArgs false
set_option maxHeartbeats 1000000 in
theorem compare_calls (x y : Int) (hx : -128 ≤ x ∧ x ≤ 128) (hy : -128 ≤ y ∧ y ≤ 128) (W : World) :
    Calls Try.prog 100 #[.int .i64 x, .int .i64 y] W fun e w' => e = .returned (.int .i64 (cmpF x y)) ∧ Drawn0 W w' := by
  have HV := Aside0.mk (fun (x : Int) (w : World) => varL_calls (W := w) x)
  have h1 := varOf_le x
  have h2 := varOf_le y
  unfold cmpF
  by_cases h : varOf x ≠ varOf y
  · have hw : wrap64 (varOf x - varOf y) = varOf x - varOf y := by unfold wrap64; omega
    rw [if_pos h]
    go_enter Try.func100, Try.ntmps100
    go_wp2_with (go_at_call 28; refine (HV.out _ _).mono ?_; rintro e w' ⟨rfl, ⟨n, rfl⟩⟩)
    go_ret
    exact ⟨rfl, ⟨_, rfl⟩⟩
  · have hw : wrap64 (x - y) = x - y := by unfold wrap64; omega
    rw [if_neg h]
    have h' : varOf x = varOf y := Classical.not_not.1 h
    go_enter Try.func100, Try.ntmps100
    go_wp2_with (go_at_call 28; refine (HV.out _ _).mono ?_; rintro e w' ⟨rfl, ⟨n, rfl⟩⟩)
    go_ret
    exact ⟨rfl, ⟨_, rfl⟩⟩
theorem order1_calls (x y : Int) (hx : -128 ≤ x ∧ x ≤ 128) (hy : -128 ≤ y ∧ y ≤ 128) (W : World) :
    Calls Try.prog 99 #[.int .i64 x, .int .i64 y] W fun e w' => e = .returned (.int .i64 (cmpF x y)) ∧ Drawn0 W w' := by
  have HV := Aside0.mk (fun (w : World) => compare_calls x y hx hy w)
  go_enter Try.func99, Try.ntmps99
  go_wp2_with (go_at_call 100; refine (HV.out _).mono ?_; rintro e w' ⟨rfl, ⟨n, rfl⟩⟩)
  go_ret
  exact ⟨rfl, ⟨_, rfl⟩⟩
abbrev enc9 (x : L9) : Value := .int .i64 x.1
theorem one9 : Go.Proofs.OneCell enc9 := fun x => rfl
theorem enter99 (args : Array Value) (w : World) : (callFunc 99 args).run Try.prog w = .ok (.enter 99 args) w := Go.Proofs.enters_of Try.func99 (by kernel_rfl) rfl args w
/-- What the sort leaves. -/
theorem sort_calls (W : World) (base : Nat) {v : Value} {xs : List Int} (h : W.ownsRow base 3 1 v xs.length (nums .i64 xs)) (hx : ∀ x ∈ xs, -128 ≤ x ∧ x ≤ 128) (hlen : xs.length ≤ 4096) :
    Calls Try.prog 98 #[v, .func (.func 99) #[] #[]] W fun e w' => e = .returned (.tuple #[]) ∧ ∃ ys : List Int, ys.length = xs.length ∧ (∀ x, x ∈ ys ↔ x ∈ xs) ∧ ys.Pairwise (fun x y => key x ≤ key y) ∧ w'.ownsRow base 3 1 v xs.length (nums .i64 ys) ∧ ∀ w0 B, Below B w0 W → B ≤ base → Below B w0 w' := by
  by_cases hv : v = .slice none 0 0
  · subst hv
    have hl : xs.length = 0 := by
      rcases h.2 with ⟨_, h0⟩ | ⟨g, cap, cur, h1, _⟩
      · exact h0
      · cases h1
    have h0 : xs = [] := List.eq_nil_of_length_eq_zero hl
    subst h0
    refine (Go.Proofs.AnyF.slices_SortFunc_none { sortLays with } none 0 (.func (.func 99) #[] #[]) W).mono ?_
    rintro e w' ⟨rfl, rfl⟩
    exact ⟨rfl, [], rfl, fun x => Iff.rfl, List.Pairwise.nil, h, fun _ _ hb _ => hb⟩
  · obtain ⟨d, hd⟩ : ∃ d : List L9, d.map (fun x => x.1) = xs := ⟨xs.pmap (fun x h => (⟨x, h⟩ : L9)) hx, by rw [List.map_pmap]; simp⟩
    have hnum : nums .i64 xs = d.map enc9 := by rw [← hd]; simp [nums, encs, enc9]
    have hdl : d.length = xs.length := by rw [← hd, List.length_map]
    have h2 := h
    rw [hnum] at h2
    obtain ⟨g, cap, rfl, hb, hlt, hn, hm, hl, hH⟩ := Go.Lib.holds_of_ownsRow (enc := enc9) h2 hv
    have hcmp : Go.Proofs.CmpLays1 Try.prog 99 #[] enc9 (fun x y : L9 => cmpF x.1 y.1) g 0 d.toArray.size W := Go.Proofs.CmpReads.lays (fun m os dk _ x y => (order1_calls x.1 y.1 x.2 y.2 _).mono (fun e w' hw => ⟨hw.1, hw.2.out⟩))
    have hs := Go.Proofs.Any.slices_SortFunc_total sortLays enc9 one9 (fun x y : L9 => cmpF x.1 y.1) swoL 99 #[] g 0 cap d.toArray W enter99 hcmp hH hlt (by simp; omega) totL
    have hsz : d.toArray.size = xs.length := by simpa using hdl
    rw [hsz] at hs
    refine hs.mono ?_
    rintro e w' ⟨rfl, n, os, rfl⟩
    have hml : (sortL d).length = xs.length := by rw [sortL_length, hdl]
    refine ⟨rfl, (sortL d).map (fun x => x.1), by rw [List.length_map, hml], fun x => ?_, ?_, ?_, fun w0 B hB hle => ?_⟩
    · rw [← hd, List.mem_map, List.mem_map]
      exact ⟨fun ⟨a, h1, h2⟩ => ⟨a, (sortL_mem d a).1 h1, h2⟩, fun ⟨a, h1, h2⟩ => ⟨a, (sortL_mem d a).2 h1, h2⟩⟩
    · rw [List.pairwise_map]; exact sortL_sorted d
    · have hp := Go.Lib.ownsRow_putRow (enc := enc9) (q := n) (k := xs.length) (ys := sortL d) h2 hml (Nat.le_refl _)
      rw [List.take_of_length_le (by omega)] at hp
      have hg := own_move (w1 := Go.Sort.grow (Go.Sort.putRow enc9 (Go.Sort.ahead W n) g 0 (sortL d).toArray) os) hp (fun k hk => Go.Sort.heap_grow_old _ os (own_lt hp k hk))
      have hnum2 : nums .i64 ((sortL d).map (fun x => x.1)) = (sortL d).map enc9 := by simp [nums, encs, enc9]
      rw [hnum2]
      exact hg
    · have hb1 := Go.Lib.below_putRow (enc := enc9) (q := n) (d := (sortL d).toArray) hB (show B ≤ g by omega)
      exact ⟨hb1.os, hb1.tape, hb1.output, Nat.le_trans hb1.size (by show _ ≤ (Go.Sort.grow _ os).heap.size; simp [Go.Sort.grow]), fun k hk => (Go.Sort.heap_grow_old _ os (by
        have hsz2 : (Go.Sort.putRow enc9 (Go.Sort.ahead W n) g 0 (sortL d).toArray).heap.size = W.heap.size := by simp [Go.Sort.putRow, Go.Sort.mapBlock, Go.Sort.ahead]
        show k < (Go.Sort.putRow enc9 (Go.Sort.ahead W n) g 0 (sortL d).toArray).heap.size
        rw [hsz2]; omega)).trans (hb1.block k hk)⟩
/-- What Compact leaves. -/
theorem compact_calls (W : World) (base : Nat) {v : Value} {xs : List Int} (h : W.ownsRow base 3 1 v xs.length (nums .i64 xs)) (hlen : xs.length ≤ 4096) :
    Calls Try.prog 101 #[v] W fun e w' => ∃ v', e = .returned v' ∧ w'.ownsRow base 3 1 v' (Go.Lib.compact xs).length (nums .i64 (Go.Lib.compact xs)) ∧ ∀ w0 B, Below B w0 W → B ≤ base → Below B w0 w' := by
  by_cases hv : v = .slice none 0 0
  · subst hv
    have hl : xs.length = 0 := by
      rcases h.2 with ⟨_, h0⟩ | ⟨g, cap, cur, h1, _⟩
      · exact h0
      · cases h1
    have h0 : xs = [] := List.eq_nil_of_length_eq_zero hl
    subst h0
    refine (Go.Proofs.Any.slices_Compact_int_empty cmpLays none 0 W).mono ?_
    rintro e w' ⟨rfl, rfl⟩
    exact ⟨_, rfl, h, fun _ _ hb _ => hb⟩
  · obtain ⟨g, cap, rfl, hb, hlt, hn, hm, hl, hH⟩ := Go.Lib.holds_of_ownsRow (enc := Value.int .i64) h hv
    refine (Go.Proofs.Any.slices_Compact_int cmpLays g 0 cap xs W hH (by omega) hn).mono ?_
    rintro e w' ⟨rfl, q, rfl⟩
    have hle := Go.Lib.compact_length_le xs
    refine ⟨_, rfl, ?_, fun w0 B hB hle => Go.Lib.below_putRow hB (by omega)⟩
    have := Go.Lib.ownsRow_putRow (enc := Value.int .i64) (q := q) (k := (Go.Lib.compact xs).length) (ys := Go.Lib.compact xs ++ List.replicate (xs.length - (Go.Lib.compact xs).length) 0) h (by simp; omega) hle
    rw [List.take_left] at this
    exact this
/-- A list in order, without repetitions. -/
def Tidy (ys l : List Int) : Prop := (∀ x, x ∈ ys ↔ x ∈ l) ∧ adj ys = oppB l ∧ ys.length ≤ l.length
theorem lit_range {n : Int} {l : List Int} (hv : litsB l n = true) : ∀ x ∈ l, (-128 ≤ x ∧ x ≤ 128) ∧ x ≠ 0 := fun x hx => by
  have h1 : varOf x ≠ 0 ∧ varOf x ≤ n := of_decide_eq_true (List.all_eq_true.1 hv x hx)
  have h2 := h1.1
  unfold varOf at h2
  split at h2
  · omega
  · split at h2 <;> omega
theorem key_of {x : Int} (h : -128 ≤ x ∧ x ≤ 128) : key x = if x > 0 then 2 * x + 1 else -(2 * x) := by
  unfold key
  rw [varOf_abs h]
  split <;> split <;> omega
theorem tidy_of {n : Int} {l ys : List Int} (hv : litsB l n = true) (hm : ∀ x, x ∈ ys ↔ x ∈ l) (hs : ys.Pairwise (fun x y => key x ≤ key y)) (hl : ys.length = l.length) : Tidy (Go.Lib.compact ys) l := by
  have hr := lit_range hv
  have hry : ∀ x ∈ ys, (-128 ≤ x ∧ x ≤ 128) ∧ x ≠ 0 := fun x hx => hr x ((hm x).1 hx)
  obtain ⟨h1, h2⟩ := compact_sorted ys hs (fun x hx y hy he => by
    have := key_inj (x := ⟨x, (hry x hx).1⟩) (y := ⟨y, (hry y hy).1⟩) he
    exact congrArg Subtype.val this)
  refine ⟨fun x => (h1 x).trans (hm x), ?_, by have := Go.Lib.compact_length_le ys; omega⟩
  refine Bool.eq_iff_iff.2 ⟨fun h => ?_, fun h => ?_⟩
  · obtain ⟨a, ha, hb⟩ := adj_mem h
    exact List.any_eq_true.2 ⟨a, (hm a).1 ((h1 a).1 ha), decide_eq_true ((hm _).1 ((h1 _).1 hb))⟩
  · obtain ⟨a, ha, hb⟩ := List.any_eq_true.1 h
    have hb := of_decide_eq_true hb
    have key2 : ∀ p : Int, p < 0 → p ∈ l → -p ∈ l → adj (Go.Lib.compact ys) = true := fun p hp h3 h4 => by
      have rp := (hr p h3).1
      have rq := (hr _ h4).1
      have e1 := key_of rp
      have e2 := key_of rq
      rw [if_neg (by omega)] at e1
      rw [if_pos (by omega)] at e2
      refine mem_adj h2 ((h1 _).2 ((hm _).2 h3)) ((h1 _).2 ((hm _).2 h4)) (by omega) (fun x _ _ => by omega) (fun x hx he => ?_)
      have rx := (hry x ((h1 x).1 hx)).1
      have := key_of rx
      split at this <;> omega
    have ha0 := (hr a ha).2
    by_cases hneg : a < 0
    · exact key2 a hneg ha hb
    · exact key2 (-a) (by omega) hb (by rw [Int.neg_neg]; exact ha)
set_option maxHeartbeats 1000000 in
theorem order_calls (W : World) {A : Option Addr} {c : Nat} {l : List Int} {n : Int} (hA : (Kd.int .i64).C W A l.length l) (hc : l.length ≤ c) (hlen : l.length ≤ 4096) (hnil : A = none → c = 0) (hv : litsB l n = true) :
    Calls Try.prog 89 #[.slice A l.length c] W fun e w' => ∃ v ys, e = .returned v ∧ w'.ownsRow W.heap.size 3 1 v ys.length (nums .i64 ys) ∧ Tidy ys l ∧ Below W.heap.size W w' := by
  have HC := Aside0.mk (clone_calls W hA hc (by omega) hnil)
  have HR := Aside0.mk (lit_range hv)
  have HV := Aside0.mk hv
  clear hA hv
  go_enter Try.func89, Try.ntmps89
  go_wp2_with (first
    | (go_at_call 36; refine (HC.out).mono ?_; rintro e w1 ⟨v1, rfl, ho1, hb1⟩; have HB1 := Aside0.mk hb1; have HS := Aside0.mk (sort_calls w1 _ ho1 (fun x hx => (HR.out x hx).1) hlen); clear ho1 hb1)
    | (go_at_call 98; refine (HS.out).mono ?_; rintro e w2 ⟨rfl, ys, hyl, hym, hys, ho2, hb2⟩; have HB2 := Aside0.mk (hb2 _ _ HB1.out (Nat.le_refl _)); have HT := Aside0.mk (tidy_of HV.out hym hys hyl); rw [← hyl] at ho2; have HK := Aside0.mk (compact_calls w2 _ ho2 (by omega)); clear ho2 hb2 hym hys hyl)
    | (go_at_call 101; refine (HK.out).mono ?_; rintro e w3 ⟨v3, rfl, ho3, hb3⟩; have HO3 := Aside0.mk ho3; have HB3 := Aside0.mk (hb3 _ _ HB2.out (Nat.le_refl _)); clear ho3 hb3))
  go_ret
  exact ⟨_, _, rfl, HO3.out, HT.out, HB3.out⟩
theorem valid1_calls (g : Nat) (n x : Int) (W : World) (hg : W.heap[g]? = some (.cells #[.int .i64 n] 3 (0, 0))) :
    Calls Try.prog 97 #[.int .i64 x, .pointer (some ⟨g, 0, none⟩)] W fun e w' => e = .returned (.bool (!validB x n)) ∧ Drawn0 W w' := by
  have hc : W.cell? ⟨g, 0, none⟩ = some (.int .i64 n) := (blk_cell hg 0).trans rfl
  have HV := Aside0.mk (fun (w : World) => validL_calls (W := w) x n)
  clear hg
  go_enter Try.func97, Try.ntmps97
  go_wp2_with (go_at_call 32; refine (HV.out _).mono ?_; rintro e w' ⟨rfl, ⟨n, rfl⟩⟩)
  go_ret
  exact ⟨rfl, ⟨_, rfl⟩⟩
set_option maxHeartbeats 1000000 in
/-- IndexFunc, with a closure that answers as p and leaves the world but for draws. -/
theorem indexfunc_calls (f : Nat) (cb : Array Value) (p : Int → Bool) (W : World) {A : Option Addr} {c : Nat} {l : List Int} (hA : (Kd.int .i64).C W A l.length l) (ef : ∀ args w, (callFunc f args).run Try.prog w = .ok (.enter f args) w)
    (hf : ∀ w x, x ∈ l → Drawn0 W w → Calls Try.prog f (#[.int .i64 x] ++ cb) w fun e w' => e = .returned (.bool (p x)) ∧ Drawn0 w w') :
    Calls Try.prog 86 #[.slice A l.length c, .func (.func f) #[] cb] W fun e w' => (∃ r : Int, e = .returned (.int .i64 r) ∧ (decide (r ≥ 0) = l.any p)) ∧ Drawn0 W w' := by
  have HF := Aside0.mk hf
  have HL := Aside0.mk hA
  have hmax := Kd.C_max hA
  clear hf hA
  go_enter Try.func86, Try.ntmps86
  go_wp2
  go_loopg [8] l.length (fun gk v8 w' => ∃ (i : Nat), i + gk = l.length ∧ v8 = .int .i64 (i : Int) ∧ Aside0 (l.any p = (l.drop i).any p) ∧ Aside0 (Drawn0 W w'))
  case atStart => exact ⟨0, by omega, rfl, ⟨by rw [List.drop_zero]⟩, ⟨Drawn0.refl W⟩⟩
  case round =>
    obtain ⟨i, hig, rfl, HP, HD⟩ := hrel
    cases gk with
    | zero =>
      have hi : ¬ ((i : Int) < (l.length : Int)) := by omega
      go_wp2
      go_ret
      exact ⟨⟨-1, rfl, by rw [HP.out, List.drop_eq_nil_of_le (by omega)]; rfl⟩, HD.out⟩
    | succ gk =>
      have hi : (i : Int) < (l.length : Int) := by omega
      obtain ⟨ad, hA2, hx⟩ := rd_int HL.out i (by omega)
      subst hA2
      obtain ⟨x, hxe⟩ : ∃ x, l.getD i 0 = x := ⟨_, rfl⟩
      rw [hxe] at hx
      have hxl : l[i]'(by omega) = x := by rw [← hxe]; simp [List.getD_eq_getElem?_getD, List.getElem?_eq_getElem (show i < l.length by omega)]
      have hdr : l.drop i = x :: l.drop (i + 1) := by rw [List.drop_eq_getElem_cons (show i < l.length by omega), hxl]
      have hx2 : wr.cell? (ad.add i) = some (.int .i64 x) := by
        obtain ⟨⟨n, rfl⟩⟩ := HD.out
        exact hx
      have HC := Aside0.mk (HF.out wr x (hxl ▸ List.getElem_mem _) HD.out)
      have hany : (l.drop i).any p = (p x || (l.drop (i + 1)).any p) := by rw [hdr, List.any_cons]
      have HAny := Aside0.mk hany
      clear hdr hxl hxe hany
      go_wp2_with fail
      refine (HC.out).mono ?_
      rintro e w2 ⟨rfl, hd2⟩
      have HD2 := Aside0.mk (show Drawn0 W w2 from by
        obtain ⟨⟨n, rfl⟩⟩ := HD.out
        obtain ⟨⟨m, rfl⟩⟩ := hd2
        exact (Drawn0.mk ⟨n, rfl⟩).step m)
      clear hd2 HC hx hx2
      cases hp : p x with
      | true =>
        go_wp2
        go_ret
        refine ⟨⟨(i : Int), rfl, ?_⟩, HD2.out⟩
        rw [HP.out, HAny.out, hp, Bool.true_or]
        exact decide_eq_true (by omega)
      | false =>
        go_wp2
        go_roundg gk
        case measure => omega
        case rel => exact ⟨i + 1, by omega, by go_num, ⟨by rw [HP.out, HAny.out, hp, Bool.false_or]⟩, HD2⟩
theorem containsfunc_calls (f : Nat) (cb : Array Value) (p : Int → Bool) (W : World) {A : Option Addr} {c : Nat} {l : List Int} (hA : (Kd.int .i64).C W A l.length l) (ef : ∀ args w, (callFunc f args).run Try.prog w = .ok (.enter f args) w)
    (hf : ∀ w x, x ∈ l → Drawn0 W w → Calls Try.prog f (#[.int .i64 x] ++ cb) w fun e w' => e = .returned (.bool (p x)) ∧ Drawn0 w w') :
    Calls Try.prog 63 #[.slice A l.length c, .func (.func f) #[] cb] W fun e w' => e = .returned (.bool (l.any p)) ∧ Drawn0 W w' := by
  have HI := Aside0.mk (indexfunc_calls (c := c) f cb p W hA ef hf)
  clear hA hf
  go_enter Try.func63, Try.ntmps63
  go_wp2_with (go_at_call 86; refine (HI.out).mono ?_; rintro e w' ⟨⟨r, rfl, hr⟩, hd⟩; have HD := Aside0.mk hd; have HR := Aside0.mk hr; clear hd hr)
  go_ret
  exact ⟨by rw [← HR.out]; rfl, HD.out⟩
theorem enter97 (args : Array Value) (w : World) : (callFunc 97 args).run Try.prog w = .ok (.enter 97 args) w := Go.Proofs.enters_of Try.func97 (by kernel_rfl) rfl args w
theorem validL88_calls (n : Int) (W : World) {A : Option Addr} {c : Nat} {l : List Int} (hA : (Kd.int .i64).C W A l.length l) :
    Calls Try.prog 88 #[.slice A l.length c, .int .i64 n] W fun e w' => e = .returned (.bool (litsB l n)) ∧ Below W.heap.size W w' := by
  have hg := blk_new W (.cells #[.int .i64 n] 3)
  have hb := below_alloc (Below.refl W.heap.size W) (.cells #[.int .i64 n] 3)
  have HC := Aside0.mk (containsfunc_calls (c := c) 97 #[.pointer (some ⟨W.heap.size, 0, none⟩)] (fun x => !validB x n) _ (Kd.C_below hA hb) enter97 (fun w x _ hd => valid1_calls W.heap.size n x w (by obtain ⟨⟨m, rfl⟩⟩ := hd; exact hg)))
  have HB := Aside0.mk hb
  have HE := Aside0.mk (show (!(l.any fun x => !validB x n)) = litsB l n by unfold litsB; rw [← List.all_eq_not_any_not])
  clear hA hg hb
  go_enter Try.func88, Try.ntmps88
  go_wp2_with (go_at_call 63; refine (HC.out).mono ?_; rintro e w' ⟨rfl, ⟨n, rfl⟩⟩)
  go_ret
  exact ⟨by rw [← HE.out]; rfl, pw_below_drewN HB.out n⟩
theorem order2_calls (W : World) {A : Option Addr} {c : Nat} {l : List Int} {n : Int} (hA : (Kd.int .i64).C W A l.length l) (hc : l.length ≤ c) (hlen : l.length ≤ 4096) (hnil : A = none → c = 0) (hv : litsB l n = true) :
    Calls Try.prog 89 #[.slice A l.length c] W fun e w' => ∃ A3 c3 ys, e = .returned (.slice A3 ys.length c3) ∧ w'.ownsRow W.heap.size 3 1 (.slice A3 ys.length c3) ys.length (nums .i64 ys) ∧ Tidy ys l ∧ Below W.heap.size W w' ∧ Calls Try.prog 90 #[.slice A3 ys.length c3] w' fun e w'' => e = .returned (.bool (oppB l)) ∧ Drawn0 w' w'' := by
  refine (order_calls W hA hc hlen hnil hv).mono ?_
  rintro e w' ⟨v, ys, rfl, ho, ht, hb⟩
  obtain ⟨A3, c3, rfl, hC3, hc3, _, _⟩ := own_C ho
  refine ⟨A3, c3, ys, rfl, ho, ht, hb, ?_⟩
  have hr := lit_range hv
  have := opposite_calls hC3 hc3 (Nat.le_trans ht.2.2 hlen) (fun x hx => by
    have := (hr x ((ht.1 x).1 hx)).1
    omega)
  rw [ht.2.1] at this
  exact this
/-- What Term leaves: nothing, or the literals in order. -/
def TermPost (W : World) (n : Int) (l : List Int) (e : Ending) (w' : World) : Prop :=
  (∃ v ys, e = .returned (.tuple #[v, .bool (litsB l n && !oppB l)]) ∧ ((litsB l n && !oppB l) = true → w'.ownsRow W.heap.size 3 1 v ys.length (nums .i64 ys) ∧ Tidy ys l)) ∧ Below W.heap.size W w'
theorem term_calls (n : Int) (W : World) {A : Option Addr} {c : Nat} {l : List Int} (hA : (Kd.int .i64).C W A l.length l) (hc : l.length ≤ c) (hlen : l.length ≤ 4096) (hnil : A = none → c = 0) :
    Calls Try.prog 70 #[.slice A l.length c, .int .i64 n] W (TermPost W n l) := by
  have HV := Aside0.mk (validL88_calls (c := c) n W hA)
  cases hv : litsB l n with
  | false =>
    rw [hv] at HV
    have HN := Aside0.mk hv
    clear hA hv
    go_enter Try.func70, Try.ntmps70
    go_wp2_with (go_at_call 88; refine (HV.out).mono ?_; rintro e w' ⟨rfl, hb⟩; have HB := Aside0.mk hb; clear hb)
    go_ret2
    exact ⟨⟨_, [], by rw [HN.out]; rfl, fun h => by rw [HN.out] at h; cases h⟩, HB.out⟩
  | true =>
    have HO := Aside0.mk (fun (w : World) (hb : Below W.heap.size W w) => order2_calls w (Kd.C_below hA hb) hc hlen hnil hv)
    rw [hv] at HV
    have HN := Aside0.mk hv
    have HLr := Aside0.mk (lit_range hv)
    clear hA hv
    cases ho : oppB l with
    | true =>
      have HOp := Aside0.mk ho
      clear ho
      go_enter Try.func70, Try.ntmps70
      go_wp2_with (first
        | (go_at_call 88; refine (HV.out).mono ?_; rintro e w1 ⟨rfl, hb⟩; have HB := Aside0.mk hb; clear hb)
        | (go_at_call 89; refine (HO.out _ HB.out).mono ?_; rintro e w2 ⟨A3, c3, ys, rfl, ho2, ht2, hb2, ha2⟩; have HB2 := Aside0.mk (below_step HB.out hb2); have HO2 := Aside0.mk (own_less ho2 HB.out.size); have HT2 := Aside0.mk ht2; rw [HOp.out] at ha2; have HAdj := Aside0.mk ha2; clear ho2 ht2 hb2 ha2)
        | (go_at_call 90; refine (HAdj.out).mono ?_; rintro e w3 ⟨rfl, ⟨m, rfl⟩⟩))
      go_ret2
      exact ⟨⟨_, [], by rw [HN.out, HOp.out]; rfl, fun h => by rw [HN.out, HOp.out] at h; cases h⟩, pw_below_drewN HB2.out m⟩
    | false =>
      have HOp := Aside0.mk ho
      clear ho
      go_enter Try.func70, Try.ntmps70
      go_wp2_with (first
        | (go_at_call 88; refine (HV.out).mono ?_; rintro e w1 ⟨rfl, hb⟩; have HB := Aside0.mk hb; clear hb)
        | (go_at_call 89; refine (HO.out _ HB.out).mono ?_; rintro e w2 ⟨A3, c3, ys, rfl, ho2, ht2, hb2, ha2⟩; have HB2 := Aside0.mk (below_step HB.out hb2); have HO2 := Aside0.mk (own_less ho2 HB.out.size); have HT2 := Aside0.mk ht2; rw [HOp.out] at ha2; have HAdj := Aside0.mk ha2; clear ho2 ht2 hb2 ha2)
        | (go_at_call 90; refine (HAdj.out).mono ?_; rintro e w3 ⟨rfl, ⟨m, rfl⟩⟩))
      go_ret2
      exact ⟨⟨_, ys, by rw [HN.out, HOp.out]; rfl, fun h => ⟨own_move HO2.out (fun _ _ => rfl), HT2.out⟩⟩, pw_below_drewN HB2.out m⟩
end Go.Proofs.Ytbnjbjcokkcfcaa.Sol
namespace Go.Proofs.Ytbnjbjcokkcfcaa.Sol
open Go.RowKit Go.Proofs.YtbnjbjcokkcfcaaW.PrintWords Go.Proofs.YtbnjbjcokkcfcaaW.PrintLast Go.Proofs.YtbnjbjcokkcfcaaW.PrintMore Go.Proofs.Ytbnjbjcokkcfcaa.PSearchOwn
set_option linter.unusedVariables false
set_option linter.unusedSimpArgs false
end Go.Proofs.Ytbnjbjcokkcfcaa.Sol
namespace Go.Proofs.Ytbnjbjcokkcfcaa.Sol
open Go.RowKit Go.Proofs.YtbnjbjcokkcfcaaW.PrintWords Go.Proofs.YtbnjbjcokkcfcaaW.PrintLast Go.Proofs.YtbnjbjcokkcfcaaW.PrintMore Go.Proofs.Ytbnjbjcokkcfcaa.PSearchOwn
set_option linter.unusedVariables false
set_option linter.unusedSimpArgs false
theorem andnot_u64 (a b : Nat) (ha : a < 2 ^ 64) (hb : b < 2 ^ 64) : bits .andNot .u64 (a : Int) (b : Int) = ((a &&& (18446744073709551615 - b) : Nat) : Int) := u64_andNot_nat a b (by omega) (by omega)
end Go.Proofs.Ytbnjbjcokkcfcaa.Sol
namespace Go.Proofs.Ytbnjbjcokkcfcaa.Sol
open Go.RowKit Go.Proofs.YtbnjbjcokkcfcaaW.PrintWords Go.Proofs.YtbnjbjcokkcfcaaW.PrintLast Go.Proofs.YtbnjbjcokkcfcaaW.PrintMore Go.Proofs.Ytbnjbjcokkcfcaa.PSearchOwn
set_option linter.unusedVariables false
set_option linter.unusedSimpArgs false
set_option maxHeartbeats 1000000 in
theorem all_calls24 (n : Nat) (hn : n ≤ 128) (W : World) :
    Calls Try.prog 24 #[.int .i64 (n : Int)] W fun e w' => e = .returned (setV2 (allS n)) ∧ Below W.heap.size W w' := by
  have hwith : ∀ (w : World) (i : Nat), i < n → Calls Try.prog 45 #[setV2 (allS i), .int .i64 ((i : Int) + 1)] w fun e w' => e = .returned (setV2 (allS (i + 1))) ∧ Below w.heap.size w w' := fun w i hi => by
    rw [allS_succ]
    exact with_calls (allS i) (i + 1) (by omega) (by omega) w (SOk.all i (by omega)).1 (SOk.all i (by omega)).2
  have HW := Aside0.mk hwith
  clear hwith
  have hmin : min (n : Int) 128 = (n : Int) := by omega
  have hz : allS 0 = (0, 0) := rfl
  have hR0 := blk_alloc (blk_new W (.cells #[.int .u64 0, .int .u64 0] 34)) (.cells #[.int .u64 0, .int .u64 0] 34)
  have hS0 := blk_new (W.alloc (.cells #[.int .u64 0, .int .u64 0] 34)) (.cells #[.int .u64 0, .int .u64 0] 34)
  rw [show (W.alloc (.cells #[.int .u64 0, .int .u64 0] 34)).heap.size = W.heap.size + 1 by simp] at hS0
  have HR0 := Aside0.mk hR0
  have HS0 := Aside0.mk hS0
  have HB0 := Aside0.mk (below_alloc (below_alloc (Below.refl W.heap.size W) (.cells #[.int .u64 0, .int .u64 0] 34)) (.cells #[.int .u64 0, .int .u64 0] 34))
  clear hR0 hS0
  go_enter Try.func24, Try.ntmps24
  go_wp2
  generalize (W.alloc (.cells #[.int .u64 0, .int .u64 0] 34)).alloc (.cells #[.int .u64 0, .int .u64 0] 34) = w1 at HR0 HS0 HB0 ⊢
  go_loopg [4] n (fun gk v4 w' => ∃ (i : Nat), i + gk = n ∧ v4 = .int .i64 ((i : Int) + 1) ∧ Aside0 (w'.heap[W.heap.size + 1]? = some (.cells #[.int .u64 ((allS i).1 : Int), .int .u64 ((allS i).2 : Int)] 34 (0, 0))) ∧ Aside0 (w'.heap[W.heap.size]? = some (.cells #[.int .u64 0, .int .u64 0] 34 (0, 0))) ∧ Aside0 (Below W.heap.size W w'))
  case atStart => exact ⟨0, by omega, rfl, HS0, HR0, HB0⟩
  case round =>
    clear HR0 HS0 HB0
    obtain ⟨i, hig, rfl, HS, HR, HB⟩ := hrel
    have hc0 : wr.cell? ⟨W.heap.size + 1, 0, none⟩ = some (.int .u64 ((allS i).1 : Int)) := (blk_cell HS.out 0).trans rfl
    have hc1 : wr.cell? ⟨W.heap.size + 1, 1, none⟩ = some (.int .u64 ((allS i).2 : Int)) := (blk_cell HS.out 1).trans rfl
    cases gk with
    | zero =>
      have hi : i = n := by omega
      subst hi
      have hr0 : wr.cell? ⟨W.heap.size, 0, none⟩ = some (.int .u64 0) := (blk_cell HR.out 0).trans rfl
      have hr1 : wr.cell? ⟨W.heap.size, 1, none⟩ = some (.int .u64 0) := (blk_cell HR.out 1).trans rfl
      have hf0 := blk_frozen HR.out 0
      have hf1 := blk_frozen HR.out 1
      go_wp2
      refine bodyPost_ret (results_cell_row rfl _ _ W.heap.size 34 #[.int .u64 ((allS i).1 : Int), .int .u64 ((allS i).2 : Int)] (0, 0) _ rfl (blk_put (blk_put HR.out 0 _ rfl) 1 _ rfl) Try.underlying34 rfl size34) rfl ⟨rfl, below_set (below_set HB.out (Nat.le_refl _)) (Nat.le_refl _)⟩
    | succ gk =>
      have hcall := Aside0.mk (HW.out wr i (by omega))
      go_wp2_with (go_at_call 45; refine (hcall.out).mono ?_; rintro e w2 ⟨rfl, hb2⟩; have HS2 := Aside0.mk (blk_below HS.out hb2); have HR2 := Aside0.mk (blk_below HR.out hb2); have HB2 := Aside0.mk (below_step HB.out hb2); have hq0 : w2.cell? ⟨W.heap.size + 1, 0, none⟩ = some (.int .u64 ((allS i).1 : Int)) := (blk_cell HS2.out 0).trans rfl; have hq1 : w2.cell? ⟨W.heap.size + 1, 1, none⟩ = some (.int .u64 ((allS i).2 : Int)) := (blk_cell HS2.out 1).trans rfl; have hf0 := blk_frozen HS2.out 0; have hf1 := blk_frozen HS2.out 1; clear hb2)
      go_roundg gk
      case measure => omega
      case rel => exact ⟨i + 1, by omega, rfl, ⟨blk_put (blk_put HS2.out 0 _ rfl) 1 _ rfl⟩, ⟨blk_far (blk_far HR2.out (by show _ ≠ W.heap.size + 1; omega) _) (by show _ ≠ W.heap.size + 1; omega) _⟩, ⟨below_set (below_set HB2.out (Nat.le_succ _)) (Nat.le_succ _)⟩⟩
end Go.Proofs.Ytbnjbjcokkcfcaa.Sol
namespace Go.Proofs.Ytbnjbjcokkcfcaa.Sol
open Go.RowKit Go.Proofs.YtbnjbjcokkcfcaaW.PrintWords Go.Proofs.YtbnjbjcokkcfcaaW.PrintLast Go.Proofs.YtbnjbjcokkcfcaaW.PrintMore Go.Proofs.Ytbnjbjcokkcfcaa.PSearchOwn
set_option linter.unusedVariables false
set_option linter.unusedSimpArgs false
end Go.Proofs.Ytbnjbjcokkcfcaa.Sol
namespace Go.Proofs.Ytbnjbjcokkcfcaa.Sol
open Go.RowKit Go.Proofs.YtbnjbjcokkcfcaaW.PrintWords Go.Proofs.YtbnjbjcokkcfcaaW.PrintLast Go.Proofs.YtbnjbjcokkcfcaaW.PrintMore Go.Proofs.Ytbnjbjcokkcfcaa.PSearchOwn
set_option linter.unusedVariables false
set_option linter.unusedSimpArgs false
section
variable {P : Program} {ops : Array Oper} {Q : Exit → Act → World → Prop}
end
end Go.Proofs.Ytbnjbjcokkcfcaa.Sol
namespace Go.Proofs.Ytbnjbjcokkcfcaa.Sol
open Go.RowKit Go.Proofs.YtbnjbjcokkcfcaaW.PrintWords Go.Proofs.YtbnjbjcokkcfcaaW.PrintLast Go.Proofs.YtbnjbjcokkcfcaaW.PrintMore Go.Proofs.Ytbnjbjcokkcfcaa.PSearchOwn
set_option linter.unusedVariables false
set_option linter.unusedSimpArgs false
end Go.Proofs.Ytbnjbjcokkcfcaa.Sol
namespace Go.Proofs.Ytbnjbjcokkcfcaa.Sol
open Go.RowKit Go.Proofs.YtbnjbjcokkcfcaaW.PrintWords
set_option linter.unusedVariables false
set_option linter.unusedSimpArgs false
end Go.Proofs.Ytbnjbjcokkcfcaa.Sol
namespace Go.Proofs.Ytbnjbjcokkcfcaa.Sol
open Go.RowKit Go.Proofs.YtbnjbjcokkcfcaaW.PrintWords Go.Proofs.YtbnjbjcokkcfcaaW.PrintLast Go.Proofs.YtbnjbjcokkcfcaaW.PrintMore Go.Proofs.Ytbnjbjcokkcfcaa.PSearchOwn
set_option linter.unusedVariables false
set_option linter.unusedSimpArgs false
abbrev cS (s : Nat × Nat) : Array Value := #[.int .u64 (s.1 : Int), .int .u64 (s.2 : Int)]
theorem blk_size (w : World) (o : Obj) : (w.alloc o).heap.size = w.heap.size + 1 := by simp
theorem set_blk {w : World} {g : Nat} {s : Nat × Nat} (h : w.heap[g]? = some (.cells (cS s) 34 (0, 0))) (t : Nat × Nat) : ((w.setCell ⟨g, 0, none⟩ (.int .u64 (t.1 : Int))).setCell ⟨g, 1, none⟩ (.int .u64 (t.2 : Int))).heap[g]? = some (.cells (cS t) 34 (0, 0)) := blk_put (blk_put h 0 _ rfl) 1 _ rfl
section
variable {ops : Array Oper} {rest : List Oper} {o : Oper} {a : Act} {Q : Exit → Act → World → Prop}
/-- A number is appended to a row of the call's own. -/
theorem app_int {w : World} (base : Nat) {v : Value} {zs : List Int} (hz : w.ownsRow base 3 1 v zs.length (nums .i64 zs)) (i : Int) (hlen : zs.length ≤ 4096) (hbase : base ≤ w.heap.size) (hgd : o.guard = none) (s x : Operand) (ho : o.op = .call { callee := .builtin .append, args := #[s, x], argTypes := #[25, 25] }) (hs : a.eval s = v) (hx : a.eval x = .slice (some ⟨w.heap.size, 0, none⟩) 1 1)
    (K : ∀ v2 w2, w2.ownsRow base 3 1 v2 (zs ++ [i]).length (nums .i64 (zs ++ [i])) → w.grownBy w2 v.ownBlock → wpList Try.prog ops Q rest (a.put o.dst v2) w2) :
    wpList Try.prog ops Q (o :: rest) a (w.alloc (.cells #[.int .i64 i] 3)) := by
  refine Kd.R_append (Kd.int .i64) (w0 := w) base hgd s x 25 3 (.int .i64 0) 8 ho Try.underlying25 PPartsSplit.info3 rfl (by decide) (by decide) v zs i [.int .i64 i] (fun _ => True) (fun _ => False) hs hx rfl (fun k hk => hk.elim) (fun _ _ => trivial) (Kd.R_of_own hz (fun _ _ => trivial)) (Below.refl _ _ |>.mono hbase) hbase (by omega) ?_
  intro v1 w1 hr hb hg hat
  exact K v1 w1 (Kd.own_of_R hr) hg
end
theorem agg34 (a b c d : Int) (w : World) : (Op.equalIn 10000 34 (.agg #[.int .u64 a, .int .u64 b]) (.agg #[.int .u64 c, .int .u64 d])).run Try.prog w = .ok (a == c && b == d) w := by
  obtain ⟨i, hi⟩ : ∃ i, Try.prog.info? 32 = some i := Option.isSome_iff_exists.1 (by kernel_rfl)
  have h := run_equalIn_array (P := Try.prog) w 9999 (t := 34) (e := 32) #[.int .u64 a, .int .u64 b] #[.int .u64 c, .int .u64 d] Try.underlying34 hi
  rw [h, show Try.prog.cellsOf 32 = 1 by kernel_rfl, show List.range 2 = [0, 1] from rfl]
  have p1 : ∀ (x y : Int), (part 32 #[.int .u64 x, .int .u64 y] (0 * 1)).run Try.prog w = .ok (.int .u64 x) w := fun x y => by kernel_rfl
  have p2 : ∀ (x y : Int), (part 32 #[.int .u64 x, .int .u64 y] 1).run Try.prog w = .ok (.int .u64 y) w := fun x y => by kernel_rfl
  have e1 : ∀ x y : Int, (Op.equalIn 9999 32 (.int .u64 x) (.int .u64 y)).run Try.prog w = .ok (x == y) w := fun x y => run_equalIn_int w 9998 32 .u64 .u64 x y Try.underlying32
  simp only [Op.eqItems, Sem.run_bind, p1, e1, Result.andThen_ok]
  cases (a == c)
  · simp
  · by_cases h2 : b = d <;> simp [p2, e1, h2]
theorem cS_eq (p q : Nat × Nat) : ((p.1 : Int) == (q.1 : Int) && (p.2 : Int) == (q.2 : Int)) = decide (p = q) := by
  obtain ⟨a, b⟩ := p
  obtain ⟨c, d⟩ := q
  rw [Bool.eq_iff_iff, Bool.and_eq_true, decide_eq_true_iff, beq_iff_eq, beq_iff_eq, Prod.mk.injEq]
  show (a : Int) = (c : Int) ∧ (b : Int) = (d : Int) ↔ _
  omega
theorem eql34 (p q : Nat × Nat) (w : World) : (binOp .eql 34 (.agg (cS p)) (.agg (cS q))).run Try.prog w = .ok (.bool (decide (p = q))) w := by
  rw [run_eql_struct, agg34, Result.andThen_ok, cS_eq]
section
variable {N : Int} {W : World} {AL : Option Addr} {cL : Nat} {L : List (List Int)} {A : Option Addr} {c : Nat} {ys : List Int} {n : Nat}
end
end Go.Proofs.Ytbnjbjcokkcfcaa.Sol
namespace Go.Proofs.Ytbnjbjcokkcfcaa.Sol
open Go.RowKit Go.Proofs.YtbnjbjcokkcfcaaW.PrintWords Go.Proofs.YtbnjbjcokkcfcaaW.PrintLast Go.Proofs.YtbnjbjcokkcfcaaW.PrintMore Go.Proofs.Ytbnjbjcokkcfcaa.PSearchOwn
set_option linter.unusedVariables false
set_option linter.unusedSimpArgs false
def cutS (s t : Nat × Nat) : Nat × Nat := (s.1 &&& t.1, s.2 &&& t.2)
def minusS (s t : Nat × Nat) : Nat × Nat := (s.1 &&& (18446744073709551615 - t.1), s.2 &&& (18446744073709551615 - t.2))
theorem SOk.cut {s t : Nat × Nat} (h : SOk s) : SOk (cutS s t) := ⟨Nat.lt_of_le_of_lt Nat.and_le_left h.1, Nat.lt_of_le_of_lt Nat.and_le_left h.2⟩
set_option maxHeartbeats 1000000 in
theorem cut_calls (s t : Nat × Nat) (W : World) (hs : SOk s) (ht : SOk t) :
    Calls Try.prog 23 #[setV2 s, setV2 t] W fun e w' => e = .returned (setV2 (cutS s t)) ∧ Below W.heap.size W w' := by
  obtain ⟨a, b⟩ := s
  obtain ⟨c, d⟩ := t
  have h1 := and_u64 a c hs.1 ht.1
  have h2 := and_u64 b d hs.2 ht.2
  rw [show cutS (a, b) (c, d) = (a &&& c, b &&& d) from rfl]
  generalize (a &&& c : Nat) = p at h1 ⊢
  generalize (b &&& d : Nat) = q at h2 ⊢
  have HO := Aside0.mk (And.intro h1 h2)
  clear h1 h2 hs ht
  go_enter Try.func23, Try.ntmps23
  go_wp2
  rw [HO.out.1, HO.out.2]
  refine bodyPost_ret (results_cell_row rfl _ _ (W.heap.size + 1 + 1) 34 #[.int .u64 (p : Int), .int .u64 (q : Int)] (0, 0) _ rfl ?_ Try.underlying34 rfl size34) rfl ⟨rfl, below_alloc (below_alloc (below_alloc (Below.refl _ _) _) _) _⟩
  have := blk_new ((W.alloc (.cells #[.int .u64 (a : Int), .int .u64 (b : Int)] 34)).alloc (.cells #[.int .u64 (c : Int), .int .u64 (d : Int)] 34)) (.cells #[.int .u64 (p : Int), .int .u64 (q : Int)] 34)
  simpa using this
set_option maxHeartbeats 1000000 in
theorem minus_calls (s t : Nat × Nat) (W : World) (hs : SOk s) (ht : SOk t) :
    Calls Try.prog 84 #[setV2 s, setV2 t] W fun e w' => e = .returned (setV2 (minusS s t)) ∧ Below W.heap.size W w' := by
  obtain ⟨a, b⟩ := s
  obtain ⟨c, d⟩ := t
  have h1 := andnot_u64 a c hs.1 ht.1
  have h2 := andnot_u64 b d hs.2 ht.2
  rw [show minusS (a, b) (c, d) = (a &&& (18446744073709551615 - c), b &&& (18446744073709551615 - d)) from rfl]
  generalize (a &&& (18446744073709551615 - c) : Nat) = p at h1 ⊢
  generalize (b &&& (18446744073709551615 - d) : Nat) = q at h2 ⊢
  have HO := Aside0.mk (And.intro h1 h2)
  clear h1 h2 hs ht
  go_enter Try.func84, Try.ntmps84
  go_wp2
  rw [HO.out.1, HO.out.2]
  refine bodyPost_ret (results_cell_row rfl _ _ (W.heap.size + 1 + 1) 34 #[.int .u64 (p : Int), .int .u64 (q : Int)] (0, 0) _ rfl ?_ Try.underlying34 rfl size34) rfl ⟨rfl, below_alloc (below_alloc (below_alloc (Below.refl _ _) _) _) _⟩
  have := blk_new ((W.alloc (.cells #[.int .u64 (a : Int), .int .u64 (b : Int)] 34)).alloc (.cells #[.int .u64 (c : Int), .int .u64 (d : Int)] 34)) (.cells #[.int .u64 (p : Int), .int .u64 (q : Int)] 34)
  simpa using this
def subS (s t : Nat × Nat) : Bool := decide (minusS s t = (0, 0))
set_option maxHeartbeats 1000000 in
theorem sub_calls (s t : Nat × Nat) (W : World) (hs : SOk s) (ht : SOk t) :
    Calls Try.prog 61 #[setV2 s, setV2 t] W fun e w' => e = .returned (.bool (subS s t)) ∧ Below W.heap.size W w' := by
  have hM := Aside0.mk (fun w => minus_calls s t w hs ht)
  rw [show subS s t = decide (minusS s t = (0, 0)) from rfl]
  generalize minusS s t = m at hM ⊢
  have heq : ∀ w, (binOp .eql 34 (.agg #[.int .u64 (m.1 : Int), .int .u64 (m.2 : Int)]) (.agg #[.int .u64 0, .int .u64 0])).run Try.prog w = .ok (.bool (decide (m = (0, 0)))) w := fun w => eql34 m (0, 0) w
  have HB := Aside0.mk (below_alloc (below_alloc (Below.refl W.heap.size W) (.cells #[.int .u64 (s.1 : Int), .int .u64 (s.2 : Int)] 34)) (.cells #[.int .u64 (t.1 : Int), .int .u64 (t.2 : Int)] 34))
  clear hs ht
  go_enter Try.func61, Try.ntmps61
  go_wp2_with (go_at_call 84; refine (hM.out _).mono ?_; rintro e w1 ⟨rfl, hb1⟩; have HB1 := Aside0.mk (below_step HB.out hb1); clear hb1)
  go_ret
  exact ⟨rfl, HB1.out⟩
theorem has_bit (a k : Nat) (ha : a < 2 ^ 64) (hk : k < 64) : (bits .and .u64 (a : Int) ((2 ^ k : Nat) : Int) != 0) = a.testBit k := by
  rw [and_u64 a _ ha (pow_lt64 hk)]
  cases h : a.testBit k with
  | true =>
    have : a &&& 2 ^ k ≠ 0 := (and_ne ha).2 ⟨k, hk, h, by rw [Nat.testBit_two_pow]; exact decide_eq_true rfl⟩
    have h2 : ((a &&& 2 ^ k : Nat) : Int) ≠ 0 := by omega
    simpa using h2
  | false =>
    have : a &&& 2 ^ k = 0 := Classical.byContradiction fun hne => by
      obtain ⟨i, _, h1, h2⟩ := (and_ne ha).1 hne
      rw [Nat.testBit_two_pow] at h2
      have := of_decide_eq_true h2
      subst this
      rw [h] at h1; cases h1
    rw [this]; rfl
set_option maxHeartbeats 1000000 in
theorem has_calls (s : Nat × Nat) (v : Nat) (h1 : 1 ≤ v) (h2 : v ≤ 128) (W : World) (hs : SOk s) :
    Calls Try.prog 60 #[setV2 s, .int .i64 (v : Int)] W fun e w' => e = .returned (.bool (memS s v)) ∧ Below W.heap.size W w' := by
  obtain ⟨a, b⟩ := s
  obtain ⟨ha, hb⟩ := hs
  have HP := Aside0.mk (fun W => place_calls v h1 h2 W)
  have HB := Aside0.mk (below_alloc (Below.refl W.heap.size W) (.cells #[.int .u64 (a : Int), .int .u64 (b : Int)] 34))
  by_cases h : v ≤ 64
  · have e1 : (v - 1) / 64 = 0 := by omega
    have e2 : (v - 1) % 64 = v - 1 := by omega
    rw [e1, e2] at HP
    have e3 := has_bit a (v - 1) ha (by omega)
    rw [show memS (a, b) v = a.testBit (v - 1) by unfold memS; rw [if_pos h], ← e3]
    clear e1 e2 e3 ha hb
    generalize (2 ^ (v - 1) : Nat) = p at HP ⊢
    go_enter Try.func60, Try.ntmps60
    go_wp2_with (go_at_call 71; refine (HP.out _).mono ?_; rintro e w' ⟨rfl, ⟨n, rfl⟩⟩)
    go_ret
    exact ⟨rfl, pw_below_drewN HB.out n⟩
  · have e1 : (v - 1) / 64 = 1 := by omega
    have e2 : (v - 1) % 64 = v - 65 := by omega
    rw [e1, e2] at HP
    have e3 := has_bit b (v - 65) hb (by omega)
    rw [show memS (a, b) v = b.testBit (v - 65) by unfold memS; rw [if_neg h], ← e3]
    clear e1 e2 e3 ha hb
    generalize (2 ^ (v - 65) : Nat) = p at HP ⊢
    go_enter Try.func60, Try.ntmps60
    go_wp2_with (go_at_call 71; refine (HP.out _).mono ?_; rintro e w' ⟨rfl, ⟨n, rfl⟩⟩)
    go_ret
    exact ⟨rfl, pw_below_drewN HB.out n⟩
end Go.Proofs.Ytbnjbjcokkcfcaa.Sol
namespace Go.Proofs.Ytbnjbjcokkcfcaa.Sol
open Go.RowKit Go.Proofs.YtbnjbjcokkcfcaaW.PrintWords Go.Proofs.YtbnjbjcokkcfcaaW.PrintLast Go.Proofs.YtbnjbjcokkcfcaaW.PrintMore Go.Proofs.Ytbnjbjcokkcfcaa.PSearchOwn
set_option linter.unusedVariables false
set_option linter.unusedSimpArgs false
def q65r1T : Bool × List (List Nat × List Nat) := (true, [([], []), ([0], [0]), ([1], [1]), ([2, 1], [2]), ([3], [3]), ([3], [3]), ([5, 3, 3], [3, 5]), ([4, 6, 6, 3], [3, 4, 6]), ([3], [3]), ([8, 3], [3, 8]), ([7, 9, 3], [3, 7, 9]), ([3, 10], [3, 10]), ([11, 7, 0, 1, 2, 3, 4, 5, 6, 7, 8, 9, 10, 11], [11])])
def q65r1B : List Nat := [0, 1, 3, 7, 15, 15, 47, 127, 15, 271, 1023, 2047, 4095]
theorem q65r1tab : rtab .any (opsOf Try.f65 1) = q65r1T := by kernel_rfl
theorem q65r1bits : waitsOk q65r1T.2 q65r1B = true := by kernel_rfl
theorem sat_mem (σ : Nat → Bool) (l : Int) (hl : varOf l ≠ 0) : sat1 σ l = (σ (varOf l).toNat == decide (l > 0)) := by
  unfold sat1
  unfold varOf at hl ⊢
  by_cases h1 : 1 ≤ l ∧ l ≤ 128
  · rw [if_pos h1, if_neg (by omega), decide_eq_true (show l > 0 by omega)]; cases σ l.toNat <;> rfl
  · rw [if_neg h1] at hl ⊢
    by_cases h2 : -128 ≤ l ∧ l ≤ -1
    · rw [if_pos h2, if_pos (by omega), decide_eq_false (show ¬ l > 0 by omega)]; cases σ (-l).toNat <;> rfl
    · rw [if_neg h2] at hl; exact absurd rfl hl
set_option maxHeartbeats 2000000 in
set_option maxRecDepth 100000 in
theorem holds_calls (s : Nat × Nat) (l : Int) (hl : varOf l ≠ 0) (W : World) (hs : SOk s) :
    Calls Try.prog 65 #[setV2 s, .int .i64 l] W fun e w' => e = .returned (.bool (sat1 (memS s) l)) ∧ Below W.heap.size W w' := by
  have h2 := varOf_le l
  have HVar := Aside0.mk (fun (w : World) => varL_calls (W := w) l)
  have HHas := Aside0.mk (fun (w : World) => (show Calls Try.prog 60 #[setV2 s, .int .i64 (varOf l)] w fun e w' => e = .returned (.bool (memS s (varOf l).toNat)) ∧ Below w.heap.size w w' by
    have := has_calls s (varOf l).toNat (by omega) (by omega) w hs
    rwa [show (((varOf l).toNat : Nat) : Int) = varOf l by omega] at this))
  have HSat := Aside0.mk (sat_mem (memS s) l hl)
  have HT := Aside0.mk (blk_new W (.cells #[.int .u64 (s.1 : Int), .int .u64 (s.2 : Int)] 34))
  have HB := Aside0.mk (below_alloc (Below.refl W.heap.size W) (.cells #[.int .u64 (s.1 : Int), .int .u64 (s.2 : Int)] 34))
  have hne : ((varOf l != 0) : Bool) = true := by simpa using hl
  have hne2 : (varOf l == 0) = false := by simpa using hl
  clear hs h2 hl
  go_enter Try.func65, Try.ntmps65
  go_wp2_with fail
  try go_step3
  refine start_ (n := 13) (S := fun w' => w'.cell? ⟨W.heap.size, 0, none⟩ = some (.int .u64 (s.1 : Int)) ∧ w'.cell? ⟨W.heap.size, 1, none⟩ = some (.int .u64 (s.2 : Int))) (ds := []) #[false, false, false, false, false, false, false, false, false, false, false, false, false] (by kernel_rfl) rfl rfl (⟨(blk_cell HT.out 0).trans rfl, (blk_cell HT.out 1).trans rfl⟩) (fun hHeld => ?_)
  refine with_tabW q65r1tab q65r1bits (fun HT_ HW_ => ?_)
  replace HT := Aside0.mk (blk_drew HT.out)
  replace HB := Aside0.mk (below_drew HB.out)
  generalize (W.alloc (.cells #[.int .u64 (s.1 : Int), .int .u64 (s.2 : Int)] 34)).drew = w1 at HT HB hHeld ⊢
  refine pure_ (i := 0) (N := some 5) (v := ?_) (a' := ?_) #[true, false, false, false, false, false, false, false, false, false, false, false, false] rfl rfl (any_of HT_.out (by kernel_rfl)) (fun _ _ _ h => h) (Or.inl ⟨by rfl, ?_⟩) ?_ ?_
  rotate_left
  · intro w'
    go_simp
    with_reducible rfl
  rotate_left
  · simp only [Act.put, List.setIfInBounds_toArray, List.set_cons_zero, List.set_cons_succ, i64_w, i32_w]
    rfl
  refine one_ (i := 1) (N := some 6) #[true, true, false, false, false, false, false, false, false, false, false, false, false] rfl rfl (one_of HT_.out (by kernel_rfl)) (by decide) (fun K hK => ?_)
  refine goes_ Try.func28 (by kernel_rfl) rfl #[.int .i64 l] (by rfl) rfl rfl (by simp only [List.map_toArray, List.map_cons, List.map_nil]; rfl) ?_
  refine (HVar.out _).mono ?_
  rintro e_ w_ ⟨rfl, n1, rfl⟩
  refine ⟨_, rfl, ?_⟩
  replace HT := Aside0.mk (blk_drewN HT.out n1)
  replace HB := Aside0.mk (pw_below_drewN HB.out n1)
  generalize w1.drewN n1 = w2 at HT HB ⊢
  refine hK.out _ _ (⟨(blk_cell HT.out 0).trans rfl, (blk_cell HT.out 1).trans rfl⟩) (fun hHeld => ?_)
  clear hK K
  refine norm_ (a' := ?_) ?_ ?_
  rotate_left
  · show Act.put _ (some 6) _ = _
    simp only [Act.put, List.setIfInBounds_toArray, List.set_cons_zero, List.set_cons_succ, i64_w, i32_w]
    rfl
  refine pure_ (i := 2) (N := some 7) (v := ?_) (a' := ?_) #[true, true, true, false, false, false, false, false, false, false, false, false, false] rfl rfl (any_of HT_.out (by kernel_rfl)) (fun _ _ _ h => h) (Or.inl ⟨by rfl, ?_⟩) ?_ ?_
  rotate_left
  · intro w'
    go_simp
    with_reducible rfl
  rotate_left
  · simp only [Act.put, List.setIfInBounds_toArray, List.set_cons_zero, List.set_cons_succ, i64_w, i32_w]
    rfl
  refine pure_ (i := 3) (N := some 8) (v := ?_) (a' := ?_) #[true, true, true, true, false, false, false, false, false, false, false, false, false] rfl rfl (any_of HT_.out (by kernel_rfl)) (fun _ _ _ h => h) (Or.inl ⟨by rfl, ?_⟩) ?_ ?_
  rotate_left
  · intro w'
    go_simp
    with_reducible rfl
  rotate_left
  · simp only [Act.put, List.setIfInBounds_toArray, List.set_cons_zero, List.set_cons_succ, i64_w, i32_w]
    rfl
  refine take_ (i := 4) (N := some 9) (v := ?_) (a' := ?_) #[true, true, true, true, true, false, false, false, false, false, false, false, false] rfl rfl (take_ofW HT_.out HW_.out (by kernel_rfl)) (fun _ _ _ h => h) (Or.inl ⟨by rfl, ?_⟩) hHeld ?_ ?_
  rotate_left
  · rintro w' ⟨s0, s1⟩
    go_simp
    with_reducible rfl
  rotate_left
  · simp only [Act.put, List.setIfInBounds_toArray, List.set_cons_zero, List.set_cons_succ, i64_w, i32_w]
    rfl
  refine pure_ (i := 5) (N := some 10) (v := ?_) (a' := ?_) #[true, true, true, true, true, true, false, false, false, false, false, false, false] rfl rfl (any_of HT_.out (by kernel_rfl)) (fun _ _ _ h => h) (Or.inl ⟨by rfl, ?_⟩) ?_ ?_
  rotate_left
  · intro w'
    go_simp
    with_reducible rfl
  rotate_left
  · simp only [Act.put, List.setIfInBounds_toArray, List.set_cons_zero, List.set_cons_succ, i64_w, i32_w]
    rfl
  refine pure_ (i := 8) (N := some 13) (v := ?_) (a' := ?_) #[true, true, true, true, true, true, false, false, true, false, false, false, false] rfl rfl (any_of HT_.out (by kernel_rfl)) (fun _ _ _ h => h) (Or.inl ⟨by rfl, ?_⟩) ?_ ?_
  rotate_left
  · intro w'
    go_simp
    with_reducible rfl
  rotate_left
  · simp only [Act.put, List.setIfInBounds_toArray, List.set_cons_zero, List.set_cons_succ, i64_w, i32_w]
    rfl
  refine pure_ (i := 9) (N := some 14) (v := ?_) (a' := ?_) #[true, true, true, true, true, true, false, false, true, true, false, false, false] rfl rfl (any_of HT_.out (by kernel_rfl)) (fun _ _ _ h => h) (Or.inl ⟨by rfl, ?_⟩) ?_ ?_
  rotate_left
  · intro w'
    go_simp
    with_reducible rfl
  rotate_left
  · simp only [Act.put, List.setIfInBounds_toArray, List.set_cons_zero, List.set_cons_succ, i64_w, i32_w]
    rfl
  refine one_ (i := 6) (N := some 11) #[true, true, true, true, true, true, true, false, true, true, false, false, false] rfl rfl (one_of HT_.out (by kernel_rfl)) (by decide) (fun K hK => ?_)
  refine goes_ Try.func28 (by kernel_rfl) rfl #[.int .i64 l] (by rfl) rfl rfl (by simp only [List.map_toArray, List.map_cons, List.map_nil]; rfl) ?_
  refine (HVar.out _).mono ?_
  rintro e_ w_ ⟨rfl, n2, rfl⟩
  refine ⟨_, rfl, ?_⟩
  replace HT := Aside0.mk (blk_drewN HT.out n2)
  replace HB := Aside0.mk (pw_below_drewN HB.out n2)
  generalize w2.drewN n2 = w3 at HT HB ⊢
  refine hK.out _ _ (⟨(blk_cell HT.out 0).trans rfl, (blk_cell HT.out 1).trans rfl⟩) (fun hHeld => ?_)
  clear hK K
  refine norm_ (a' := ?_) ?_ ?_
  rotate_left
  · show Act.put _ (some 11) _ = _
    simp only [Act.put, List.setIfInBounds_toArray, List.set_cons_zero, List.set_cons_succ, i64_w, i32_w]
    rfl
  refine one_ (i := 7) (N := some 12) #[true, true, true, true, true, true, true, true, true, true, false, false, false] rfl rfl (one_of HT_.out (by kernel_rfl)) (by decide) (fun K hK => ?_)
  refine goes_ Try.func60 (by kernel_rfl) rfl #[setV2 s, .int .i64 (varOf l)] (by rfl) rfl rfl (by simp only [List.map_toArray, List.map_cons, List.map_nil]; rfl) ?_
  refine (HHas.out _).mono ?_
  rintro e_ w_ ⟨rfl, hb3⟩
  refine ⟨_, rfl, ?_⟩
  replace HT := Aside0.mk (blk_below HT.out hb3)
  replace HB := Aside0.mk (below_step HB.out hb3)
  clear hb3
  refine hK.out _ _ (⟨(blk_cell HT.out 0).trans rfl, (blk_cell HT.out 1).trans rfl⟩) (fun hHeld => ?_)
  clear hK K
  refine norm_ (a' := ?_) ?_ ?_
  rotate_left
  · show Act.put _ (some 12) _ = _
    simp only [Act.put, List.setIfInBounds_toArray, List.set_cons_zero, List.set_cons_succ, i64_w, i32_w]
    rfl
  refine pure_ (i := 10) (N := some 15) (v := ?_) (a' := ?_) #[true, true, true, true, true, true, true, true, true, true, true, false, false] rfl rfl (any_of HT_.out (by kernel_rfl)) (fun _ _ _ h => h) (Or.inl ⟨by rfl, ?_⟩) ?_ ?_
  rotate_left
  · intro w'
    go_simp
    with_reducible rfl
  rotate_left
  · simp only [Act.put, List.setIfInBounds_toArray, List.set_cons_zero, List.set_cons_succ, i64_w, i32_w]
    rfl
  refine pure_ (i := 11) (N := some 16) (v := ?_) (a' := ?_) #[true, true, true, true, true, true, true, true, true, true, true, true, false] rfl rfl (any_of HT_.out (by kernel_rfl)) (fun _ _ _ h => h) (Or.inl ⟨by rfl, ?_⟩) ?_ ?_
  rotate_left
  · intro w'
    go_simp
    with_reducible rfl
  rotate_left
  · simp only [Act.put, List.setIfInBounds_toArray, List.set_cons_zero, List.set_cons_succ, i64_w, i32_w]
    rfl
  refine pure_ (i := 12) (N := some 4) (v := ?_) (a' := ?_) #[true, true, true, true, true, true, true, true, true, true, true, true, true] rfl rfl (any_of HT_.out (by kernel_rfl)) (fun _ _ _ h => h) (Or.inl ⟨by rfl, ?_⟩) ?_ ?_
  rotate_left
  · intro w'
    go_simp
    with_reducible rfl
  rotate_left
  · simp only [Act.put, List.setIfInBounds_toArray, List.set_cons_zero, List.set_cons_succ, i64_w, i32_w]
    rfl
  refine done_ (done_of HT_.out (by kernel_rfl)) ?_
  go_wp2
  go_ret
  exact ⟨by rw [HSat.out]; rfl, HB.out⟩
set_option maxHeartbeats 1000000 in
theorem indexfuncB_calls (f : Nat) (cb : Array Value) (p : Int → Bool) (W : World) {A : Option Addr} {c : Nat} {l : List Int} (hA : (Kd.int .i64).C W A l.length l) (ef : ∀ args w, (callFunc f args).run Try.prog w = .ok (.enter f args) w)
    (hf : ∀ w x, x ∈ l → Below W.heap.size W w → Calls Try.prog f (#[.int .i64 x] ++ cb) w fun e w' => e = .returned (.bool (p x)) ∧ Below w.heap.size w w') :
    Calls Try.prog 86 #[.slice A l.length c, .func (.func f) #[] cb] W fun e w' => (∃ r : Int, e = .returned (.int .i64 r) ∧ (decide (r ≥ 0) = l.any p)) ∧ Below W.heap.size W w' := by
  have HF := Aside0.mk hf
  have HL := Aside0.mk hA
  have hmax := Kd.C_max hA
  clear hf hA
  go_enter Try.func86, Try.ntmps86
  go_wp2
  go_loopg [8] l.length (fun gk v8 w' => ∃ (i : Nat), i + gk = l.length ∧ v8 = .int .i64 (i : Int) ∧ Aside0 (l.any p = (l.drop i).any p) ∧ Aside0 (Below W.heap.size W w'))
  case atStart => exact ⟨0, by omega, rfl, ⟨by rw [List.drop_zero]⟩, ⟨Below.refl _ W⟩⟩
  case round =>
    obtain ⟨i, hig, rfl, HP, HD⟩ := hrel
    cases gk with
    | zero =>
      have hi : ¬ ((i : Int) < (l.length : Int)) := by omega
      go_wp2
      go_ret
      exact ⟨⟨-1, rfl, by rw [HP.out, List.drop_eq_nil_of_le (by omega)]; rfl⟩, HD.out⟩
    | succ gk =>
      have hi : (i : Int) < (l.length : Int) := by omega
      obtain ⟨ad, hA2, hx⟩ := rd_int (Kd.C_below HL.out HD.out) i (by omega)
      subst hA2
      obtain ⟨x, hxe⟩ : ∃ x, l.getD i 0 = x := ⟨_, rfl⟩
      rw [hxe] at hx
      have hxl : l[i]'(by omega) = x := by rw [← hxe]; simp [List.getD_eq_getElem?_getD, List.getElem?_eq_getElem (show i < l.length by omega)]
      have hdr : l.drop i = x :: l.drop (i + 1) := by rw [List.drop_eq_getElem_cons (show i < l.length by omega), hxl]
      have HC := Aside0.mk (HF.out wr x (hxl ▸ List.getElem_mem _) HD.out)
      have hany : (l.drop i).any p = (p x || (l.drop (i + 1)).any p) := by rw [hdr, List.any_cons]
      have HAny := Aside0.mk hany
      clear hdr hxl hxe hany
      go_wp2_with fail
      refine (HC.out).mono ?_
      rintro e w2 ⟨rfl, hd2⟩
      have HD2 := Aside0.mk (below_step HD.out hd2)
      clear hd2 HC hx
      cases hp : p x with
      | true =>
        go_wp2
        go_ret
        refine ⟨⟨(i : Int), rfl, ?_⟩, HD2.out⟩
        rw [HP.out, HAny.out, hp, Bool.true_or]
        exact decide_eq_true (by omega)
      | false =>
        go_wp2
        go_roundg gk
        case measure => omega
        case rel => exact ⟨i + 1, by omega, by go_num, ⟨by rw [HP.out, HAny.out, hp, Bool.false_or]⟩, HD2⟩
theorem containsfuncB_calls (f : Nat) (cb : Array Value) (p : Int → Bool) (W : World) {A : Option Addr} {c : Nat} {l : List Int} (hA : (Kd.int .i64).C W A l.length l) (ef : ∀ args w, (callFunc f args).run Try.prog w = .ok (.enter f args) w)
    (hf : ∀ w x, x ∈ l → Below W.heap.size W w → Calls Try.prog f (#[.int .i64 x] ++ cb) w fun e w' => e = .returned (.bool (p x)) ∧ Below w.heap.size w w') :
    Calls Try.prog 63 #[.slice A l.length c, .func (.func f) #[] cb] W fun e w' => e = .returned (.bool (l.any p)) ∧ Below W.heap.size W w' := by
  have HI := Aside0.mk (indexfuncB_calls (c := c) f cb p W hA ef hf)
  clear hA hf
  go_enter Try.func63, Try.ntmps63
  go_wp2_with (go_at_call 86; refine (HI.out).mono ?_; rintro e w' ⟨⟨r, rfl, hr⟩, hd⟩; have HD := Aside0.mk hd; have HR := Aside0.mk hr; clear hd hr)
  go_ret
  exact ⟨by rw [← HR.out]; rfl, HD.out⟩
theorem any1_calls (g : Nat) (s : Nat × Nat) (l : Int) (W : World) (hl : varOf l ≠ 0) (hs : SOk s) (hg : W.heap[g]? = some (.cells #[.int .u64 (s.1 : Int), .int .u64 (s.2 : Int)] 34 (0, 0))) :
    Calls Try.prog 85 #[.int .i64 l, .pointer (some ⟨g, 0, none⟩)] W fun e w' => e = .returned (.bool (sat1 (memS s) l)) ∧ Below W.heap.size W w' := by
  have hc0 : W.cell? ⟨g, 0, none⟩ = some (.int .u64 (s.1 : Int)) := (blk_cell hg 0).trans rfl
  have hc1 : W.cell? ⟨g, 1, none⟩ = some (.int .u64 (s.2 : Int)) := (blk_cell hg 1).trans rfl
  have HH := Aside0.mk (holds_calls s l hl W hs)
  clear hg hs hl
  go_enter Try.func85, Try.ntmps85
  go_wp2_with (go_at_call 65; refine (HH.out).mono ?_; rintro e w' ⟨rfl, hb⟩; have HB := Aside0.mk hb; clear hb)
  go_ret
  exact ⟨rfl, HB.out⟩
theorem all1_calls (g : Nat) (s : Nat × Nat) (l : Int) (W : World) (hl : varOf l ≠ 0) (hs : SOk s) (hg : W.heap[g]? = some (.cells #[.int .u64 (s.1 : Int), .int .u64 (s.2 : Int)] 34 (0, 0))) :
    Calls Try.prog 64 #[.int .i64 l, .pointer (some ⟨g, 0, none⟩)] W fun e w' => e = .returned (.bool (!sat1 (memS s) l)) ∧ Below W.heap.size W w' := by
  have hc0 : W.cell? ⟨g, 0, none⟩ = some (.int .u64 (s.1 : Int)) := (blk_cell hg 0).trans rfl
  have hc1 : W.cell? ⟨g, 1, none⟩ = some (.int .u64 (s.2 : Int)) := (blk_cell hg 1).trans rfl
  have HH := Aside0.mk (holds_calls s l hl W hs)
  clear hg hs hl
  go_enter Try.func64, Try.ntmps64
  go_wp2_with (go_at_call 65; refine (HH.out).mono ?_; rintro e w' ⟨rfl, hb⟩; have HB := Aside0.mk hb; clear hb)
  go_ret
  exact ⟨rfl, HB.out⟩
theorem enter85 (args : Array Value) (w : World) : (callFunc 85 args).run Try.prog w = .ok (.enter 85 args) w := Go.Proofs.enters_of Try.func85 (by kernel_rfl) rfl args w
theorem enter64 (args : Array Value) (w : World) : (callFunc 64 args).run Try.prog w = .ok (.enter 64 args) w := Go.Proofs.enters_of Try.func64 (by kernel_rfl) rfl args w
section
variable {W : World} {A : Option Addr} {c : Nat} {l : List Int} {s : Nat × Nat}
theorem any_calls (hA : (Kd.int .i64).C W A l.length l) (hl : Lits l) (hs : SOk s) :
    Calls Try.prog 62 #[setV2 s, .slice A l.length c] W fun e w' => e = .returned (.bool (satC (memS s) l)) ∧ Below W.heap.size W w' := by
  have hg := blk_new W (.cells #[.int .u64 (s.1 : Int), .int .u64 (s.2 : Int)] 34)
  have hb := below_alloc (Below.refl W.heap.size W) (.cells #[.int .u64 (s.1 : Int), .int .u64 (s.2 : Int)] 34)
  have HC := Aside0.mk (containsfuncB_calls (c := c) 85 #[.pointer (some ⟨W.heap.size, 0, none⟩)] (sat1 (memS s)) _ (Kd.C_below hA hb) enter85 (fun w x hx hd => any1_calls W.heap.size s x w (hl x hx) hs (blk_below hg hd)))
  have HB := Aside0.mk hb
  clear hA hg hb hs hl
  go_enter Try.func62, Try.ntmps62
  go_wp2_with (go_at_call 63; refine (HC.out).mono ?_; rintro e w' ⟨rfl, hb2⟩; have HB2 := Aside0.mk (below_step HB.out hb2); clear hb2)
  go_ret
  exact ⟨rfl, HB2.out⟩
theorem allL_calls (hA : (Kd.int .i64).C W A l.length l) (hl : Lits l) (hs : SOk s) :
    Calls Try.prog 27 #[setV2 s, .slice A l.length c] W fun e w' => e = .returned (.bool (l.all (sat1 (memS s)))) ∧ Below W.heap.size W w' := by
  have hg := blk_new W (.cells #[.int .u64 (s.1 : Int), .int .u64 (s.2 : Int)] 34)
  have hb := below_alloc (Below.refl W.heap.size W) (.cells #[.int .u64 (s.1 : Int), .int .u64 (s.2 : Int)] 34)
  have HC := Aside0.mk (containsfuncB_calls (c := c) 64 #[.pointer (some ⟨W.heap.size, 0, none⟩)] (fun x => !sat1 (memS s) x) _ (Kd.C_below hA hb) enter64 (fun w x hx hd => all1_calls W.heap.size s x w (hl x hx) hs (blk_below hg hd)))
  have HB := Aside0.mk hb
  have HE := Aside0.mk (show (!(l.any fun x => !sat1 (memS s) x)) = l.all (sat1 (memS s)) by rw [← List.all_eq_not_any_not])
  clear hA hg hb hs hl
  go_enter Try.func27, Try.ntmps27
  go_wp2_with (go_at_call 63; refine (HC.out).mono ?_; rintro e w' ⟨rfl, hb2⟩; have HB2 := Aside0.mk (below_step HB.out hb2); clear hb2)
  go_ret
  exact ⟨by rw [← HE.out]; rfl, HB2.out⟩
end
end Go.Proofs.Ytbnjbjcokkcfcaa.Sol
namespace Go.Proofs.Ytbnjbjcokkcfcaa.Sol
open Go.RowKit Go.Proofs.YtbnjbjcokkcfcaaW.PrintWords Go.Proofs.YtbnjbjcokkcfcaaW.PrintLast Go.Proofs.YtbnjbjcokkcfcaaW.PrintMore Go.Proofs.Ytbnjbjcokkcfcaa.PSearchOwn
set_option linter.unusedVariables false
set_option linter.unusedSimpArgs false
def q26r1T : Bool × List (List Nat × List Nat) := (true, [([], []), ([0], [0]), ([1], [1]), ([2, 1], [2]), ([3], [3]), ([3], [3]), ([5, 3], [3, 5]), ([6, 3, 3], [3, 6]), ([4, 7, 7, 3], [3, 4, 7]), ([8, 3], [3, 8]), ([3, 9], [3, 9])])
def q26r1B : List Nat := [0, 1, 3, 7, 15, 15, 47, 111, 255, 511, 1023]
theorem q26r1tab : rtab .any (opsOf Try.f26 1) = q26r1T := by kernel_rfl
theorem q26r1bits : waitsOk q26r1T.2 q26r1B = true := by kernel_rfl
/-- The variables 1 to n, whatever n is. -/
theorem all_callsI (N : Int) (W : World) :
    Calls Try.prog 24 #[.int .i64 N] W fun e w' => e = .returned (setV2 (allS (min N 128).toNat)) ∧ Below W.heap.size W w' := by
  obtain ⟨M, hM⟩ : ∃ M : Int, min N 128 = M := ⟨_, rfl⟩
  obtain ⟨n, hn⟩ : ∃ n : Nat, M.toNat = n := ⟨_, rfl⟩
  have hM2 : M ≤ 128 := by omega
  rw [hM, hn]
  have hn128 : n ≤ 128 := by omega
  have hwith : ∀ (w : World) (i : Nat), i < n → Calls Try.prog 45 #[setV2 (allS i), .int .i64 ((i : Int) + 1)] w fun e w' => e = .returned (setV2 (allS (i + 1))) ∧ Below w.heap.size w w' := fun w i hi => by
    rw [allS_succ]
    exact with_calls (allS i) (i + 1) (by omega) (by omega) w (SOk.all i (by omega)).1 (SOk.all i (by omega)).2
  have HW := Aside0.mk hwith
  clear hwith
  have hmin := hM
  have hz : allS 0 = (0, 0) := rfl
  have hR0 := blk_alloc (blk_new W (.cells #[.int .u64 0, .int .u64 0] 34)) (.cells #[.int .u64 0, .int .u64 0] 34)
  have hS0 := blk_new (W.alloc (.cells #[.int .u64 0, .int .u64 0] 34)) (.cells #[.int .u64 0, .int .u64 0] 34)
  rw [show (W.alloc (.cells #[.int .u64 0, .int .u64 0] 34)).heap.size = W.heap.size + 1 by simp] at hS0
  have HR0 := Aside0.mk hR0
  have HS0 := Aside0.mk hS0
  have HB0 := Aside0.mk (below_alloc (below_alloc (Below.refl W.heap.size W) (.cells #[.int .u64 0, .int .u64 0] 34)) (.cells #[.int .u64 0, .int .u64 0] 34))
  clear hR0 hS0
  go_enter Try.func24, Try.ntmps24
  go_wp2
  generalize (W.alloc (.cells #[.int .u64 0, .int .u64 0] 34)).alloc (.cells #[.int .u64 0, .int .u64 0] 34) = w1 at HR0 HS0 HB0 ⊢
  go_loopg [4] n (fun gk v4 w' => ∃ (i : Nat), i + gk = n ∧ v4 = .int .i64 ((i : Int) + 1) ∧ Aside0 (w'.heap[W.heap.size + 1]? = some (.cells #[.int .u64 ((allS i).1 : Int), .int .u64 ((allS i).2 : Int)] 34 (0, 0))) ∧ Aside0 (w'.heap[W.heap.size]? = some (.cells #[.int .u64 0, .int .u64 0] 34 (0, 0))) ∧ Aside0 (Below W.heap.size W w'))
  case atStart => exact ⟨0, by omega, rfl, HS0, HR0, HB0⟩
  case round =>
    clear HR0 HS0 HB0
    obtain ⟨i, hig, rfl, HS, HR, HB⟩ := hrel
    have hc0 : wr.cell? ⟨W.heap.size + 1, 0, none⟩ = some (.int .u64 ((allS i).1 : Int)) := (blk_cell HS.out 0).trans rfl
    have hc1 : wr.cell? ⟨W.heap.size + 1, 1, none⟩ = some (.int .u64 ((allS i).2 : Int)) := (blk_cell HS.out 1).trans rfl
    cases gk with
    | zero =>
      have hi : i = n := by omega
      subst hi
      have hle : ¬ ((i : Int) + 1 ≤ M) := by omega
      have hr0 : wr.cell? ⟨W.heap.size, 0, none⟩ = some (.int .u64 0) := (blk_cell HR.out 0).trans rfl
      have hr1 : wr.cell? ⟨W.heap.size, 1, none⟩ = some (.int .u64 0) := (blk_cell HR.out 1).trans rfl
      have hf0 := blk_frozen HR.out 0
      have hf1 := blk_frozen HR.out 1
      go_wp2
      refine bodyPost_ret (results_cell_row rfl _ _ W.heap.size 34 #[.int .u64 ((allS i).1 : Int), .int .u64 ((allS i).2 : Int)] (0, 0) _ rfl (blk_put (blk_put HR.out 0 _ rfl) 1 _ rfl) Try.underlying34 rfl size34) rfl ⟨rfl, below_set (below_set HB.out (Nat.le_refl _)) (Nat.le_refl _)⟩
    | succ gk =>
      have hcall := Aside0.mk (HW.out wr i (by omega))
      have hle : ((i : Int) + 1 ≤ M) := by omega
      go_wp2_with (go_at_call 45; refine (hcall.out).mono ?_; rintro e w2 ⟨rfl, hb2⟩; have HS2 := Aside0.mk (blk_below HS.out hb2); have HR2 := Aside0.mk (blk_below HR.out hb2); have HB2 := Aside0.mk (below_step HB.out hb2); have hq0 : w2.cell? ⟨W.heap.size + 1, 0, none⟩ = some (.int .u64 ((allS i).1 : Int)) := (blk_cell HS2.out 0).trans rfl; have hq1 : w2.cell? ⟨W.heap.size + 1, 1, none⟩ = some (.int .u64 ((allS i).2 : Int)) := (blk_cell HS2.out 1).trans rfl; have hf0 := blk_frozen HS2.out 0; have hf1 := blk_frozen HS2.out 1; clear hb2)
      go_roundg gk
      case measure => omega
      case rel => exact ⟨i + 1, by omega, by go_num, ⟨blk_put (blk_put HS2.out 0 _ rfl) 1 _ rfl⟩, ⟨blk_far (blk_far HR2.out (by show _ ≠ W.heap.size + 1; omega) _) (by show _ ≠ W.heap.size + 1; omega) _⟩, ⟨below_set (below_set HB2.out (Nat.le_succ _)) (Nat.le_succ _)⟩⟩
/-- Whether a set is a model. -/
def evalB (N : Int) (L : List (List Int)) (s : Nat × Nat) : Bool := decide (checkF N L = 0) && (subS s (allS N.toNat) && satL (memS s) L)
theorem lits_of {n : Nat} {l : List Int} (hn : n ≤ 129) (h : ∀ x ∈ l, LitOk n x) : Lits l := fun x hx => by
  obtain ⟨h0, h1, h2⟩ := h x hx
  unfold varOf
  split
  · omega
  · split <;> omega
section
variable {W : World} {AL : Option Addr} {cL : Nat} {N : Int} {L : List (List Int)} {s : Nat × Nat}
set_option maxHeartbeats 2000000 in
set_option maxRecDepth 100000 in
theorem eval_off (hL : Kd.C (Kd.slice 3 (Kd.int .i64)) W AL L.length L) (hcL : L.length ≤ cL) (h0 : checkF N L ≠ 0) :
    Calls Try.prog 26 #[.agg #[.int .i64 N, .slice AL L.length cL], setV2 s] W fun e w' => e = .returned (.bool false) ∧ Below W.heap.size W w' := by
  have hck : ∀ w, Below W.heap.size W w → Calls Try.prog 31 #[.agg #[.int .i64 N, .slice AL L.length cL]] w fun e w' => e = .returned (.int .i64 (checkF N L)) ∧ Below w.heap.size w w' := fun w hb => check_calls (Kd.C_below hL hb) hcL
  generalize checkF N L = x at hck h0
  have hne : ((x != 0) : Bool) = true := by simpa using h0
  have HCk := Aside0.mk hck
  have HT := Aside0.mk (blk_alloc (blk_new W (.cells #[.int .i64 N, .slice AL L.length cL] 24)) (.cells #[.int .u64 (s.1 : Int), .int .u64 (s.2 : Int)] 34))
  have hu := blk_new (W.alloc (.cells #[.int .i64 N, .slice AL L.length cL] 24)) (.cells #[.int .u64 (s.1 : Int), .int .u64 (s.2 : Int)] 34)
  rw [show (W.alloc (.cells #[.int .i64 N, .slice AL L.length cL] 24)).heap.size = W.heap.size + 1 by simp] at hu
  have HU := Aside0.mk hu
  have HB := Aside0.mk (below_alloc (below_alloc (Below.refl W.heap.size W) (.cells #[.int .i64 N, .slice AL L.length cL] 24)) (.cells #[.int .u64 (s.1 : Int), .int .u64 (s.2 : Int)] 34))
  clear hck hu h0 hL hcL
  go_enter Try.func26, Try.ntmps26
  go_wp2_with fail
  try go_step3
  refine start_ (n := 11) (S := fun w' => w'.cell? ⟨W.heap.size, 0, none⟩ = some (.int .i64 N) ∧ w'.cell? ⟨W.heap.size, 1, none⟩ = some (.slice AL L.length cL) ∧ w'.cell? ⟨W.heap.size + 1, 0, none⟩ = some (.int .u64 (s.1 : Int)) ∧ w'.cell? ⟨W.heap.size + 1, 1, none⟩ = some (.int .u64 (s.2 : Int))) (ds := []) #[false, false, false, false, false, false, false, false, false, false, false] (by kernel_rfl) rfl rfl (⟨(blk_cell HT.out 0).trans rfl, (blk_cell HT.out 1).trans rfl, (blk_cell HU.out 0).trans rfl, (blk_cell HU.out 1).trans rfl⟩) (fun hHeld => ?_)
  refine with_tabW q26r1tab q26r1bits (fun HT_ HW_ => ?_)
  replace HT := Aside0.mk (blk_drew HT.out)
  replace HU := Aside0.mk (blk_drew HU.out)
  replace HB := Aside0.mk (below_drew HB.out)
  generalize (World.alloc (World.alloc W (.cells #[.int .i64 N, .slice AL L.length cL] 24)) (.cells #[.int .u64 (s.1 : Int), .int .u64 (s.2 : Int)] 34)).drew = w1 at HT HU HB hHeld ⊢
  refine take_ (i := 0) (N := some 7) (v := ?_) (a' := ?_) #[true, false, false, false, false, false, false, false, false, false, false] rfl rfl (take_ofW HT_.out HW_.out (by kernel_rfl)) (fun _ _ _ h => h) (Or.inl ⟨by rfl, ?_⟩) hHeld ?_ ?_
  rotate_left
  · rintro w' ⟨s0, s1, s2, s3⟩
    go_simp
    with_reducible rfl
  rotate_left
  · simp only [Act.put, List.setIfInBounds_toArray, List.set_cons_zero, List.set_cons_succ, i64_w, i32_w]
    rfl
  refine one_ (i := 1) (N := some 8) #[true, true, false, false, false, false, false, false, false, false, false] rfl rfl (one_of HT_.out (by kernel_rfl)) (by decide) (fun K hK => ?_)
  refine goes_ Try.func31 (by kernel_rfl) rfl #[.agg #[.int .i64 N, .slice AL L.length cL]] (by rfl) rfl rfl (by simp only [List.map_toArray, List.map_cons, List.map_nil]; rfl) ?_
  refine (HCk.out _ HB.out).mono ?_
  rintro e_ w_ ⟨rfl, hb1⟩
  refine ⟨_, rfl, ?_⟩
  replace HT := Aside0.mk (blk_below HT.out hb1)
  replace HU := Aside0.mk (blk_below HU.out hb1)
  replace HB := Aside0.mk (below_step HB.out hb1)
  clear hb1
  refine hK.out _ _ (⟨(blk_cell HT.out 0).trans rfl, (blk_cell HT.out 1).trans rfl, (blk_cell HU.out 0).trans rfl, (blk_cell HU.out 1).trans rfl⟩) (fun hHeld => ?_)
  clear hK K
  refine norm_ (a' := ?_) ?_ ?_
  rotate_left
  · show Act.put _ (some 8) _ = _
    simp only [Act.put, List.setIfInBounds_toArray, List.set_cons_zero, List.set_cons_succ, i64_w, i32_w]
    rfl
  refine pure_ (i := 2) (N := some 9) (v := ?_) (a' := ?_) #[true, true, true, false, false, false, false, false, false, false, false] rfl rfl (any_of HT_.out (by kernel_rfl)) (fun _ _ _ h => h) (Or.inl ⟨by rfl, ?_⟩) ?_ ?_
  rotate_left
  · intro w'
    go_simp
    with_reducible rfl
  rotate_left
  · simp only [Act.put, List.setIfInBounds_toArray, List.set_cons_zero, List.set_cons_succ, i64_w, i32_w]
    rfl
  refine pure_ (i := 3) (N := some 10) (v := ?_) (a' := ?_) #[true, true, true, true, false, false, false, false, false, false, false] rfl rfl (any_of HT_.out (by kernel_rfl)) (fun _ _ _ h => h) (Or.inl ⟨by rfl, ?_⟩) ?_ ?_
  rotate_left
  · intro w'
    go_simp
    with_reducible rfl
  rotate_left
  · simp only [Act.put, List.setIfInBounds_toArray, List.set_cons_zero, List.set_cons_succ, i64_w, i32_w]
    rfl
  refine take_ (i := 4) (N := some 11) (v := undef) (a' := ?_) #[true, true, true, true, true, false, false, false, false, false, false] rfl rfl (take_ofW HT_.out HW_.out (by kernel_rfl)) (fun _ _ _ h => h) (Or.inr ⟨by rfl, rfl⟩) hHeld ?_ ?_
  rotate_left
  · simp only [Act.put, List.setIfInBounds_toArray, List.set_cons_zero, List.set_cons_succ, i64_w, i32_w]
    rfl
  refine pure_ (i := 5) (N := some 12) (v := undef) (a' := ?_) #[true, true, true, true, true, true, false, false, false, false, false] rfl rfl (any_of HT_.out (by kernel_rfl)) (fun _ _ _ h => h) (Or.inr ⟨by rfl, rfl⟩) ?_ ?_
  rotate_left
  · simp only [Act.put, List.setIfInBounds_toArray, List.set_cons_zero, List.set_cons_succ, i64_w, i32_w]
    rfl
  refine take_ (i := 6) (N := some 13) (v := undef) (a' := ?_) #[true, true, true, true, true, true, true, false, false, false, false] rfl rfl (take_ofW HT_.out HW_.out (by kernel_rfl)) (fun _ _ _ h => h) (Or.inr ⟨by rfl, rfl⟩) hHeld ?_ ?_
  rotate_left
  · simp only [Act.put, List.setIfInBounds_toArray, List.set_cons_zero, List.set_cons_succ, i64_w, i32_w]
    rfl
  refine one_ (i := 7) (N := some 14) #[true, true, true, true, true, true, true, true, false, false, false] rfl rfl (one_of HT_.out (by kernel_rfl)) (by decide) (fun K hK => ?_)
  refine off_ (by rfl) ?_
  refine hK.out _ _ (⟨(blk_cell HT.out 0).trans rfl, (blk_cell HT.out 1).trans rfl, (blk_cell HU.out 0).trans rfl, (blk_cell HU.out 1).trans rfl⟩) (fun hHeld => ?_)
  clear hK K
  refine norm_ (a' := ?_) ?_ ?_
  rotate_left
  · show Act.put _ (some 14) _ = _
    simp only [Act.put, List.setIfInBounds_toArray, List.set_cons_zero, List.set_cons_succ, i64_w, i32_w]
    rfl
  refine one_ (i := 8) (N := some 15) #[true, true, true, true, true, true, true, true, true, false, false] rfl rfl (one_of HT_.out (by kernel_rfl)) (by decide) (fun K hK => ?_)
  refine off_ (by rfl) ?_
  refine hK.out _ _ (⟨(blk_cell HT.out 0).trans rfl, (blk_cell HT.out 1).trans rfl, (blk_cell HU.out 0).trans rfl, (blk_cell HU.out 1).trans rfl⟩) (fun hHeld => ?_)
  clear hK K
  refine norm_ (a' := ?_) ?_ ?_
  rotate_left
  · show Act.put _ (some 15) _ = _
    simp only [Act.put, List.setIfInBounds_toArray, List.set_cons_zero, List.set_cons_succ, i64_w, i32_w]
    rfl
  refine pure_ (i := 9) (N := some 16) (v := undef) (a' := ?_) #[true, true, true, true, true, true, true, true, true, true, false] rfl rfl (any_of HT_.out (by kernel_rfl)) (fun _ _ _ h => h) (Or.inr ⟨by rfl, rfl⟩) ?_ ?_
  rotate_left
  · simp only [Act.put, List.setIfInBounds_toArray, List.set_cons_zero, List.set_cons_succ, i64_w, i32_w]
    rfl
  refine pure_ (i := 10) (N := some 17) (v := ?_) (a' := ?_) #[true, true, true, true, true, true, true, true, true, true, true] rfl rfl (any_of HT_.out (by kernel_rfl)) (fun _ _ _ h => h) (Or.inl ⟨by rfl, ?_⟩) ?_ ?_
  rotate_left
  · intro w'
    go_simp
    with_reducible rfl
  rotate_left
  · simp only [Act.put, List.setIfInBounds_toArray, List.set_cons_zero, List.set_cons_succ, i64_w, i32_w]
    rfl
  refine done_ (done_of HT_.out (by kernel_rfl)) ?_
  go_wp2
  go_ret
  exact ⟨rfl, HB.out⟩
set_option maxHeartbeats 2000000 in
set_option maxRecDepth 100000 in
theorem eval_on (hL : Kd.C (Kd.slice 3 (Kd.int .i64)) W AL L.length L) (hcL : L.length ≤ cL) (hs : SOk s) (h0 : checkF N L = 0) :
    Calls Try.prog 26 #[.agg #[.int .i64 N, .slice AL L.length cL], setV2 s] W fun e w' => e = .returned (.bool (subS s (allS N.toNat) && satL (memS s) L)) ∧ Below W.heap.size W w' := by
  have hck : ∀ w, Below W.heap.size W w → Calls Try.prog 31 #[.agg #[.int .i64 N, .slice AL L.length cL]] w fun e w' => e = .returned (.int .i64 0) ∧ Below w.heap.size w w' := fun w hb => by
    have := check_calls (N := N) (Kd.C_below hL hb) hcL
    rwa [h0] at this
  obtain ⟨m, rfl, hm, _, hok, _⟩ := checkF_ok h0
  rw [Int.toNat_natCast]
  have HOk : Aside0 (∀ c ∈ L, Lits c) := ⟨fun c hc => lits_of (by omega) (hok c hc)⟩
  have HCk := Aside0.mk hck
  have HAll := Aside0.mk (all_calls24 m hm)
  have HSub := Aside0.mk (fun w => sub_calls s (allS m) w hs (SOk.all m hm))
  have HSk := Aside0.mk hs
  have HL := Aside0.mk hL
  have hmax := Kd.C_max hL
  obtain ⟨N, hN⟩ : ∃ N : Int, (m : Int) = N := ⟨_, rfl⟩
  rw [hN] at HCk HAll ⊢
  generalize subS s (allS m) = sb at HSub ⊢
  generalize allS m = t at HAll HSub
  have HT := Aside0.mk (blk_alloc (blk_new W (.cells #[.int .i64 N, .slice AL L.length cL] 24)) (.cells #[.int .u64 (s.1 : Int), .int .u64 (s.2 : Int)] 34))
  have hu := blk_new (W.alloc (.cells #[.int .i64 N, .slice AL L.length cL] 24)) (.cells #[.int .u64 (s.1 : Int), .int .u64 (s.2 : Int)] 34)
  rw [show (W.alloc (.cells #[.int .i64 N, .slice AL L.length cL] 24)).heap.size = W.heap.size + 1 by simp] at hu
  have HU := Aside0.mk hu
  have HB := Aside0.mk (below_alloc (below_alloc (Below.refl W.heap.size W) (.cells #[.int .i64 N, .slice AL L.length cL] 24)) (.cells #[.int .u64 (s.1 : Int), .int .u64 (s.2 : Int)] 34))
  clear hck hu h0 hL hcL hok hs hN hm
  go_enter Try.func26, Try.ntmps26
  go_wp2_with fail
  try go_step3
  refine start_ (n := 11) (S := fun w' => w'.cell? ⟨W.heap.size, 0, none⟩ = some (.int .i64 N) ∧ w'.cell? ⟨W.heap.size, 1, none⟩ = some (.slice AL L.length cL) ∧ w'.cell? ⟨W.heap.size + 1, 0, none⟩ = some (.int .u64 (s.1 : Int)) ∧ w'.cell? ⟨W.heap.size + 1, 1, none⟩ = some (.int .u64 (s.2 : Int))) (ds := []) #[false, false, false, false, false, false, false, false, false, false, false] (by kernel_rfl) rfl rfl (⟨(blk_cell HT.out 0).trans rfl, (blk_cell HT.out 1).trans rfl, (blk_cell HU.out 0).trans rfl, (blk_cell HU.out 1).trans rfl⟩) (fun hHeld => ?_)
  refine with_tabW q26r1tab q26r1bits (fun HT_ HW_ => ?_)
  replace HT := Aside0.mk (blk_drew HT.out)
  replace HU := Aside0.mk (blk_drew HU.out)
  replace HB := Aside0.mk (below_drew HB.out)
  generalize (World.alloc (World.alloc W (.cells #[.int .i64 N, .slice AL L.length cL] 24)) (.cells #[.int .u64 (s.1 : Int), .int .u64 (s.2 : Int)] 34)).drew = w1 at HT HU HB hHeld ⊢
  refine take_ (i := 0) (N := some 7) (v := ?_) (a' := ?_) #[true, false, false, false, false, false, false, false, false, false, false] rfl rfl (take_ofW HT_.out HW_.out (by kernel_rfl)) (fun _ _ _ h => h) (Or.inl ⟨by rfl, ?_⟩) hHeld ?_ ?_
  rotate_left
  · rintro w' ⟨s0, s1, s2, s3⟩
    go_simp
    with_reducible rfl
  rotate_left
  · simp only [Act.put, List.setIfInBounds_toArray, List.set_cons_zero, List.set_cons_succ, i64_w, i32_w]
    rfl
  refine one_ (i := 1) (N := some 8) #[true, true, false, false, false, false, false, false, false, false, false] rfl rfl (one_of HT_.out (by kernel_rfl)) (by decide) (fun K hK => ?_)
  refine goes_ Try.func31 (by kernel_rfl) rfl #[.agg #[.int .i64 N, .slice AL L.length cL]] (by rfl) rfl rfl (by simp only [List.map_toArray, List.map_cons, List.map_nil]; rfl) ?_
  refine (HCk.out _ HB.out).mono ?_
  rintro e_ w_ ⟨rfl, hb1⟩
  refine ⟨_, rfl, ?_⟩
  replace HT := Aside0.mk (blk_below HT.out hb1)
  replace HU := Aside0.mk (blk_below HU.out hb1)
  replace HB := Aside0.mk (below_step HB.out hb1)
  clear hb1
  refine hK.out _ _ (⟨(blk_cell HT.out 0).trans rfl, (blk_cell HT.out 1).trans rfl, (blk_cell HU.out 0).trans rfl, (blk_cell HU.out 1).trans rfl⟩) (fun hHeld => ?_)
  clear hK K
  refine norm_ (a' := ?_) ?_ ?_
  rotate_left
  · show Act.put _ (some 8) _ = _
    simp only [Act.put, List.setIfInBounds_toArray, List.set_cons_zero, List.set_cons_succ, i64_w, i32_w]
    rfl
  refine pure_ (i := 2) (N := some 9) (v := ?_) (a' := ?_) #[true, true, true, false, false, false, false, false, false, false, false] rfl rfl (any_of HT_.out (by kernel_rfl)) (fun _ _ _ h => h) (Or.inl ⟨by rfl, ?_⟩) ?_ ?_
  rotate_left
  · intro w'
    go_simp
    with_reducible rfl
  rotate_left
  · simp only [Act.put, List.setIfInBounds_toArray, List.set_cons_zero, List.set_cons_succ, i64_w, i32_w]
    rfl
  refine pure_ (i := 3) (N := some 10) (v := ?_) (a' := ?_) #[true, true, true, true, false, false, false, false, false, false, false] rfl rfl (any_of HT_.out (by kernel_rfl)) (fun _ _ _ h => h) (Or.inl ⟨by rfl, ?_⟩) ?_ ?_
  rotate_left
  · intro w'
    go_simp
    with_reducible rfl
  rotate_left
  · simp only [Act.put, List.setIfInBounds_toArray, List.set_cons_zero, List.set_cons_succ, i64_w, i32_w]
    rfl
  refine take_ (i := 4) (N := some 11) (v := ?_) (a' := ?_) #[true, true, true, true, true, false, false, false, false, false, false] rfl rfl (take_ofW HT_.out HW_.out (by kernel_rfl)) (fun _ _ _ h => h) (Or.inl ⟨by rfl, ?_⟩) hHeld ?_ ?_
  rotate_left
  · rintro w' ⟨s0, s1, s2, s3⟩
    go_simp
    with_reducible rfl
  rotate_left
  · simp only [Act.put, List.setIfInBounds_toArray, List.set_cons_zero, List.set_cons_succ, i64_w, i32_w]
    rfl
  refine pure_ (i := 5) (N := some 12) (v := ?_) (a' := ?_) #[true, true, true, true, true, true, false, false, false, false, false] rfl rfl (any_of HT_.out (by kernel_rfl)) (fun _ _ _ h => h) (Or.inl ⟨by rfl, ?_⟩) ?_ ?_
  rotate_left
  · intro w'
    go_simp
    with_reducible rfl
  rotate_left
  · simp only [Act.put, List.setIfInBounds_toArray, List.set_cons_zero, List.set_cons_succ, i64_w, i32_w]
    rfl
  refine take_ (i := 6) (N := some 13) (v := ?_) (a' := ?_) #[true, true, true, true, true, true, true, false, false, false, false] rfl rfl (take_ofW HT_.out HW_.out (by kernel_rfl)) (fun _ _ _ h => h) (Or.inl ⟨by rfl, ?_⟩) hHeld ?_ ?_
  rotate_left
  · rintro w' ⟨s0, s1, s2, s3⟩
    go_simp
    with_reducible rfl
  rotate_left
  · simp only [Act.put, List.setIfInBounds_toArray, List.set_cons_zero, List.set_cons_succ, i64_w, i32_w]
    rfl
  refine one_ (i := 7) (N := some 14) #[true, true, true, true, true, true, true, true, false, false, false] rfl rfl (one_of HT_.out (by kernel_rfl)) (by decide) (fun K hK => ?_)
  refine goes_ Try.func24 (by kernel_rfl) rfl #[.int .i64 N] (by rfl) rfl rfl (by simp only [List.map_toArray, List.map_cons, List.map_nil]; rfl) ?_
  refine (HAll.out _).mono ?_
  rintro e_ w_ ⟨rfl, hb2⟩
  refine ⟨_, rfl, ?_⟩
  replace HT := Aside0.mk (blk_below HT.out hb2)
  replace HU := Aside0.mk (blk_below HU.out hb2)
  replace HB := Aside0.mk (below_step HB.out hb2)
  clear hb2
  refine hK.out _ _ (⟨(blk_cell HT.out 0).trans rfl, (blk_cell HT.out 1).trans rfl, (blk_cell HU.out 0).trans rfl, (blk_cell HU.out 1).trans rfl⟩) (fun hHeld => ?_)
  clear hK K
  refine norm_ (a' := ?_) ?_ ?_
  rotate_left
  · show Act.put _ (some 14) _ = _
    simp only [Act.put, List.setIfInBounds_toArray, List.set_cons_zero, List.set_cons_succ, i64_w, i32_w]
    rfl
  refine one_ (i := 8) (N := some 15) #[true, true, true, true, true, true, true, true, true, false, false] rfl rfl (one_of HT_.out (by kernel_rfl)) (by decide) (fun K hK => ?_)
  refine goes_ Try.func61 (by kernel_rfl) rfl #[setV2 s, setV2 t] (by rfl) rfl rfl (by simp only [List.map_toArray, List.map_cons, List.map_nil]; rfl) ?_
  refine (HSub.out _).mono ?_
  rintro e_ w_ ⟨rfl, hb3⟩
  refine ⟨_, rfl, ?_⟩
  replace HT := Aside0.mk (blk_below HT.out hb3)
  replace HU := Aside0.mk (blk_below HU.out hb3)
  replace HB := Aside0.mk (below_step HB.out hb3)
  clear hb3
  refine hK.out _ _ (⟨(blk_cell HT.out 0).trans rfl, (blk_cell HT.out 1).trans rfl, (blk_cell HU.out 0).trans rfl, (blk_cell HU.out 1).trans rfl⟩) (fun hHeld => ?_)
  clear hK K
  refine norm_ (a' := ?_) ?_ ?_
  rotate_left
  · show Act.put _ (some 15) _ = _
    simp only [Act.put, List.setIfInBounds_toArray, List.set_cons_zero, List.set_cons_succ, i64_w, i32_w]
    rfl
  refine pure_ (i := 9) (N := some 16) (v := ?_) (a' := ?_) #[true, true, true, true, true, true, true, true, true, true, false] rfl rfl (any_of HT_.out (by kernel_rfl)) (fun _ _ _ h => h) (Or.inl ⟨by rfl, ?_⟩) ?_ ?_
  rotate_left
  · intro w'
    go_simp
    with_reducible rfl
  rotate_left
  · simp only [Act.put, List.setIfInBounds_toArray, List.set_cons_zero, List.set_cons_succ, i64_w, i32_w]
    rfl
  refine pure_ (i := 10) (N := some 17) (v := ?_) (a' := ?_) #[true, true, true, true, true, true, true, true, true, true, true] rfl rfl (any_of HT_.out (by kernel_rfl)) (fun _ _ _ h => h) (Or.inl ⟨by rfl, ?_⟩) ?_ ?_
  rotate_left
  · intro w'
    go_simp
    with_reducible rfl
  rotate_left
  · simp only [Act.put, List.setIfInBounds_toArray, List.set_cons_zero, List.set_cons_succ, i64_w, i32_w]
    rfl
  refine done_ (done_of HT_.out (by kernel_rfl)) ?_
  cases sb with
  | false =>
    go_wp2
    go_ret
    exact ⟨rfl, HB.out⟩
  | true =>
    have hT1 : w_.cell? ⟨W.heap.size, 1, none⟩ = some (.slice AL L.length cL) := (blk_cell HT.out 1).trans rfl
    go_wp2
    clear hT1
    go_loopg [21] L.length (fun gk v21 w' => ∃ (i : Nat), i + gk = L.length ∧ v21 = .int .i64 (i : Int) ∧ Aside0 (satL (memS s) L = (L.drop i).all (satC (memS s))) ∧ Aside0 (w'.heap[W.heap.size + 1]? = some (.cells #[.int .u64 (s.1 : Int), .int .u64 (s.2 : Int)] 34 (0, 0))) ∧ Aside0 (Below W.heap.size W w'))
    case atStart => exact ⟨0, by omega, rfl, ⟨by rw [List.drop_zero]; rfl⟩, HU, HB⟩
    case round =>
      clear HU HB HT
      obtain ⟨i, hig, rfl, HP, HU, HB⟩ := hrel
      have hc0 : wr.cell? ⟨W.heap.size + 1, 0, none⟩ = some (.int .u64 (s.1 : Int)) := (blk_cell HU.out 0).trans rfl
      have hc1 : wr.cell? ⟨W.heap.size + 1, 1, none⟩ = some (.int .u64 (s.2 : Int)) := (blk_cell HU.out 1).trans rfl
      cases gk with
      | zero =>
        have hi : ¬ ((i : Int) < (L.length : Int)) := by omega
        go_wp2
        go_ret
        exact ⟨by rw [HP.out, List.drop_eq_nil_of_le (by omega)]; rfl, HB.out⟩
      | succ gk =>
        have hi : (i : Int) < (L.length : Int) := by omega
        have hiL : i < L.length := by omega
        obtain ⟨aL, A0, c0, hAL, hcell, hc0', hC0⟩ := rd_row (Kd.C_below HL.out HB.out) i hiL
        subst hAL
        have hgd : L.getD i [] = L[i] := by simp [List.getD_eq_getElem?_getD, List.getElem?_eq_getElem hiL]
        have hdr : L.drop i = L.getD i [] :: L.drop (i + 1) := by rw [List.drop_eq_getElem_cons hiL, hgd]
        have hmem : L.getD i [] ∈ L := by rw [hgd]; exact List.getElem_mem _
        have hstep : (L.drop i).all (satC (memS s)) = (satC (memS s) (L.getD i []) && (L.drop (i + 1)).all (satC (memS s))) := by rw [hdr, List.all_cons]
        have HAny := Aside0.mk (any_calls (c := c0) hC0 (HOk.out _ hmem) HSk.out)
        have HSt := Aside0.mk hstep
        clear hgd hdr hmem hstep hc0' hC0 hiL
        generalize L.getD i [] = c at hcell HAny HSt
        have HV := Aside0.mk (show (L.drop i).all (satC (memS s)) = (satC (memS s) c && (L.drop (i + 1)).all (satC (memS s))) from HSt.out)
        clear HSt
        generalize satC (memS s) c = b at HAny HV
        cases b with
        | false =>
          go_wp2_with (go_at_call 62; refine (HAny.out).mono ?_; rintro e w2 ⟨rfl, hb2⟩; have HB2 := Aside0.mk (below_step HB.out hb2); have HU2 := Aside0.mk (blk_below HU.out hb2); clear hb2)
          go_ret
          exact ⟨by rw [HP.out, HV.out]; rfl, HB2.out⟩
        | true =>
          go_wp2_with (go_at_call 62; refine (HAny.out).mono ?_; rintro e w2 ⟨rfl, hb2⟩; have HB2 := Aside0.mk (below_step HB.out hb2); have HU2 := Aside0.mk (blk_below HU.out hb2); clear hb2)
          go_roundg gk
          case measure => omega
          case rel => exact ⟨i + 1, by omega, by go_num, ⟨by rw [HP.out, HV.out]; rfl⟩, HU2, HB2⟩
theorem eval_calls (hL : Kd.C (Kd.slice 3 (Kd.int .i64)) W AL L.length L) (hcL : L.length ≤ cL) (hs : SOk s) :
    Calls Try.prog 26 #[.agg #[.int .i64 N, .slice AL L.length cL], setV2 s] W fun e w' => e = .returned (.bool (evalB N L s)) ∧ Below W.heap.size W w' := by
  unfold evalB
  by_cases h0 : checkF N L = 0
  · rw [decide_eq_true h0, Bool.true_and]; exact eval_on hL hcL hs h0
  · rw [decide_eq_false h0, Bool.false_and]; exact eval_off hL hcL h0
end
end Go.Proofs.Ytbnjbjcokkcfcaa.Sol
