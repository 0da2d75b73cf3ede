/- The search comes to an end: enough rounds for every valid theory. -/
import Derived.Test.YtbnjbjcokkcfcaaA7
namespace Go.Proofs.Ytbnjbjcokkcfcaa.Sol
open Go.RowKit
set_option linter.unusedVariables false
set_option linter.unusedSimpArgs false

theorem scan_open {vs : List Int} : ∀ (c : List Int) (o r : Int), (o = 0 ∨ tru vs o = 0) → scan vs c o = some r → r = 0 ∨ tru vs r = 0
  | [], o, r, ho, h => by simp [scan] at h; subst h; exact ho
  | l :: c, o, r, ho, h => by
    simp only [scan] at h
    split at h
    · cases h
    · split at h
      · rename_i h0
        split at h
        · cases h
        · exact scan_open c l r (.inr h0) h
      · exact scan_open c o r ho h
theorem count_setV {vs : List Int} {n : Nat} (hn : vs.length = n) {l : Int} (hl : LitOk n l) (ht : tru vs l = 0) : (setV vs l).count 0 + 1 = vs.count 0 := by
  obtain ⟨h0, h1, h2⟩ := hl
  unfold setV
  rw [if_pos ht]
  by_cases hp : l > 0
  · rw [if_pos hp]
    have hi : l.toNat < vs.length := by omega
    have hz : vs[l.toNat] = 0 := by
      unfold tru at ht
      rw [if_neg (by omega)] at ht
      have := vat_get hi
      rwa [Int.toNat_of_nonneg (by omega), ht, eq_comm] at this
    exact count_set hi hz 1 (by omega)
  · rw [if_neg hp]
    have hi : (-l).toNat < vs.length := by omega
    have hz : vs[(-l).toNat] = 0 := by
      unfold tru at ht
      rw [if_pos (by omega)] at ht
      have := vat_get hi
      rw [Int.toNat_of_nonneg (by omega)] at this
      omega
    exact count_set hi hz (-1) (by omega)
theorem pass_count {n : Nat} : ∀ (L : List (List Int)) (vs ts : List Int) (ch : Bool), AllOk n L → vs.length = n →
    (pass L vs ts ch).2.1.count 0 ≤ vs.count 0 ∧ (ch = false → (pass L vs ts ch).2.2.2 = true → (pass L vs ts ch).2.1.count 0 < vs.count 0)
  | [], vs, ts, ch, _, hn => by simp [pass]
  | c :: L, vs, ts, ch, hL, hn => by
    have hL' : AllOk n L := fun x hx => hL x (List.mem_cons_of_mem _ hx)
    simp only [pass]
    cases hs : scan vs c 0 with
    | none => exact pass_count L vs ts ch hL' hn
    | some o =>
      simp only []
      by_cases ho : o = 0
      · rw [if_pos ho]
        exact ⟨Nat.le_refl _, fun h1 h2 => by rw [h1] at h2; cases h2⟩
      · rw [if_neg ho]
        have hlit := (scan_lit c 0 o (hL c List.mem_cons_self) (.inl rfl) hs).resolve_left ho
        have hopen := (scan_open c 0 o (.inl rfl) hs).resolve_left ho
        have hc := count_setV hn hlit hopen
        obtain ⟨h1, _⟩ := pass_count L (setV vs o) (setT vs ts o) true hL' (by rw [setV_length]; exact hn)
        exact ⟨by omega, fun _ _ => by omega⟩
theorem prop_some {n : Nat} {L : List (List Int)} (hL : AllOk n L) : ∀ (K : Nat) (vs ts : List Int), Inv n vs ts → vs.count 0 < K → ∃ r, prop L K vs ts = some r
  | 0, vs, ts, _, h => by omega
  | K + 1, vs, ts, hi, h => by
    have hp := pass_inv L vs ts false hL hi
    have hc := pass_count L vs ts false hL hi.len
    simp only [prop]
    rcases hR : pass L vs ts false with ⟨b1, v1, t1, c1⟩
    rw [hR] at hp hc
    cases b1 with
    | false => exact ⟨_, rfl⟩
    | true =>
      cases c1 with
      | false => exact ⟨_, rfl⟩
      | true => exact prop_some hL K v1 t1 hp.1 (by have := hc.2 rfl rfl; simp only [] at this; omega)
theorem tryF_some {n K : Nat} {L : List (List Int)} (hL : AllOk n L) (hK : n < K) : ∀ (f v : Nat) (vs ts : List Int), 1 ≤ v → v ≤ n → n < f + v → Inv n vs ts → ∃ r, tryF L n K f v vs ts = some r
  | 0, v, vs, ts, _, _, h, _ => by omega
  | f + 1, v, vs, ts, hv, hvn, hf, hi => by
    obtain ⟨r1, hr1⟩ := prop_some hL K vs ts hi (by have := List.count_le_length (a := (0 : Int)) (l := vs); have := hi.len; omega)
    obtain ⟨hi1, hl1⟩ := prop_inv hL K vs ts r1 hi hr1
    simp only [tryF, hr1, Option.bind_some]
    by_cases h1 : r1.1 = false
    · rw [if_pos h1]; exact ⟨_, rfl⟩
    rw [if_neg h1]
    by_cases hn : n ≤ next r1.2.1 (n - v) v
    · rw [if_pos hn]; exact ⟨_, rfl⟩
    rw [if_neg hn]
    have hle := le_next r1.2.1 (n - v) v
    generalize next r1.2.1 (n - v) v = x at hn hle
    have hx1 : LitOk n (-(x : Int)) := ⟨by omega, by omega, by omega⟩
    have hx2 : LitOk n (x : Int) := ⟨by omega, by omega, by omega⟩
    obtain ⟨r2, hr2⟩ := tryF_some hL hK f (x + 1) _ _ (by omega) (by omega) (by omega) (hi1.set hx1)
    obtain ⟨hi2, _⟩ := tryF_inv hL K f (x + 1) _ _ r2 (by omega) (hi1.set hx1) hr2
    rw [hr2]
    simp only [Option.bind_some]
    by_cases h2 : r2.1 = true
    · rw [if_pos h2]; exact ⟨_, rfl⟩
    rw [if_neg h2]
    obtain ⟨r3, hr3⟩ := tryF_some hL hK f (x + 1) _ _ (by omega) (by omega) (by omega) ((hi2.undo r1.2.2.length).set hx2)
    rw [hr3]
    simp only [Option.bind_some]
    split
    · exact ⟨_, rfl⟩
    · exact ⟨_, rfl⟩
theorem asmF_inv {n : Nat} : ∀ (asm vs ts : List Int), (∀ l ∈ asm, LitOk n l) → Inv n vs ts → Inv n (asmF asm vs ts).2.1 (asmF asm vs ts).2.2
  | [], vs, ts, _, h => h
  | l :: r, vs, ts, hl, h => by
    simp only [asmF]
    split
    · exact asmF_inv r _ _ (fun x hx => hl x (List.mem_cons_of_mem _ hx)) (h.set (hl l List.mem_cons_self))
    · exact h
/-- What solve answers. -/
def satF (L : List (List Int)) (m : Nat) (asm : List Int) : Bool × (Nat × Nat) := (solveF L (m + 1) (m + 2) (m + 2) asm).getD (false, (0, 0))
theorem solveF_some {m : Nat} {L : List (List Int)} (hm : m ≤ 128) (hL : AllOk (m + 1) L) {asm : List Int} (ha : ∀ l ∈ asm, LitOk (m + 1) l) : solveF L (m + 1) (m + 2) (m + 2) asm = some (satF L m asm) := by
  have key : ∃ r, solveF L (m + 1) (m + 2) (m + 2) asm = some r := by
    unfold solveF
    split
    · exact ⟨_, rfl⟩
    · obtain ⟨r, hr⟩ := tryF_some hL (Nat.lt_succ_self _) (m + 2) 1 _ _ (by omega) (by omega) (by omega) (asmF_inv asm _ _ ha (inv_start m hm))
      rw [hr]
      exact ⟨_, rfl⟩
  obtain ⟨r, hr⟩ := key
  unfold satF
  rw [hr]; rfl
end Go.Proofs.Ytbnjbjcokkcfcaa.Sol
