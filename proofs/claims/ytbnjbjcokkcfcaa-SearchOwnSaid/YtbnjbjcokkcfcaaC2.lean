/- Copy, in plain words. -/
import Derived.Test.YtbnjbjcokkcfcaaC1
import Derived.Test.YtbnjbjcokkcfcaaPSearchOwnx3
namespace Go.Proofs.Ytbnjbjcokkcfcaa.Sol
open Go.RowKit Go.Proofs.YtbnjbjcokkcfcaaW.PrintWords Go.Proofs.Ytbnjbjcokkcfcaa.PSearchOwn
set_option linter.unusedVariables false
set_option linter.unusedSimpArgs false

theorem ev_copy (n : Int) (L : List (List Int)) (hL : L.length ≤ 4096) (hc : ∀ c ∈ L, c.length ≤ 1000) : Ev (fun k => censuslaw05_Copy.f k n L) (n, L) := by
  have key : ∀ d i : Nat, i + d = L.length → Ev (fun k => censuslaw05_Copy.l0 k L (L.length : Int) i n (L.take i)) (n, L) := by
    intro d
    induction d with
    | zero =>
      intro i hi
      refine Ev.step (f := fun _ => some (n, L)) (fun k => ?_) (Ev.now _)
      simp only [censuslaw05_Copy.l0]
      rw [if_neg (by omega), List.take_of_length_le (by omega)]
    | succ d ih =>
      intro i hi
      have hlt : i < L.length := by omega
      have hci := hc L[i] (List.getElem_mem hlt)
      refine Ev.step (f := fun k => censuslaw05_Copy.l0 k L (L.length : Int) (wrap64 ((i : Int) + 1)) n (L.take (i + 1))) (fun k => ?_) ?_
      · simp only [censuslaw05_Copy.l0]
        rw [if_pos (by omega), if_pos (by omega), if_pos (by omega)]
        simp only [Option.bind_some, rdL_at hlt, List.nil_append, List.length_nil, List.length_take]
        rw [if_pos (by omega), if_pos (by omega), List.take_succ_eq_append_getElem hlt]
      · rw [wrap_id (by omega) (by omega)]
        exact ih (i + 1) (by omega)
  unfold censuslaw05_Copy.f
  have := key L.length 0 (by omega)
  rw [List.take_zero] at this
  exact this
theorem copy_calls {W : World} {AL : Option Addr} {cL : Nat} {N : Int} {L : List (List Int)} (hL : Kd.C (Kd.slice 3 (Kd.int .i64)) W AL L.length L) (hcL : L.length ≤ cL) (h1 : L.length ≤ 4096) (h2 : ∀ c ∈ L, c.length ≤ 1000) :
    Calls Try.prog 8 #[.agg #[.int .i64 N, .slice AL L.length cL]] W fun e w' => ∃ Ao co, e = .returned (.agg #[.int .i64 N, .slice Ao L.length co]) ∧ Kd.S (Kd.slice 3 (Kd.int .i64)) 25 w' W.heap.size (fun _ => True) (.slice Ao L.length co) L ∧ L.length ≤ co ∧ Below W.heap.size W w' := by
  obtain ⟨k, hk⟩ := (ev_copy N L h1 h2).rounds
  refine (censuslaw05_Copy.calls k N AL cL L N L W hL hcL hk).mono ?_
  rintro e w' ⟨v, rfl, hS, hb⟩
  obtain ⟨A, c, rfl, hc, hC⟩ := Kd.S_reads hS
  exact ⟨A, c, rfl, hS, hc, hb⟩
end Go.Proofs.Ytbnjbjcokkcfcaa.Sol
