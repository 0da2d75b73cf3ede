/- The walk of works: the chapter's examples. -/
import Derived.Test.YtbnjbjcokkcfcaaB2
import Derived.Test.YtbnjbjcokkcfcaaPSearchOwnx3
namespace Go.Proofs.Ytbnjbjcokkcfcaa.Sol
open Go.RowKit Go.Proofs.YtbnjbjcokkcfcaaW.PrintWords Go.Proofs.YtbnjbjcokkcfcaaW.PrintLast Go.Proofs.YtbnjbjcokkcfcaaW.PrintMore Go.Proofs.Ytbnjbjcokkcfcaa.PSearchOwn
set_option linter.unusedVariables false
set_option linter.unusedSimpArgs false

/-- A literal that was just laid is read. -/
theorem lit_C (W : World) (xs : List Int) (h0 : xs.length ≤ 1000) : (Kd.int .i64).C (W.alloc (.cells (nums .i64 xs).toArray 3)) (some ⟨W.heap.size, 0, none⟩) xs.length xs := by
  obtain ⟨A, c, e, h, _⟩ := own_C (own_lit W W.heap.size 3 .i64 xs (Nat.le_refl _) (by omega))
  cases e
  exact h
def chapL : List (List Int) := [[1, 2], [-1, 3]]
theorem chap_ok : AllOk 4 chapL := by
  intro c hc l hl
  simp only [chapL, List.mem_cons, List.not_mem_nil, or_false] at hc
  rcases hc with rfl | rfl
  · simp only [List.mem_cons, List.not_mem_nil, or_false] at hl
    rcases hl with rfl | rfl <;> exact ⟨by omega, by omega, by omega⟩
  · simp only [List.mem_cons, List.not_mem_nil, or_false] at hl
    rcases hl with rfl | rfl <;> exact ⟨by omega, by omega, by omega⟩
theorem chapter_calls (W : World) : Calls Try.prog 33 #[] W fun e w' => ∃ A c, e = .returned (.agg #[.int .i64 3, .slice A 2 c]) ∧ Kd.C (Kd.slice 3 (Kd.int .i64)) w' A 2 chapL ∧ 2 ≤ c ∧ Below W.heap.size W w' := by
  refine (censuslaw14_chapter.calls 3 chapL W rfl).mono ?_
  rintro e w' ⟨v, rfl, hS, hb⟩
  obtain ⟨A, c, rfl, hc, hC⟩ := Kd.N_reads hS
  exact ⟨A, c, rfl, hC, hc, hb⟩
theorem sat1 : satF chapL 3 [1] = (true, (5, 0)) := by decide +kernel
theorem core1 : coreF chapL 3 [2, 1, -3, 1] = (true, [-3, 1]) := by decide +kernel
theorem ent1 : satF chapL 3 [-2, -3] = (false, (0, 0)) := by decide +kernel
theorem chk1 : checkL 3 chapL [1] = 0 := by decide +kernel
theorem chk2 : checkL 3 chapL [2, 1, -3, 1] = 0 := by decide +kernel
theorem chk3 : checkL 3 chapL [2, 3] = 0 := by decide +kernel

section
variable {w : World} {A : Option Addr} {c : Nat} (h : Kd.C (Kd.slice 3 (Kd.int .i64)) w A 2 chapL) (hc : 2 ≤ c)
include h hc
theorem works1 : Calls Try.prog 10 #[.agg #[.int .i64 3, .slice A 2 c], .slice (some ⟨w.heap.size, 0, none⟩) 1 1] (w.alloc (.cells #[.int .i64 1] 3)) (SolvedPost (w.alloc (.cells #[.int .i64 1] 3)) (true, (5, 0))) := by
  have := solved_calls (m := 3) (L := chapL) (asm := [1]) (c := 1) (Kd.C_alloc h (.cells (nums .i64 [1]).toArray 3)) hc (lit_C w [1] (by decide)) (by decide) chk1 (by omega) chap_ok (litsB_ok (m := 3) (by omega) (by decide +kernel))
  rw [sat1] at this
  exact this
theorem works2 : Calls Try.prog 9 #[.agg #[.int .i64 3, .slice A 2 c], .slice (some ⟨w.heap.size, 0, none⟩) 4 4] (w.alloc (.cells #[.int .i64 2, .int .i64 1, .int .i64 (-3), .int .i64 1] 3)) (CorePost (w.alloc (.cells #[.int .i64 2, .int .i64 1, .int .i64 (-3), .int .i64 1] 3)) true [-3, 1]) := by
  have := core_calls (m := 3) (L := chapL) (asm := [2, 1, -3, 1]) (c := 4) (Kd.C_alloc h (.cells (nums .i64 [2, 1, -3, 1]).toArray 3)) hc (lit_C w [2, 1, -3, 1] (by decide)) (by decide) (by intro h; cases h) (by decide) chk2 (by omega) chap_ok (litsB_ok (m := 3) (by omega) (by decide +kernel))
  rw [core1] at this
  exact this
theorem works3 : Calls Try.prog 11 #[.agg #[.int .i64 3, .slice A 2 c], .slice (some ⟨w.heap.size, 0, none⟩) 2 2] (w.alloc (.cells #[.int .i64 2, .int .i64 3] 3)) (EntailsPost (w.alloc (.cells #[.int .i64 2, .int .i64 3] 3)) true) := by
  have := entails_calls (m := 3) (L := chapL) (asm := [2, 3]) (c := 2) (Kd.C_alloc h (.cells (nums .i64 [2, 3]).toArray 3)) hc (lit_C w [2, 3] (by decide)) (by decide) (by decide) chk3 (by omega) chap_ok (litsB_ok (m := 3) (by omega) (by decide +kernel))
  rw [show ([2, 3] : List Int).map (fun x => -x) = [-2, -3] from rfl, ent1] at this
  exact this
end
theorem works4 {w : World} {v : Value} {base : Nat} (h : w.ownsRow base 3 1 v 2 (nums .i64 [-3, 1])) : Calls Try.prog 12 #[v, .slice (some ⟨w.heap.size, 0, none⟩) 2 2] (w.alloc (.cells #[.int .i64 (-3), .int .i64 1] 3)) fun e w' => e = .returned (.bool true) ∧ Drawn0 (w.alloc (.cells #[.int .i64 (-3), .int .i64 1] 3)) w' := by
  obtain ⟨A, c, rfl, hC, hc, _⟩ := own_C h
  have := same_calls (l := [-3, 1]) (l2 := [-3, 1]) (c2 := 2) (Kd.C_alloc hC (.cells (nums .i64 [-3, 1]).toArray 3)) hc (lit_C w [-3, 1] (by decide)) (by decide)
  exact this

set_option maxHeartbeats 4000000 in
set_option maxRecDepth 100000 in
theorem works_calls (W : World) : Calls Try.prog 7 #[] W fun e w' => e = .returned (.bool true) ∧ Below W.heap.size W w' := by
  have he : ∀ w, (binOp .eql 34 (.agg #[.int .u64 5, .int .u64 0]) (.agg #[.int .u64 5, .int .u64 0])).run Try.prog w = .ok (.bool true) w := fun w => by kernel_rfl
  go_enter Try.func7, Try.ntmps7
  go_wp2_with fail
  refine (chapter_calls _).mono ?_; rintro e w1 ⟨A1, c1, rfl, hC1, hc1, hb1⟩
  have HC1 := Aside0.mk hC1
  have Hc1 := Aside0.mk hc1
  have HB1 := Aside0.mk hb1
  clear hC1 hc1 hb1
  go_wp2_with fail
  refine (works1 HC1.out Hc1.out).mono ?_; rintro e w2 ⟨rfl, hb2⟩
  have HB2 := Aside0.mk (below_step (below_alloc HB1.out _) hb2)
  clear hb2
  have HX2 := Aside0.mk (blk_new w2 (.cells #[.int .u64 5, .int .u64 0] 34))
  have HB2a := Aside0.mk (below_alloc HB2.out (.cells #[.int .u64 5, .int .u64 0] 34))
  go_wp2_with fail
  refine (chapter_calls _).mono ?_; rintro e w3 ⟨A3, c3, rfl, hC3, hc3, hb3⟩
  have HC3 := Aside0.mk hC3
  have Hc3 := Aside0.mk hc3
  have HB3 := Aside0.mk (below_step HB2a.out hb3)
  have HX3 := Aside0.mk (blk_below HX2.out hb3)
  clear hC3 hc3 hb3
  go_wp2_with fail
  refine (works2 HC3.out Hc3.out).mono ?_; rintro e w4 ⟨v4, rfl, hown4, hb4⟩
  have HB4 := Aside0.mk (below_step (below_alloc HB3.out _) hb4)
  have HX4 := Aside0.mk (blk_below (blk_alloc HX3.out _) hb4)
  have HO4 := Aside0.mk hown4
  clear hb4 hown4
  go_wp2_with fail
  refine (chapter_calls _).mono ?_; rintro e w5 ⟨A5, c5, rfl, hC5, hc5, hb5⟩
  have HC5 := Aside0.mk hC5
  have Hc5 := Aside0.mk hc5
  have HB5 := Aside0.mk (below_step HB4.out hb5)
  have HX5 := Aside0.mk (blk_below HX4.out hb5)
  have HO5 := Aside0.mk (pw_own_below HO4.out hb5)
  clear hC5 hc5 hb5
  go_wp2_with fail
  refine (works3 HC5.out Hc5.out).mono ?_; rintro e w6 ⟨rfl, hb6⟩
  have HB6 := Aside0.mk (below_step (below_alloc HB5.out _) hb6)
  have HX6 := Aside0.mk (blk_below (blk_alloc HX5.out _) hb6)
  have HO6 := Aside0.mk (pw_own_below (HO5.out.alloc _) hb6)
  clear hb6
  have hx0 : w6.cell? ⟨w2.heap.size, 0, none⟩ = some (.int .u64 5) := (blk_cell HX6.out 0).trans rfl
  have hx1 : w6.cell? ⟨w2.heap.size, 1, none⟩ = some (.int .u64 0) := (blk_cell HX6.out 1).trans rfl
  go_wp2_with fail
  refine (works4 HO6.out).mono ?_; rintro e w7 ⟨rfl, ⟨n7, rfl⟩⟩
  go_wp2_with fail
  go_ret
  exact ⟨rfl, pw_below_drewN (below_alloc HB6.out _) _⟩
end Go.Proofs.Ytbnjbjcokkcfcaa.Sol
