/- PartsSplit returns true for every theory and every list of numbers, and its arguments read afterwards as before. No condition. -/
import Derived.Test.YtbnjbjcokkcfcaaQ7
import Derived.Carry
namespace Go.Proofs.Ytbnjbjcokkcfcaa.Sol
open Go.RowKit Go.Proofs.YtbnjbjcokkcfcaaW.PrintWords Go.Proofs.YtbnjbjcokkcfcaaW.PrintLast Go.Proofs.YtbnjbjcokkcfcaaW.PrintMore Go.Proofs.Ytbnjbjcokkcfcaa.PSearchOwn
set_option linter.unusedVariables false
set_option linter.unusedSimpArgs false
theorem litC16 (W : World) (xs : List Int) (h0 : xs.length ≤ 1000) : (Kd.int .i64).C (W.alloc (.cells (nums .i64 xs).toArray 3)) (some ⟨W.heap.size, 0, none⟩) xs.length xs := by
  obtain ⟨A, c, e, h, _⟩ := own_C (own_lit W W.heap.size 3 .i64 xs (Nat.le_refl _) (by omega))
  cases e
  exact h
def chap16 : List (List Int) := [[1, 2], [-2, 3], [4, -5], [-1]]
theorem chapter16_calls (W : World) : Calls Try.prog 38 #[] W fun e w' => ∃ A c, e = .returned (.agg #[.int .i64 6, .slice A 4 c]) ∧ Kd.C (Kd.slice 3 (Kd.int .i64)) w' A 4 chap16 ∧ 4 ≤ c ∧ Below W.heap.size W w' := by
  refine (PPartsSplit.censuslaw16_chapter.calls 6 chap16 W rfl).mono ?_
  rintro e w' ⟨v, rfl, hS, hb⟩
  obtain ⟨A, c, rfl, hc, hC⟩ := Kd.N_reads hS
  exact ⟨A, c, rfl, hC, hc, hb⟩
theorem okc16 : okB 6 chap16 [1, -4] = true := by decide +kernel
theorem lits16 : Lits [1, -4] := by unfold Lits; decide
theorem chok16 : ∀ c ∈ chap16, c.length ≤ 4096 ∧ Lits c := by
  intro c hc
  simp only [chap16, List.mem_cons, List.not_mem_nil, or_false] at hc
  rcases hc with rfl | rfl | rfl | rfl <;> exact ⟨by decide, by unfold Lits; decide⟩
def parts16 : List Part := [((0, 0), [3]), ((6, 0), [1]), ((16, 0), [2])]
theorem split16v : splitF 6 chap16 [1, -4] = (parts16, (32, 0)) := by decide +kernel
theorem rests16v : restsF chap16 [1, -4] [3, 2] = [[], [-5]] := by decide +kernel
section
variable {w : World} {A : Option Addr} {c : Nat} (h : Kd.C (Kd.slice 3 (Kd.int .i64)) w A 4 chap16) (hc : 4 ≤ c)
include h hc
theorem works16a : Calls Try.prog 15 #[.agg #[.int .i64 6, .slice A 4 c], .slice (some ⟨w.heap.size, 0, none⟩) 2 2] (w.alloc (.cells #[.int .i64 1, .int .i64 (-4)] 3)) fun e w' => ∃ v, e = .returned (.tuple #[v, .agg #[.int .u64 32, .int .u64 0], .int .i64 0]) ∧ KP.R 68 w' (w.heap.size + 1) (fun _ => True) v parts16 ∧ Below (w.heap.size + 1) (w.alloc (.cells #[.int .i64 1, .int .i64 (-4)] 3)) w' := by
  have := split_ok (N := 6) (L := chap16) (l := [1, -4]) (c := 2) (Kd.C_alloc h (.cells (nums .i64 [1, -4]).toArray 3)) hc (litC16 w [1, -4] (by decide)) (by decide) (by decide) (by intro h; cases h) (n := 6) rfl (by omega) okc16 (by decide) chok16 lits16
  refine Calls.mono this ?_
  rintro e w' ⟨ys, hT, v, rfl, hR, hB⟩
  have hly : Lits ys := fun x hx => lits16 x ((hT.1 x).1 hx)
  rw [splitF_mem hT.1 hly (by omega), split16v] at *
  have e : (w.alloc (.cells (nums .i64 [1, -4]).toArray 3)).heap.size = w.heap.size + 1 := by simp
  rw [e] at hR hB
  exact ⟨v, rfl, hR, hB⟩
theorem works16b : Calls Try.prog 39 #[.agg #[.int .i64 6, .slice A 4 c], .slice (some ⟨w.heap.size, 0, none⟩) 2 2, .agg #[.int .u64 0, .int .u64 0, .slice (some ⟨w.heap.size + 1, 0, none⟩) 2 2]] ((w.alloc (.cells #[.int .i64 1, .int .i64 (-4)] 3)).alloc (.cells #[.int .i64 3, .int .i64 2] 3)) fun e w' => ∃ A c, e = .returned (.tuple #[.agg #[.int .i64 6, .slice A 2 c], .int .i64 0]) ∧ Kd.C (Kd.slice 3 (Kd.int .i64)) w' A 2 [[], [-5]] ∧ 2 ≤ c ∧ Below (w.heap.size + 1 + 1) ((w.alloc (.cells #[.int .i64 1, .int .i64 (-4)] 3)).alloc (.cells #[.int .i64 3, .int .i64 2] 3)) w' := by
  have hB := litC16 (w.alloc (.cells (nums .i64 [1, -4]).toArray 3)) [3, 2] (by decide)
  rw [blk_size] at hB
  have := alone_ok (N := 6) (L := chap16) (l := [1, -4]) (c := 2) (is := [3, 2]) (cB := 2) (s := (0, 0)) (Kd.C_alloc (Kd.C_alloc h (.cells (nums .i64 [1, -4]).toArray 3)) (.cells (nums .i64 [3, 2]).toArray 3)) hc (Kd.C_alloc (litC16 w [1, -4] (by decide)) (.cells (nums .i64 [3, 2]).toArray 3)) (by decide) (by decide) (by intro h; cases h) okc16 hB (by decide) chok16
    (fun x hx => by
      simp only [List.mem_cons, List.not_mem_nil, or_false] at hx
      rcases hx with rfl | rfl
      · exact ⟨3, rfl, by decide, by decide⟩
      · exact ⟨2, rfl, by decide, by decide⟩)
  refine Calls.mono this ?_
  rintro e w' ⟨A', c', rfl, hR, hl, hB⟩
  rw [rests16v] at *
  rw [blk_size, blk_size] at hB
  exact ⟨A', c', rfl, hR, hl, hB⟩
end
/-- The components of the chapter, laid. -/
theorem lit16a (w : World) : KP.R 69 ((((w.alloc (.cells #[.int .i64 3] 3)).alloc (.cells #[.int .i64 1] 3)).alloc (.cells #[.int .i64 2] 3)).alloc (.cells #[.int .u64 0, .int .u64 0, .slice (some ⟨w.heap.size, 0, none⟩) 1 1, .int .u64 6, .int .u64 0, .slice (some ⟨w.heap.size + 1, 0, none⟩) 1 1, .int .u64 16, .int .u64 0, .slice (some ⟨w.heap.size + 1 + 1, 0, none⟩) 1 1] 69)) w.heap.size (fun _ => True) (.slice (some ⟨w.heap.size + 1 + 1 + 1, 0, none⟩) 3 3) parts16 := by
  have h1 : (w.alloc (.cells #[.int .i64 3] 3)).ownsRow w.heap.size 3 1 (.slice (some ⟨w.heap.size, 0, none⟩) 1 1) 1 (nums .i64 [3]) := own_lit w w.heap.size 3 .i64 [3] (Nat.le_refl _) (by simp)
  have h2 : ((w.alloc (.cells #[.int .i64 3] 3)).alloc (.cells #[.int .i64 1] 3)).ownsRow w.heap.size 3 1 (.slice (some ⟨(w.alloc (.cells #[.int .i64 3] 3)).heap.size, 0, none⟩) 1 1) 1 (nums .i64 [1]) := own_lit (w.alloc (.cells #[.int .i64 3] 3)) w.heap.size 3 .i64 [1] (by simp) (by simp)
  have h3 : (((w.alloc (.cells #[.int .i64 3] 3)).alloc (.cells #[.int .i64 1] 3)).alloc (.cells #[.int .i64 2] 3)).ownsRow w.heap.size 3 1 (.slice (some ⟨((w.alloc (.cells #[.int .i64 3] 3)).alloc (.cells #[.int .i64 1] 3)).heap.size, 0, none⟩) 1 1) 1 (nums .i64 [2]) := own_lit ((w.alloc (.cells #[.int .i64 3] 3)).alloc (.cells #[.int .i64 1] 3)) w.heap.size 3 .i64 [2] (by simp; omega) (by simp)
  rw [blk_size] at h2
  rw [blk_size, blk_size] at h3
  have h1 := own_alloc (own_alloc h1 (.cells #[.int .i64 1] 3)) (.cells #[.int .i64 2] 3)
  have h2 := own_alloc h2 (.cells #[.int .i64 2] 3)
  have hsz : (((w.alloc (.cells #[.int .i64 3] 3)).alloc (.cells #[.int .i64 1] 3)).alloc (.cells #[.int .i64 2] 3)).heap.size = w.heap.size + 1 + 1 + 1 := by rw [blk_size, blk_size, blk_size]
  generalize (((w.alloc (.cells #[.int .i64 3] 3)).alloc (.cells #[.int .i64 1] 3)).alloc (.cells #[.int .i64 2] 3)) = w3 at h1 h2 h3 hsz ⊢
  have ho := World.ownsRow_lit (base := w.heap.size) (e := 69) (size := 3) w3 #[.int .u64 0, .int .u64 0, .slice (some ⟨w.heap.size, 0, none⟩) 1 1, .int .u64 6, .int .u64 0, .slice (some ⟨w.heap.size + 1, 0, none⟩) 1 1, .int .u64 16, .int .u64 0, .slice (some ⟨w.heap.size + 1 + 1, 0, none⟩) 1 1] 3 (by omega) (by decide) rfl
  rw [hsz] at ho
  have hn : ∀ k : Nat, k < w.heap.size + 1 + 1 + 1 → some k ≠ (Value.slice (some ⟨w.heap.size + 1 + 1 + 1, 0, none⟩) 3 3).ownBlock := fun k hk he => by
    have : w.heap.size + 1 + 1 + 1 = k := by simpa [Value.ownBlock] using he.symm
    omega
  have hM : ∀ (A : Nat) (s : Nat × Nat) (x : Int), A < w.heap.size + 1 + 1 + 1 → w3.ownsRow w.heap.size 3 1 (.slice (some ⟨A, 0, none⟩) 1 1) 1 (nums .i64 [x]) → KP.M (w3.alloc (.cells #[.int .u64 0, .int .u64 0, .slice (some ⟨w.heap.size, 0, none⟩) 1 1, .int .u64 6, .int .u64 0, .slice (some ⟨w.heap.size + 1, 0, none⟩) 1 1, .int .u64 16, .int .u64 0, .slice (some ⟨w.heap.size + 1 + 1, 0, none⟩) 1 1] 69)) w.heap.size (fun k => True ∧ some k ≠ (Value.slice (some ⟨w.heap.size + 1 + 1 + 1, 0, none⟩) 3 3).ownBlock) (s, [x]) [.int .u64 (s.1 : Int), .int .u64 (s.2 : Int), .slice (some ⟨A, 0, none⟩) 1 1] := fun A s x hA h => KP_M (Kd.R_of_own (own_alloc h _) (fun k hk => ⟨trivial, hn k (by
    have : A = k := by simpa [Value.ownBlock] using hk
    omega)⟩))
  refine ⟨fun _ _ => trivial, _, ho, ?_⟩
  exact ((Reps.none _ _).snoc (hM _ (0, 0) _ (by omega) h1) rfl).snoc (hM _ (6, 0) _ (by omega) h2) rfl |>.snoc (hM _ (16, 0) _ (by omega) h3) rfl
theorem lit16b (w : World) : Kd.C (Kd.slice 3 (Kd.int .i64)) (((w.alloc (.cells #[] 3)).alloc (.cells #[.int .i64 (-5)] 3)).alloc (.cells #[.slice (some ⟨w.heap.size, 0, none⟩) 0 0, .slice (some ⟨w.heap.size + 1, 0, none⟩) 1 1] 25)) (some ⟨w.heap.size + 1 + 1, 0, none⟩) 2 [[], [-5]] := by
  have h1 : (w.alloc (.cells #[] 3)).ownsRow w.heap.size 3 1 (.slice (some ⟨w.heap.size, 0, none⟩) 0 0) 0 (nums .i64 []) := own_lit w w.heap.size 3 .i64 [] (Nat.le_refl _) (by simp)
  have h2 : ((w.alloc (.cells #[] 3)).alloc (.cells #[.int .i64 (-5)] 3)).ownsRow w.heap.size 3 1 (.slice (some ⟨(w.alloc (.cells #[] 3)).heap.size, 0, none⟩) 1 1) 1 (nums .i64 [-5]) := own_lit (w.alloc (.cells #[] 3)) w.heap.size 3 .i64 [-5] (by simp) (by simp)
  rw [blk_size] at h2
  have h1 := own_alloc h1 (.cells #[.int .i64 (-5)] 3)
  have hsz : ((w.alloc (.cells #[] 3)).alloc (.cells #[.int .i64 (-5)] 3)).heap.size = w.heap.size + 1 + 1 := by rw [blk_size, blk_size]
  generalize ((w.alloc (.cells #[] 3)).alloc (.cells #[.int .i64 (-5)] 3)) = w3 at h1 h2 hsz ⊢
  have ho := World.ownsRow_lit (base := w.heap.size) (e := 25) (size := 1) w3 #[.slice (some ⟨w.heap.size, 0, none⟩) 0 0, .slice (some ⟨w.heap.size + 1, 0, none⟩) 1 1] 2 (by omega) (by decide) rfl
  rw [hsz] at ho
  have hn : ∀ k : Nat, k < w.heap.size + 1 + 1 → some k ≠ (Value.slice (some ⟨w.heap.size + 1 + 1, 0, none⟩) 2 2).ownBlock := fun k hk he => by
    have : w.heap.size + 1 + 1 = k := by simpa [Value.ownBlock] using he.symm
    omega
  have hM : ∀ (A n : Nat) (x : List Int), x.length = n → A < w.heap.size + 1 + 1 → w3.ownsRow w.heap.size 3 1 (.slice (some ⟨A, 0, none⟩) n n) n (nums .i64 x) → (Kd.slice 3 (Kd.int .i64)).M (w3.alloc (.cells #[.slice (some ⟨w.heap.size, 0, none⟩) 0 0, .slice (some ⟨w.heap.size + 1, 0, none⟩) 1 1] 25)) w.heap.size (fun k => True ∧ some k ≠ (Value.slice (some ⟨w.heap.size + 1 + 1, 0, none⟩) 2 2).ownBlock) x [.slice (some ⟨A, 0, none⟩) n n] := fun A n x hx hA h => ⟨_, rfl, Kd.R_of_own (by rw [hx]; exact own_alloc h _) (fun k hk => ⟨trivial, hn k (by
    have : A = k := by simpa [Value.ownBlock] using hk
    omega)⟩)⟩
  have hR : (Kd.slice 3 (Kd.int .i64)).R 25 (w3.alloc (.cells #[.slice (some ⟨w.heap.size, 0, none⟩) 0 0, .slice (some ⟨w.heap.size + 1, 0, none⟩) 1 1] 25)) w.heap.size (fun _ => True) (.slice (some ⟨w.heap.size + 1 + 1, 0, none⟩) 2 2) [[], [-5]] :=
    ⟨fun _ _ => trivial, _, ho, ((Reps.none _ _).snoc (hM _ _ [] rfl (by omega) h1) rfl).snoc (hM _ _ [-5] rfl (by omega) h2) rfl⟩
  obtain ⟨A, c, e, _, hC⟩ := Kd.R_reads hR
  injection e with e1
  subst e1
  exact hC
set_option maxHeartbeats 4000000 in
set_option maxRecDepth 100000 in
theorem works16_calls (W : World) : Calls Try.prog 14 #[] W fun e w' => e = .returned (.bool true) ∧ Below W.heap.size W w' := by
  have he : ∀ w, (binOp .neq 34 (.agg #[.int .u64 32, .int .u64 0]) (.agg #[.int .u64 32, .int .u64 0])).run Try.prog w = .ok (.bool false) w := fun w => by kernel_rfl
  go_enter Try.func14, Try.ntmps14
  go_wp2_with fail
  refine (chapter16_calls _).mono ?_; rintro e w1 ⟨A1, c1, rfl, hC1, hc1, hb1⟩
  have HC1 := Aside0.mk hC1
  have Hc1 := Aside0.mk hc1
  have HB1 := Aside0.mk hb1
  clear hC1 hc1 hb1
  go_wp2_with fail
  refine (works16a HC1.out Hc1.out).mono ?_; rintro e w2 ⟨v1, rfl, hr1, hb2⟩
  have HB2 := Aside0.mk ((below_alloc HB1.out (.cells #[.int .i64 1, .int .i64 (-4)] 3)).trans (hb2.mono (Nat.le_trans HB1.out.size (Nat.le_succ _))))
  have HR2 := Aside0.mk hr1
  clear hb2 hr1
  have HX3 := Aside0.mk (blk_new w2 (.cells #[.int .u64 32, .int .u64 0] 34))
  have HB3 := Aside0.mk (below_alloc HB2.out (.cells #[.int .u64 32, .int .u64 0] 34))
  have HR3 := Aside0.mk (Kd.R_below HR2.out (below_alloc (Below.refl _ _) (.cells #[.int .u64 32, .int .u64 0] 34)))
  go_wp2_with fail
  refine (chapter16_calls _).mono ?_; rintro e w4 ⟨A4, c4, rfl, hC4, hc4, hb4⟩
  have HC4 := Aside0.mk hC4
  have Hc4 := Aside0.mk hc4
  have HB4 := Aside0.mk (below_step HB3.out hb4)
  have HR4 := Aside0.mk (Kd.R_below HR3.out hb4)
  clear hC4 hc4 hb4
  go_wp2_with fail
  refine (works16b HC4.out Hc4.out).mono ?_; rintro e w5 ⟨A5, c5, rfl, hC5, hc5, hb5⟩
  have HC5 := Aside0.mk hC5
  have Hc5 := Aside0.mk hc5
  have HB5 := Aside0.mk ((below_alloc (below_alloc HB4.out (.cells #[.int .i64 1, .int .i64 (-4)] 3)) (.cells #[.int .i64 3, .int .i64 2] 3)).trans (hb5.mono (Nat.le_trans HB4.out.size (by omega))))
  have HR5 := Aside0.mk (Kd.R_below (Kd.R_below HR4.out (below_alloc (below_alloc (Below.refl _ _) (.cells #[.int .i64 1, .int .i64 (-4)] 3)) (.cells #[.int .i64 3, .int .i64 2] 3))) (by have := hb5; rwa [show w4.heap.size + 1 + 1 = ((w4.alloc (.cells #[.int .i64 1, .int .i64 (-4)] 3)).alloc (.cells #[.int .i64 3, .int .i64 2] 3)).heap.size by rw [blk_size, blk_size]] at this))
  clear hC5 hc5 hb5
  have HX6 := Aside0.mk (blk_new w5 (.cells #[.int .i64 6, .slice A5 2 c5] 24))
  have HB6 := Aside0.mk (below_alloc HB5.out (.cells #[.int .i64 6, .slice A5 2 c5] 24))
  have HR6 := Aside0.mk (Kd.R_below HR5.out (below_alloc (Below.refl _ _) (.cells #[.int .i64 6, .slice A5 2 c5] 24)))
  have HC6 := Aside0.mk (Kd.C_alloc HC5.out (.cells #[.int .i64 6, .slice A5 2 c5] 24))
  go_wp2_with fail
  refine (given_calls HR6.out (by decide) (by decide)).mono ?_; rintro e w7 ⟨v7, rfl, hr7, hb7⟩
  have HB7 := Aside0.mk (below_step HB6.out hb7)
  have HX7 := Aside0.mk (blk_below HX6.out hb7)
  have HC7 := Aside0.mk (Kd.C_below HC6.out hb7)
  have HR7 := Aside0.mk hr7
  clear hb7 hr7
  go_wp2_with fail
  have hb8 := below_alloc (below_alloc (below_alloc (below_alloc (Below.refl w7.heap.size w7) (.cells #[.int .i64 3] 3)) (.cells #[.int .i64 1] 3)) (.cells #[.int .i64 2] 3)) (.cells #[.int .u64 0, .int .u64 0, .slice (some ⟨w7.heap.size, 0, none⟩) 1 1, .int .u64 6, .int .u64 0, .slice (some ⟨w7.heap.size + 1, 0, none⟩) 1 1, .int .u64 16, .int .u64 0, .slice (some ⟨w7.heap.size + 1 + 1, 0, none⟩) 1 1] 69)
  have hS := same_parts (Kd.R_below HR7.out hb8) (lit16a w7) (by decide)
  rw [decide_eq_true (rfl : parts16 = parts16)] at hS
  refine hS.mono ?_; rintro e w9 ⟨rfl, n9, rfl⟩
  have hb9 := pw_below_drewN hb8 n9
  have HB9 := Aside0.mk (below_step HB7.out hb9)
  have HX9 := Aside0.mk (blk_below HX7.out hb9)
  have HC9 := Aside0.mk (Kd.C_below HC7.out hb9)
  clear hS hb8 hb9
  generalize ((((w7.alloc (.cells #[.int .i64 3] 3)).alloc (.cells #[.int .i64 1] 3)).alloc (.cells #[.int .i64 2] 3)).alloc (.cells #[.int .u64 0, .int .u64 0, .slice (some ⟨w7.heap.size, 0, none⟩) 1 1, .int .u64 6, .int .u64 0, .slice (some ⟨w7.heap.size + 1, 0, none⟩) 1 1, .int .u64 16, .int .u64 0, .slice (some ⟨w7.heap.size + 1 + 1, 0, none⟩) 1 1] 69)).drewN n9 = w10 at HB9 HX9 HC9 ⊢
  have hx0 : w10.cell? ⟨w5.heap.size, 0, none⟩ = some (.int .i64 6) := (blk_cell HX9.out 0).trans rfl
  have hx1 : w10.cell? ⟨w5.heap.size, 1, none⟩ = some (.slice A5 2 c5) := (blk_cell HX9.out 1).trans rfl
  go_wp2_with fail
  have hb11 := below_alloc (below_alloc (below_alloc (Below.refl w10.heap.size w10) (.cells #[] 3)) (.cells #[.int .i64 (-5)] 3)) (.cells #[.slice (some ⟨w10.heap.size, 0, none⟩) 0 0, .slice (some ⟨w10.heap.size + 1, 0, none⟩) 1 1] 25)
  have HB11 := Aside0.mk (below_step HB9.out hb11)
  refine (PPartsSplit.censusref16_SameTheory.calls 20 6 A5 c5 [[], [-5]] 6 (some ⟨w10.heap.size + 1 + 1, 0, none⟩) 2 [[], [-5]] true _ (Kd.C_below HC9.out hb11) Hc5.out (lit16b w10) (by decide) (by decide +kernel)).mono ?_
  rintro e w12 ⟨rfl, hb12⟩
  have HB12 := Aside0.mk (below_step HB11.out hb12)
  clear hb11 hb12
  go_wp2_with fail
  go_ret
  exact ⟨rfl, HB12.out⟩
end Go.Proofs.Ytbnjbjcokkcfcaa.Sol
namespace Go.Proofs.Ytbnjbjcokkcfcaa.Sol
open Go.RowKit Go.Proofs.YtbnjbjcokkcfcaaW.PrintWords Go.Proofs.YtbnjbjcokkcfcaaW.PrintLast Go.Proofs.YtbnjbjcokkcfcaaW.PrintMore Go.Proofs.Ytbnjbjcokkcfcaa.PSearchOwn
set_option linter.unusedVariables false
set_option linter.unusedSimpArgs false
def ownT3 : Bool × List (List Nat × List Nat) := (true, [([], []), ([], []), ([0, 1], [0, 1]), ([], []), ([3, 2], [3]), ([], []), ([2, 4, 0, 1, 2, 5], [2]), ([5, 4, 6, 0, 1, 2, 3, 4, 5, 6], [4, 5])])
def ownB3 : List Nat := [0, 0, 3, 0, 15, 0, 63, 127]
theorem ownbits3 : waitsOk ownT3.2 ownB3 = true := by kernel_rfl
/-- What the region of the two copies has made, ahead of its stores. -/
def OwnMid (W w' : World) (AL : Option Addr) (cL : Nat) (N : Int) (L : List (List Int)) (asm : List Int) (s : Value × Value × Value × Nat) : Prop :=
  (∃ Ao co, s.2.2.1 = .agg #[.int .i64 N, .slice Ao L.length co] ∧ Kd.S (Kd.slice 3 (Kd.int .i64)) 25 w' W.heap.size (fun _ => True) (.slice Ao L.length co) L ∧ L.length ≤ co) ∧
  (Kd.int .i64).R 3 w' W.heap.size (fun _ => True) s.2.1 asm ∧ w'.heap[s.2.2.2]? = some (.cells #[.int .i64 0, .slice none 0 0] 24 (0, 0)) ∧ W.heap.size < s.2.2.2 ∧ Below W.heap.size W w' ∧
  w'.heap[W.heap.size]? = some (.cells #[.int .i64 N, .slice AL L.length cL] 24 (0, 0))
/-- What stands behind that region. -/
structure Own5 (W wc : World) (AL : Option Addr) (cL : Nat) (N : Int) (L : List (List Int)) (asm : List Int) (A5 : Option Addr) (c5 : Nat) (Ao : Option Addr) (co g6 : Nat) : Prop where
  b6 : wc.heap[g6]? = some (.cells #[.int .i64 N, .slice Ao L.length co] 24 (0, 0))
  was : (Kd.int .i64).C wc A5 asm.length asm
  wasc : asm.length ≤ c5
  own : Kd.C (Kd.slice 3 (Kd.int .i64)) wc Ao L.length L
  ownc : L.length ≤ co
  below : Below W.heap.size W wc
  t : wc.heap[W.heap.size]? = some (.cells #[.int .i64 N, .slice AL L.length cL] 24 (0, 0))
end Go.Proofs.Ytbnjbjcokkcfcaa.Sol
namespace Go.Proofs.Ytbnjbjcokkcfcaa.Sol
open Go.RowKit Go.Proofs.YtbnjbjcokkcfcaaW.PrintWords Go.Proofs.YtbnjbjcokkcfcaaW.PrintLast Go.Proofs.YtbnjbjcokkcfcaaW.PrintMore Go.Proofs.Ytbnjbjcokkcfcaa.PSearchOwn
set_option linter.unusedVariables false
set_option linter.unusedSimpArgs false
theorem par4tab : rtab .any (opsOf Try.f4 3) = ownT3 := by kernel_rfl
theorem par4bits : waitsOk ownT3.2 ownB3 = true := ownbits3
/-- few, of clauses that are no longer than any slice can be. -/
theorem ev_few16b (n : Int) (L : List (List Int)) (l : List Int) (hL : L.length ≤ 9223372036854775807) (hc : ∀ c ∈ L, c.length ≤ 17592186044416) : Ev (fun k => PPartsSplit.censuslaw16_few.f k n L l) (few16 L l) := by
  by_cases h100 : L.length ≤ 100
  · have hs : ∀ i, i ≤ L.length → lensum (L.take i) ≤ 17592186044416 * i := by
      intro i
      induction i with
      | zero => intro _; simp [lensum]
      | succ i ih =>
        intro hi
        have := ih (by omega)
        have h2 := hc L[i] (List.getElem_mem (by omega))
        rw [List.take_succ_eq_append_getElem (by omega), lensum_snoc]
        omega
    have key := down (n := L.length) (P := fun i => Ev (fun k => PPartsSplit.censuslaw16_few.l0 k l (lensum (L.take i) : Nat) (i : Int) n L) (few16 L l)) (by
      rw [List.take_of_length_le (by omega)]
      refine Ev.step (f := fun _ => some (few16 L l)) (fun k => ?_) (Ev.now _)
      simp only [PPartsSplit.censuslaw16_few.l0]
      rw [if_neg (by omega)]
      unfold few16
      rw [if_pos h100, if_pos (by omega)]
      by_cases h2 : lensum L ≤ 600
      · rw [if_pos h2, if_pos (by omega)]
        exact congrArg some (decide_eq_decide.2 (by omega))
      · rw [if_neg h2, if_neg (by omega)]) (fun i hi ih => by
      have h1 := hs i (by omega)
      have h2 := hc L[i] (List.getElem_mem hi)
      have htk : lensum (L.take (i + 1)) = lensum (L.take i) + L[i].length := by
        rw [List.take_succ_eq_append_getElem hi, lensum_snoc]
      refine Ev.step (f := fun k => PPartsSplit.censuslaw16_few.l0 k l ((lensum (L.take (i + 1)) : Nat) : Int) ((i + 1 : Nat) : Int) n L) (fun k => ?_) ih
      simp only [PPartsSplit.censuslaw16_few.l0]
      rw [if_pos (by omega), if_pos (by omega), rdP_at hi, wrap_id (i := ((lensum (L.take i) : Nat) : Int) + _) (by omega) (by omega), wrap_id (i := (i : Int) + 1) (by omega) (by omega), htk]
      rfl)
    rw [List.take_zero] at key
    exact key
  · have e : few16 L l = false := by unfold few16; rw [if_neg h100]
    rw [e]
    have key := down (n := L.length) (P := fun i => ∀ z : Int, Ev (fun k => PPartsSplit.censuslaw16_few.l0 k l z (i : Int) n L) false) (fun z => by
      refine Ev.step (f := fun _ => some false) (fun k => ?_) (Ev.now _)
      simp only [PPartsSplit.censuslaw16_few.l0]
      rw [if_neg (by omega), if_neg (by omega)]) (fun i hi ih z => by
      refine Ev.step (f := fun k => PPartsSplit.censuslaw16_few.l0 k l (wrap64 (z + (L[i].length : Int))) ((i + 1 : Nat) : Int) n L) (fun k => ?_) (ih _)
      simp only [PPartsSplit.censuslaw16_few.l0]
      rw [if_pos (by omega), if_pos (by omega), rdP_at hi, wrap_id (i := (i : Int) + 1) (by omega) (by omega)]
      rfl)
    exact key 0
theorem few16b_calls {N : Int} {W : World} {AL A : Option Addr} {cL c : Nat} {L : List (List Int)} {l : List Int} (hL : Kd.C (Kd.slice 3 (Kd.int .i64)) W AL L.length L) (hcL : L.length ≤ cL) (hl : Kd.C (Kd.int .i64) W A l.length l) (hc : l.length ≤ c) (h2 : ∀ c ∈ L, c.length ≤ 17592186044416) :
    Calls Try.prog 13 #[.agg #[.int .i64 N, .slice AL L.length cL], .slice A l.length c] W fun e w' => e = .returned (.bool (few16 L l)) ∧ Below W.heap.size W w' := by
  obtain ⟨k, hk⟩ := (ev_few16b N L l (Kd.C_max hL) h2).rounds
  exact PPartsSplit.censuslaw16_few.calls k N AL cL L A c l _ W hL hcL hl hc hk
theorem growC_len (L : List (List Int)) (ys : List Int) (i : Nat) : (growC L ys i L.length).length ≤ L.length := by
  unfold growC
  rw [List.length_map]
  exact Nat.le_trans (List.length_filter_le _ _) (by rw [List.length_range]; exact Nat.le_refl _)
theorem refF_in (L : List (List Int)) (ys : List Int) (i : Nat) : ∀ q ∈ (refF L ys i).2, q.2.length ≤ L.length := by
  induction i with
  | zero => exact fun q hq => by cases hq
  | succ i ih =>
    unfold refF
    split
    · split
      · intro q hq
        rcases mem_insF hq with rfl | hq
        · exact growC_len L ys i
        · exact ih q hq
      · exact ih
    · exact ih
theorem okB_parts {N : Int} {L : List (List Int)} {l : List Int} (h : okB N L l = true) : checkF N L = 0 ∧ litsB l N = true := by
  unfold okB at h
  split at h
  · rename_i h1
    split at h
    · rename_i h2; exact ⟨h1, h2⟩
    · cases h
  · cases h
theorem clauses_len {n : Int} : ∀ {L : List (List Int)}, clausesF n L = 0 → ∀ c ∈ L, c.length ≤ 128
  | [], _, c, hc => by cases hc
  | d :: r, h, c, hc => by
    unfold clausesF at h
    split at h
    · cases h
    · rename_i h1
      split at h
      · rcases List.mem_cons.1 hc with rfl | hc
        · omega
        · exact clauses_len h c hc
      · cases h
theorem check_len {N : Int} {L : List (List Int)} (h : checkF N L = 0) : ∀ c ∈ L, c.length ≤ 128 := by
  unfold checkF at h
  split at h
  · cases h
  · split at h
    · cases h
    · exact clauses_len h
/-- What both Splits answer. -/
theorem both {N : Int} {W : World} {AL : Option Addr} {cL : Nat} {L : List (List Int)} {A : Option Addr} {c : Nat} {l : List Int} (hL : Kd.C (Kd.slice 3 (Kd.int .i64)) W AL L.length L) (hcL : L.length ≤ cL) (hA : (Kd.int .i64).C W A l.length l) (hc : l.length ≤ c) (hnil : A = none → c = 0) (hLn : L.length ≤ 100) (hln : l.length ≤ 100) :
    ∃ (ps : List Part) (fr : Nat × Nat) (er : Int), ps.length ≤ 4096 ∧ (∀ p ∈ ps, p.2.length ≤ 1000000) ∧
      (∀ w, Below W.heap.size W w → Calls Try.prog 15 #[.agg #[.int .i64 N, .slice AL L.length cL], .slice A l.length c] w fun e w' => ∃ v, e = .returned (.tuple #[v, setV2 fr, .int .i64 er]) ∧ KP.R 68 w' w.heap.size (fun _ => True) v ps ∧ Below w.heap.size w w') ∧
      (∀ (w : World) (AL2 : Option Addr) (cL2 : Nat) (A2 : Option Addr) (c2 : Nat), Kd.C (Kd.slice 3 (Kd.int .i64)) w AL2 L.length L → L.length ≤ cL2 → (Kd.int .i64).C w A2 l.length l → l.length ≤ c2 → Calls Try.prog 16 #[.agg #[.int .i64 N, .slice AL2 L.length cL2], .slice A2 l.length c2] w fun e w' => ∃ v, e = .returned (.tuple #[v, setV2 fr, .int .i64 er]) ∧ KP.R 69 w' w.heap.size (fun _ => True) v ps ∧ Below w.heap.size w w') := by
  cases hok : okB N L l with
  | false =>
    refine ⟨[], (0, 0), 1, by decide, fun p hp => (by cases hp), fun w hb => ?_, fun w AL2 cL2 A2 c2 h1 h2 h3 h4 => ?_⟩
    · exact split_err (Kd.C_below hL hb) hcL (Kd.C_below hA hb) hc (by omega) hnil hok ([], (0, 0))
    · exact refsplit_err h1 h2 h3 h4 hok ([], (0, 0))
  | true =>
    obtain ⟨hck, hlit⟩ := okB_parts hok
    obtain ⟨n, rfl, hn, hOk⟩ := okL_of hck
    have hcl := check_len hck
    have hLc : ∀ c ∈ L, c.length ≤ 4096 := fun c hc => Nat.le_trans (hcl c hc) (by omega)
    have hLits : ∀ c ∈ L, c.length ≤ 4096 ∧ Lits c := fun c hc => ⟨hLc c hc, fun x hx => (hOk c hc x hx).1⟩
    have hlits : Lits l := fun x hx => (of_decide_eq_true (List.all_eq_true.1 hlit x hx)).1
    refine ⟨(refSplit n L l).1, (refSplit n L l).2, 0, Nat.le_trans (refF_ok (ys := l) hOk L.length).2 (by omega), fun p hp => Nat.le_trans (refF_in L l L.length p hp) (by omega), fun w hb => ?_, fun w AL2 cL2 A2 c2 h1 h2 h3 h4 => ?_⟩
    · refine (split_ok (Kd.C_below hL hb) hcL (Kd.C_below hA hb) hc (by omega) hnil rfl hn hok hLn hLits hlits).mono ?_
      rintro e w' ⟨ys, hT, hP⟩
      have hly : Lits ys := fun x hx => hlits x ((hT.1 x).1 hx)
      rw [splitF_mem hT.1 hly hn, ← ref_split hOk hn hlits] at hP
      exact hP
    · exact refsplit_ok h1 h2 h3 h4 rfl hn hok hOk hLc (by omega) hlits
theorem Own5.bg {W wc w2 : World} {AL : Option Addr} {cL : Nat} {N : Int} {L : List (List Int)} {asm : List Int} {A5 : Option Addr} {c5 : Nat} {Ao : Option Addr} {co g6 : Nat} (h : Own5 W wc AL cL N L asm A5 c5 Ao co g6) (hb : Below wc.heap.size wc w2) : Own5 W w2 AL cL N L asm A5 c5 Ao co g6 :=
  ⟨blk_below h.b6 hb, Kd.C_below h.was hb, h.wasc, Kd.C_below h.own hb, h.ownc, below_step h.below hb, blk_below h.t hb⟩
section
variable {N : Int} {W : World} {AL : Option Addr} {cL : Nat} {L : List (List Int)} {A : Option Addr} {c : Nat} {asm : List Int}
set_option maxHeartbeats 2000000 in
set_option maxRecDepth 100000 in
theorem parts_off (hL : Kd.C (Kd.slice 3 (Kd.int .i64)) W AL L.length L) (hcL : L.length ≤ cL) (hA : (Kd.int .i64).C W A asm.length asm) (hc : asm.length ≤ c) (h2 : ∀ c ∈ L, c.length ≤ 17592186044416) (hfew : few16 L asm = false) :
    Calls Try.prog 4 #[.agg #[.int .i64 N, .slice AL L.length cL], .slice A asm.length c] W fun e w' => e = .returned (.bool true) ∧ Below W.heap.size W w' := by
  have hfw : ∀ w, Below W.heap.size W w → Calls Try.prog 13 #[.agg #[.int .i64 N, .slice AL L.length cL], .slice A asm.length c] w fun e w' => e = .returned (.bool false) ∧ Below w.heap.size w w' := fun w hb => by
    have := few16b_calls (N := N) (Kd.C_below hL hb) hcL (Kd.C_below hA hb) hc h2
    rwa [hfew] at this
  have HFew := Aside0.mk hfw
  clear hfw hL hcL hA hc hfew h2
  have HB := Aside0.mk (below_alloc (Below.refl W.heap.size W) (.cells #[.int .i64 N, .slice AL L.length cL] 24))
  go_enter Try.func4, Try.ntmps4
  go_wp2_with (first
    | (go_at_call 13; refine (HFew.out _ HB.out).mono ?_; rintro e w1 ⟨rfl, hb1⟩; replace HB := Aside0.mk (below_step HB.out hb1); clear hb1)
    | (go_at_call 14; refine (works16_calls _).mono ?_; rintro e w2 ⟨rfl, hb2⟩; have HB2 := Aside0.mk (below_step HB.out hb2); clear hb2))
  go_ret
  exact ⟨rfl, HB2.out⟩
set_option maxHeartbeats 8000000 in
set_option maxRecDepth 100000 in
theorem parts_on (hL : Kd.C (Kd.slice 3 (Kd.int .i64)) W AL L.length L) (hcL : L.length ≤ cL) (hA : (Kd.int .i64).C W A asm.length asm) (hc : asm.length ≤ c) (hnil : A = none → c = 0) (h2 : ∀ c ∈ L, c.length ≤ 17592186044416) (hfew : few16 L asm = true) (hLn : L.length ≤ 100) (hln : asm.length ≤ 100) (h3 : ∀ c ∈ L, c.length ≤ 1000) :
    Calls Try.prog 4 #[.agg #[.int .i64 N, .slice AL L.length cL], .slice A asm.length c] W fun e w' => e = .returned (.bool true) ∧ Below W.heap.size W w' := by
  have hfw : ∀ w, Below W.heap.size W w → Calls Try.prog 13 #[.agg #[.int .i64 N, .slice AL L.length cL], .slice A asm.length c] w fun e w' => e = .returned (.bool true) ∧ Below w.heap.size w w' := fun w hb => by
    have := few16b_calls (N := N) (Kd.C_below hL hb) hcL (Kd.C_below hA hb) hc h2
    rwa [hfew] at this
  have hcp : ∀ w, Below W.heap.size W w → Calls Try.prog 8 #[.agg #[.int .i64 N, .slice AL L.length cL]] w fun e w' => ∃ Ao co, e = .returned (.agg #[.int .i64 N, .slice Ao L.length co]) ∧ Kd.S (Kd.slice 3 (Kd.int .i64)) 25 w' w.heap.size (fun _ => True) (.slice Ao L.length co) L ∧ L.length ≤ co ∧ Below w.heap.size w w' := fun w hb => copy_calls (Kd.C_below hL hb) hcL (by omega) h3
  obtain ⟨ps, fr, er, hps, hpi, hS1, hS2⟩ := both (N := N) hL hcL hA hc hnil hLn hln
  have hst : ∀ (w : World) (AL2 : Option Addr) (cL2 : Nat), Below W.heap.size W w → Kd.C (Kd.slice 3 (Kd.int .i64)) w AL2 L.length L → L.length ≤ cL2 → Calls Try.prog 20 #[.agg #[.int .i64 N, .slice AL L.length cL], .agg #[.int .i64 N, .slice AL2 L.length cL2]] w fun e w' => e = .returned (.bool true) ∧ Below w.heap.size w w' := fun w AL2 cL2 hb hC2 hc2 => stays_calls (Kd.C_below hL hb) hcL hC2 hc2 (by omega) (fun c hc => Nat.le_trans (h3 c hc) (by omega))
  have HFew := Aside0.mk hfw
  have HCopy := Aside0.mk hcp
  have HS1 := Aside0.mk hS1
  have HS2 := Aside0.mk hS2
  have HPs := Aside0.mk hps
  have HPi := Aside0.mk hpi
  have HStay := Aside0.mk hst
  have HL := Aside0.mk hL
  have HA := Aside0.mk hA
  have Hc := Aside0.mk hc
  have hlen : asm.length ≤ 30000 := by omega
  clear hfw hcp hL hA hc hnil hfew h2 h3 hS1 hS2 hps hpi hst
  have HB := Aside0.mk (below_alloc (Below.refl W.heap.size W) (.cells #[.int .i64 N, .slice AL L.length cL] 24))
  have HT := Aside0.mk (blk_new W (.cells #[.int .i64 N, .slice AL L.length cL] 24))
  go_enter Try.func4, Try.ntmps4
  go_upto_region 3 with ((go_at_call 13; refine (HFew.out _ HB.out).mono ?_; rintro e w1 ⟨rfl, hb1⟩; replace HT := Aside0.mk (blk_below HT.out hb1); replace HB := Aside0.mk (below_step HB.out hb1); clear hb1))
  go_cut [5, 6] (fun v5 v6 wc => ∃ (A5 : Option Addr) (c5 : Nat) (Ao : Option Addr) (co g6 : Nat), v5 = .slice A5 asm.length c5 ∧ v6 = .pointer (some ⟨g6, 0, none⟩) ∧ Aside0 (Own5 W wc AL cL N L asm A5 c5 Ao co g6))
  case first =>
      replace HB := Aside0.mk (below_drew HB.out)
      replace HT := Aside0.mk (blk_drew HT.out)
      refine start_ (n := 8) (S := fun w' => w'.cell? ⟨W.heap.size, 0, none⟩ = some (.int .i64 N) ∧ w'.cell? ⟨W.heap.size, 1, none⟩ = some (.slice AL L.length cL)) (ds := [7]) #[false, false, false, false, false, false, false, false] (by kernel_rfl) rfl rfl (⟨(blk_cell HT.out 0).trans rfl, (blk_cell HT.out 1).trans rfl⟩) (fun hHeld => ?_)
      refine with_tabW par4tab par4bits (fun HT_ HW_ => ?_)
      refine pure_ (i := 1) (N := some 19) (v := ?_) (a' := ?_) #[false, true, false, false, false, false, false, false] rfl rfl (any_of HT_.out (by kernel_rfl)) (fun _ _ _ h => h) (Or.inl ⟨by rfl, ?_⟩) ?_ ?_
      rotate_left
      · intro w'
        go_simp
        with_reducible rfl
      rotate_left
      · simp only [Act.put, List.setIfInBounds_toArray, List.set_cons_zero, List.set_cons_succ, i64_w, i32_w]
        rfl
      refine take_ (i := 3) (N := some 21) (v := ?_) (a' := ?_) #[false, true, false, true, false, false, false, false] rfl rfl (take_ofW HT_.out HW_.out (by kernel_rfl)) (fun _ _ _ h => h) (Or.inl ⟨by rfl, ?_⟩) hHeld ?_ ?_
      rotate_left
      · rintro w' ⟨s0, s1⟩
        go_simp
        with_reducible rfl
      rotate_left
      · simp only [Act.put, List.setIfInBounds_toArray, List.set_cons_zero, List.set_cons_succ, i64_w, i32_w]
        rfl
      refine join_ (σ := Value × Value × Value × Nat) 2 #[true, true, true, true, true, true, false, false] (fun s => [(18, s.1), (20, s.2.1), (22, s.2.2.1), (6, .pointer (some ⟨s.2.2.2, 0, none⟩))]) (fun s w' => OwnMid W w' AL cL N L asm s) ?_ (fun hcont => ?_)
      rotate_left
      · refine two_ (i := 0) (j := 5) (Ni := some 18) (Nj := some 6) #[true, true, false, true, false, false, false, false] #[false, true, false, true, false, true, false, false] rfl rfl rfl rfl (two_of HT_.out (by kernel_rfl)) (by decide) (by decide) (fun K hK => ?_) (fun K hK => ?_)
        · refine Kd.R_lit_step (Kd.int .i64) (w0 := W) W.heap.size 3 (by rfl) (N := 18) rfl (xs := ([] : List Int)) (inner := []) (ok := fun _ => True) (okp := fun _ => True) (by first | (go_simp; done) | (go_simp; rfl)) (Reps.none _ _) (fun _ hk => hk) trivial HB.out HB.out.size (by simp) ?_
          intro v22 w22 ho22 hb22 hg22 _
          replace HT := Aside0.mk (blk_grown HT.out hg22 (by simp))
          skip
          replace HB := Aside0.mk hb22
          have HO22 := Aside0.mk ho22
          clear hb22 hg22 ho22
          refine hK.out _ _ ⟨(blk_cell HT.out 0).trans rfl, (blk_cell HT.out 1).trans rfl⟩ (fun hHeld => ?_)
          clear hK K
          refine norm_ (a' := ?_) ?_ ?_
          rotate_left
          · simp only [Act.put, List.setIfInBounds_toArray, List.set_cons_zero, List.set_cons_succ, i64_w, i32_w]
            rfl
          refine two_ (i := 2) (j := 5) (Ni := some 20) (Nj := some 6) #[true, true, true, true, false, false, false, false] #[true, true, false, true, false, true, false, false] rfl rfl rfl rfl (two_of HT_.out (by kernel_rfl)) (by decide) (by decide) (fun K hK => ?_) (fun K hK => ?_)
          · refine Kd.R_append_rows_step (Kd.int .i64) (w0 := W) W.heap.size (by rfl) (.tmp 18) (.tmp 19) 25 3 (.int .i64 0) 8 rfl Try.underlying25 info3 rfl (by decide) (by decide) v22 [] asm A asm.length c (fun _ => True) (fun _ => False) rfl rfl HO22.out (Kd.C_below HA.out HB.out) (fun _ _ h => h) (fun _ h => h.elim) (fun _ _ => trivial) HB.out HB.out.size (by simp; omega) ?_
            intro v24 w24 ho24 hb24 hg24 _
            replace HT := Aside0.mk (blk_grown HT.out hg24 (Kd.R_ne HO22.out HT.out (by decide)))
            skip
            replace HB := Aside0.mk hb24
            have HO24 := Aside0.mk ho24
            clear hb24 hg24 ho24
            refine hK.out _ _ ⟨(blk_cell HT.out 0).trans rfl, (blk_cell HT.out 1).trans rfl⟩ (fun hHeld => ?_)
            clear hK K
            refine norm_ (a' := ?_) ?_ ?_
            rotate_left
            · simp only [Act.put, List.setIfInBounds_toArray, List.set_cons_zero, List.set_cons_succ, i64_w, i32_w]
              rfl
            refine two_ (i := 4) (j := 5) (Ni := some 22) (Nj := some 6) #[true, true, true, true, true, false, false, false] #[true, true, true, true, false, true, false, false] rfl rfl rfl rfl (two_of HT_.out (by kernel_rfl)) (by decide) (by decide) (fun K hK => ?_) (fun K hK => ?_)
            · refine goes_ Try.func8 (by kernel_rfl) rfl #[.agg #[.int .i64 N, .slice AL L.length cL]] (by rfl) rfl rfl (by simp only [List.map_toArray, List.map_cons, List.map_nil]; rfl) ?_
              refine (HCopy.out _ HB.out).mono ?_
              rintro e_ w26 ⟨Ao, co, rfl, hC26, hc26, hb26⟩
              refine ⟨_, rfl, ?_⟩
              replace HT := Aside0.mk (blk_below HT.out hb26)
              skip
              have hsz26 := HB.out.size
              replace HB := Aside0.mk (below_step HB.out hb26)
              replace HO24 := Aside0.mk (Kd.R_below HO24.out hb26)
              have HC26 := Aside0.mk (Kd.S_lower hC26 hsz26)
              have Hc26 := Aside0.mk hc26
              clear hb26 hC26 hc26 hsz26
              refine hK.out _ _ ⟨(blk_cell HT.out 0).trans rfl, (blk_cell HT.out 1).trans rfl⟩ (fun hHeld => ?_)
              clear hK K
              refine norm_ (a' := ?_) ?_ ?_
              rotate_left
              · simp only [Act.put, List.setIfInBounds_toArray, List.set_cons_zero, List.set_cons_succ, i64_w, i32_w]
                rfl
              refine one_ (i := 5) (N := some 6) #[true, true, true, true, true, true, false, false] rfl rfl (one_of HT_.out (by kernel_rfl)) (by decide) (fun K hK => ?_)
              refine box_step (by rfl) (N := 6) rfl (cs := #[.int .i64 0, .slice none 0 0]) (t := 24) (by first | (go_simp; done) | (go_simp; rfl)) ?_
              intro g6 hg6 w6 hbx hb6
              have hn6 : W.heap.size < g6 := by have := blk_lt HT.out; omega
              replace HT := Aside0.mk (blk_below HT.out hb6)
              replace HB := Aside0.mk (below_step HB.out hb6)
              have H6 := Aside0.mk hbx
              have HN6 := Aside0.mk hn6
              replace HO24 := Aside0.mk (Kd.R_below HO24.out hb6)
              replace HC26 := Aside0.mk (Kd.S_below HC26.out hb6)
              clear hb6 hbx hg6 hn6
              refine hK.out _ _ ⟨(blk_cell HT.out 0).trans rfl, (blk_cell HT.out 1).trans rfl⟩ (fun hHeld => ?_)
              clear hK K
              refine norm_ (a' := ?_) ?_ ?_
              rotate_left
              · simp only [Act.put, List.setIfInBounds_toArray, List.set_cons_zero, List.set_cons_succ, i64_w, i32_w]
                rfl
              exact norm_ (by rfl) (hcont (v22, v24, .agg #[.int .i64 N, .slice Ao L.length co], g6) _ ⟨⟨Ao, co, rfl, HC26.out, Hc26.out⟩, HO24.out, H6.out, HN6.out, HB.out, HT.out⟩)
            · refine box_step (by rfl) (N := 6) rfl (cs := #[.int .i64 0, .slice none 0 0]) (t := 24) (by first | (go_simp; done) | (go_simp; rfl)) ?_
              intro g6 hg6 w6 hbx hb6
              have hn6 : W.heap.size < g6 := by have := blk_lt HT.out; omega
              replace HT := Aside0.mk (blk_below HT.out hb6)
              replace HB := Aside0.mk (below_step HB.out hb6)
              have H6 := Aside0.mk hbx
              have HN6 := Aside0.mk hn6
              replace HO24 := Aside0.mk (Kd.R_below HO24.out hb6)
              clear hb6 hbx hg6 hn6
              refine hK.out _ _ ⟨(blk_cell HT.out 0).trans rfl, (blk_cell HT.out 1).trans rfl⟩ (fun hHeld => ?_)
              clear hK K
              refine norm_ (a' := ?_) ?_ ?_
              rotate_left
              · simp only [Act.put, List.setIfInBounds_toArray, List.set_cons_zero, List.set_cons_succ, i64_w, i32_w]
                rfl
              refine one_ (i := 4) (N := some 22) #[true, true, true, true, true, true, false, false] rfl rfl (one_of HT_.out (by kernel_rfl)) (by decide) (fun K hK => ?_)
              refine goes_ Try.func8 (by kernel_rfl) rfl #[.agg #[.int .i64 N, .slice AL L.length cL]] (by rfl) rfl rfl (by simp only [List.map_toArray, List.map_cons, List.map_nil]; rfl) ?_
              refine (HCopy.out _ HB.out).mono ?_
              rintro e_ w26 ⟨Ao, co, rfl, hC26, hc26, hb26⟩
              refine ⟨_, rfl, ?_⟩
              replace HT := Aside0.mk (blk_below HT.out hb26)
              replace H6 := Aside0.mk (blk_below H6.out hb26)
              have hsz26 := HB.out.size
              replace HB := Aside0.mk (below_step HB.out hb26)
              replace HO24 := Aside0.mk (Kd.R_below HO24.out hb26)
              have HC26 := Aside0.mk (Kd.S_lower hC26 hsz26)
              have Hc26 := Aside0.mk hc26
              clear hb26 hC26 hc26 hsz26
              refine hK.out _ _ ⟨(blk_cell HT.out 0).trans rfl, (blk_cell HT.out 1).trans rfl⟩ (fun hHeld => ?_)
              clear hK K
              refine norm_ (a' := ?_) ?_ ?_
              rotate_left
              · simp only [Act.put, List.setIfInBounds_toArray, List.set_cons_zero, List.set_cons_succ, i64_w, i32_w]
                rfl
              exact norm_ (by rfl) (hcont (v22, v24, .agg #[.int .i64 N, .slice Ao L.length co], g6) _ ⟨⟨Ao, co, rfl, HC26.out, Hc26.out⟩, HO24.out, H6.out, HN6.out, HB.out, HT.out⟩)
          · refine box_step (by rfl) (N := 6) rfl (cs := #[.int .i64 0, .slice none 0 0]) (t := 24) (by first | (go_simp; done) | (go_simp; rfl)) ?_
            intro g6 hg6 w6 hbx hb6
            have hn6 : W.heap.size < g6 := by have := blk_lt HT.out; omega
            replace HT := Aside0.mk (blk_below HT.out hb6)
            replace HB := Aside0.mk (below_step HB.out hb6)
            have H6 := Aside0.mk hbx
            have HN6 := Aside0.mk hn6
            replace HO22 := Aside0.mk (Kd.R_below HO22.out hb6)
            clear hb6 hbx hg6 hn6
            refine hK.out _ _ ⟨(blk_cell HT.out 0).trans rfl, (blk_cell HT.out 1).trans rfl⟩ (fun hHeld => ?_)
            clear hK K
            refine norm_ (a' := ?_) ?_ ?_
            rotate_left
            · simp only [Act.put, List.setIfInBounds_toArray, List.set_cons_zero, List.set_cons_succ, i64_w, i32_w]
              rfl
            refine one_ (i := 2) (N := some 20) #[true, true, true, true, false, true, false, false] rfl rfl (one_of HT_.out (by kernel_rfl)) (by decide) (fun K hK => ?_)
            refine Kd.R_append_rows_step (Kd.int .i64) (w0 := W) W.heap.size (by rfl) (.tmp 18) (.tmp 19) 25 3 (.int .i64 0) 8 rfl Try.underlying25 info3 rfl (by decide) (by decide) v22 [] asm A asm.length c (fun _ => True) (fun _ => False) rfl rfl HO22.out (Kd.C_below HA.out HB.out) (fun _ _ h => h) (fun _ h => h.elim) (fun _ _ => trivial) HB.out HB.out.size (by simp; omega) ?_
            intro v24 w24 ho24 hb24 hg24 _
            replace HT := Aside0.mk (blk_grown HT.out hg24 (Kd.R_ne HO22.out HT.out (by decide)))
            replace H6 := Aside0.mk (blk_grown H6.out hg24 (Kd.R_ne HO22.out H6.out (by decide)))
            replace HB := Aside0.mk hb24
            have HO24 := Aside0.mk ho24
            clear hb24 hg24 ho24
            refine hK.out _ _ ⟨(blk_cell HT.out 0).trans rfl, (blk_cell HT.out 1).trans rfl⟩ (fun hHeld => ?_)
            clear hK K
            refine norm_ (a' := ?_) ?_ ?_
            rotate_left
            · simp only [Act.put, List.setIfInBounds_toArray, List.set_cons_zero, List.set_cons_succ, i64_w, i32_w]
              rfl
            refine one_ (i := 4) (N := some 22) #[true, true, true, true, true, true, false, false] rfl rfl (one_of HT_.out (by kernel_rfl)) (by decide) (fun K hK => ?_)
            refine goes_ Try.func8 (by kernel_rfl) rfl #[.agg #[.int .i64 N, .slice AL L.length cL]] (by rfl) rfl rfl (by simp only [List.map_toArray, List.map_cons, List.map_nil]; rfl) ?_
            refine (HCopy.out _ HB.out).mono ?_
            rintro e_ w26 ⟨Ao, co, rfl, hC26, hc26, hb26⟩
            refine ⟨_, rfl, ?_⟩
            replace HT := Aside0.mk (blk_below HT.out hb26)
            replace H6 := Aside0.mk (blk_below H6.out hb26)
            have hsz26 := HB.out.size
            replace HB := Aside0.mk (below_step HB.out hb26)
            replace HO24 := Aside0.mk (Kd.R_below HO24.out hb26)
            have HC26 := Aside0.mk (Kd.S_lower hC26 hsz26)
            have Hc26 := Aside0.mk hc26
            clear hb26 hC26 hc26 hsz26
            refine hK.out _ _ ⟨(blk_cell HT.out 0).trans rfl, (blk_cell HT.out 1).trans rfl⟩ (fun hHeld => ?_)
            clear hK K
            refine norm_ (a' := ?_) ?_ ?_
            rotate_left
            · simp only [Act.put, List.setIfInBounds_toArray, List.set_cons_zero, List.set_cons_succ, i64_w, i32_w]
              rfl
            exact norm_ (by rfl) (hcont (v22, v24, .agg #[.int .i64 N, .slice Ao L.length co], g6) _ ⟨⟨Ao, co, rfl, HC26.out, Hc26.out⟩, HO24.out, H6.out, HN6.out, HB.out, HT.out⟩)
        · refine box_step (by rfl) (N := 6) rfl (cs := #[.int .i64 0, .slice none 0 0]) (t := 24) (by first | (go_simp; done) | (go_simp; rfl)) ?_
          intro g6 hg6 w6 hbx hb6
          have hn6 : W.heap.size < g6 := by have := blk_lt HT.out; omega
          replace HT := Aside0.mk (blk_below HT.out hb6)
          replace HB := Aside0.mk (below_step HB.out hb6)
          have H6 := Aside0.mk hbx
          have HN6 := Aside0.mk hn6
          
          clear hb6 hbx hg6 hn6
          refine hK.out _ _ ⟨(blk_cell HT.out 0).trans rfl, (blk_cell HT.out 1).trans rfl⟩ (fun hHeld => ?_)
          clear hK K
          refine norm_ (a' := ?_) ?_ ?_
          rotate_left
          · simp only [Act.put, List.setIfInBounds_toArray, List.set_cons_zero, List.set_cons_succ, i64_w, i32_w]
            rfl
          refine one_ (i := 0) (N := some 18) #[true, true, false, true, false, true, false, false] rfl rfl (one_of HT_.out (by kernel_rfl)) (by decide) (fun K hK => ?_)
          refine Kd.R_lit_step (Kd.int .i64) (w0 := W) W.heap.size 3 (by rfl) (N := 18) rfl (xs := ([] : List Int)) (inner := []) (ok := fun _ => True) (okp := fun _ => True) (by first | (go_simp; done) | (go_simp; rfl)) (Reps.none _ _) (fun _ hk => hk) trivial HB.out HB.out.size (by simp) ?_
          intro v22 w22 ho22 hb22 hg22 _
          replace HT := Aside0.mk (blk_grown HT.out hg22 (by simp))
          replace H6 := Aside0.mk (blk_grown H6.out hg22 (by simp))
          replace HB := Aside0.mk hb22
          have HO22 := Aside0.mk ho22
          clear hb22 hg22 ho22
          refine hK.out _ _ ⟨(blk_cell HT.out 0).trans rfl, (blk_cell HT.out 1).trans rfl⟩ (fun hHeld => ?_)
          clear hK K
          refine norm_ (a' := ?_) ?_ ?_
          rotate_left
          · simp only [Act.put, List.setIfInBounds_toArray, List.set_cons_zero, List.set_cons_succ, i64_w, i32_w]
            rfl
          refine one_ (i := 2) (N := some 20) #[true, true, true, true, false, true, false, false] rfl rfl (one_of HT_.out (by kernel_rfl)) (by decide) (fun K hK => ?_)
          refine Kd.R_append_rows_step (Kd.int .i64) (w0 := W) W.heap.size (by rfl) (.tmp 18) (.tmp 19) 25 3 (.int .i64 0) 8 rfl Try.underlying25 info3 rfl (by decide) (by decide) v22 [] asm A asm.length c (fun _ => True) (fun _ => False) rfl rfl HO22.out (Kd.C_below HA.out HB.out) (fun _ _ h => h) (fun _ h => h.elim) (fun _ _ => trivial) HB.out HB.out.size (by simp; omega) ?_
          intro v24 w24 ho24 hb24 hg24 _
          replace HT := Aside0.mk (blk_grown HT.out hg24 (Kd.R_ne HO22.out HT.out (by decide)))
          replace H6 := Aside0.mk (blk_grown H6.out hg24 (Kd.R_ne HO22.out H6.out (by decide)))
          replace HB := Aside0.mk hb24
          have HO24 := Aside0.mk ho24
          clear hb24 hg24 ho24
          refine hK.out _ _ ⟨(blk_cell HT.out 0).trans rfl, (blk_cell HT.out 1).trans rfl⟩ (fun hHeld => ?_)
          clear hK K
          refine norm_ (a' := ?_) ?_ ?_
          rotate_left
          · simp only [Act.put, List.setIfInBounds_toArray, List.set_cons_zero, List.set_cons_succ, i64_w, i32_w]
            rfl
          refine one_ (i := 4) (N := some 22) #[true, true, true, true, true, true, false, false] rfl rfl (one_of HT_.out (by kernel_rfl)) (by decide) (fun K hK => ?_)
          refine goes_ Try.func8 (by kernel_rfl) rfl #[.agg #[.int .i64 N, .slice AL L.length cL]] (by rfl) rfl rfl (by simp only [List.map_toArray, List.map_cons, List.map_nil]; rfl) ?_
          refine (HCopy.out _ HB.out).mono ?_
          rintro e_ w26 ⟨Ao, co, rfl, hC26, hc26, hb26⟩
          refine ⟨_, rfl, ?_⟩
          replace HT := Aside0.mk (blk_below HT.out hb26)
          replace H6 := Aside0.mk (blk_below H6.out hb26)
          have hsz26 := HB.out.size
          replace HB := Aside0.mk (below_step HB.out hb26)
          replace HO24 := Aside0.mk (Kd.R_below HO24.out hb26)
          have HC26 := Aside0.mk (Kd.S_lower hC26 hsz26)
          have Hc26 := Aside0.mk hc26
          clear hb26 hC26 hc26 hsz26
          refine hK.out _ _ ⟨(blk_cell HT.out 0).trans rfl, (blk_cell HT.out 1).trans rfl⟩ (fun hHeld => ?_)
          clear hK K
          refine norm_ (a' := ?_) ?_ ?_
          rotate_left
          · simp only [Act.put, List.setIfInBounds_toArray, List.set_cons_zero, List.set_cons_succ, i64_w, i32_w]
            rfl
          exact norm_ (by rfl) (hcont (v22, v24, .agg #[.int .i64 N, .slice Ao L.length co], g6) _ ⟨⟨Ao, co, rfl, HC26.out, Hc26.out⟩, HO24.out, H6.out, HN6.out, HB.out, HT.out⟩)
      rintro ⟨v22, v24, v26, g6⟩ wm ⟨⟨Ao, co, rfl, hCo, hco⟩, hO, h6, hn6, hb, ht⟩
      refine norm_ (a' := ?_) ?_ ?_
      rotate_left
      · simp only [putAll, Act.put, List.setIfInBounds_toArray, List.set_cons_zero, List.set_cons_succ, i64_w, i32_w]
        rfl
      refine pure_ (i := 6) (N := some 5) (v := ?_) (a' := ?_) #[true, true, true, true, true, true, true, false] rfl rfl (any_of HT_.out (by kernel_rfl)) (fun _ _ _ h => h) (Or.inl ⟨by rfl, ?_⟩) ?_ ?_
      rotate_left
      · intro w'
        go_simp
        with_reducible rfl
      rotate_left
      · simp only [Act.put, List.setIfInBounds_toArray, List.set_cons_zero, List.set_cons_succ, i64_w, i32_w]
        rfl
      refine last_ (i := 7) (N := none) #[true, true, true, true, true, true, true, true] rfl rfl (one_of HT_.out (by kernel_rfl)) (by decide) (fun K hK => ?_)
      have hq0 : wm.cell? ⟨g6, 0, none⟩ = some (.int .i64 0) := (blk_cell h6 0).trans rfl
      have hq1 : wm.cell? ⟨g6, 1, none⟩ = some (.slice none 0 0) := (blk_cell h6 1).trans rfl
      have hf0 := blk_frozen h6 0
      have hf1 := blk_frozen h6 1
      refine skip_ (w1 := ?_) (by rfl) rfl ?_ ?_
      rotate_left
      · go_simp
        rfl
      refine hK.out _ _ ?_
      clear hK K
      refine done_ (done_of HT_.out (by kernel_rfl)) ?_
      go_wp2
      go_meet
      case rel =>
        have hO2 := Kd.R_set (Kd.R_set hO h6 (by decide) 0 (.int .i64 N)) (blk_set h6 0 (.int .i64 N)) (by decide) 1 (.slice Ao L.length co)
        obtain ⟨A5, c5, rfl, hc5, hC5⟩ := Kd.R_reads hO2
        have hS2 := Kd.S_far (p := ⟨g6, 1, none⟩) (Kd.S_types (Kd.S_far (p := ⟨g6, 0, none⟩) (Kd.S_types hCo h6 (by decide)) (fun _ hk => hk.2) (.int .i64 N)) (blk_set h6 0 (.int .i64 N)) (by decide)) (fun _ hk => hk.2) (.slice Ao L.length co)
        exact ⟨A5, c5, Ao, co, g6, rfl, rfl, ⟨⟨blk_put (blk_put h6 0 _ rfl) 1 _ rfl, hC5, hc5, (Kd.S_reads' hS2).2.2, hco, below_set (below_set hb (Nat.le_of_lt hn6)) (Nat.le_of_lt hn6), blk_far (blk_far ht (Nat.ne_of_lt hn6) _) (Nat.ne_of_lt hn6) _⟩⟩⟩
  case rest =>
    obtain ⟨A5, c5, Ao, co, g6, rfl, rfl, HO5⟩ := hcut
    clear HB HT HFew HCopy
    have hc0 : wc.cell? ⟨W.heap.size, 0, none⟩ = some (.int .i64 N) := (blk_cell HO5.out.t 0).trans rfl
    have hc1 : wc.cell? ⟨W.heap.size, 1, none⟩ = some (.slice AL L.length cL) := (blk_cell HO5.out.t 1).trans rfl
    go_wp2_with fail
    refine (HS1.out _ HO5.out.below).mono ?_
    rintro e w6 ⟨v7, rfl, hr7, hb6⟩
    have hba := below_alloc (Below.refl w6.heap.size w6) (.cells (cS fr) 34)
    have HO7 := Aside0.mk ((HO5.out.bg hb6).bg hba)
    have HR7 := Aside0.mk (Kd.R_below hr7 hba)
    have HX8 := Aside0.mk (blk_new w6 (.cells (cS fr) 34))
    have hq0 : (w6.alloc (.cells (cS fr) 34)).cell? ⟨g6, 0, none⟩ = some (.int .i64 N) := (blk_cell HO7.out.b6 0).trans rfl
    have hq1 : (w6.alloc (.cells (cS fr) 34)).cell? ⟨g6, 1, none⟩ = some (.slice Ao L.length co) := (blk_cell HO7.out.b6 1).trans rfl
    clear hc0 hc1 hba hb6 hr7 HO5
    go_wp2_with fail
    refine (HS2.out _ Ao co A5 c5 HO7.out.own HO7.out.ownc HO7.out.was HO7.out.wasc).mono ?_
    rintro e w8 ⟨v10, rfl, hr10, hb8⟩
    have hbb := below_step hb8 (below_alloc (Below.refl w8.heap.size w8) (.cells (cS fr) 34))
    have HO9 := Aside0.mk (HO7.out.bg hbb)
    have HR9 := Aside0.mk (Kd.R_below HR7.out hbb)
    have HQ9 := Aside0.mk (Kd.R_below hr10 (below_alloc (Below.refl w8.heap.size w8) (.cells (cS fr) 34)))
    have HX9 := Aside0.mk (blk_below HX8.out hbb)
    have HY9 := Aside0.mk (blk_new w8 (.cells (cS fr) 34))
    clear hbb hb8 hr10 hq0 hq1 HO7 HR7 HX8 HS1 HS2
    have hx0 : (w8.alloc (.cells (cS fr) 34)).cell? ⟨w6.heap.size, 0, none⟩ = some (.int .u64 (fr.1 : Int)) := (blk_cell HX9.out 0).trans rfl
    have hx1 : (w8.alloc (.cells (cS fr) 34)).cell? ⟨w6.heap.size, 1, none⟩ = some (.int .u64 (fr.2 : Int)) := (blk_cell HX9.out 1).trans rfl
    have hy0 : (w8.alloc (.cells (cS fr) 34)).cell? ⟨w8.heap.size, 0, none⟩ = some (.int .u64 (fr.1 : Int)) := (blk_cell HY9.out 0).trans rfl
    have hy1 : (w8.alloc (.cells (cS fr) 34)).cell? ⟨w8.heap.size, 1, none⟩ = some (.int .u64 (fr.2 : Int)) := (blk_cell HY9.out 1).trans rfl
    have heq := eql34 fr fr
    rw [decide_eq_true rfl] at heq
    go_wp2_with fail
    clear heq hx0 hx1 hy0 hy1
    refine (given_calls HR9.out HPs.out HPi.out).mono ?_
    rintro e w10 ⟨v11, rfl, hr11, hb10⟩
    have HO10 := Aside0.mk (HO9.out.bg hb10)
    have HQ10 := Aside0.mk (Kd.R_below HQ9.out hb10)
    have HR10 := Aside0.mk hr11
    clear hr11 hb10 HO9 HR9 HQ9 HX9 HY9
    go_wp2_with fail
    have hS := same_parts HR10.out HQ10.out HPs.out
    rw [decide_eq_true rfl] at hS
    refine hS.mono ?_
    rintro e w11 ⟨rfl, n11, rfl⟩
    clear hS
    have HO11 := Aside0.mk (HO10.out.bg (pw_below_drewN (Below.refl _ _) n11))
    clear HO10 HQ10 HR10
    generalize w10.drewN n11 = w12 at HO11 ⊢
    go_wp2_with fail
    have hS := same04_calls (Kd.C_below HA.out HO11.out.below) Hc.out HO11.out.was HO11.out.wasc
    rw [decide_eq_true rfl] at hS
    refine hS.mono ?_
    rintro e w13 ⟨rfl, n13, rfl⟩
    clear hS
    have HO13 := Aside0.mk (HO11.out.bg (pw_below_drewN (Below.refl _ _) n13))
    clear HO11
    generalize w12.drewN n13 = w14 at HO13 ⊢
    have hc0 : w14.cell? ⟨W.heap.size, 0, none⟩ = some (.int .i64 N) := (blk_cell HO13.out.t 0).trans rfl
    have hc1 : w14.cell? ⟨W.heap.size, 1, none⟩ = some (.slice AL L.length cL) := (blk_cell HO13.out.t 1).trans rfl
    have hq0 : w14.cell? ⟨g6, 0, none⟩ = some (.int .i64 N) := (blk_cell HO13.out.b6 0).trans rfl
    have hq1 : w14.cell? ⟨g6, 1, none⟩ = some (.slice Ao L.length co) := (blk_cell HO13.out.b6 1).trans rfl
    go_wp2_with fail
    refine (HStay.out _ Ao co HO13.out.below HO13.out.own HO13.out.ownc).mono ?_
    rintro e w15 ⟨rfl, hb15⟩
    have HB15 := Aside0.mk (below_step HO13.out.below hb15)
    clear hb15 hc0 hc1 hq0 hq1 HO13
    go_wp2_with fail
    refine (works16_calls _).mono ?_
    rintro e w16 ⟨rfl, hb16⟩
    have HB16 := Aside0.mk (below_step HB15.out hb16)
    clear hb16
    go_wp2
    go_ret
    exact ⟨rfl, HB16.out⟩
end
end Go.Proofs.Ytbnjbjcokkcfcaa.Sol
namespace Go.Proofs.Ytbnjbjcokkcfcaa.partsSplit
open Go.ChangeShapes Go.WideShapes Go.ChangeAt Go.RowKit Go.Deep Go.Joins Go.Proofs.YtbnjbjcokkcfcaaW.PrintWords Go.Proofs.Ytbnjbjcokkcfcaa.Sol
set_option linter.unusedVariables false
set_option linter.unusedSimpArgs false
theorem own : ownKnob Try.prog.godebug = none := by kernel_rfl
theorem lensum_mem {L : List (List Int)} {c : List Int} (h : c ∈ L) : c.length ≤ lensum L := by
  unfold lensum
  induction L with
  | nil => cases h
  | cons d r ih =>
    rw [List.map_cons, List.sum_cons]
    rcases List.mem_cons.1 h with rfl | h
    · omega
    · have := ih h; omega
theorem all_calls {N : Int} {W : World} {AL : Option Addr} {cL : Nat} {L : List (List Int)} {A : Option Addr} {c : Nat} {asm : List Int} (hL : Kd.C (Kd.slice 3 (Kd.int .i64)) W AL L.length L) (hcL : L.length ≤ cL) (hA : (Kd.int .i64).C W A asm.length asm) (hc : asm.length ≤ c) (hnil : A = none → c = 0) (h2 : ∀ c ∈ L, c.length ≤ 17592186044416) :
    Calls Try.prog 4 #[.agg #[.int .i64 N, .slice AL L.length cL], .slice A asm.length c] W fun e w' => e = .returned (.bool true) ∧ Below W.heap.size W w' := by
  cases hf : few16 L asm with
  | false => exact parts_off hL hcL hA hc h2 hf
  | true =>
    have h := hf
    unfold few16 at h
    split at h
    · rename_i h1
      split at h
      · rename_i h3
        exact parts_on hL hcL hA hc hnil h2 hf h1 (of_decide_eq_true h) (fun c hc => Nat.le_trans (lensum_mem hc) (by omega))
      · cases h
    · cases h
section
variable {H : Type} {enc : TypeId × Value → H}
theorem weights_mem {P : Program} {e : TypeId} {l : List (DataW H)} {d : DataW H} {m : Nat} (h : d ∈ l) (hm : m ∈ d.weights P e) : m ∈ DataW.weightsAll P e l := by
  induction l with
  | nil => cases h
  | cons x r ih =>
    rw [DataW.weightsAll]
    rcases List.mem_cons.1 h with rfl | h
    · exact List.mem_append_left _ hm
    · exact List.mem_append_right _ (ih h)
theorem bytes3 : Try.prog.bytesOf 3 = 8 := by kernel_rfl
set_option maxRecDepth 100000 in
/-- A theory, its clauses no longer than a slice can be. -/
theorem open_theoryW {w : World} {b0 : Nat} {v : Value} {d : DataW H} {p : List MemPlace} (hv : Value.okWide Try.prog w .any b0 24 v) (h : DataW.Trod enc Try.prog w 0 (fun _ => true) true 24 v d p) (hw : ∀ m ∈ d.weights Try.prog 24, m ≤ reachBytes) :
    ∃ (N : Int) (A : Option Addr) (c : Nat) (L : List (List Int)), v = .agg #[.int .i64 N, .slice A L.length c] ∧ Kd.C (Kd.slice 3 (Kd.int .i64)) w A L.length L ∧ L.length ≤ c ∧ ∀ c ∈ L, c.length ≤ 17592186044416 := by
  obtain ⟨c0, c1, y0, y1, n, rfl, rfl, rfl, h0, h1⟩ := open_agg2 Try.underlying24 (by kernel_rfl) cells24 hv h
  obtain ⟨N, e0, _⟩ := DataW.trod_int Try.underlying3 h0
  simp only [List.cons.injEq, and_true] at e0
  subst e0
  rcases open_int_rows Try.underlying22 Try.underlying25 Try.underlying3 (by kernel_rfl) (by kernel_rfl) h1 with ⟨e, _⟩ | ⟨a, len, cap, A, L, C, Z, e, _, hl, hm, hx, hr⟩
  · simp only [List.cons.injEq, and_true] at e
    subst e
    exact ⟨N, none, 0, [], rfl, Kd.C_nil _ _, Nat.le_refl _, fun c hc => by cases hc⟩
  · simp only [List.cons.injEq, and_true] at e
    subst e
    have hlen : ((List.range len).map fun r => (Z r).take (L r)).length = len := by simp
    refine ⟨N, some a, cap, (List.range len).map fun r => (Z r).take (L r), by rw [hlen], ?_, by rw [hlen]; exact hl, fun cc hcc => ?_⟩
    · refine ⟨rfl, by rw [hlen]; unfold maxLen at hm; omega, fun hpos => ⟨a, rfl, fun j q hj => ?_⟩⟩
      have hjl : j < len := by
        have := (List.getElem?_eq_some_iff.1 hj).1
        simpa using this
      obtain ⟨hc1, hc2, hc3, hc4, _, hc5, hc6⟩ := hr j (by omega)
      have hq : q = (Z j).take (L j) := by simpa [hjl] using hj.symm
      subst hq
      have hl2 : ((Z j).take (L j)).length = L j := by simp; omega
      refine ⟨[.slice (A j) ((Z j).take (L j)).length (C j)], rfl, ⟨A j, C j, rfl, by omega, ints_C hc2 hc3 hc4 (fun a' ha' k hk => (hc6 a' ha').2 k hk) hc5⟩, fun i u hu => ?_⟩
      have hi : i = 0 := by
        have := (List.getElem?_eq_some_iff.1 hu).1
        simpa using this
      subst hi
      simp only [List.getElem?_cons_zero, Option.some.injEq] at hu
      subst hu
      rw [hl2]
      simpa [Kd.slice] using hc1
    · obtain ⟨j, hj, rfl⟩ := List.mem_map.1 hcc
      have hjl : j < len := List.mem_range.1 hj
      obtain ⟨_, hc2, _, hc4, _, hc5, _⟩ := hr j (by omega)
      cases hA : A j with
      | none =>
        have := hc5 hA
        rw [List.length_take]; omega
      | some aj =>
        obtain ⟨M, hM⟩ : ∃ M, ((lits .i64 ((Z j).take (L j)) : List (DataW H)).length + (lits .i64 ((Z j).drop (L j)) : List (DataW H)).length) * Try.prog.bytesOf 3 = M := ⟨_, rfl⟩
        have hmem : ((lits .i64 ((Z j).take (L j)) : List (DataW H)).length + (lits .i64 ((Z j).drop (L j)) : List (DataW H)).length) * Try.prog.bytesOf 3 ∈ (intRow (H := H) .i64 (A j) (L j) (Z j)).weights Try.prog 25 := by
          rw [hA]
          show _ ∈ DataW.weights Try.prog 25 (.slice _ _)
          rw [DataW.weights, Try.underlying25]
          exact List.mem_cons_self
        have hin : intRow (H := H) .i64 (A j) (L j) (Z j) ∈ (List.range len).map fun r => intRow (H := H) .i64 (A r) (L r) (Z r) := List.mem_map.2 ⟨j, hj, rfl⟩
        rw [hM] at hmem
        have h3 := hw M (by
          rw [hx]
          rw [DataW.weights, Try.underlying24]
          show _ ∈ DataW.weightsEach Try.prog [3, 22] _
          rw [DataW.weightsEach, DataW.weightsEach]
          refine List.mem_append_right _ (List.mem_append_left _ ?_)
          show _ ∈ DataW.weights Try.prog 22 (.slice _ _)
          rw [DataW.weights, Try.underlying22]
          exact List.mem_cons_of_mem _ (List.mem_append_left _ (weights_mem hin hmem)))
        rw [← hM, bytes3] at h3
        simp only [lits, List.length_map, List.length_take, List.length_drop] at h3
        unfold reachBytes at h3
        rw [List.length_take]
        omega
end
set_option maxRecDepth 100000 in
theorem lifted (os : Os) (started : os.Started) (H : Type) (enc : TypeId × Value → H) :
    ReturnsInHanded {} Try.checked os 4 .any (Rows.partsSplitSpec.pre6 enc Try.prog Try.f4 Rows.partsSplitRow.domain false) (Rows.partsSplitSpec.post enc Try.prog Try.f4 false true false false) := by
  refine returnsInHanded_of_change_sized (C := Try.checked) own started (by kernel_rfl) Try.func4
    (ChangeSpec.witness6 (enc := enc) (C := Try.checked) false ⟨#[], #[.agg #[.int .i64 0, .slice none 0 0], .slice none 0 0], []⟩ 8 (by kernel_rfl) (by kernel_rfl) (by kernel_rfl) (by kernel_rfl)) ?_
  intro W base args ds gs before hval0 hW hcnd hsz0 _
  have hval : ∀ (j : Nat) t v, Try.f4.params[j]? = some t → args[j]? = some v → Value.okWide Try.prog W .any base t v := hval0
  have hW' := hW
  obtain ⟨p, q, hA0, hV, rfl, hfz, hnd⟩ := hW
  have hA : DataW.TrodAll enc Try.prog W 0 (fun _ => true) true Try.f4.params.toList args.toList ds p := hA0
  rw [Try.params4] at hA hval
  obtain ⟨v0, vs0, d0, ds0, p0, q0, hargs, rfl, rfl, h0, r0⟩ := trodAll_cons hA
  obtain ⟨v1, vs1, d1, ds1, p1, q1, rfl, rfl, rfl, h1, r1⟩ := trodAll_cons r0
  obtain ⟨rfl, rfl, rfl⟩ := trodAll_nil r1
  obtain rfl : args = #[v0, v1] := by cases args; simp_all
  obtain ⟨rfl, rfl⟩ := trodVars_none hV
  have hsz : ∀ m ∈ d0.weights Try.prog 24, m ≤ reachBytes := fun m hm => by
    have h2 : (DataW.weightsEach Try.prog (24 :: 25 :: Rows.partsSplitSpec.plain.varTypes Try.prog) (d0 :: d1 :: [])).all (· ≤ reachBytes) = true := by
      have h3 := hsz0
      rw [Try.params4] at h3
      exact h3
    rw [DataW.weightsEach, List.all_append, Bool.and_eq_true] at h2
    exact of_decide_eq_true (List.all_eq_true.1 h2.1 m hm)
  obtain ⟨N, AL, cL, L, rfl, hL, hcL, h44⟩ := open_theoryW (hval 0 24 v0 rfl rfl) h0 hsz
  obtain ⟨A, c, l, rfl, hl, hc, hnil⟩ := open_list (hval 1 25 v1 rfl rfl) h1
  have lt0 : ∀ x ∈ p0, x.block < W.heap.size := by obtain ⟨m, hm⟩ := h0; exact DataW.trod_lt m _ _ _ hm
  have lt1 : ∀ x ∈ p1, x.block < W.heap.size := by obtain ⟨m, hm⟩ := h1; exact DataW.trod_lt m _ _ _ hm
  clear hA0 hval0 hsz0 hsz
  refine (all_calls hL hcL hl hc hnil h44).mono fun e W' ⟨he, bel⟩ => ?_
  subst he
  exact ⟨_, rfl, _, _, _, [], _, [], hW', trodAll_mk1 (shut_bool Try.underlying4 _), (trodAll_cons_mk (Below.trod laidOut (by kernel_rfl) (of_decide_eq_true (by kernel_rfl)) h0 bel lt0) (trodAll_cons_mk (Below.trod laidOut (by kernel_rfl) (of_decide_eq_true (by kernel_rfl)) h1 bel lt1) trodAll_mk0)), rfl, bel.frame _, fun h => by cases h⟩
theorem over : Rows.partsSplitRow.holds Try.pinned (OpenSpec.ofChange Rows.partsSplitSpec) :=
  OpenClaim.holds_of_wide 4 Try.f4 rfl rfl rfl rfl rfl rfl rfl ⟨rfl, rfl, rfl, rfl, rfl⟩ rfl rfl rfl rfl rfl (by kernel_rfl) Try.func4 (by kernel_rfl)
    (of_decide_eq_true (by kernel_rfl)) (by unfold Func.isWrapper; first | (rw [if_pos (by decide +kernel)]; kernel_rfl) | (rw [if_neg (by decide +kernel)]; exact ⟨rfl, rfl⟩))
    (fun os started H enc _ => lifted os started H enc)
theorem proved : Rows.PartsSplitSaid := over
end Go.Proofs.Ytbnjbjcokkcfcaa.partsSplit
namespace Go.Proofs.Ytbnjbjcokkcfcaa
/-- The row, under a short name, for the claim. -/
theorem partsSplit_holds : Rows.PartsSplitSaid := partsSplit.proved
end Go.Proofs.Ytbnjbjcokkcfcaa
#print axioms Go.Proofs.Ytbnjbjcokkcfcaa.partsSplit_holds
