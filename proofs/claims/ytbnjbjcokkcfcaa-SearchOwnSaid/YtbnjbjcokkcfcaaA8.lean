/- Sets of variables: the walks of place and With. -/
import Derived.Test.YtbnjbjcokkcfcaaA0
import Derived.Test.YtbnjbjcokkcfcaaPSearchOwnx2
namespace Go.Proofs.Ytbnjbjcokkcfcaa.Sol
open Go.RowKit Go.Proofs.YtbnjbjcokkcfcaaW.PrintWords Go.Proofs.YtbnjbjcokkcfcaaW.PrintLast Go.Proofs.YtbnjbjcokkcfcaaW.PrintMore Go.Proofs.Ytbnjbjcokkcfcaa.PSearchOwn
set_option linter.unusedVariables false
set_option linter.unusedSimpArgs false

theorem place_calls (v : Nat) (h1 : 1 ≤ v) (h2 : v ≤ 128) (W : World) :
    Calls Try.prog 71 #[.int .i64 (v : Int)] W fun e w' => e = .returned (.tuple #[.int .i64 (((v - 1) / 64 : Nat) : Int), .int .u64 ((2 ^ ((v - 1) % 64) : Nat) : Int), .bool true]) ∧ Drawn0 W w' := by
  refine (vars_place.calls (v : Int) _ _ true W ?_)
  unfold vars_place.f
  rw [if_neg (by omega), if_neg (by omega)]
  have e1 : wrap64 ((v : Int) - 1) = ((v - 1 : Nat) : Int) := by unfold wrap64; omega
  rw [e1]
  have e2 : Int.tmod (((v - 1 : Nat) : Int)) 64 = (((v - 1) % 64 : Nat) : Int) := by rw [Int.tmod_eq_emod_of_nonneg (by omega)]; omega
  have e3 : Int.tdiv (((v - 1 : Nat) : Int)) 64 = (((v - 1) / 64 : Nat) : Int) := by rw [Int.tdiv_eq_ediv_of_nonneg (by omega)]; omega
  rw [e2, e3]
  have e4 : IntKind.u64.wrap ((((v - 1) % 64 : Nat) : Int)) = (((v - 1) % 64 : Nat) : Int) := by simp [IntKind.wrap, IntKind.bits, IntKind.signed]; omega
  rw [e4, if_pos (by omega)]
  have e5 : wrap64 ((((v - 1) / 64 : Nat) : Int)) = (((v - 1) / 64 : Nat) : Int) := by unfold wrap64; omega
  rw [e5]
  have e6 : shl .u64 1 ((((v - 1) % 64 : Nat) : Int)) = ((2 ^ ((v - 1) % 64) : Nat) : Int) := by
    have h64 : (v - 1) % 64 < 64 := Nat.mod_lt _ (by decide)
    generalize (v - 1) % 64 = k at h64
    unfold shl
    have : min (k : Int).toNat IntKind.u64.bits = k := by simp [IntKind.bits]; omega
    rw [this]
    have h3 : (2 : Nat) ^ k < 2 ^ 64 := Nat.pow_lt_pow_right (by decide) h64
    have h4 : (1 * 2 ^ k : Int) = ((2 ^ k : Nat) : Int) := by simp
    rw [h4]
    generalize (2 ^ k : Nat) = p at h3
    simp only [IntKind.wrap, IntKind.bits, IntKind.signed]
    simp
    omega
  rw [e6]

/-- A set with one more variable. -/
def withS (s : Nat × Nat) (v : Nat) : Nat × Nat := if v ≤ 64 then (s.1 ||| 2 ^ (v - 1), s.2) else (s.1, s.2 ||| 2 ^ (v - 65))
abbrev setV2 (s : Nat × Nat) : Value := .agg #[.int .u64 (s.1 : Int), .int .u64 (s.2 : Int)]

theorem wraps_u64 (n : Int) (h0 : 0 ≤ n) (h1 : n < 2 ^ 64) : IntKind.u64.wrap n = n := by simp [IntKind.wrap, IntKind.bits, IntKind.signed]; omega
theorem or_u64 (a b : Nat) (ha : a < 2 ^ 64) (hb : b < 2 ^ 64) : bits .or .u64 (a : Int) (b : Int) = ((a ||| b : Nat) : Int) := (bits_nat .u64 64 (by decide) wraps_u64 a b ha hb).2
theorem and_u64 (a b : Nat) (ha : a < 2 ^ 64) (hb : b < 2 ^ 64) : bits .and .u64 (a : Int) (b : Int) = ((a &&& b : Nat) : Int) := (bits_nat .u64 64 (by decide) wraps_u64 a b ha hb).1
theorem size34 : (Try.prog.info? 34).map (·.size) = some 2 := by kernel_rfl

set_option maxHeartbeats 1000000 in
theorem with_calls (s : Nat × Nat) (v : Nat) (h1 : 1 ≤ v) (h2 : v ≤ 128) (W : World) (ha : s.1 < 2 ^ 64) (hb : s.2 < 2 ^ 64) :
    Calls Try.prog 45 #[setV2 s, .int .i64 (v : Int)] W fun e w' => e = .returned (setV2 (withS s v)) ∧ Below W.heap.size W w' := by
  obtain ⟨a, b⟩ := s
  have HP := Aside0.mk (fun W => place_calls v h1 h2 W)
  by_cases h : v ≤ 64
  · have e1 : (v - 1) / 64 = 0 := by omega
    have e2 : (v - 1) % 64 = v - 1 := by omega
    rw [e1, e2] at HP
    have e3 : withS (a, b) v = (a ||| 2 ^ (v - 1), b) := by unfold withS; rw [if_pos h]
    rw [e3]
    have hp : (2 ^ (v - 1) : Nat) < 2 ^ 64 := Nat.pow_lt_pow_right (by decide) (by omega)
    clear e1 e2 e3
    generalize (2 ^ (v - 1) : Nat) = p at hp HP ⊢
    have HO := Aside0.mk (or_u64 a p ha hp)
    clear ha hb hp
    go_enter Try.func45, Try.ntmps45
    go_wp2_with (go_at_call 71; refine (HP.out _).mono ?_; rintro e w' ⟨rfl, ⟨n, rfl⟩⟩)
    rw [HO.out]
    refine bodyPost_ret (results_cell_row rfl _ _ (W.heap.size + 1) 34 #[.int .u64 ((a ||| p : Nat) : Int), .int .u64 (b : Int)] (0, 0) _ rfl ?_ Try.underlying34 rfl size34) rfl ⟨rfl, ?_⟩
    · have h0 : (W.alloc (.cells #[.int .u64 (a : Int), .int .u64 (b : Int)] 34)).heap.size = W.heap.size + 1 := by simp
      have hb1 := blk_new (W.alloc (.cells #[.int .u64 (a : Int), .int .u64 (b : Int)] 34)) (.cells #[.int .u64 0, .int .u64 0] 34)
      rw [h0] at hb1
      exact blk_put (blk_put (blk_far (p := ⟨W.heap.size, 0, none⟩) (blk_drewN hb1 n) (by show _ ≠ W.heap.size; omega) _) 0 _ rfl) 1 _ rfl
    · exact below_set (below_set (below_set (pw_below_drewN (below_alloc (below_alloc (Below.refl _ _) _) _) n) (Nat.le_refl _)) (Nat.le_succ _)) (Nat.le_succ _)
  · have e1 : (v - 1) / 64 = 1 := by omega
    have e2 : (v - 1) % 64 = v - 65 := by omega
    rw [e1, e2] at HP
    have e3 : withS (a, b) v = (a, b ||| 2 ^ (v - 65)) := by unfold withS; rw [if_neg h]
    rw [e3]
    have hp : (2 ^ (v - 65) : Nat) < 2 ^ 64 := Nat.pow_lt_pow_right (by decide) (by omega)
    clear e1 e2 e3
    generalize (2 ^ (v - 65) : Nat) = p at hp HP ⊢
    have HO := Aside0.mk (or_u64 b p hb hp)
    clear ha hb hp
    go_enter Try.func45, Try.ntmps45
    go_wp2_with (go_at_call 71; refine (HP.out _).mono ?_; rintro e w' ⟨rfl, ⟨n, rfl⟩⟩)
    rw [HO.out]
    refine bodyPost_ret (results_cell_row rfl _ _ (W.heap.size + 1) 34 #[.int .u64 (a : Int), .int .u64 ((b ||| p : Nat) : Int)] (0, 0) _ rfl ?_ Try.underlying34 rfl size34) rfl ⟨rfl, ?_⟩
    · have h0 : (W.alloc (.cells #[.int .u64 (a : Int), .int .u64 (b : Int)] 34)).heap.size = W.heap.size + 1 := by simp
      have hb1 := blk_new (W.alloc (.cells #[.int .u64 (a : Int), .int .u64 (b : Int)] 34)) (.cells #[.int .u64 0, .int .u64 0] 34)
      rw [h0] at hb1
      exact blk_put (blk_put (blk_far (p := ⟨W.heap.size, 1, none⟩) (blk_drewN hb1 n) (by show _ ≠ W.heap.size; omega) _) 0 _ rfl) 1 _ rfl
    · exact below_set (below_set (below_set (pw_below_drewN (below_alloc (below_alloc (Below.refl _ _) _) _) n) (Nat.le_refl _)) (Nat.le_succ _)) (Nat.le_succ _)
end Go.Proofs.Ytbnjbjcokkcfcaa.Sol
