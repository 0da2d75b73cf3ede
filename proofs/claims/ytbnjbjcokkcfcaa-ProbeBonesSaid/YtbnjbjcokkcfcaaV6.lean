/- Links of literals, Probe, opposed, Backbone, walked. -/
import Derived.Test.YtbnjbjcokkcfcaaV5
namespace Go.Proofs.Ytbnjbjcokkcfcaa.Sol
open Go.RowKit Go.Proofs.YtbnjbjcokkcfcaaW.PrintWords Go.Proofs.YtbnjbjcokkcfcaaW.PrintLast Go.Proofs.YtbnjbjcokkcfcaaW.PrintMore Go.Proofs.Ytbnjbjcokkcfcaa.PSearchOwn
set_option linter.unusedVariables false
set_option linter.unusedSimpArgs false
/-- The links: a block with the number of variables and the row of representatives. -/
structure LX (g gu : Nat) (n : Int) (up : List Int) (c : Nat) (w : World) : Prop where
  bx : w.heap[g]? = some (.cells #[.int .i64 n, .slice (some ⟨gu, 0, none⟩) up.length c] 100 (0, 0))
  ru : w.heap[gu]? = some (.cells (nums .i64 up).toArray 3 (0, 0))
theorem LX.cell {g gu : Nat} {n : Int} {up : List Int} {c : Nat} {w : World} (h : LX g gu n up c w) {i : Nat} (hi : i < up.length) : w.cell? ⟨gu, i, none⟩ = some (.int .i64 (up.getD i 0)) := by
  rw [blk_cell h.ru i]
  simp [nums, List.getD_eq_getElem?_getD, hi]
theorem LX.below {g gu : Nat} {n : Int} {up : List Int} {c : Nat} {w w2 : World} (h : LX g gu n up c w) (hb : Below w.heap.size w w2) : LX g gu n up c w2 := ⟨blk_below h.bx hb, blk_below h.ru hb⟩
def rootU (up : List Int) : Nat → Int → Option Int
  | 0, _ => none
  | k + 1, i => if 0 ≤ i ∧ i < up.length then (if up.getD i.toNat 0 = i then some i else rootU up k (up.getD i.toNat 0)) else none
set_option maxHeartbeats 2000000 in
theorem root_calls {g gu : Nat} {n : Int} {up : List Int} {c : Nat} {W : World} (hx : LX g gu n up c W) (k : Nat) (i : Int) {r : Int} (h : rootU up k i = some r) (hup : up.length ≤ 1000) :
    Calls Try.prog 96 #[.pointer (some ⟨g, 0, none⟩), .int .i64 i] W fun e w' => e = .returned (.int .i64 r) ∧ Below W.heap.size W w' := by
  have HX := Aside0.mk hx
  have HR := Aside0.mk h
  clear hx h
  go_enter Try.func96, Try.ntmps96
  go_wp2
  go_loopg [1] k (fun gk v1 w' => ∃ (j : Int), v1 = .int .i64 j ∧ Aside0 (rootU up gk j = some r) ∧ Aside0 (Below W.heap.size W w'))
  case atStart => exact ⟨i, rfl, HR, ⟨Below.refl _ _⟩⟩
  case round =>
    clear HR
    obtain ⟨j, rfl, HR, HB⟩ := hrel
    cases gk with
    | zero => exact absurd HR.out (by rw [rootU]; intro h; cases h)
    | succ gk =>
      have hX := HX.out.below HB.out
      have hj : 0 ≤ j ∧ j < up.length := by
        have h1 := HR.out
        rw [rootU] at h1
        split at h1
        · assumption
        · cases h1
      obtain ⟨m, rfl⟩ : ∃ m : Nat, j = (m : Int) := ⟨j.toNat, by omega⟩
      have hml : m < up.length := by omega
      have hmI : (m : Int) < (up.length : Int) := by omega
      have hs1 : wr.cell? ⟨g, 1, none⟩ = some (.slice (some ⟨gu, 0, none⟩) up.length c) := (blk_cell hX.bx 1).trans rfl
      have hc := hX.cell hml
      have HRn := Aside0.mk (show (if up.getD m 0 = (m : Int) then some (m : Int) else rootU up gk (up.getD m 0)) = some r by
        have h1 := HR.out
        rw [rootU, if_pos hj, Int.toNat_natCast] at h1
        exact h1)
      clear hX HR hml
      generalize up.getD m 0 = y at hc HRn
      by_cases hy : y = (m : Int)
      · subst hy
        have HRr := Aside0.mk (show (m : Int) = r by have h1 := HRn.out; rw [if_pos rfl] at h1; injection h1)
        go_wp2
        go_ret
        exact ⟨by rw [← HRr.out]; rfl, HB.out⟩
      · have hyb : (y != (m : Int)) = true := by simpa using hy
        have HRy := Aside0.mk (show rootU up gk y = some r by have h1 := HRn.out; rwa [if_neg hy] at h1)
        clear HRn
        go_wp2
        go_roundg gk
        case measure => omega
        case rel => exact ⟨y, rfl, HRy, HB⟩
end Go.Proofs.Ytbnjbjcokkcfcaa.Sol
namespace Go.Proofs.Ytbnjbjcokkcfcaa.Sol
open Go.RowKit Go.Proofs.YtbnjbjcokkcfcaaW.PrintWords Go.Proofs.YtbnjbjcokkcfcaaW.PrintLast Go.Proofs.YtbnjbjcokkcfcaaW.PrintMore Go.Proofs.Ytbnjbjcokkcfcaa.PSearchOwn
set_option linter.unusedVariables false
set_option linter.unusedSimpArgs false
def leastU (up : List Int) (k : Nat) (n v tg : Int) : Nat → Int → Option Int
  | 0, _ => some v
  | d + 1, w => match rootU up k (w + n), rootU up k (-w + n) with
    | some a, some b => if tg = a then some w else if tg = b then some (-w) else leastU up k n v tg d (w + 1)
    | _, _ => none
def leastF (up : List Int) (k : Nat) (n : Int) (v : Nat) : Option Int :=
  match rootU up k ((v : Int) + n) with
  | none => none
  | some tg => leastU up k n v tg (v - 1) 1
set_option maxHeartbeats 2000000 in
theorem leastL_calls {g gu : Nat} {n : Int} {up : List Int} {c : Nat} {W : World} (hx : LX g gu n up c W) (k v : Nat) {r : Int} (h : leastF up k n v = some r) (hup : up.length ≤ 1000) (hn0 : 0 ≤ n) (hn : n ≤ 128) (hv1 : 1 ≤ v) (hv : v ≤ 128) :
    Calls Try.prog 83 #[.pointer (some ⟨g, 0, none⟩), .int .i64 (v : Int)] W fun e w' => e = .returned (.int .i64 r) ∧ Below W.heap.size W w' := by
  have HX := Aside0.mk hx
  obtain ⟨tg, ht, hl⟩ : ∃ tg, rootU up k ((v : Int) + n) = some tg ∧ leastU up k n v tg (v - 1) 1 = some r := by
    unfold leastF at h
    split at h
    · cases h
    · rename_i tg ht; exact ⟨tg, ht, h⟩
  have HL := Aside0.mk hl
  have HT := Aside0.mk (root_calls hx k _ ht hup)
  have HRt := Aside0.mk (fun (w : World) (hb : Below W.heap.size W w) (i a : Int) (hi : rootU up k i = some a) => root_calls (hx.below hb) k i hi hup)
  have hs0 : W.cell? ⟨g, 0, none⟩ = some (.int .i64 n) := (blk_cell hx.bx 0).trans rfl
  clear hx h ht hl
  go_enter Try.func83, Try.ntmps83
  go_wp2_with (go_at_call 96; refine (HT.out).mono ?_; rintro e w2 ⟨rfl, hb2⟩; have HB2 := Aside0.mk hb2; clear hb2)
  clear hs0
  go_loopg [6] (v - 1) (fun gk v6 w' => ∃ (j : Nat), j + gk = v - 1 ∧ v6 = .int .i64 ((j : Int) + 1) ∧ Aside0 (leastU up k n v tg gk ((j : Int) + 1) = some r) ∧ Aside0 (Below W.heap.size W w'))
  case atStart => exact ⟨0, by omega, by go_num, HL, HB2⟩
  case round =>
    clear HL HB2 HT
    obtain ⟨j, hjg, rfl, HL, HB⟩ := hrel
    cases gk with
    | zero =>
      have hi : ¬ ((j : Int) + 1 < (v : Int)) := by omega
      have HRr := Aside0.mk (show (v : Int) = r by have h1 := HL.out; rw [leastU] at h1; injection h1)
      go_wp2
      go_ret
      exact ⟨by rw [← HRr.out]; rfl, HB.out⟩
    | succ gk =>
      have hi : ((j : Int) + 1 < (v : Int)) := by omega
      obtain ⟨a, b, ha, hb, hrest⟩ : ∃ a b, rootU up k (((j : Int) + 1) + n) = some a ∧ rootU up k (-((j : Int) + 1) + n) = some b ∧ (if tg = a then some ((j : Int) + 1) else if tg = b then some (-((j : Int) + 1)) else leastU up k n v tg gk (((j : Int) + 1) + 1)) = some r := by
        have h1 := HL.out
        rw [leastU] at h1
        split at h1
        · rename_i a b ha hb; exact ⟨a, b, ha, hb, h1⟩
        · cases h1
      have hX := HX.out.below HB.out
      have hs0 : wr.cell? ⟨g, 0, none⟩ = some (.int .i64 n) := (blk_cell hX.bx 0).trans rfl
      have HA := Aside0.mk (HRt.out wr HB.out _ a ha)
      have HBf := Aside0.mk (fun (w : World) (h2 : Below W.heap.size W w) => HRt.out w h2 _ b hb)
      have HRs := Aside0.mk hrest
      clear ha hb hrest hX HL
      by_cases hta : tg = a
      · subst hta
        have HRr := Aside0.mk (show (j : Int) + 1 = r by have h1 := HRs.out; rw [if_pos rfl] at h1; injection h1)
        go_wp2_with (go_at_call 96; refine (HA.out).mono ?_; rintro e w2 ⟨rfl, hb2⟩; have HB2 := Aside0.mk (below_step HB.out hb2); clear hb2)
        go_ret
        exact ⟨by rw [← HRr.out]; rfl, HB2.out⟩
      · have htab : (tg == a) = false := by simpa using hta
        by_cases htb : tg = b
        · subst htb
          have HRr := Aside0.mk (show -((j : Int) + 1) = r by have h1 := HRs.out; rw [if_neg hta, if_pos rfl] at h1; injection h1)
          go_upto_region 8 with (go_at_call 96; refine (HA.out).mono ?_; rintro e w2 ⟨rfl, hb2⟩; have HB2 := Aside0.mk (below_step HB.out hb2); have hs1 : w2.cell? ⟨g, 0, none⟩ = some (.int .i64 n) := (blk_cell (HX.out.below HB2.out).bx 0).trans rfl; clear hb2)
          go_wp2_with (go_at_call 96; refine (HBf.out _ HB2.out).mono ?_; rintro e w3 ⟨rfl, hb3⟩; have HB3 := Aside0.mk (below_step HB2.out hb3); clear hb3)
          go_ret
          exact ⟨by rw [← HRr.out]; rfl, HB3.out⟩
        · have htbb : (tg == b) = false := by simpa using htb
          have HRn := Aside0.mk (show leastU up k n v tg gk (((j : Int) + 1) + 1) = some r by have h1 := HRs.out; rwa [if_neg hta, if_neg htb] at h1)
          go_upto_region 8 with (go_at_call 96; refine (HA.out).mono ?_; rintro e w2 ⟨rfl, hb2⟩; have HB2 := Aside0.mk (below_step HB.out hb2); have hs1 : w2.cell? ⟨g, 0, none⟩ = some (.int .i64 n) := (blk_cell (HX.out.below HB2.out).bx 0).trans rfl; clear hb2)
          go_wp2_with (go_at_call 96; refine (HBf.out _ HB2.out).mono ?_; rintro e w3 ⟨rfl, hb3⟩; have HB3 := Aside0.mk (below_step HB2.out hb3); clear hb3)
          go_roundg gk
          case measure => omega
          case rel => exact ⟨j + 1, by omega, by go_num, HRn, HB3⟩
end Go.Proofs.Ytbnjbjcokkcfcaa.Sol
namespace Go.Proofs.Ytbnjbjcokkcfcaa.Sol
open Go.RowKit Go.Proofs.YtbnjbjcokkcfcaaW.PrintWords Go.Proofs.YtbnjbjcokkcfcaaW.PrintLast Go.Proofs.YtbnjbjcokkcfcaaW.PrintMore Go.Proofs.Ytbnjbjcokkcfcaa.PSearchOwn
set_option linter.unusedVariables false
set_option linter.unusedSimpArgs false
def q95r0T : Bool × List (List Nat × List Nat) := (true, [([], []), ([0], [0]), ([1], [1]), ([2], [2]), ([], []), ([], []), ([], []), ([6], [6]), ([7], [7]), ([8], [8]), ([5, 9], [5, 9]), ([4, 10], [4, 10]), ([], []), ([], []), ([], []), ([14], [14]), ([15], [15]), ([16], [16]), ([13, 17], [13, 17]), ([12, 18, 11], [12, 18]), ([3, 11, 0, 1, 2, 3, 4, 5, 6, 7, 8, 9, 10, 11, 12, 13, 14, 15, 16, 17, 18, 19], [3, 11]), ([20, 19, 19, 0, 1, 2, 3, 4, 5, 6, 7, 8, 9, 10, 11, 12, 13, 14, 15, 16, 17, 18, 19], [19, 20])])
def q95r0B : List Nat := [0, 1, 3, 7, 0, 0, 0, 64, 192, 448, 992, 2032, 0, 0, 0, 16384, 49152, 114688, 253952, 524272, 1048575, 2097151]
theorem q95r0tab : rtab .any (opsOf Try.f95 0) = q95r0T := by kernel_rfl
theorem q95r0bits : waitsOk q95r0T.2 q95r0B = true := by kernel_rfl
theorem LX.drew {g gu : Nat} {n : Int} {up : List Int} {c : Nat} {w : World} (h : LX g gu n up c w) : LX g gu n up c w.drew := ⟨h.bx, h.ru⟩
theorem LX.put {g gu : Nat} {n : Int} {up : List Int} {c : Nat} {w : World} (h : LX g gu n up c w) (i : Nat) (j : Int) : LX g gu n (up.set i j) c (w.setCell ⟨gu, i, none⟩ (.int .i64 j)) :=
  ⟨by rw [List.length_set]; exact blk_far h.bx (blk_ne h.bx h.ru (by decide)) _, blk_put h.ru i _ (by simp [nums, List.map_set])⟩
set_option maxHeartbeats 4000000 in
set_option maxRecDepth 100000 in
theorem joinL_calls {W w : World} {g gu b2 : Nat} {n : Int} {up : List Int} {c : Nat} (hx : LX g gu n up c w) (hb2 : w.heap[b2]? = some (.cells #[.pointer (some ⟨g, 0, none⟩)] 98 (0, 0))) (hb : Below W.heap.size W w) (hgu : W.heap.size ≤ gu) (k : Nat) (a b : Int) {i : Nat} {j : Int}
    (hi : rootU up k (wrap64 (a + n)) = some (i : Int)) (hj : rootU up k (wrap64 (b + n)) = some j) (hil : i < up.length) (hup : up.length ≤ 1000) :
    Calls Try.prog 95 #[.int .i64 a, .int .i64 b, .pointer (some ⟨b2, 0, none⟩)] w fun e w' => e = .returned (.tuple #[]) ∧ LX g gu n (up.set i j) c w' ∧ w'.heap[b2]? = some (.cells #[.pointer (some ⟨g, 0, none⟩)] 98 (0, 0)) ∧ Below W.heap.size W w' ∧ Kept w w' (fun x => x = gu) := by
  have HK := Aside0.mk (Kept.refl w (fun x => x = gu))
  have HX := Aside0.mk hx
  have HB2 := Aside0.mk hb2
  have HB := Aside0.mk hb
  have HR1 := Aside0.mk (fun (w : World) (h : LX g gu n up c w) => root_calls h k _ hi hup)
  have HR2 := Aside0.mk (fun (w : World) (h : LX g gu n up c w) => root_calls h k _ hj hup)
  have HGu := Aside0.mk hgu
  have hiI : (i : Int) < (up.length : Int) := by omega
  clear hx hb2 hb hi hj hgu
  go_enter Try.func95, Try.ntmps95
  go_wp2_with fail
  try go_step3
  refine start_ (n := 22) (S := fun w' => w'.cell? ⟨b2, 0, none⟩ = some (.pointer (some ⟨g, 0, none⟩)) ∧ w'.cell? ⟨g, 0, none⟩ = some (.int .i64 n) ∧ w'.cell? ⟨g, 1, none⟩ = some (.slice (some ⟨gu, 0, none⟩) up.length c)) (ds := [21]) #[false, false, false, false, false, false, false, false, false, false, false, false, false, false, false, false, false, false, false, false, false, false] (by kernel_rfl) rfl rfl (⟨(blk_cell HB2.out 0).trans rfl, (blk_cell HX.out.bx 0).trans rfl, (blk_cell HX.out.bx 1).trans rfl⟩) (fun hHeld => ?_)
  refine with_tabW q95r0tab q95r0bits (fun HT_ HW_ => ?_)
  replace HX := Aside0.mk HX.out.drew
  replace HB2 := Aside0.mk (blk_drew HB2.out)
  replace HB := Aside0.mk (below_drew HB.out)
  replace HK := Aside0.mk HK.out.drew
  generalize w.drew = w1 at HX HB2 HB HK hHeld ⊢
  refine take_ (i := 0) (N := some 5) (v := ?_) (a' := ?_) #[true, false, false, false, false, false, false, false, false, false, false, false, false, false, false, false, false, false, false, false, false, false] rfl rfl (take_ofW HT_.out HW_.out (by kernel_rfl)) (fun _ _ _ h => h) (Or.inl ⟨by rfl, ?_⟩) hHeld ?_ ?_
  rotate_left
  · rintro w' ⟨s0, s1, s2⟩
    go_simp
    with_reducible rfl
  rotate_left
  · simp only [Act.put, List.setIfInBounds_toArray, List.set_cons_zero, List.set_cons_succ, i64_w, i32_w]
    rfl
  refine pure_ (i := 1) (N := some 6) (v := ?_) (a' := ?_) #[true, true, false, false, false, false, false, false, false, false, false, false, false, false, false, false, false, false, false, false, false, false] rfl rfl (any_of HT_.out (by kernel_rfl)) (fun _ _ _ h => h) (Or.inl ⟨by rfl, ?_⟩) ?_ ?_
  rotate_left
  · intro w'
    go_simp
    with_reducible rfl
  rotate_left
  · simp only [Act.put, List.setIfInBounds_toArray, List.set_cons_zero, List.set_cons_succ, i64_w, i32_w]
    rfl
  refine pure_ (i := 2) (N := some 7) (v := ?_) (a' := ?_) #[true, true, true, false, false, false, false, false, false, false, false, false, false, false, false, false, false, false, false, false, false, false] rfl rfl (any_of HT_.out (by kernel_rfl)) (fun _ _ _ h => h) (Or.inl ⟨by rfl, ?_⟩) ?_ ?_
  rotate_left
  · intro w'
    go_simp
    with_reducible rfl
  rotate_left
  · simp only [Act.put, List.setIfInBounds_toArray, List.set_cons_zero, List.set_cons_succ, i64_w, i32_w]
    rfl
  refine take_ (i := 3) (N := some 8) (v := ?_) (a' := ?_) #[true, true, true, true, false, false, false, false, false, false, false, false, false, false, false, false, false, false, false, false, false, false] rfl rfl (take_ofW HT_.out HW_.out (by kernel_rfl)) (fun _ _ _ h => h) (Or.inl ⟨by rfl, ?_⟩) hHeld ?_ ?_
  rotate_left
  · rintro w' ⟨s0, s1, s2⟩
    go_simp
    with_reducible rfl
  rotate_left
  · simp only [Act.put, List.setIfInBounds_toArray, List.set_cons_zero, List.set_cons_succ, i64_w, i32_w]
    rfl
  refine take_ (i := 4) (N := some 9) (v := ?_) (a' := ?_) #[true, true, true, true, true, false, false, false, false, false, false, false, false, false, false, false, false, false, false, false, false, false] rfl rfl (take_ofW HT_.out HW_.out (by kernel_rfl)) (fun _ _ _ h => h) (Or.inl ⟨by rfl, ?_⟩) hHeld ?_ ?_
  rotate_left
  · rintro w' ⟨s0, s1, s2⟩
    go_simp
    with_reducible rfl
  rotate_left
  · simp only [Act.put, List.setIfInBounds_toArray, List.set_cons_zero, List.set_cons_succ, i64_w, i32_w]
    rfl
  refine pure_ (i := 5) (N := some 10) (v := ?_) (a' := ?_) #[true, true, true, true, true, true, false, false, false, false, false, false, false, false, false, false, false, false, false, false, false, false] rfl rfl (any_of HT_.out (by kernel_rfl)) (fun _ _ _ h => h) (Or.inl ⟨by rfl, ?_⟩) ?_ ?_
  rotate_left
  · intro w'
    go_simp
    with_reducible rfl
  rotate_left
  · simp only [Act.put, List.setIfInBounds_toArray, List.set_cons_zero, List.set_cons_succ, i64_w, i32_w]
    rfl
  refine take_ (i := 6) (N := some 11) (v := ?_) (a' := ?_) #[true, true, true, true, true, true, true, false, false, false, false, false, false, false, false, false, false, false, false, false, false, false] rfl rfl (take_ofW HT_.out HW_.out (by kernel_rfl)) (fun _ _ _ h => h) (Or.inl ⟨by rfl, ?_⟩) hHeld ?_ ?_
  rotate_left
  · rintro w' ⟨s0, s1, s2⟩
    go_simp
    with_reducible rfl
  rotate_left
  · simp only [Act.put, List.setIfInBounds_toArray, List.set_cons_zero, List.set_cons_succ, i64_w, i32_w]
    rfl
  refine pure_ (i := 7) (N := some 12) (v := ?_) (a' := ?_) #[true, true, true, true, true, true, true, true, false, false, false, false, false, false, false, false, false, false, false, false, false, false] rfl rfl (any_of HT_.out (by kernel_rfl)) (fun _ _ _ h => h) (Or.inl ⟨by rfl, ?_⟩) ?_ ?_
  rotate_left
  · intro w'
    go_simp
    with_reducible rfl
  rotate_left
  · simp only [Act.put, List.setIfInBounds_toArray, List.set_cons_zero, List.set_cons_succ, i64_w, i32_w]
    rfl
  refine pure_ (i := 8) (N := some 13) (v := ?_) (a' := ?_) #[true, true, true, true, true, true, true, true, true, false, false, false, false, false, false, false, false, false, false, false, false, false] rfl rfl (any_of HT_.out (by kernel_rfl)) (fun _ _ _ h => h) (Or.inl ⟨by rfl, ?_⟩) ?_ ?_
  rotate_left
  · intro w'
    go_simp
    with_reducible rfl
  rotate_left
  · simp only [Act.put, List.setIfInBounds_toArray, List.set_cons_zero, List.set_cons_succ, i64_w, i32_w]
    rfl
  refine take_ (i := 9) (N := some 14) (v := ?_) (a' := ?_) #[true, true, true, true, true, true, true, true, true, true, false, false, false, false, false, false, false, false, false, false, false, false] rfl rfl (take_ofW HT_.out HW_.out (by kernel_rfl)) (fun _ _ _ h => h) (Or.inl ⟨by rfl, ?_⟩) hHeld ?_ ?_
  rotate_left
  · rintro w' ⟨s0, s1, s2⟩
    go_simp
    with_reducible rfl
  rotate_left
  · simp only [Act.put, List.setIfInBounds_toArray, List.set_cons_zero, List.set_cons_succ, i64_w, i32_w]
    rfl
  refine pure_ (i := 10) (N := some 15) (v := ?_) (a' := ?_) #[true, true, true, true, true, true, true, true, true, true, true, false, false, false, false, false, false, false, false, false, false, false] rfl rfl (any_of HT_.out (by kernel_rfl)) (fun _ _ _ h => h) (Or.inl ⟨by rfl, ?_⟩) ?_ ?_
  rotate_left
  · intro w'
    go_simp
    with_reducible rfl
  rotate_left
  · simp only [Act.put, List.setIfInBounds_toArray, List.set_cons_zero, List.set_cons_succ, i64_w, i32_w]
    rfl
  refine take_ (i := 12) (N := some 17) (v := ?_) (a' := ?_) #[true, true, true, true, true, true, true, true, true, true, true, false, true, false, false, false, false, false, false, false, false, false] rfl rfl (take_ofW HT_.out HW_.out (by kernel_rfl)) (fun _ _ _ h => h) (Or.inl ⟨by rfl, ?_⟩) hHeld ?_ ?_
  rotate_left
  · rintro w' ⟨s0, s1, s2⟩
    go_simp
    with_reducible rfl
  rotate_left
  · simp only [Act.put, List.setIfInBounds_toArray, List.set_cons_zero, List.set_cons_succ, i64_w, i32_w]
    rfl
  refine pure_ (i := 13) (N := some 18) (v := ?_) (a' := ?_) #[true, true, true, true, true, true, true, true, true, true, true, false, true, true, false, false, false, false, false, false, false, false] rfl rfl (any_of HT_.out (by kernel_rfl)) (fun _ _ _ h => h) (Or.inl ⟨by rfl, ?_⟩) ?_ ?_
  rotate_left
  · intro w'
    go_simp
    with_reducible rfl
  rotate_left
  · simp only [Act.put, List.setIfInBounds_toArray, List.set_cons_zero, List.set_cons_succ, i64_w, i32_w]
    rfl
  refine take_ (i := 14) (N := some 19) (v := ?_) (a' := ?_) #[true, true, true, true, true, true, true, true, true, true, true, false, true, true, true, false, false, false, false, false, false, false] rfl rfl (take_ofW HT_.out HW_.out (by kernel_rfl)) (fun _ _ _ h => h) (Or.inl ⟨by rfl, ?_⟩) hHeld ?_ ?_
  rotate_left
  · rintro w' ⟨s0, s1, s2⟩
    go_simp
    with_reducible rfl
  rotate_left
  · simp only [Act.put, List.setIfInBounds_toArray, List.set_cons_zero, List.set_cons_succ, i64_w, i32_w]
    rfl
  refine pure_ (i := 15) (N := some 20) (v := ?_) (a' := ?_) #[true, true, true, true, true, true, true, true, true, true, true, false, true, true, true, true, false, false, false, false, false, false] rfl rfl (any_of HT_.out (by kernel_rfl)) (fun _ _ _ h => h) (Or.inl ⟨by rfl, ?_⟩) ?_ ?_
  rotate_left
  · intro w'
    go_simp
    with_reducible rfl
  rotate_left
  · simp only [Act.put, List.setIfInBounds_toArray, List.set_cons_zero, List.set_cons_succ, i64_w, i32_w]
    rfl
  refine pure_ (i := 16) (N := some 21) (v := ?_) (a' := ?_) #[true, true, true, true, true, true, true, true, true, true, true, false, true, true, true, true, true, false, false, false, false, false] rfl rfl (any_of HT_.out (by kernel_rfl)) (fun _ _ _ h => h) (Or.inl ⟨by rfl, ?_⟩) ?_ ?_
  rotate_left
  · intro w'
    go_simp
    with_reducible rfl
  rotate_left
  · simp only [Act.put, List.setIfInBounds_toArray, List.set_cons_zero, List.set_cons_succ, i64_w, i32_w]
    rfl
  refine take_ (i := 17) (N := some 22) (v := ?_) (a' := ?_) #[true, true, true, true, true, true, true, true, true, true, true, false, true, true, true, true, true, true, false, false, false, false] rfl rfl (take_ofW HT_.out HW_.out (by kernel_rfl)) (fun _ _ _ h => h) (Or.inl ⟨by rfl, ?_⟩) hHeld ?_ ?_
  rotate_left
  · rintro w' ⟨s0, s1, s2⟩
    go_simp
    with_reducible rfl
  rotate_left
  · simp only [Act.put, List.setIfInBounds_toArray, List.set_cons_zero, List.set_cons_succ, i64_w, i32_w]
    rfl
  refine pure_ (i := 18) (N := some 23) (v := ?_) (a' := ?_) #[true, true, true, true, true, true, true, true, true, true, true, false, true, true, true, true, true, true, true, false, false, false] rfl rfl (any_of HT_.out (by kernel_rfl)) (fun _ _ _ h => h) (Or.inl ⟨by rfl, ?_⟩) ?_ ?_
  rotate_left
  · intro w'
    go_simp
    with_reducible rfl
  rotate_left
  · simp only [Act.put, List.setIfInBounds_toArray, List.set_cons_zero, List.set_cons_succ, i64_w, i32_w]
    rfl
  refine one_ (i := 11) (N := some 16) #[true, true, true, true, true, true, true, true, true, true, true, true, true, true, true, true, true, true, true, false, false, false] rfl rfl (one_of HT_.out (by kernel_rfl)) (by decide) (fun K hK => ?_)
  refine goes_ Try.func96 (by kernel_rfl) rfl #[.pointer (some ⟨g, 0, none⟩), .int .i64 (wrap64 (a + n))] (by rfl) rfl rfl (by simp only [List.map_toArray, List.map_cons, List.map_nil]; rfl) ?_
  refine (HR1.out _ HX.out).mono ?_
  rintro e_ w_ ⟨rfl, hb5⟩
  refine ⟨_, rfl, ?_⟩
  replace HX := Aside0.mk (HX.out.below hb5)
  replace HB2 := Aside0.mk (blk_below HB2.out hb5)
  replace HB := Aside0.mk (below_step HB.out hb5)
  replace HK := Aside0.mk (HK.out.below hb5)
  clear hb5
  refine hK.out _ _ (⟨(blk_cell HB2.out 0).trans rfl, (blk_cell HX.out.bx 0).trans rfl, (blk_cell HX.out.bx 1).trans rfl⟩) (fun hHeld => ?_)
  clear hK K
  refine norm_ (a' := ?_) ?_ ?_
  rotate_left
  · show Act.put _ (some 16) _ = _
    simp only [Act.put, List.setIfInBounds_toArray, List.set_cons_zero, List.set_cons_succ, i64_w, i32_w]
    rfl
  refine one_ (i := 19) (N := some 24) #[true, true, true, true, true, true, true, true, true, true, true, true, true, true, true, true, true, true, true, true, false, false] rfl rfl (one_of HT_.out (by kernel_rfl)) (by decide) (fun K hK => ?_)
  refine goes_ Try.func96 (by kernel_rfl) rfl #[.pointer (some ⟨g, 0, none⟩), .int .i64 (wrap64 (b + n))] (by rfl) rfl rfl (by simp only [List.map_toArray, List.map_cons, List.map_nil]; rfl) ?_
  refine (HR2.out _ HX.out).mono ?_
  rintro e_ w_ ⟨rfl, hb6⟩
  refine ⟨_, rfl, ?_⟩
  replace HX := Aside0.mk (HX.out.below hb6)
  replace HB2 := Aside0.mk (blk_below HB2.out hb6)
  replace HB := Aside0.mk (below_step HB.out hb6)
  replace HK := Aside0.mk (HK.out.below hb6)
  clear hb6
  refine hK.out _ _ (⟨(blk_cell HB2.out 0).trans rfl, (blk_cell HX.out.bx 0).trans rfl, (blk_cell HX.out.bx 1).trans rfl⟩) (fun hHeld => ?_)
  clear hK K
  refine norm_ (a' := ?_) ?_ ?_
  rotate_left
  · show Act.put _ (some 24) _ = _
    simp only [Act.put, List.setIfInBounds_toArray, List.set_cons_zero, List.set_cons_succ, i64_w, i32_w]
    rfl
  refine pure_ (i := 20) (N := some 25) (v := ?_) (a' := ?_) #[true, true, true, true, true, true, true, true, true, true, true, true, true, true, true, true, true, true, true, true, true, false] rfl rfl (any_of HT_.out (by kernel_rfl)) (fun _ _ _ h => h) (Or.inl ⟨by rfl, ?_⟩) ?_ ?_
  rotate_left
  · intro w'
    go_simp
    with_reducible rfl
  rotate_left
  · simp only [Act.put, List.setIfInBounds_toArray, List.set_cons_zero, List.set_cons_succ, i64_w, i32_w]
    rfl
  refine last_ (i := 21) (N := none) #[true, true, true, true, true, true, true, true, true, true, true, true, true, true, true, true, true, true, true, true, true, true] rfl rfl (one_of HT_.out (by kernel_rfl)) (by decide) (fun K hK => ?_)
  have hf8 := blk_frozen HX.out.ru i
  have hc8 := HX.out.cell hil
  refine skip_ (w1 := ?_) (by rfl) rfl ?_ ?_
  rotate_left
  · go_simp
    rfl
  refine hK.out _ _ ?_
  clear hK K
  refine done_ (done_of HT_.out (by kernel_rfl)) ?_
  go_wp2
  go_end0
  exact ⟨rfl, HX.out.put i j, blk_far (p := ⟨gu, i, none⟩) HB2.out (blk_ne HB2.out HX.out.ru (by decide)) _, below_set (g := gu) HB.out HGu.out, HK.out.setCell (Or.inl rfl) _⟩
end Go.Proofs.Ytbnjbjcokkcfcaa.Sol
namespace Go.Proofs.Ytbnjbjcokkcfcaa.Sol
open Go.RowKit Go.Proofs.YtbnjbjcokkcfcaaW.PrintWords Go.Proofs.YtbnjbjcokkcfcaaW.PrintLast Go.Proofs.YtbnjbjcokkcfcaaW.PrintMore Go.Proofs.Ytbnjbjcokkcfcaa.PSearchOwn
set_option linter.unusedVariables false
set_option linter.unusedSimpArgs false
def joinU (up : List Int) (k : Nat) (n a b : Int) : Option (List Int) :=
  match rootU up k (wrap64 (a + n)), rootU up k (wrap64 (b + n)) with
  | some i, some j => if 0 ≤ i ∧ i < up.length then some (up.set i.toNat j) else none
  | _, _ => none
def linkU (up : List Int) (k : Nat) (n a b : Int) : Option (List Int) :=
  match joinU up k n a b with
  | none => none
  | some u => joinU u k n (-a) (-b)
theorem joinU_len {up u : List Int} {k : Nat} {n a b : Int} (h : joinU up k n a b = some u) : u.length = up.length := by
  unfold joinU at h
  split at h
  · split at h
    · injection h with h; rw [← h, List.length_set]
    · cases h
  · cases h
theorem joinU_calls {W w : World} {g gu b2 : Nat} {n : Int} {up u : List Int} {c : Nat} (hx : LX g gu n up c w) (hb2 : w.heap[b2]? = some (.cells #[.pointer (some ⟨g, 0, none⟩)] 98 (0, 0))) (hb : Below W.heap.size W w) (hgu : W.heap.size ≤ gu) (k : Nat) (a b : Int)
    (h : joinU up k n a b = some u) (hup : up.length ≤ 1000) :
    Calls Try.prog 95 #[.int .i64 a, .int .i64 b, .pointer (some ⟨b2, 0, none⟩)] w fun e w' => e = .returned (.tuple #[]) ∧ LX g gu n u c w' ∧ w'.heap[b2]? = some (.cells #[.pointer (some ⟨g, 0, none⟩)] 98 (0, 0)) ∧ Below W.heap.size W w' ∧ Kept w w' (fun x => x = gu) := by
  unfold joinU at h
  split at h
  · rename_i i j hi hj
    split at h
    · rename_i hil
      injection h with h
      obtain ⟨m, rfl⟩ : ∃ m : Nat, i = (m : Int) := ⟨i.toNat, by omega⟩
      rw [Int.toNat_natCast] at h
      rw [← h]
      exact joinL_calls hx hb2 hb hgu k a b hi hj (by omega) hup
    · cases h
  · cases h
set_option maxHeartbeats 2000000 in
theorem link_calls {W w : World} {g gu : Nat} {n : Int} {up u : List Int} {c : Nat} (hx : LX g gu n up c w) (hb : Below W.heap.size W w) (hgu : W.heap.size ≤ gu) (k : Nat) (a b : Int) (ha : -1000 ≤ a ∧ a ≤ 1000) (hbb : -1000 ≤ b ∧ b ≤ 1000)
    (h : linkU up k n a b = some u) (hup : up.length ≤ 1000) :
    Calls Try.prog 82 #[.pointer (some ⟨g, 0, none⟩), .int .i64 a, .int .i64 b] w fun e w' => e = .returned (.tuple #[]) ∧ LX g gu n u c w' ∧ Below W.heap.size W w' ∧ Kept w w' (fun x => x = gu) := by
  obtain ⟨u1, h1, h2⟩ : ∃ u1, joinU up k n a b = some u1 ∧ joinU u1 k n (-a) (-b) = some u := by
    unfold linkU at h
    split at h
    · cases h
    · rename_i u1 h1; exact ⟨u1, h1, h⟩
  have hl1 := joinU_len h1
  have HX := Aside0.mk (hx.below (below_alloc (Below.refl w.heap.size w) (.cells #[.pointer (some ⟨g, 0, none⟩)] 98)))
  have HB2 := Aside0.mk (blk_new w (.cells #[.pointer (some ⟨g, 0, none⟩)] 98))
  have HK := Aside0.mk ((Kept.refl w (fun x => x = gu)).alloc (.cells #[.pointer (some ⟨g, 0, none⟩)] 98))
  have HB := Aside0.mk (below_alloc hb (.cells #[.pointer (some ⟨g, 0, none⟩)] 98))
  have HJ1 := Aside0.mk (joinU_calls HX.out HB2.out HB.out hgu k a b h1 hup)
  have HJ2 := Aside0.mk (fun (w2 : World) (hx : LX g gu n u1 c w2) (hb2 : w2.heap[w.heap.size]? = some (.cells #[.pointer (some ⟨g, 0, none⟩)] 98 (0, 0))) (hb : Below W.heap.size W w2) => joinU_calls hx hb2 hb hgu k (-a) (-b) h2 (by omega))
  clear hx hb h h1 h2 hl1
  go_enter Try.func82, Try.ntmps82
  go_upto_region 3 with (go_at_call 95; refine (HJ1.out).mono ?_; rintro e w2 ⟨rfl, hx2, hb2, hbe, hk2⟩; have HX2 := Aside0.mk hx2; have HC2 := Aside0.mk hb2; have HB3 := Aside0.mk hbe; have HK2 := Aside0.mk (HK.out.then_ hk2 (fun _ h => .inl h)); clear hx2 hb2 hbe hk2)
  go_wp2_with (go_at_call 95; refine (HJ2.out _ HX2.out HC2.out HB3.out).mono ?_; rintro e w3 ⟨rfl, hx3, _, hbe, hk3⟩; have HX3 := Aside0.mk hx3; have HB4 := Aside0.mk hbe; have HK3 := Aside0.mk (HK2.out.then_ hk3 (fun _ h => .inl h)); clear hx3 hbe hk3)
  go_end0
  exact ⟨rfl, HX3.out, HB4.out, HK3.out⟩
end Go.Proofs.Ytbnjbjcokkcfcaa.Sol
namespace Go.Proofs.Ytbnjbjcokkcfcaa.Sol
open Go.RowKit Go.Proofs.YtbnjbjcokkcfcaaW.PrintWords Go.Proofs.YtbnjbjcokkcfcaaW.PrintLast Go.Proofs.YtbnjbjcokkcfcaaW.PrintMore Go.Proofs.Ytbnjbjcokkcfcaa.PSearchOwn
set_option linter.unusedVariables false
set_option linter.unusedSimpArgs false
def q56r16T : Bool × List (List Nat × List Nat) := (true, [([], []), ([], []), ([], []), ([2], [2]), ([], []), ([4], [4]), ([1, 3, 5], [1, 3, 5]), ([], []), ([7], [7]), ([6, 8], [6, 8]), ([0, 9, 9], [0, 9]), ([10], [10]), ([11], [11]), ([11], [11]), ([12, 10, 0, 1, 2, 3, 4, 5, 6, 7, 8, 9, 10, 11, 12], [12]), ([13, 14, 0, 1, 2, 3, 4, 5, 6, 7, 8, 9, 10, 11, 12, 13, 14], [13])])
def q56r16B : List Nat := [0, 0, 0, 4, 0, 16, 62, 0, 128, 510, 1023, 2047, 4095, 4095, 8191, 32767]
theorem q56r16tab : rtab .any (opsOf Try.f56 16) = q56r16T := by kernel_rfl
theorem q56r16bits : waitsOk q56r16T.2 q56r16B = true := by kernel_rfl
/-- What follows, where the literals are fit. -/
def closeV (N : Int) (L : List (List Int)) (k : Nat) (ds : List Int) : Option (Option (List Int)) := if litsB ds N && decide (ds.length ≤ 100) then closeU N L k ds else none
/-- The first of some literals that fails. -/
def tryLs (N : Int) (L : List (List Int)) (k : Nat) (fd : List Int) : List Int → Option (Option Int)
  | [] => some none
  | l :: ls => match closeV N L k (fd ++ [l]) with
    | none => none
    | some none => some (some l)
    | some (some _) => tryLs N L k fd ls
def stepF (tq z : Option (Option Int)) : Option (Option Int) := match tq with
  | none => none
  | some (some l) => some (some l)
  | some none => z
def failsAt (N : Int) (L : List (List Int)) (k : Nat) (fd : List Int) : Nat → Int → Option (Option Int)
  | 0, _ => some none
  | d + 1, v => if hasF fd v then failsAt N L k fd d (v + 1) else stepF (tryLs N L k fd [v, -v]) (failsAt N L k fd d (v + 1))
def probeU (N : Int) (L : List (List Int)) (k : Nat) : Nat → List Int → Option (Option (List Int))
  | 0, _ => none
  | f + 1, found => match closeV N L k found with
    | none => none
    | some none => some none
    | some (some fd) => if fd.length < found.length ∨ fd.length > 90 then none else match failsAt N L k fd N.toNat 1 with
      | none => none
      | some none => some (some fd)
      | some (some l) => probeU N L k f (fd ++ [-l])
def lenOf : Value → Nat
  | .slice _ n _ => n
  | _ => 0
theorem arr_lit (t : Array Value) : t = ((List.range t.size).map fun i => t.getD i undef).toArray := by
  apply Array.ext
  · simp
  · intro i h1 h2
    simp [h1]
theorem wp_scope_once {P : Program} {a : Act} {w : World} {Q : Exit → Act → World → Prop} {c rest : Code} (l : Nat) (J : Act → World → Prop) (μ : Act → World → Nat) (hf : findLabel c l = some (Code.skip.seq rest))
    (pass : ∀ a w, J a w → rest.wp P (Exit.jump l (fun a' w' => J a' w' ∧ μ a' w' < μ a w) Q) a w)
    (first : (∀ a w, J a w → rest.wp P (Exit.jump l J Q) a w) → c.wp P (Exit.jump l J Q) a w) : (Code.scope c).wp P Q a w := by
  refine wp_scope_jumps l J μ hf (first fun a w hJ => ?_) (fun a w hJ => wp_seq (wp_skip (pass a w hJ)))
  refine Code.wp_mono (fun e a' w' h => ?_) (pass a w hJ)
  cases e <;> first | exact h | exact ⟨h.1, h.2.1⟩
theorem full_C {w : World} {base : Nat} {A : Option Addr} {c : Nat} {zs : List Int} (h : w.ownsRow base 3 1 (.slice A zs.length c) zs.length (nums .i64 zs)) : (Kd.int .i64).C w A zs.length zs := by
  obtain ⟨A', c', e, hC, _⟩ := own_C h
  injection e with e1 e2 e3
  subst e1
  exact hC
theorem own_form {w : World} {base : Nat} {A : Option Addr} {c : Nat} {zs : List Int} (h : w.ownsRow base 3 1 (.slice A zs.length c) zs.length (nums .i64 zs)) : (A = none ∧ zs.length = 0 ∧ c = 0) ∨ ∃ g, A = some ⟨g, 0, none⟩ := by
  rcases h.2 with ⟨e, h0⟩ | ⟨g, cap, cur, e, _⟩
  · injection e with e1 e2 e3
    exact Or.inl ⟨e1, h0, e3⟩
  · injection e with e1 e2
    exact Or.inr ⟨g, e1⟩
theorem own_cap {w : World} {base : Nat} {A : Option Addr} {c n : Nat} {xs : List Value} (h : w.ownsRow base 3 1 (.slice A n c) n xs) : n ≤ c := by
  rcases h.2 with ⟨e, h0⟩ | ⟨g, cap, cur, e, _, _, h1, _⟩
  · omega
  · injection e with e1 e2 e3
    omega
theorem own_drew {w : World} {base n : Nat} {v : Value} {xs : List Value} (h : w.ownsRow base 3 1 v n xs) : w.drew.ownsRow base 3 1 v n xs := own_move h (fun _ _ => rfl)
section
variable {W : World} {N : Int} {AL A : Option Addr} {cL c : Nat} {L : List (List Int)} {ds : List Int}
theorem closeV_calls (hL : Kd.C (Kd.slice 3 (Kd.int .i64)) W AL L.length L) (hcL : L.length ≤ cL) (hA : (Kd.int .i64).C W A ds.length ds) (h0 : checkF N L = 0) (k : Nat) {res : Option (List Int)} (h : closeV N L k ds = some res) (hk : k ≤ 20) :
    Calls Try.prog 80 #[.agg #[.int .i64 N, .slice AL L.length cL], .slice A ds.length c] W (ClosePost W res) := by
  unfold closeV at h
  split at h
  · rename_i hb
    rw [Bool.and_eq_true] at hb
    exact close_calls hL hcL hA h0 hb.1 k h hk (of_decide_eq_true hb.2)
  · cases h
theorem closeW_calls (hL : Kd.C (Kd.slice 3 (Kd.int .i64)) W AL L.length L) (hcL : L.length ≤ cL) (hA : (Kd.int .i64).C W A ds.length ds) (h0 : checkF N L = 0) (k : Nat) {res : Option (List Int)} (h : closeV N L k ds = some res) (hk : k ≤ 20) :
    Calls Try.prog 80 #[.agg #[.int .i64 N, .slice AL L.length cL], .slice A ds.length c] W fun e w' => (∃ v, e = .returned (.tuple #[v, .bool res.isSome])) ∧ Below W.heap.size W w' := by
  refine (closeV_calls hL hcL hA h0 k h hk).mono ?_
  rintro e w' ⟨h1, hb⟩
  refine ⟨?_, hb⟩
  cases res with
  | none => exact h1
  | some out => obtain ⟨A, c, h, _⟩ := h1; exact ⟨_, h⟩
set_option maxHeartbeats 32000000 in
set_option maxRecDepth 100000 in
theorem probe_calls (hL : Kd.C (Kd.slice 3 (Kd.int .i64)) W AL L.length L) (hcL : L.length ≤ cL) (hA : (Kd.int .i64).C W A ds.length ds) (hc : ds.length ≤ c) (hnil : A = none → c = 0) (h0 : checkF N L = 0) (k f : Nat) (hk : k ≤ 20) {res : Option (List Int)} (hv : (litsB ds N && !oppB ds) = true) (hg : goodB (sortK ds) ds = true) (hlen : ds.length ≤ 100) (hlen2 : (sortK ds).length ≤ 100) (h : probeU N L k f (sortK ds) = some res) :
    Calls Try.prog 56 #[.agg #[.int .i64 N, .slice AL L.length cL], .slice A ds.length c] W (ClosePost W res) := by
  have hck : ∀ w, Below W.heap.size W w → Calls Try.prog 31 #[.agg #[.int .i64 N, .slice AL L.length cL]] w fun e w' => e = .returned (.int .i64 0) ∧ Below w.heap.size w w' := fun w hb => by
    have := check_calls (N := N) (Kd.C_below hL hb) hcL
    rwa [h0] at this
  obtain ⟨m, hm0, hm, _, _, _⟩ := checkF_ok h0
  subst hm0
  have HB0 := Aside0.mk (below_alloc (Below.refl W.heap.size W) (.cells #[.int .i64 (m : Int), .slice AL L.length cL] 24))
  have HT0 := Aside0.mk (blk_new W (.cells #[.int .i64 (m : Int), .slice AL L.length cL] 24))
  have HCk := Aside0.mk (hck _ HB0.out)
  have HTm := Aside0.mk (fun (w : World) (hb : Below W.heap.size W w) => term3_calls (m : Int) w (Kd.C_below hA hb) hc (by omega) hnil)
  have HV := Aside0.mk hv
  have HG := Aside0.mk (good_of hg)
  have HCV := Aside0.mk (fun (ds : List Int) (r : Option (List Int)) (h : closeV (m : Int) L k ds = some r) (w : World) (hb : Below W.heap.size W w) (A : Option Addr) (c : Nat) (hC : (Kd.int .i64).C w A ds.length ds) => closeV_calls (c := c) (Kd.C_below hL hb) hcL hC h0 k h hk)
  have HCW := Aside0.mk (fun (ds : List Int) (r : Option (List Int)) (h : closeV (m : Int) L k ds = some r) (w : World) (hb : Below W.heap.size W w) (A : Option Addr) (c : Nat) (hC : (Kd.int .i64).C w A ds.length ds) => closeW_calls (c := c) (Kd.C_below hL hb) hcL hC h0 k h hk)
  have HP := Aside0.mk h
  have HL2 := Aside0.mk hlen2
  clear hck hL hA hc hnil h0 hv hg h hlen2
  obtain ⟨N, hN⟩ : ∃ N : Int, (m : Int) = N := ⟨_, rfl⟩
  have HN := Aside0.mk hN
  have HNm := Aside0.mk (show N.toNat = m by omega)
  rw [hN] at HB0 HT0 HCk HTm HV HCV HCW HP ⊢
  clear hN
  go_enter Try.func56, Try.ntmps56
  go_wp2
  refine wp_scope_once 0 (fun a w => ∃ (fu : Nat) (found : List Int) (A6 : Option Addr) (c6 : Nat), (a.defers = [] ∧ a.tmps.size = 79 ∧ a.tmps.getD 2 undef = .pointer (some ⟨W.heap.size, 0, none⟩) ∧ a.tmps.getD 4 undef = .slice none 0 0 ∧ a.tmps.getD 5 undef = .bool false ∧ a.tmps.getD 6 undef = .slice A6 found.length c6) ∧ Aside0 (probeU N L k fu found = some res) ∧ Aside0 (found.length ≤ 100) ∧ Aside0 (w.ownsRow W.heap.size 3 1 (.slice A6 found.length c6) found.length (nums .i64 found)) ∧ Aside0 (w.heap[W.heap.size]? = some (.cells #[.int .i64 N, .slice AL L.length cL] 24 (0, 0))) ∧ Aside0 (Below W.heap.size W w)) (fun a _ => 1000 - lenOf (a.tmps.getD 6 undef)) rfl ?pass ?first
  case first =>
    intro hpass
    go_wp2_with (first
      | (go_at_call 31; refine (HCk.out).mono ?_; rintro e w2 ⟨rfl, hb2⟩; have HB2 := Aside0.mk (below_step HB0.out hb2); have HT2 := Aside0.mk (blk_below HT0.out hb2); have hc0 : w2.cell? ⟨W.heap.size, 0, none⟩ = some (.int .i64 N) := (blk_cell HT2.out 0).trans rfl; clear hb2)
      | (go_at_call 70; refine (HTm.out _ HB2.out).mono ?_; rintro e w3 ⟨⟨v, ys, rfl, ho3⟩, hb3⟩; rw [HV.out]; have HB3 := Aside0.mk (below_step HB2.out hb3); have HT3 := Aside0.mk (blk_below HT2.out hb3); have HO3 := Aside0.mk (own_less (ho3 HV.out).1 HB2.out.size); have HY3 := Aside0.mk (sorted_eq _ _ (ho3 HV.out).2.2 HG.out.2 (fun x => ((ho3 HV.out).2.1 x).trans (HG.out.1 x).symm)); clear hb3 ho3))
    go_step3
    rename_i hKK
    rw [HY3.out] at HO3
    obtain ⟨A6, c6, hv6⟩ := own_slice HO3.out
    subst hv6
    exact hKK _ _ (hpass _ _ ⟨f, sortK ds, A6, c6, ⟨rfl, rfl, rfl, rfl, rfl, rfl⟩, HP, HL2, HO3, HT3, HB3⟩)
  case pass =>
    rintro ⟨tm, df⟩ w ⟨fu, found, A6, c6, ⟨hdf, hsz, h2, h4, h5, h6⟩, HP, HL6, HO, HT, HB⟩
    obtain ⟨u, hu⟩ : ∃ u : Nat → Value, (fun i => tm.getD i undef) = u := ⟨_, rfl⟩
    have htm : tm = ((List.range 79).map u).toArray := by rw [← hsz, ← hu]; exact arr_lit tm
    have hu2 : u 2 = .pointer (some ⟨W.heap.size, 0, none⟩) := by rw [← hu]; exact h2
    have hu4 : u 4 = .slice none 0 0 := by rw [← hu]; exact h4
    have hu5 : u 5 = .bool false := by rw [← hu]; exact h5
    have hu6 : u 6 = .slice A6 found.length c6 := by rw [← hu]; exact h6
    have hdf : df = [] := hdf
    clear hu h2 h4 h5 h6 hsz
    subst hdf
    subst htm
    rw [show ((List.range 79).map u).toArray = #[u 0, u 1, u 2, u 3, u 4, u 5, u 6, u 7, u 8, u 9, u 10, u 11, u 12, u 13, u 14, u 15, u 16, u 17, u 18, u 19, u 20, u 21, u 22, u 23, u 24, u 25, u 26, u 27, u 28, u 29, u 30, u 31, u 32, u 33, u 34, u 35, u 36, u 37, u 38, u 39, u 40, u 41, u 42, u 43, u 44, u 45, u 46, u 47, u 48, u 49, u 50, u 51, u 52, u 53, u 54, u 55, u 56, u 57, u 58, u 59, u 60, u 61, u 62, u 63, u 64, u 65, u 66, u 67, u 68, u 69, u 70, u 71, u 72, u 73, u 74, u 75, u 76, u 77, u 78] from rfl, hu2, hu4, hu5, hu6]
    clear hu2 hu4 hu5 hu6 HCk HTm HV HG HB0 HT0
    cases fu with
    | zero => exact absurd HP.out (by rw [probeU]; intro h; cases h)
    | succ fu =>
      have hc0 : w.cell? ⟨W.heap.size, 0, none⟩ = some (.int .i64 N) := (blk_cell HT.out 0).trans rfl
      have hc1 : w.cell? ⟨W.heap.size, 1, none⟩ = some (.slice AL L.length cL) := (blk_cell HT.out 1).trans rfl
      cases hcv : closeV N L k found with
      | none => exact absurd HP.out (by rw [probeU, hcv]; intro h; cases h)
      | some r =>
        have HCl := Aside0.mk (HCV.out found r hcv w HB.out A6 c6 (full_C HO.out))
        cases r with
        | none =>
          have HRes := Aside0.mk (show res = none by have h1 := HP.out; rw [probeU, hcv] at h1; injection h1 with h1; exact h1.symm)
          clear hcv HP
          go_wp2_with (go_at_call 80; refine (HCl.out).mono ?_; rintro e w2 ⟨⟨v, rfl⟩, hb2⟩; have HB2 := Aside0.mk (below_step HB.out hb2); clear hb2)
          simp only [Exit.jump]
          go_ret2
          exact ⟨by rw [HRes.out]; exact ⟨_, rfl⟩, HB2.out⟩
        | some fd =>
          have hpf : ¬ (fd.length < found.length ∨ fd.length > 90) ∧ (match failsAt N L k fd m 1 with
              | none => none
              | some none => some (some fd)
              | some (some l) => probeU N L k fu (fd ++ [-l])) = some res := by
            have h1 := HP.out
            rw [probeU, hcv] at h1
            simp only [HNm.out] at h1
            split at h1
            · cases h1
            · rename_i hn; exact ⟨hn, h1⟩
          have HPf := Aside0.mk hpf.2
          have hfl : found.length ≤ fd.length ∧ fd.length ≤ 90 := by have := hpf.1; omega
          have HFl := Aside0.mk hfl
          have hlen9 : fd.length ≤ 4096 := by omega
          clear hcv HP hpf hfl
          go_upto_region 9 with (go_at_call 80; refine (HCl.out).mono ?_; rintro e w2 ⟨⟨A7, c7, rfl, ho2⟩, hb2⟩; have HO2 := Aside0.mk (own_less ho2 HB.out.size); have HT2 := Aside0.mk (blk_below HT.out hb2); have HB2 := Aside0.mk (below_step HB.out hb2); clear hb2 ho2)
          obtain ⟨fo, hfo⟩ : ∃ fo, failsAt N L k fd m 1 = fo := ⟨_, rfl⟩
          rw [hfo] at HPf
          have HFo := Aside0.mk hfo
          clear hfo hc0 hc1 HO HT HB HCl
          go_wp2
          go_loopg [6, 8] m (fun gk v6 v8 w' => ∃ (v : Nat), v + gk = m ∧ v6 = .slice A7 fd.length c7 ∧ v8 = .int .i64 ((v : Int) + 1) ∧ Aside0 (failsAt N L k fd gk ((v : Int) + 1) = fo) ∧ Aside0 (w'.ownsRow W.heap.size 3 1 (.slice A7 fd.length c7) fd.length (nums .i64 fd)) ∧ Aside0 (w'.heap[W.heap.size]? = some (.cells #[.int .i64 N, .slice AL L.length cL] 24 (0, 0))) ∧ Aside0 (Below W.heap.size W w'))
          case atStart => exact ⟨0, by omega, rfl, by go_num, ⟨HFo.out⟩, HO2, HT2, HB2⟩
          case round =>
            clear HO2 HT2 HB2 HFo
            obtain ⟨v, hvg, rfl, rfl, HF, HO, HT, HB⟩ := hrel
            have hc0 : wr.cell? ⟨W.heap.size, 0, none⟩ = some (.int .i64 N) := (blk_cell HT.out 0).trans rfl
            cases gk with
            | zero =>
              have hi : ¬ ((v : Int) + 1 ≤ N) := by have := HN.out; omega
              have HRes := Aside0.mk (show res = some fd by
                have h1 := HPf.out
                have h2 := HF.out
                rw [failsAt] at h2
                rw [← h2] at h1
                injection h1 with h1
                exact h1.symm)
              go_wp2
              simp only [Exit.jump]
              go_ret2
              exact ⟨by rw [HRes.out]; exact ⟨A7, c7, rfl, HO.out⟩, HB.out⟩
            | succ gk =>
              have hi : ((v : Int) + 1 ≤ N) := by have := HN.out; omega
              have HHas := Aside0.mk (hasv_calls (c := c7) ((v : Int) + 1) (full_C HO.out))
              cases hhv : hasF fd ((v : Int) + 1) with
              | true =>
                have HFn := Aside0.mk (show failsAt N L k fd gk (((v : Int) + 1) + 1) = fo by have h2 := HF.out; rw [failsAt, if_pos hhv] at h2; exact h2)
                rw [hhv] at HHas
                clear hhv HF
                go_wp2_with (go_at_call 81; refine (HHas.out).mono ?_; rintro e w2 ⟨rfl, hb2⟩; have HO2 := Aside0.mk (pw_own_below HO.out hb2); have HT2 := Aside0.mk (blk_below HT.out hb2); have HB2 := Aside0.mk (below_step HB.out hb2); clear hb2)
                go_roundg gk
                case measure => omega
                case rel => exact ⟨v + 1, by omega, rfl, by go_num, HFn, HO2, HT2, HB2⟩
              | false =>
                obtain ⟨tq, hto⟩ : ∃ tq, tryLs N L k fd [(v : Int) + 1, -((v : Int) + 1)] = tq := ⟨_, rfl⟩
                have HFn := Aside0.mk (show stepF tq (failsAt N L k fd gk (((v : Int) + 1) + 1)) = fo by
                  have h2 := HF.out
                  rw [failsAt, if_neg (by rw [hhv]; decide), hto] at h2
                  exact h2)
                have HTo := Aside0.mk hto
                rw [hhv] at HHas
                clear hhv HF hto
                go_upto_region 13 with (go_at_call 81; refine (HHas.out).mono ?_; rintro e w2 ⟨rfl, hb2⟩; have HO2 := Aside0.mk (own_alloc (pw_own_below HO.out hb2) (.cells #[.int .i64 ((v : Int) + 1), .int .i64 (-((v : Int) + 1))] 3)); have HT2 := Aside0.mk (blk_alloc (blk_below HT.out hb2) (.cells #[.int .i64 ((v : Int) + 1), .int .i64 (-((v : Int) + 1))] 3)); have HB2 := Aside0.mk (below_alloc (below_step HB.out hb2) (.cells #[.int .i64 ((v : Int) + 1), .int .i64 (-((v : Int) + 1))] 3)); have HX2 := Aside0.mk (blk_new w2 (.cells #[.int .i64 ((v : Int) + 1), .int .i64 (-((v : Int) + 1))] 3)); have HNo := Aside0.mk (show some w2.heap.size ≠ (Value.slice A7 fd.length c7).ownBlock from fun he => by have := own_lt (pw_own_below HO.out hb2) _ he.symm; omega); clear hb2)
                clear HO HT HB HHas
                go_wp2
                generalize w2.alloc (.cells #[.int .i64 ((v : Int) + 1), .int .i64 (-((v : Int) + 1))] 3) = w3 at HO2 HT2 HB2 HX2 ⊢
                generalize w2.heap.size = bx at HX2 HNo ⊢
                go_loopg [6, 47] 2 (fun gj v6 v47 w' => ∃ (i : Nat), i + gj = 2 ∧ v6 = .slice A7 fd.length c7 ∧ v47 = .int .i64 (i : Int) ∧ Aside0 (tryLs N L k fd (([(v : Int) + 1, -((v : Int) + 1)] : List Int).drop i) = tq) ∧ Aside0 (w'.heap[bx]? = some (.cells #[.int .i64 ((v : Int) + 1), .int .i64 (-((v : Int) + 1))] 3 (0, 0))) ∧ Aside0 (w'.ownsRow W.heap.size 3 1 (.slice A7 fd.length c7) fd.length (nums .i64 fd)) ∧ Aside0 (w'.heap[W.heap.size]? = some (.cells #[.int .i64 N, .slice AL L.length cL] 24 (0, 0))) ∧ Aside0 (Below W.heap.size W w'))
                case atStart => exact ⟨0, by omega, rfl, by go_num, ⟨HTo.out⟩, HX2, HO2, HT2, HB2⟩
                case round =>
                  clear HO2 HT2 HB2 HX2 HTo
                  obtain ⟨i, hig, rfl, rfl, HTo, HX, HO, HT, HB⟩ := hrel
                  cases gk with
                  | zero =>
                    have hi2 : i = 2 := by omega
                    subst hi2
                    have HFm := Aside0.mk (show failsAt N L k fd gk (((v : Int) + 1) + 1) = fo by
                      have h1 := HTo.out
                      have h2 := HFn.out
                      rw [show (([(v : Int) + 1, -((v : Int) + 1)] : List Int).drop 2) = [] from rfl, tryLs] at h1
                      rw [← h1] at h2
                      exact h2)
                    go_wp2
                    go_roundg gk
                    case measure => omega
                    case rel => exact ⟨v + 1, by omega, rfl, by go_num, HFm, HO, HT, HB⟩
                  | succ gk2 =>
                    have hi2 : (i : Int) < 2 := by omega
                    obtain ⟨l, hl, hcell⟩ : ∃ l, ([(v : Int) + 1, -((v : Int) + 1)] : List Int).drop i = l :: ([(v : Int) + 1, -((v : Int) + 1)] : List Int).drop (i + 1) ∧ wr.cell? ⟨bx, i, none⟩ = some (.int .i64 l) := by
                      have : i = 0 ∨ i = 1 := by omega
                      rcases this with rfl | rfl
                      · exact ⟨_, rfl, (blk_cell HX.out 0).trans rfl⟩
                      · exact ⟨_, rfl, (blk_cell HX.out 1).trans rfl⟩
                    have hlb : -1000 ≤ l ∧ l ≤ 1000 := by
                      have hm8 := HN.out
                      have : i = 0 ∨ i = 1 := by omega
                      rcases this with rfl | rfl
                      · injection hl with h1; omega
                      · injection hl with h1; omega
                    have HTn := Aside0.mk (show (match closeV N L k (fd ++ [l]) with
                        | none => none
                        | some none => some (some l)
                        | some (some _) => tryLs N L k fd (([(v : Int) + 1, -((v : Int) + 1)] : List Int).drop (i + 1))) = tq by
                      have h1 := HTo.out
                      rw [hl, tryLs] at h1
                      exact h1)
                    have HLb := Aside0.mk hlb
                    clear hl HTo hlb
                    cases hcw : closeV N L k (fd ++ [l]) with
                    | none =>
                      exfalso
                      have h1 := HTn.out
                      rw [hcw] at h1
                      have h2 := HFn.out
                      rw [← h1] at h2
                      have h3 := HPf.out
                      rw [← h2] at h3
                      cases h3
                    | some r =>
                      have HCl := Aside0.mk (HCW.out (fd ++ [l]) r hcw)
                      have HTr := HTn
                      rw [hcw] at HTr
                      clear HTn hcw
                      go_upto_region 16 with fail
                      go_cut [12] (fun v12 wc => v12 = .bool r.isSome ∧ Aside0 (wc.heap[bx]? = some (.cells #[.int .i64 ((v : Int) + 1), .int .i64 (-((v : Int) + 1))] 3 (0, 0))) ∧ Aside0 (wc.ownsRow W.heap.size 3 1 (.slice A7 fd.length c7) fd.length (nums .i64 fd)) ∧ Aside0 (wc.heap[W.heap.size]? = some (.cells #[.int .i64 N, .slice AL L.length cL] 24 (0, 0))) ∧ Aside0 (Below W.heap.size W wc))
                      case first =>
                        clear HPf HTr HFn
                        have hfc : fd.length ≤ c7 := own_cap HO.out
                        rcases own_form HO.out with ⟨rfl, hfz, rfl⟩ | ⟨gf, rfl⟩
                        · obtain rfl := List.eq_nil_of_length_eq_zero hfz
                          clear hfz
                          refine start_ (n := 16) (S := fun w' => w'.cell? ⟨W.heap.size, 0, none⟩ = some (.int .i64 N) ∧ w'.cell? ⟨W.heap.size, 1, none⟩ = some (.slice AL L.length cL)) (ds := []) #[false, false, false, false, false, false, false, false, false, false, false, false, false, false, false, false] (by kernel_rfl) rfl rfl (⟨(blk_cell HT.out 0).trans rfl, (blk_cell HT.out 1).trans rfl⟩) (fun hHeld => ?_)
                          refine with_tabW q56r16tab q56r16bits (fun HT_ HW_ => ?_)
                          replace HT := Aside0.mk (blk_drew HT.out)
                          replace HO := Aside0.mk (own_drew HO.out)
                          replace HX := Aside0.mk (blk_drew HX.out)
                          replace HB := Aside0.mk (below_drew HB.out)
                          generalize wr.drew = w1 at HT HO HX HB hHeld ⊢
                          refine pure_ (i := 1) (N := some 53) (v := ?_) (a' := ?_) #[false, true, false, false, false, false, false, false, false, false, false, false, false, false, false, false] rfl rfl (any_of HT_.out (by kernel_rfl)) (fun _ _ _ h => h) (Or.inl ⟨by rfl, ?_⟩) ?_ ?_
                          rotate_left
                          · intro w'
                            go_simp
                            with_reducible rfl
                          rotate_left
                          · simp only [Act.put, List.setIfInBounds_toArray, List.set_cons_zero, List.set_cons_succ, i64_w, i32_w]
                            rfl
                          refine pure_ (i := 2) (N := some 54) (v := ?_) (a' := ?_) #[false, true, true, false, false, false, false, false, false, false, false, false, false, false, false, false] rfl rfl (any_of HT_.out (by kernel_rfl)) (fun _ _ _ h => h) (Or.inl ⟨by rfl, ?_⟩) ?_ ?_
                          rotate_left
                          · intro w'
                            go_simp
                            with_reducible rfl
                          rotate_left
                          · simp only [Act.put, List.setIfInBounds_toArray, List.set_cons_zero, List.set_cons_succ, i64_w, i32_w]
                            rfl
                          refine pure_ (i := 3) (N := some 55) (v := ?_) (a' := ?_) #[false, true, true, true, false, false, false, false, false, false, false, false, false, false, false, false] rfl rfl (any_of HT_.out (by kernel_rfl)) (fun _ _ _ h => h) (Or.inl ⟨by rfl, ?_⟩) ?_ ?_
                          rotate_left
                          · intro w'
                            go_simp
                            with_reducible rfl
                          rotate_left
                          · simp only [Act.put, List.setIfInBounds_toArray, List.set_cons_zero, List.set_cons_succ, i64_w, i32_w]
                            rfl
                          refine pure_ (i := 4) (N := some 56) (v := ?_) (a' := ?_) #[false, true, true, true, true, false, false, false, false, false, false, false, false, false, false, false] rfl rfl (any_of HT_.out (by kernel_rfl)) (fun _ _ _ h => h) (Or.inl ⟨by rfl, ?_⟩) ?_ ?_
                          rotate_left
                          · intro w'
                            go_simp
                            with_reducible rfl
                          rotate_left
                          · simp only [Act.put, List.setIfInBounds_toArray, List.set_cons_zero, List.set_cons_succ, i64_w, i32_w]
                            rfl
                          refine pure_ (i := 5) (N := some 57) (v := ?_) (a' := ?_) #[false, true, true, true, true, true, false, false, false, false, false, false, false, false, false, false] rfl rfl (any_of HT_.out (by kernel_rfl)) (fun _ _ _ h => h) (Or.inl ⟨by rfl, ?_⟩) ?_ ?_
                          rotate_left
                          · intro w'
                            go_simp
                            with_reducible rfl
                          rotate_left
                          · simp only [Act.put, List.setIfInBounds_toArray, List.set_cons_zero, List.set_cons_succ, i64_w, i32_w]
                            rfl
                          refine pure_ (i := 6) (N := some 58) (v := ?_) (a' := ?_) #[false, true, true, true, true, true, true, false, false, false, false, false, false, false, false, false] rfl rfl (any_of HT_.out (by kernel_rfl)) (fun _ _ _ h => h) (Or.inl ⟨by rfl, ?_⟩) ?_ ?_
                          rotate_left
                          · intro w'
                            go_simp
                            with_reducible rfl
                          rotate_left
                          · simp only [Act.put, List.setIfInBounds_toArray, List.set_cons_zero, List.set_cons_succ, i64_w, i32_w]
                            rfl
                          refine pure_ (i := 7) (N := some 59) (v := ?_) (a' := ?_) #[false, true, true, true, true, true, true, true, false, false, false, false, false, false, false, false] rfl rfl (any_of HT_.out (by kernel_rfl)) (fun _ _ _ h => h) (Or.inl ⟨by rfl, ?_⟩) ?_ ?_
                          rotate_left
                          · intro w'
                            go_simp
                            with_reducible rfl
                          rotate_left
                          · simp only [Act.put, List.setIfInBounds_toArray, List.set_cons_zero, List.set_cons_succ, i64_w, i32_w]
                            rfl
                          refine take_ (i := 0) (N := some 52) (v := ?_) (a' := ?_) #[true, true, true, true, true, true, true, true, false, false, false, false, false, false, false, false] rfl rfl (take_ofW HT_.out HW_.out (by kernel_rfl)) (fun _ _ _ h => h) (Or.inl ⟨by rfl, ?_⟩) hHeld ?_ ?_
                          rotate_left
                          · rintro w' ⟨s0, s1⟩
                            go_simp
                            with_reducible rfl
                          rotate_left
                          · simp only [Act.put, List.setIfInBounds_toArray, List.set_cons_zero, List.set_cons_succ, i64_w, i32_w]
                            rfl
                          refine one_ (i := 8) (N := some 60) #[true, true, true, true, true, true, true, true, true, false, false, false, false, false, false, false] rfl rfl (one_of HT_.out (by kernel_rfl)) (by decide) (fun K hK => ?_)
                          refine value_ (w1 := ?_) (v := ?_) (by rfl) rfl ?_ ?_
                          rotate_left 2
                          · go_simp
                            (refine ⟨?_, ?_⟩ <;> rfl)
                          refine hK.out _ _ (⟨(blk_cell (blk_alloc HT.out _) 0).trans rfl, (blk_cell (blk_alloc HT.out _) 1).trans rfl⟩) (fun hHeld => ?_)
                          clear hK K
                          refine norm_ (a' := ?_) ?_ ?_
                          rotate_left
                          · show Act.put _ (some 60) _ = _
                            simp only [Act.put, List.setIfInBounds_toArray, List.set_cons_zero, List.set_cons_succ, i64_w, i32_w]
                            rfl
                          refine one_ (i := 9) (N := some 61) #[true, true, true, true, true, true, true, true, true, true, false, false, false, false, false, false] rfl rfl (one_of HT_.out (by kernel_rfl)) (by decide) (fun K hK => ?_)
                          refine app_full_step (A := none) (zs := ([] : List Int)) (full_C HO.out) (fun _ => rfl) l hlen9 (by rfl) (.tmp 58) (.tmp 60) rfl rfl rfl ?_
                          intro v8 w8 ho8 hb8
                          obtain ⟨A8, c8, rfl, hC8, hc8, _, _⟩ := own_C ho8
                          replace HT := Aside0.mk (blk_below HT.out hb8)
                          replace HO := Aside0.mk (pw_own_below HO.out hb8)
                          replace HX := Aside0.mk (blk_below HX.out hb8)
                          replace HB := Aside0.mk (below_step HB.out hb8)
                          have HC8 := Aside0.mk hC8
                          clear ho8 hb8 hC8 hc8
                          refine hK.out _ _ (⟨(blk_cell HT.out 0).trans rfl, (blk_cell HT.out 1).trans rfl⟩) (fun hHeld => ?_)
                          clear hK K
                          refine norm_ (a' := ?_) ?_ ?_
                          rotate_left
                          · show Act.put _ (some 61) _ = _
                            simp only [Act.put, List.setIfInBounds_toArray, List.set_cons_zero, List.set_cons_succ, i64_w, i32_w]
                            rfl
                          refine one_ (i := 10) (N := some 62) #[true, true, true, true, true, true, true, true, true, true, true, false, false, false, false, false] rfl rfl (one_of HT_.out (by kernel_rfl)) (by decide) (fun K hK => ?_)
                          refine goes_ Try.func80 (by kernel_rfl) rfl #[.agg #[.int .i64 N, .slice AL L.length cL], .slice A8 (([] : List Int) ++ [l]).length c8] (by rfl) rfl rfl (by simp only [List.map_toArray, List.map_cons, List.map_nil]; rfl) ?_
                          refine (HCl.out _ HB.out A8 c8 HC8.out).mono ?_
                          rintro e_ w_ ⟨⟨v9, rfl⟩, hb9⟩
                          refine ⟨_, rfl, ?_⟩
                          replace HT := Aside0.mk (blk_below HT.out hb9)
                          replace HO := Aside0.mk (pw_own_below HO.out hb9)
                          replace HX := Aside0.mk (blk_below HX.out hb9)
                          replace HB := Aside0.mk (below_step HB.out hb9)
                          clear hb9
                          refine hK.out _ _ (⟨(blk_cell HT.out 0).trans rfl, (blk_cell HT.out 1).trans rfl⟩) (fun hHeld => ?_)
                          clear hK K
                          refine norm_ (a' := ?_) ?_ ?_
                          rotate_left
                          · show Act.put _ (some 62) _ = _
                            simp only [Act.put, List.setIfInBounds_toArray, List.set_cons_zero, List.set_cons_succ, i64_w, i32_w]
                            rfl
                          refine pure_ (i := 11) (N := some 51) (v := ?_) (a' := ?_) #[true, true, true, true, true, true, true, true, true, true, true, true, false, false, false, false] rfl rfl (any_of HT_.out (by kernel_rfl)) (fun _ _ _ h => h) (Or.inl ⟨by rfl, ?_⟩) ?_ ?_
                          rotate_left
                          · intro w'
                            go_simp
                            with_reducible rfl
                          rotate_left
                          · simp only [Act.put, List.setIfInBounds_toArray, List.set_cons_zero, List.set_cons_succ, i64_w, i32_w]
                            rfl
                          refine pure_ (i := 12) (N := some 63) (v := ?_) (a' := ?_) #[true, true, true, true, true, true, true, true, true, true, true, true, true, false, false, false] rfl rfl (any_of HT_.out (by kernel_rfl)) (fun _ _ _ h => h) (Or.inl ⟨by rfl, ?_⟩) ?_ ?_
                          rotate_left
                          · intro w'
                            go_simp
                            with_reducible rfl
                          rotate_left
                          · simp only [Act.put, List.setIfInBounds_toArray, List.set_cons_zero, List.set_cons_succ, i64_w, i32_w]
                            rfl
                          refine pure_ (i := 13) (N := some 64) (v := ?_) (a' := ?_) #[true, true, true, true, true, true, true, true, true, true, true, true, true, true, false, false] rfl rfl (any_of HT_.out (by kernel_rfl)) (fun _ _ _ h => h) (Or.inl ⟨by rfl, ?_⟩) ?_ ?_
                          rotate_left
                          · intro w'
                            go_simp
                            with_reducible rfl
                          rotate_left
                          · simp only [Act.put, List.setIfInBounds_toArray, List.set_cons_zero, List.set_cons_succ, i64_w, i32_w]
                            rfl
                          refine pure_ (i := 14) (N := some 11) (v := ?_) (a' := ?_) #[true, true, true, true, true, true, true, true, true, true, true, true, true, true, true, false] rfl rfl (any_of HT_.out (by kernel_rfl)) (fun _ _ _ h => h) (Or.inl ⟨by rfl, ?_⟩) ?_ ?_
                          rotate_left
                          · intro w'
                            go_simp
                            with_reducible rfl
                          rotate_left
                          · simp only [Act.put, List.setIfInBounds_toArray, List.set_cons_zero, List.set_cons_succ, i64_w, i32_w]
                            rfl
                          refine pure_ (i := 15) (N := some 12) (v := ?_) (a' := ?_) #[true, true, true, true, true, true, true, true, true, true, true, true, true, true, true, true] rfl rfl (any_of HT_.out (by kernel_rfl)) (fun _ _ _ h => h) (Or.inl ⟨by rfl, ?_⟩) ?_ ?_
                          rotate_left
                          · intro w'
                            go_simp
                            with_reducible rfl
                          rotate_left
                          · simp only [Act.put, List.setIfInBounds_toArray, List.set_cons_zero, List.set_cons_succ, i64_w, i32_w]
                            rfl
                          refine done_ (done_of HT_.out (by kernel_rfl)) ?_
                          go_wp2
                          go_meet
                          case rel => exact ⟨rfl, HX, HO, HT, HB⟩
                        ·
                          refine start_ (n := 16) (S := fun w' => w'.cell? ⟨W.heap.size, 0, none⟩ = some (.int .i64 N) ∧ w'.cell? ⟨W.heap.size, 1, none⟩ = some (.slice AL L.length cL)) (ds := []) #[false, false, false, false, false, false, false, false, false, false, false, false, false, false, false, false] (by kernel_rfl) rfl rfl (⟨(blk_cell HT.out 0).trans rfl, (blk_cell HT.out 1).trans rfl⟩) (fun hHeld => ?_)
                          refine with_tabW q56r16tab q56r16bits (fun HT_ HW_ => ?_)
                          replace HT := Aside0.mk (blk_drew HT.out)
                          replace HO := Aside0.mk (own_drew HO.out)
                          replace HX := Aside0.mk (blk_drew HX.out)
                          replace HB := Aside0.mk (below_drew HB.out)
                          generalize wr.drew = w1 at HT HO HX HB hHeld ⊢
                          refine pure_ (i := 1) (N := some 53) (v := ?_) (a' := ?_) #[false, true, false, false, false, false, false, false, false, false, false, false, false, false, false, false] rfl rfl (any_of HT_.out (by kernel_rfl)) (fun _ _ _ h => h) (Or.inl ⟨by rfl, ?_⟩) ?_ ?_
                          rotate_left
                          · intro w'
                            go_simp
                            with_reducible rfl
                          rotate_left
                          · simp only [Act.put, List.setIfInBounds_toArray, List.set_cons_zero, List.set_cons_succ, i64_w, i32_w]
                            rfl
                          refine pure_ (i := 2) (N := some 54) (v := ?_) (a' := ?_) #[false, true, true, false, false, false, false, false, false, false, false, false, false, false, false, false] rfl rfl (any_of HT_.out (by kernel_rfl)) (fun _ _ _ h => h) (Or.inl ⟨by rfl, ?_⟩) ?_ ?_
                          rotate_left
                          · intro w'
                            go_simp
                            with_reducible rfl
                          rotate_left
                          · simp only [Act.put, List.setIfInBounds_toArray, List.set_cons_zero, List.set_cons_succ, i64_w, i32_w]
                            rfl
                          refine pure_ (i := 3) (N := some 55) (v := ?_) (a' := ?_) #[false, true, true, true, false, false, false, false, false, false, false, false, false, false, false, false] rfl rfl (any_of HT_.out (by kernel_rfl)) (fun _ _ _ h => h) (Or.inl ⟨by rfl, ?_⟩) ?_ ?_
                          rotate_left
                          · intro w'
                            go_simp
                            with_reducible rfl
                          rotate_left
                          · simp only [Act.put, List.setIfInBounds_toArray, List.set_cons_zero, List.set_cons_succ, i64_w, i32_w]
                            rfl
                          refine pure_ (i := 4) (N := some 56) (v := ?_) (a' := ?_) #[false, true, true, true, true, false, false, false, false, false, false, false, false, false, false, false] rfl rfl (any_of HT_.out (by kernel_rfl)) (fun _ _ _ h => h) (Or.inl ⟨by rfl, ?_⟩) ?_ ?_
                          rotate_left
                          · intro w'
                            go_simp
                            with_reducible rfl
                          rotate_left
                          · simp only [Act.put, List.setIfInBounds_toArray, List.set_cons_zero, List.set_cons_succ, i64_w, i32_w]
                            rfl
                          refine pure_ (i := 5) (N := some 57) (v := ?_) (a' := ?_) #[false, true, true, true, true, true, false, false, false, false, false, false, false, false, false, false] rfl rfl (any_of HT_.out (by kernel_rfl)) (fun _ _ _ h => h) (Or.inl ⟨by rfl, ?_⟩) ?_ ?_
                          rotate_left
                          · intro w'
                            go_simp
                            with_reducible rfl
                          rotate_left
                          · simp only [Act.put, List.setIfInBounds_toArray, List.set_cons_zero, List.set_cons_succ, i64_w, i32_w]
                            rfl
                          refine pure_ (i := 6) (N := some 58) (v := ?_) (a' := ?_) #[false, true, true, true, true, true, true, false, false, false, false, false, false, false, false, false] rfl rfl (any_of HT_.out (by kernel_rfl)) (fun _ _ _ h => h) (Or.inl ⟨by rfl, ?_⟩) ?_ ?_
                          rotate_left
                          · intro w'
                            go_simp
                            with_reducible rfl
                          rotate_left
                          · simp only [Act.put, List.setIfInBounds_toArray, List.set_cons_zero, List.set_cons_succ, i64_w, i32_w]
                            rfl
                          refine pure_ (i := 7) (N := some 59) (v := ?_) (a' := ?_) #[false, true, true, true, true, true, true, true, false, false, false, false, false, false, false, false] rfl rfl (any_of HT_.out (by kernel_rfl)) (fun _ _ _ h => h) (Or.inl ⟨by rfl, ?_⟩) ?_ ?_
                          rotate_left
                          · intro w'
                            go_simp
                            with_reducible rfl
                          rotate_left
                          · simp only [Act.put, List.setIfInBounds_toArray, List.set_cons_zero, List.set_cons_succ, i64_w, i32_w]
                            rfl
                          refine take_ (i := 0) (N := some 52) (v := ?_) (a' := ?_) #[true, true, true, true, true, true, true, true, false, false, false, false, false, false, false, false] rfl rfl (take_ofW HT_.out HW_.out (by kernel_rfl)) (fun _ _ _ h => h) (Or.inl ⟨by rfl, ?_⟩) hHeld ?_ ?_
                          rotate_left
                          · rintro w' ⟨s0, s1⟩
                            go_simp
                            with_reducible rfl
                          rotate_left
                          · simp only [Act.put, List.setIfInBounds_toArray, List.set_cons_zero, List.set_cons_succ, i64_w, i32_w]
                            rfl
                          refine one_ (i := 8) (N := some 60) #[true, true, true, true, true, true, true, true, true, false, false, false, false, false, false, false] rfl rfl (one_of HT_.out (by kernel_rfl)) (by decide) (fun K hK => ?_)
                          refine value_ (w1 := ?_) (v := ?_) (by rfl) rfl ?_ ?_
                          rotate_left 2
                          · go_simp
                            (refine ⟨?_, ?_⟩ <;> rfl)
                          refine hK.out _ _ (⟨(blk_cell (blk_alloc HT.out _) 0).trans rfl, (blk_cell (blk_alloc HT.out _) 1).trans rfl⟩) (fun hHeld => ?_)
                          clear hK K
                          refine norm_ (a' := ?_) ?_ ?_
                          rotate_left
                          · show Act.put _ (some 60) _ = _
                            simp only [Act.put, List.setIfInBounds_toArray, List.set_cons_zero, List.set_cons_succ, i64_w, i32_w]
                            rfl
                          refine one_ (i := 9) (N := some 61) #[true, true, true, true, true, true, true, true, true, true, false, false, false, false, false, false] rfl rfl (one_of HT_.out (by kernel_rfl)) (by decide) (fun K hK => ?_)
                          refine app_full_step (A := (some ⟨gf, 0, none⟩)) (zs := fd) (full_C HO.out) (fun h => by cases h) l hlen9 (by rfl) (.tmp 58) (.tmp 60) rfl rfl rfl ?_
                          intro v8 w8 ho8 hb8
                          obtain ⟨A8, c8, rfl, hC8, hc8, _, _⟩ := own_C ho8
                          replace HT := Aside0.mk (blk_below HT.out hb8)
                          replace HO := Aside0.mk (pw_own_below HO.out hb8)
                          replace HX := Aside0.mk (blk_below HX.out hb8)
                          replace HB := Aside0.mk (below_step HB.out hb8)
                          have HC8 := Aside0.mk hC8
                          clear ho8 hb8 hC8 hc8
                          refine hK.out _ _ (⟨(blk_cell HT.out 0).trans rfl, (blk_cell HT.out 1).trans rfl⟩) (fun hHeld => ?_)
                          clear hK K
                          refine norm_ (a' := ?_) ?_ ?_
                          rotate_left
                          · show Act.put _ (some 61) _ = _
                            simp only [Act.put, List.setIfInBounds_toArray, List.set_cons_zero, List.set_cons_succ, i64_w, i32_w]
                            rfl
                          refine one_ (i := 10) (N := some 62) #[true, true, true, true, true, true, true, true, true, true, true, false, false, false, false, false] rfl rfl (one_of HT_.out (by kernel_rfl)) (by decide) (fun K hK => ?_)
                          refine goes_ Try.func80 (by kernel_rfl) rfl #[.agg #[.int .i64 N, .slice AL L.length cL], .slice A8 (fd ++ [l]).length c8] (by rfl) rfl rfl (by simp only [List.map_toArray, List.map_cons, List.map_nil]; rfl) ?_
                          refine (HCl.out _ HB.out A8 c8 HC8.out).mono ?_
                          rintro e_ w_ ⟨⟨v9, rfl⟩, hb9⟩
                          refine ⟨_, rfl, ?_⟩
                          replace HT := Aside0.mk (blk_below HT.out hb9)
                          replace HO := Aside0.mk (pw_own_below HO.out hb9)
                          replace HX := Aside0.mk (blk_below HX.out hb9)
                          replace HB := Aside0.mk (below_step HB.out hb9)
                          clear hb9
                          refine hK.out _ _ (⟨(blk_cell HT.out 0).trans rfl, (blk_cell HT.out 1).trans rfl⟩) (fun hHeld => ?_)
                          clear hK K
                          refine norm_ (a' := ?_) ?_ ?_
                          rotate_left
                          · show Act.put _ (some 62) _ = _
                            simp only [Act.put, List.setIfInBounds_toArray, List.set_cons_zero, List.set_cons_succ, i64_w, i32_w]
                            rfl
                          refine pure_ (i := 11) (N := some 51) (v := ?_) (a' := ?_) #[true, true, true, true, true, true, true, true, true, true, true, true, false, false, false, false] rfl rfl (any_of HT_.out (by kernel_rfl)) (fun _ _ _ h => h) (Or.inl ⟨by rfl, ?_⟩) ?_ ?_
                          rotate_left
                          · intro w'
                            go_simp
                            with_reducible rfl
                          rotate_left
                          · simp only [Act.put, List.setIfInBounds_toArray, List.set_cons_zero, List.set_cons_succ, i64_w, i32_w]
                            rfl
                          refine pure_ (i := 12) (N := some 63) (v := ?_) (a' := ?_) #[true, true, true, true, true, true, true, true, true, true, true, true, true, false, false, false] rfl rfl (any_of HT_.out (by kernel_rfl)) (fun _ _ _ h => h) (Or.inl ⟨by rfl, ?_⟩) ?_ ?_
                          rotate_left
                          · intro w'
                            go_simp
                            with_reducible rfl
                          rotate_left
                          · simp only [Act.put, List.setIfInBounds_toArray, List.set_cons_zero, List.set_cons_succ, i64_w, i32_w]
                            rfl
                          refine pure_ (i := 13) (N := some 64) (v := ?_) (a' := ?_) #[true, true, true, true, true, true, true, true, true, true, true, true, true, true, false, false] rfl rfl (any_of HT_.out (by kernel_rfl)) (fun _ _ _ h => h) (Or.inl ⟨by rfl, ?_⟩) ?_ ?_
                          rotate_left
                          · intro w'
                            go_simp
                            with_reducible rfl
                          rotate_left
                          · simp only [Act.put, List.setIfInBounds_toArray, List.set_cons_zero, List.set_cons_succ, i64_w, i32_w]
                            rfl
                          refine pure_ (i := 14) (N := some 11) (v := ?_) (a' := ?_) #[true, true, true, true, true, true, true, true, true, true, true, true, true, true, true, false] rfl rfl (any_of HT_.out (by kernel_rfl)) (fun _ _ _ h => h) (Or.inl ⟨by rfl, ?_⟩) ?_ ?_
                          rotate_left
                          · intro w'
                            go_simp
                            with_reducible rfl
                          rotate_left
                          · simp only [Act.put, List.setIfInBounds_toArray, List.set_cons_zero, List.set_cons_succ, i64_w, i32_w]
                            rfl
                          refine pure_ (i := 15) (N := some 12) (v := ?_) (a' := ?_) #[true, true, true, true, true, true, true, true, true, true, true, true, true, true, true, true] rfl rfl (any_of HT_.out (by kernel_rfl)) (fun _ _ _ h => h) (Or.inl ⟨by rfl, ?_⟩) ?_ ?_
                          rotate_left
                          · intro w'
                            go_simp
                            with_reducible rfl
                          rotate_left
                          · simp only [Act.put, List.setIfInBounds_toArray, List.set_cons_zero, List.set_cons_succ, i64_w, i32_w]
                            rfl
                          refine done_ (done_of HT_.out (by kernel_rfl)) ?_
                          go_wp2
                          go_meet
                          case rel => exact ⟨rfl, HX, HO, HT, HB⟩
                      case rest =>
                        obtain ⟨rfl, HX9, HO9, HT9, HB9⟩ := hcut
                        clear HX HO HT HB HCl hcell
                        cases r with
                        | some out =>
                          have HTs := Aside0.mk (show tryLs N L k fd (([(v : Int) + 1, -((v : Int) + 1)] : List Int).drop (i + 1)) = tq from HTr.out)
                          clear HTr
                          go_wp2
                          go_roundg gk2
                          case measure => omega
                          case rel => exact ⟨i + 1, by omega, rfl, by go_num, HTs, HX9, HO9, HT9, HB9⟩
                        | none =>
                          have HPn := Aside0.mk (show probeU N L k fu (fd ++ [-l]) = some res by
                            have h1 : some (some l) = tq := HTr.out
                            have h2 := HFn.out
                            rw [← h1] at h2
                            have h3 := HPf.out
                            rw [← h2] at h3
                            exact h3)
                          have hl1 := HLb.out.1
                          have hl2 := HLb.out.2
                          clear HTr HFn HPf
                          have hfc : fd.length ≤ c7 := own_cap HO9.out
                          rcases own_form HO9.out with ⟨rfl, hfz, rfl⟩ | ⟨gf, rfl⟩
                          · obtain rfl := List.eq_nil_of_length_eq_zero hfz
                            clear hfz
                            go_wp2_with (at_builtin; refine app_full (A := none) (zs := ([] : List Int)) (full_C HO9.out) (fun _ => rfl) (-l) hlen9 rfl (.tmp 72) (.tmp 75) rfl rfl rfl ?_; intro v5 w5 ho5 hb5; obtain ⟨A5, c5, rfl, _, _, _, _⟩ := own_C ho5; have HO5 := Aside0.mk (own_less ho5 HB9.out.size); have HT5 := Aside0.mk (blk_below HT9.out hb5); have HB5 := Aside0.mk (below_step HB9.out hb5); clear ho5 hb5)
                            go_step3
                            refine ⟨rfl, ⟨fu, ([] : List Int) ++ [-l], A5, c5, ⟨rfl, rfl, rfl, rfl, rfl, rfl⟩, HPn, ⟨by rw [List.length_append, List.length_singleton]; have := HFl.out.2; omega⟩, HO5, HT5, HB5⟩, ?_⟩
                            show 1000 - (1) < 1000 - found.length
                            have := HFl.out
                            simp only [List.length_nil] at this
                            omega
                          · go_wp2_with (at_builtin; refine app_full (A := (some ⟨gf, 0, none⟩)) (zs := fd) (full_C HO9.out) (fun h => by cases h) (-l) hlen9 rfl (.tmp 72) (.tmp 75) rfl rfl rfl ?_; intro v5 w5 ho5 hb5; obtain ⟨A5, c5, rfl, _, _, _, _⟩ := own_C ho5; have HO5 := Aside0.mk (own_less ho5 HB9.out.size); have HT5 := Aside0.mk (blk_below HT9.out hb5); have HB5 := Aside0.mk (below_step HB9.out hb5); clear ho5 hb5)
                            go_step3
                            refine ⟨rfl, ⟨fu, fd ++ [-l], A5, c5, ⟨rfl, rfl, rfl, rfl, rfl, (show Value.slice A5 (fd.length + 1) c5 = Value.slice A5 (fd ++ [-l]).length c5 by rw [List.length_append, List.length_singleton])⟩, HPn, ⟨by rw [List.length_append, List.length_singleton]; have := HFl.out.2; omega⟩, HO5, HT5, HB5⟩, ?_⟩
                            show 1000 - (fd.length + 1) < 1000 - found.length
                            have := HFl.out
                            omega
end
end Go.Proofs.Ytbnjbjcokkcfcaa.Sol
namespace Go.Proofs.Ytbnjbjcokkcfcaa.Sol
open Go.RowKit Go.Proofs.YtbnjbjcokkcfcaaW.PrintWords Go.Proofs.YtbnjbjcokkcfcaaW.PrintLast Go.Proofs.YtbnjbjcokkcfcaaW.PrintMore Go.Proofs.Ytbnjbjcokkcfcaa.PSearchOwn
set_option linter.unusedVariables false
set_option linter.unusedSimpArgs false
theorem lits_C (W : World) (xs : List Int) (h0 : xs.length ≤ 1000) : (Kd.int .i64).C (W.alloc (.cells (nums .i64 xs).toArray 3)) (some ⟨W.heap.size, 0, none⟩) xs.length xs := by
  obtain ⟨A, c, e, h, _⟩ := own_C (own_lit W W.heap.size 3 .i64 xs (Nat.le_refl _) (by omega))
  cases e
  exact h
/-- Whether some model makes a literal false. -/
def opposeF (m : Nat) (L : List (List Int)) (x : Int) : Bool := (List.range (2 ^ m)).any fun k => evalB (m : Int) L (k, 0) && !sat1 (memS (k, 0)) x
theorem bit_of {k j : Nat} (hk : k < 2 ^ 63) : (bits .and .i64 ((k : Int) / 2 ^ j) 1 == 1) = k.testBit j := by
  have h1 : ((k : Int) / 2 ^ j) = ((k / 2 ^ j : Nat) : Int) := by rw [Int.natCast_ediv, Int.natCast_pow]; rfl
  have hw : ∀ n : Int, 0 ≤ n → n < 2 ^ 63 → IntKind.i64.wrap n = n := fun n h0 h1 => by simp [IntKind.wrap, IntKind.bits, IntKind.signed]; omega
  have h2 := (bits_nat .i64 63 (by decide) hw (k / 2 ^ j) 1 (Nat.lt_of_le_of_lt (Nat.div_le_self _ _) hk) (by decide)).1
  rw [h1, show (1 : Int) = ((1 : Nat) : Int) from rfl, h2, Nat.and_one_is_mod, Nat.testBit_eq_decide_div_mod_eq, Bool.eq_iff_iff, beq_iff_eq, decide_eq_true_iff]
  omega
theorem grow_bit (k j : Nat) (h : k.testBit j = true) : k % 2 ^ (j + 1) = (k % 2 ^ j) ||| 2 ^ j := by
  rw [Nat.testBit_eq_decide_div_mod_eq] at h
  rw [Nat.mod_pow_succ, of_decide_eq_true h, Nat.mul_one]
  have := Nat.two_pow_add_eq_or_of_lt (Nat.mod_lt k (Nat.two_pow_pos j)) 1
  rw [Nat.mul_one] at this
  rw [Nat.add_comm, this, Nat.or_comm]
theorem keep_bit (k j : Nat) (h : k.testBit j = false) : k % 2 ^ (j + 1) = k % 2 ^ j := by
  rw [Nat.testBit_eq_decide_div_mod_eq] at h
  rw [Nat.mod_pow_succ, show k / 2 ^ j % 2 = 0 by have := of_decide_eq_false h; omega, Nat.mul_zero, Nat.add_zero]
section
variable {W : World} {AL : Option Addr} {cL : Nat} {L : List (List Int)}
set_option maxHeartbeats 4000000 in
set_option maxRecDepth 100000 in
theorem opposed_calls {m : Nat} {x : Int} (hm : m ≤ 9) (hL : Kd.C (Kd.slice 3 (Kd.int .i64)) W AL L.length L) (hcL : L.length ≤ cL) (hx : varOf x ≠ 0) :
    Calls Try.prog 30 #[.agg #[.int .i64 (m : Int), .slice AL L.length cL], .int .i64 x] W fun e w' => e = .returned (.bool (opposeF m L x)) ∧ Below W.heap.size W w' := by
  unfold opposeF
  obtain ⟨P, hP⟩ : ∃ P : Nat, 2 ^ m = P := ⟨_, rfl⟩
  have hP512 : P ≤ 512 := by rw [← hP]; exact Nat.le_trans (Nat.pow_le_pow_right (by decide) hm) (by decide)
  have hwr : wrap64 ((2 : Int) ^ m) = (P : Int) := by
    rw [show ((2 : Int) ^ m) = ((2 ^ m : Nat) : Int) by simp, hP]; unfold wrap64; omega
  have hsk : ∀ k, k < P → SOk (k, 0) := fun k hk => ⟨by show k < 2 ^ 64; omega, by show 0 < 2 ^ 64; decide⟩
  obtain ⟨f, hf⟩ : ∃ f : Nat → Bool, (fun k => evalB (m : Int) L (k, 0) && !sat1 (memS (k, 0)) x) = f := ⟨_, rfl⟩
  rw [hP, hf]
  have HF := Aside0.mk (fun k => congrFun hf.symm k)
  have HPm := Aside0.mk hP
  have HEv0 := Aside0.mk (fun (k : Nat) (hk : k < P) (w : World) (hb : Below W.heap.size W w) => (show Calls Try.prog 26 #[.agg #[.int .i64 (m : Int), .slice AL L.length cL], .agg #[.int .u64 (k : Int), .int .u64 0]] w fun e w' => e = .returned (.bool (evalB (m : Int) L (k, 0))) ∧ Below w.heap.size w w' from eval_calls (N := (m : Int)) (s := (k, 0)) (Kd.C_below hL hb) hcL (hsk k hk)))
  have HAl0 := Aside0.mk (fun (k : Nat) (hk : k < P) (w : World) (A : Option Addr) (hC : (Kd.int .i64).C w A 1 [x]) => (show Calls Try.prog 27 #[.agg #[.int .u64 (k : Int), .int .u64 0], .slice A 1 1] w fun e w' => e = .returned (.bool (sat1 (memS (k, 0)) x)) ∧ Below w.heap.size w w' by
    have := allL_calls (c := 1) (s := (k, 0)) (l := [x]) hC (fun y hy => by rw [List.mem_singleton.1 hy]; exact hx) (hsk k hk)
    rw [List.all_cons, List.all_nil, Bool.and_true] at this
    exact this))
  have HWi0 := Aside0.mk (fun (p v : Nat) (hp : p < P) (h1 : 1 ≤ v) (h2 : v ≤ 9) (w : World) => (show Calls Try.prog 45 #[.agg #[.int .u64 (p : Int), .int .u64 0], .int .i64 (v : Int)] w fun e w' => e = .returned (.agg #[.int .u64 ((p ||| 2 ^ (v - 1) : Nat) : Int), .int .u64 0]) ∧ Below w.heap.size w w' by
    have := with_calls (p, 0) v h1 (by omega) w (hsk p hp).1 (hsk p hp).2
    unfold withS at this
    rw [if_pos (by omega)] at this
    exact this))
  have HX0 := Aside0.mk (fun (w : World) => blk_new w (.cells #[.int .u64 0, .int .u64 0] 34))
  have HT := Aside0.mk (blk_new W (.cells #[.int .i64 (m : Int), .slice AL L.length cL] 24))
  have HB := Aside0.mk (below_alloc (Below.refl W.heap.size W) (.cells #[.int .i64 (m : Int), .slice AL L.length cL] 24))
  clear hP hf hsk hL hcL hx
  go_enter Try.func30, Try.ntmps30
  go_wp2
  generalize W.alloc (.cells #[.int .i64 (m : Int), .slice AL L.length cL] 24) = w1 at HT HB ⊢
  go_loopg [5] P (fun gk v5 w' => ∃ (k : Nat), k + gk = P ∧ v5 = .int .i64 (k : Int) ∧ Aside0 ((List.range P).any f = (List.range' k gk).any f) ∧ Aside0 (w'.heap[W.heap.size]? = some (.cells #[.int .i64 (m : Int), .slice AL L.length cL] 24 (0, 0))) ∧ Aside0 (Below W.heap.size W w'))
  case atStart => exact ⟨0, by omega, rfl, ⟨by rw [List.range_eq_range']⟩, HT, HB⟩
  case round =>
    clear HT HB
    obtain ⟨k, hkg, rfl, HR, HT, HB⟩ := hrel
    have hc0 : wr.cell? ⟨W.heap.size, 0, none⟩ = some (.int .i64 (m : Int)) := (blk_cell HT.out 0).trans rfl
    have hc1 : wr.cell? ⟨W.heap.size, 1, none⟩ = some (.slice AL L.length cL) := (blk_cell HT.out 1).trans rfl
    cases gk with
    | zero =>
      have hi : ¬ ((k : Int) < (P : Int)) := by omega
      go_wp2
      go_ret
      exact ⟨by rw [HR.out]; rfl, HB.out⟩
    | succ gk =>
      have hi : ((k : Int) < (P : Int)) := by omega
      have hkP : k < P := by omega
      have HX1 := Aside0.mk (HX0.out wr)
      have HT1 := Aside0.mk (blk_alloc HT.out (.cells #[.int .u64 0, .int .u64 0] 34))
      have HB1 := Aside0.mk (below_alloc HB.out (.cells #[.int .u64 0, .int .u64 0] 34))
      have HGe := Aside0.mk HB.out.size
      have HNe := Aside0.mk (show W.heap.size ≠ wr.heap.size from Nat.ne_of_lt (blk_lt HT.out))
      have HR2 := Aside0.mk (show (List.range P).any f = (f k || (List.range' (k + 1) gk).any f) by rw [HR.out, List.range'_succ, List.any_cons])
      have HEv := Aside0.mk (HEv0.out k hkP)
      have HAl := Aside0.mk (HAl0.out k hkP)
      go_wp2
      rw [hwr]
      clear hc0 hc1 hwr HEv0 HAl0 HX0 HR HT HB
      generalize wr.alloc (.cells #[.int .u64 0, .int .u64 0] 34) = w1 at HX1 HT1 HB1 ⊢
      generalize wr.heap.size = b6 at HX1 HGe HNe ⊢
      go_loopg [7] m (fun gj v7 w' => ∃ (j : Nat), j + gj = m ∧ v7 = .int .i64 ((j : Int) + 1) ∧ Aside0 (w'.heap[b6]? = some (.cells #[.int .u64 ((k % 2 ^ j : Nat) : Int), .int .u64 0] 34 (0, 0))) ∧ Aside0 (w'.heap[W.heap.size]? = some (.cells #[.int .i64 (m : Int), .slice AL L.length cL] 24 (0, 0))) ∧ Aside0 (Below W.heap.size W w'))
      case atStart => exact ⟨0, by omega, by go_num, ⟨by rw [Nat.pow_zero, Nat.mod_one]; exact HX1.out⟩, HT1, HB1⟩
      case round =>
        clear HX1 HT1 HB1
        obtain ⟨j, hjg, rfl, HX, HT, HB⟩ := hrel
        have hc0 : wr.cell? ⟨W.heap.size, 0, none⟩ = some (.int .i64 (m : Int)) := (blk_cell HT.out 0).trans rfl
        cases gk with
        | zero =>
          have hjm : j = m := by omega
          have hj : ¬ ((j : Int) + 1 ≤ (m : Int)) := by omega
          replace HX := Aside0.mk (show wr.heap[b6]? = some (.cells #[.int .u64 (k : Int), .int .u64 0] 34 (0, 0)) by
            have h := HX.out
            rwa [hjm, HPm.out, Nat.mod_eq_of_lt hkP] at h)
          have HFk := Aside0.mk (HF.out k)
          clear hjm
          clear HF HWi0
          generalize evalB (m : Int) L (k, 0) = eb at HEv HFk
          generalize sat1 (memS (k, 0)) x = sb at HAl HFk
          have hq0 : wr.cell? ⟨b6, 0, none⟩ = some (.int .u64 (k : Int)) := (blk_cell HX.out 0).trans rfl
          have hq1 : wr.cell? ⟨b6, 1, none⟩ = some (.int .u64 0) := (blk_cell HX.out 1).trans rfl
          have hc1 : wr.cell? ⟨W.heap.size, 1, none⟩ = some (.slice AL L.length cL) := (blk_cell HT.out 1).trans rfl
          cases eb with
          | false =>
            go_wp2_with (go_at_call 26; refine (HEv.out _ HB.out).mono ?_; rintro e w2 ⟨rfl, hb2⟩; have HT2 := Aside0.mk (blk_below HT.out hb2); have HB2 := Aside0.mk (below_step HB.out hb2); clear hb2)
            go_roundg gk
            case measure => omega
            case rel => exact ⟨k + 1, by omega, by go_num, ⟨by rw [HR2.out, HFk.out]; rfl⟩, HT2, HB2⟩
          | true =>
            cases sb with
            | false =>
              go_wp2_with (first
                | (go_at_call 26; refine (HEv.out _ HB.out).mono ?_; rintro e w2 ⟨rfl, hb2⟩; have HC2 := Aside0.mk (lits_C w2 [x] (by show 1 ≤ 1000; decide)); have HX2 := Aside0.mk (blk_below HX.out hb2); have HB2 := Aside0.mk (below_alloc (below_step HB.out hb2) (.cells #[.int .i64 x] 3)); have hr0 : w2.cell? ⟨b6, 0, none⟩ = some (.int .u64 (k : Int)) := (blk_cell HX2.out 0).trans rfl; have hr1 : w2.cell? ⟨b6, 1, none⟩ = some (.int .u64 0) := (blk_cell HX2.out 1).trans rfl; clear hb2)
                | (go_at_call 27; refine (HAl.out _ _ HC2.out).mono ?_; rintro e w3 ⟨rfl, hb3⟩; have HB3 := Aside0.mk (below_step HB2.out hb3); clear hb3))
              go_ret
              exact ⟨by rw [HR2.out, HFk.out]; rfl, HB3.out⟩
            | true =>
              go_wp2_with (first
                | (go_at_call 26; refine (HEv.out _ HB.out).mono ?_; rintro e w2 ⟨rfl, hb2⟩; have HC2 := Aside0.mk (lits_C w2 [x] (by show 1 ≤ 1000; decide)); have HX2 := Aside0.mk (blk_below HX.out hb2); have HT2 := Aside0.mk (blk_alloc (blk_below HT.out hb2) (.cells #[.int .i64 x] 3)); have HB2 := Aside0.mk (below_alloc (below_step HB.out hb2) (.cells #[.int .i64 x] 3)); have hr0 : w2.cell? ⟨b6, 0, none⟩ = some (.int .u64 (k : Int)) := (blk_cell HX2.out 0).trans rfl; have hr1 : w2.cell? ⟨b6, 1, none⟩ = some (.int .u64 0) := (blk_cell HX2.out 1).trans rfl; clear hb2)
                | (go_at_call 27; refine (HAl.out _ _ HC2.out).mono ?_; rintro e w3 ⟨rfl, hb3⟩; have HB3 := Aside0.mk (below_step HB2.out hb3); have HT3 := Aside0.mk (blk_below HT2.out hb3); clear hb3))
              go_roundg gk
              case measure => omega
              case rel => exact ⟨k + 1, by omega, by go_num, ⟨by rw [HR2.out, HFk.out]; rfl⟩, HT3, HB3⟩
        | succ gk2 =>
          have hj : ((j : Int) + 1 ≤ (m : Int)) := by omega
          have hq0 : wr.cell? ⟨b6, 0, none⟩ = some (.int .u64 ((k % 2 ^ j : Nat) : Int)) := (blk_cell HX.out 0).trans rfl
          have hq1 : wr.cell? ⟨b6, 1, none⟩ = some (.int .u64 0) := (blk_cell HX.out 1).trans rfl
          have hbit : (bits .and .i64 ((k : Int) / 2 ^ j) 1 == 1) = k.testBit j := bit_of (by omega)
          cases hb : k.testBit j with
          | true =>
            rw [hb] at hbit
            have HWi := Aside0.mk (show Calls Try.prog 45 #[.agg #[.int .u64 ((k % 2 ^ j : Nat) : Int), .int .u64 0], .int .i64 ((j : Int) + 1)] wr fun e w' => e = .returned (.agg #[.int .u64 ((k % 2 ^ (j + 1) : Nat) : Int), .int .u64 0]) ∧ Below wr.heap.size wr w' by
              have := HWi0.out (k % 2 ^ j) (j + 1) (Nat.lt_of_le_of_lt (Nat.mod_le _ _) hkP) (by omega) (by omega) wr
              rw [Nat.add_sub_cancel, ← grow_bit k j hb] at this
              exact this)
            have HGq := Aside0.mk (Eq.refl (k % 2 ^ (j + 1) : Nat))
            generalize hq : (k % 2 ^ (j + 1) : Nat) = q at HWi
            generalize (k % 2 ^ j : Nat) = p at HWi HX hq0
            have HQ := Aside0.mk hq
            clear hq HGq
            go_wp2_with (go_at_call 45; refine (HWi.out).mono ?_; rintro e w2 ⟨rfl, hb2⟩; have HX2 := Aside0.mk (blk_below HX.out hb2); have HT2 := Aside0.mk (blk_below HT.out hb2); have HB2 := Aside0.mk (below_step HB.out hb2); have hr0 : w2.cell? ⟨b6, 0, none⟩ = some (.int .u64 (p : Int)) := (blk_cell HX2.out 0).trans rfl; have hr1 : w2.cell? ⟨b6, 1, none⟩ = some (.int .u64 0) := (blk_cell HX2.out 1).trans rfl; have hf0 := blk_frozen HX2.out 0; have hf1 := blk_frozen HX2.out 1; clear hb2)
            go_roundg gk2
            case measure => omega
            case rel => exact ⟨j + 1, by omega, by go_num, ⟨by rw [HQ.out]; exact blk_put (blk_put HX2.out 0 _ rfl) 1 _ rfl⟩, ⟨blk_far (blk_far HT2.out HNe.out _) HNe.out _⟩, ⟨below_set (below_set HB2.out HGe.out) HGe.out⟩⟩
          | false =>
            rw [hb] at hbit
            have HK := Aside0.mk (keep_bit k j hb)
            generalize (k % 2 ^ j : Nat) = p at HK HX hq0 hq1
            go_wp2
            go_roundg gk2
            case measure => omega
            case rel => exact ⟨j + 1, by omega, by go_num, ⟨by rw [HK.out]; exact HX.out⟩, HT, HB⟩
end
end Go.Proofs.Ytbnjbjcokkcfcaa.Sol
namespace Go.Proofs.Ytbnjbjcokkcfcaa.Sol
open Go.RowKit Go.Proofs.YtbnjbjcokkcfcaaW.PrintWords Go.Proofs.YtbnjbjcokkcfcaaW.PrintLast Go.Proofs.YtbnjbjcokkcfcaaW.PrintMore Go.Proofs.Ytbnjbjcokkcfcaa.PSearchOwn
set_option linter.unusedVariables false
set_option linter.unusedSimpArgs false
theorem res10 {tmps : Array Value} {w : World} {gR : Nat} {a b : Nat} {ok : Bool} {er : Int} (h4 : tmps.getD 4 undef = .pointer (some ⟨gR, 0, none⟩)) (h5 : tmps.getD 5 undef = .bool ok) (h6 : tmps.getD 6 undef = .int .i64 er) (hg : w.heap[gR]? = some (.cells #[.int .u64 (a : Int), .int .u64 (b : Int)] 34 (0, 0))) :
    (results Try.f10 tmps).run Try.prog w = .ok (.tuple #[.agg #[.int .u64 (a : Int), .int .u64 (b : Int)], .bool ok, .int .i64 er]) w := by
  have h := results_list (P := Try.prog) (fn := Try.f10) (tmps := tmps) (w := w) (rs := [.cell 4 34, .tmp 5, .tmp 6]) rfl (by simp) (.cell gR 34 #[.int .u64 (a : Int), .int .u64 (b : Int)] (0, 0) _ h4 hg Try.underlying34 rfl size34 (.tmp (.tmp .nil)))
  rw [h5, h6] at h
  exact h
/-- What Solve leaves. -/
def SolvedPost (W : World) (r : Bool × (Nat × Nat)) (e : Ending) (w' : World) : Prop :=
  e = .returned (.tuple #[setV2 r.2, .bool r.1, .int .i64 0]) ∧ Below W.heap.size W w'
set_option maxHeartbeats 4000000 in
set_option maxRecDepth 100000 in
theorem solved_calls {m : Nat} {W : World} {AL : Option Addr} {cL : Nat} {L : List (List Int)} {A : Option Addr} {c : Nat} {asm : List Int} (hL : Kd.C (Kd.slice 3 (Kd.int .i64)) W AL L.length L) (hcL : L.length ≤ cL) (hA : (Kd.int .i64).C W A asm.length asm) (hc : asm.length ≤ c)
    (hchk : checkL (m : Int) L asm = 0) (hm : m ≤ 128) (hok : AllOk (m + 1) L) (hasm : ∀ l ∈ asm, LitOk (m + 1) l) :
    Calls Try.prog 10 #[.agg #[.int .i64 (m : Int), .slice AL L.length cL], .slice A asm.length c] W (SolvedPost W (satF L m asm)) := by
  have hck : ∀ w, Below W.heap.size W w → Calls Try.prog 34 #[.agg #[.int .i64 (m : Int), .slice AL L.length cL], .slice A asm.length c] w fun e w' => e = .returned (.int .i64 0) ∧ Below w.heap.size w w' := fun w hb => by
    have := checkL_calls (N := (m : Int)) (Kd.C_below hL hb) hcL (Kd.C_below hA hb) hc
    rwa [hchk] at this
  have hst : ∀ w, Below W.heap.size W w → Calls Try.prog 35 #[.agg #[.int .i64 (m : Int), .slice AL L.length cL], .slice A asm.length c] w (SolvePost w (satF L m asm)) := fun w hb => sat_calls (Kd.C_below hL hb) hcL (Kd.C_below hA hb) hm hok hasm
  have HCK := Aside0.mk hck
  have HST := Aside0.mk hst
  clear hck hst hL hcL hA hc hok hasm hchk
  have HB0 := Aside0.mk (below_alloc (below_alloc (Below.refl W.heap.size W) (.cells #[.int .i64 (m : Int), .slice AL L.length cL] 24)) (.cells #[.int .u64 0, .int .u64 0] 34))
  have HT0 := Aside0.mk (blk_alloc (blk_new W (.cells #[.int .i64 (m : Int), .slice AL L.length cL] 24)) (.cells #[.int .u64 0, .int .u64 0] 34))
  have hR0 := blk_new (W.alloc (.cells #[.int .i64 (m : Int), .slice AL L.length cL] 24)) (.cells #[.int .u64 0, .int .u64 0] 34)
  rw [show (W.alloc (.cells #[.int .i64 (m : Int), .slice AL L.length cL] 24)).heap.size = W.heap.size + 1 by simp] at hR0
  have HR0 := Aside0.mk hR0
  clear hR0
  generalize satF L m asm = r at HST
  obtain ⟨r1, r2a, r2b⟩ := r
  go_enter Try.func10, Try.ntmps10
  go_wp2_with (first
    | (go_at_call 34; refine (HCK.out _ HB0.out).mono ?_; rintro e w2 ⟨rfl, hb2⟩; have HB2 := Aside0.mk (below_step HB0.out hb2); have HT2 := Aside0.mk (blk_below HT0.out hb2); have HR2 := Aside0.mk (blk_below HR0.out hb2); clear hb2; have hc0 : w2.cell? ⟨W.heap.size, 0, none⟩ = some (.int .i64 (m : Int)) := (blk_cell HT2.out 0).trans rfl; have hc1 : w2.cell? ⟨W.heap.size, 1, none⟩ = some (.slice AL L.length cL) := (blk_cell HT2.out 1).trans rfl)
    | (go_at_call 35; refine (HST.out _ HB2.out).mono ?_; rintro e w3 ⟨rfl, hb3⟩; have HB3 := Aside0.mk (below_step HB2.out hb3); have HR3 := Aside0.mk (blk_below HR2.out hb3); clear hb3; have hq0 : (w3.alloc (.cells #[.int .u64 (r2a : Int), .int .u64 (r2b : Int)] 34)).cell? ⟨W.heap.size + 1, 0, none⟩ = some (.int .u64 0) := (blk_cell (blk_alloc HR3.out _) 0).trans rfl; have hq1 : (w3.alloc (.cells #[.int .u64 (r2a : Int), .int .u64 (r2b : Int)] 34)).cell? ⟨W.heap.size + 1, 1, none⟩ = some (.int .u64 0) := (blk_cell (blk_alloc HR3.out _) 1).trans rfl; have hf0 := blk_frozen (blk_alloc HR3.out (.cells #[.int .u64 (r2a : Int), .int .u64 (r2b : Int)] 34)) 0; have hf1 := blk_frozen (blk_alloc HR3.out (.cells #[.int .u64 (r2a : Int), .int .u64 (r2b : Int)] 34)) 1))
  refine bodyPost_ret (res10 (a := r2a) (b := r2b) rfl rfl rfl (blk_put (blk_put (blk_alloc HR3.out _) 0 _ rfl) 1 _ rfl)) rfl ⟨rfl, ?_⟩
  exact below_set (below_set (below_alloc HB3.out _) (Nat.le_succ _)) (Nat.le_succ _)
end Go.Proofs.Ytbnjbjcokkcfcaa.Sol
namespace Go.Proofs.Ytbnjbjcokkcfcaa.Sol
open Go.RowKit Go.Proofs.YtbnjbjcokkcfcaaW.PrintWords Go.Proofs.YtbnjbjcokkcfcaaW.PrintLast Go.Proofs.YtbnjbjcokkcfcaaW.PrintMore Go.Proofs.Ytbnjbjcokkcfcaa.PSearchOwn
set_option linter.unusedVariables false
set_option linter.unusedSimpArgs false
/-- The literal of a variable that the least model makes true. -/
def boneL (s : Nat × Nat) (v : Nat) : Int := if memS s v then (v : Int) else -(v : Int)
/-- The backbone as far as a variable. -/
def bonesTo (L : List (List Int)) (m : Nat) (s : Nat × Nat) : Nat → List Int
  | 0 => []
  | k + 1 => if (satF L m [-boneL s (k + 1)]).1 then bonesTo L m s k else bonesTo L m s k ++ [boneL s (k + 1)]
theorem bones_len (L : List (List Int)) (m : Nat) (s : Nat × Nat) : ∀ k, (bonesTo L m s k).length ≤ k
  | 0 => Nat.le_refl _
  | k + 1 => by
    have := bones_len L m s k
    rw [bonesTo]
    split
    · omega
    · rw [List.length_append, List.length_singleton]; omega
theorem lit1_ok {m : Nat} {l : Int} (h : l = 0 → False) (h1 : -(m : Int) ≤ l) (h2 : l ≤ m) (hm : m ≤ 128) : LitOk (m + 1) l ∧ litsB [l] (m : Int) = true := by
  have h' : l ≠ 0 := h
  refine ⟨⟨fun e => h e, by omega, by omega⟩, ?_⟩
  rw [litsB_hit]
  · rfl
  · unfold validB varOf
    refine decide_eq_true ?_
    by_cases hp : 1 ≤ l ∧ l ≤ 128
    · rw [if_pos hp]; omega
    · rw [if_neg hp, if_pos (by omega)]; omega
theorem ret3 {fn : Func} {tmps : Array Value} {w : World} {i j k : Nat} (h : fn.results = #[.tmp i, .tmp j, .tmp k]) : (results fn tmps).run Try.prog w = .ok (.tuple #[tmps.getD i undef, tmps.getD j undef, tmps.getD k undef]) w :=
  results_list (P := Try.prog) (fn := fn) (tmps := tmps) (w := w) (rs := [.tmp i, .tmp j, .tmp k]) h (by simp) (.tmp (.tmp (.tmp .nil)))
/-- What Backbone leaves. -/
def BonesPost (W : World) (l : List Int) (e : Ending) (w' : World) : Prop := ∃ v, e = .returned (.tuple #[v, .bool true, .int .i64 0]) ∧ w'.ownsRow W.heap.size 3 1 v l.length (nums .i64 l) ∧ Below W.heap.size W w'
section
variable {W : World} {AL : Option Addr} {cL : Nat} {N : Int} {L : List (List Int)}
set_option maxHeartbeats 2000000 in
set_option maxRecDepth 100000 in
theorem bones_off (hL : Kd.C (Kd.slice 3 (Kd.int .i64)) W AL L.length L) (hcL : L.length ≤ cL) (h0 : checkF N L ≠ 0) :
    Calls Try.prog 25 #[.agg #[.int .i64 N, .slice AL L.length cL]] W fun e w' => e = .returned (.tuple #[.slice none 0 0, .bool false, .int .i64 (checkF N L)]) ∧ Below W.heap.size W w' := by
  have hck : ∀ w, Below W.heap.size W w → Calls Try.prog 31 #[.agg #[.int .i64 N, .slice AL L.length cL]] w fun e w' => e = .returned (.int .i64 (checkF N L)) ∧ Below w.heap.size w w' := fun w hb => check_calls (Kd.C_below hL hb) hcL
  generalize checkF N L = x at hck h0 ⊢
  have hne : ((x != 0) : Bool) = true := by simpa using h0
  have hne2 : ((x == 0) : Bool) = false := by simpa using h0
  have HB := Aside0.mk (below_alloc (Below.refl W.heap.size W) (.cells #[.int .i64 N, .slice AL L.length cL] 24))
  have HCk := Aside0.mk (hck _ HB.out)
  clear hck hL hcL
  go_enter Try.func25, Try.ntmps25
  go_wp2_with (go_at_call 31; refine (HCk.out).mono ?_; rintro e w2 ⟨rfl, hb2⟩; have HB2 := Aside0.mk (below_step HB.out hb2); clear hb2)
  exact bodyPost_ret (ret3 rfl) rfl ⟨rfl, HB2.out⟩
set_option maxHeartbeats 4000000 in
set_option maxRecDepth 100000 in
theorem bones_none (hL : Kd.C (Kd.slice 3 (Kd.int .i64)) W AL L.length L) (hcL : L.length ≤ cL) {m : Nat} (h0 : checkF (m : Int) L = 0) (hs : (satF L m []).1 = false) :
    Calls Try.prog 25 #[.agg #[.int .i64 (m : Int), .slice AL L.length cL]] W fun e w' => e = .returned (.tuple #[.slice none 0 0, .bool false, .int .i64 0]) ∧ Below W.heap.size W w' := by
  obtain ⟨m', hm', hm, _, hok, _⟩ := checkF_ok h0
  obtain rfl : m = m' := by omega
  have hck : ∀ w, Below W.heap.size W w → Calls Try.prog 31 #[.agg #[.int .i64 (m : Int), .slice AL L.length cL]] w fun e w' => e = .returned (.int .i64 0) ∧ Below w.heap.size w w' := fun w hb => by
    have := check_calls (N := (m : Int)) (Kd.C_below hL hb) hcL
    rwa [h0] at this
  have hsv : ∀ w, Below W.heap.size W w → Calls Try.prog 10 #[.agg #[.int .i64 (m : Int), .slice AL L.length cL], .slice none 0 0] w fun e w' => e = .returned (.tuple #[setV2 (satF L m []).2, .bool false, .int .i64 0]) ∧ Below w.heap.size w w' := fun w hb => by
    have := solved_calls (m := m) (c := 0) (asm := []) (Kd.C_below hL hb) hcL (Kd.C_nil _ _) (Nat.le_refl _) (by unfold checkL; rw [if_pos h0]; rfl) hm hok (fun l hl => by cases hl)
    unfold SolvedPost at this
    rwa [hs] at this
  generalize (satF L m []).2 = s at hsv
  have HB := Aside0.mk (below_alloc (Below.refl W.heap.size W) (.cells #[.int .i64 (m : Int), .slice AL L.length cL] 24))
  have HT := Aside0.mk (blk_new W (.cells #[.int .i64 (m : Int), .slice AL L.length cL] 24))
  have HCk := Aside0.mk (hck _ HB.out)
  have HSv := Aside0.mk hsv
  clear hck hsv hs h0 hm' hok
  go_enter Try.func25, Try.ntmps25
  go_wp2_with (first
    | (go_at_call 31; refine (HCk.out).mono ?_; rintro e w2 ⟨rfl, hb2⟩; have HB2 := Aside0.mk (below_step HB.out hb2); have HT2 := Aside0.mk (blk_below HT.out hb2); have hc0 : w2.cell? ⟨W.heap.size, 0, none⟩ = some (.int .i64 (m : Int)) := (blk_cell HT2.out 0).trans rfl; have hc1 : w2.cell? ⟨W.heap.size, 1, none⟩ = some (.slice AL L.length cL) := (blk_cell HT2.out 1).trans rfl; clear hb2)
    | (go_at_call 10; refine (HSv.out _ HB2.out).mono ?_; rintro e w3 ⟨rfl, hb3⟩; have HB3 := Aside0.mk (below_step HB2.out hb3); clear hb3))
  exact bodyPost_ret (ret3 rfl) rfl ⟨rfl, below_alloc HB3.out _⟩
set_option maxHeartbeats 8000000 in
set_option maxRecDepth 100000 in
theorem bones_some (hL : Kd.C (Kd.slice 3 (Kd.int .i64)) W AL L.length L) (hcL : L.length ≤ cL) {m : Nat} (h0 : checkF (m : Int) L = 0) (hs : (satF L m []).1 = true) :
    Calls Try.prog 25 #[.agg #[.int .i64 (m : Int), .slice AL L.length cL]] W (BonesPost W (bonesTo L m (satF L m []).2 m)) := by
  obtain ⟨m', hm', hm, _, hok, _⟩ := checkF_ok h0
  obtain rfl : m = m' := by omega
  have hck : ∀ w, Below W.heap.size W w → Calls Try.prog 31 #[.agg #[.int .i64 (m : Int), .slice AL L.length cL]] w fun e w' => e = .returned (.int .i64 0) ∧ Below w.heap.size w w' := fun w hb => by
    have := check_calls (N := (m : Int)) (Kd.C_below hL hb) hcL
    rwa [h0] at this
  have hsv : ∀ w, Below W.heap.size W w → Calls Try.prog 10 #[.agg #[.int .i64 (m : Int), .slice AL L.length cL], .slice none 0 0] w fun e w' => e = .returned (.tuple #[setV2 (satF L m []).2, .bool true, .int .i64 0]) ∧ Below w.heap.size w w' := fun w hb => by
    have := solved_calls (m := m) (c := 0) (asm := []) (Kd.C_below hL hb) hcL (Kd.C_nil _ _) (Nat.le_refl _) (by unfold checkL; rw [if_pos h0]; rfl) hm hok (fun l hl => by cases hl)
    unfold SolvedPost at this
    rwa [hs] at this
  have hsk : SOk (satF L m []).2 := (sat_spec hm hok (asm := []) (fun l hl => by cases hl)).1
  generalize (satF L m []).2 = s at hsv hsk ⊢
  have HSv1 := Aside0.mk (fun (l : Int) (hl : l = 0 → False) (h1 : -(m : Int) ≤ l) (h2 : l ≤ m) (w : World) (A : Option Addr) (hb : Below W.heap.size W w) (hC : (Kd.int .i64).C w A 1 [l]) => (show Calls Try.prog 10 #[.agg #[.int .i64 (m : Int), .slice AL L.length cL], .slice A 1 1] w fun e w' => e = .returned (.tuple #[setV2 (satF L m [l]).2, .bool (satF L m [l]).1, .int .i64 0]) ∧ Below w.heap.size w w' by
    have hlo := lit1_ok hl h1 h2 hm
    exact solved_calls (m := m) (c := 1) (asm := [l]) (Kd.C_below hL hb) hcL hC (Nat.le_refl _) (by unfold checkL; rw [if_pos h0, if_pos hlo.2]) hm hok (fun y hy => by rw [List.mem_singleton.1 hy]; exact hlo.1)))
  have HHas := Aside0.mk (fun (v : Nat) (h1 : 1 ≤ v) (h2 : v ≤ 128) (w : World) => has_calls s v h1 h2 w hsk)
  have HB := Aside0.mk (below_alloc (Below.refl W.heap.size W) (.cells #[.int .i64 (m : Int), .slice AL L.length cL] 24))
  have HT := Aside0.mk (blk_new W (.cells #[.int .i64 (m : Int), .slice AL L.length cL] 24))
  have HCk := Aside0.mk (hck _ HB.out)
  have HSv := Aside0.mk hsv
  obtain ⟨r, hr⟩ : ∃ r : Int → Bool × (Nat × Nat), (fun l => satF L m [l]) = r := ⟨_, rfl⟩
  replace HSv1 := Aside0.mk (fun l => by have := HSv1.out l; rw [show satF L m [l] = r l from congrFun hr l] at this; exact this)
  have HBo := Aside0.mk (show ∀ k, bonesTo L m s (k + 1) = if (r (-boneL s (k + 1))).1 then bonesTo L m s k else bonesTo L m s k ++ [boneL s (k + 1)] from fun k => by rw [bonesTo, ← hr])
  have HLen := Aside0.mk (bones_len L m s)
  obtain ⟨bo, hbo⟩ : ∃ bo : Nat → List Int, bonesTo L m s = bo := ⟨_, rfl⟩
  rw [hbo] at HBo HLen ⊢
  have HBo0 := Aside0.mk (show bo 0 = [] from by rw [← hbo]; rfl)
  clear hck hsv hs h0 hm' hok hr hbo hsk
  go_enter Try.func25, Try.ntmps25
  go_wp2_with (first
    | (go_at_call 31; refine (HCk.out).mono ?_; rintro e w2 ⟨rfl, hb2⟩; have HB2 := Aside0.mk (below_step HB.out hb2); have HT2 := Aside0.mk (blk_below HT.out hb2); have hc0 : w2.cell? ⟨W.heap.size, 0, none⟩ = some (.int .i64 (m : Int)) := (blk_cell HT2.out 0).trans rfl; have hc1 : w2.cell? ⟨W.heap.size, 1, none⟩ = some (.slice AL L.length cL) := (blk_cell HT2.out 1).trans rfl; clear hb2)
    | (go_at_call 10; refine (HSv.out _ HB2.out).mono ?_; rintro e w3 ⟨rfl, hb3⟩; have HB3 := Aside0.mk (below_alloc (below_step HB2.out hb3) (.cells #[.int .u64 (s.1 : Int), .int .u64 (s.2 : Int)] 34)); have HT3 := Aside0.mk (blk_alloc (blk_below HT2.out hb3) (.cells #[.int .u64 (s.1 : Int), .int .u64 (s.2 : Int)] 34)); have HS3 := Aside0.mk (blk_new w3 (.cells #[.int .u64 (s.1 : Int), .int .u64 (s.2 : Int)] 34)); clear hb3))
  have HGe := Aside0.mk (show W.heap.size ≤ (w3.alloc (.cells #[.int .u64 (s.1 : Int), .int .u64 (s.2 : Int)] 34)).heap.size from HB3.out.size)
  clear HB2 HT2 hc0 hc1 HCk HSv
  generalize w3.alloc (.cells #[.int .u64 (s.1 : Int), .int .u64 (s.2 : Int)] 34) = w4 at HB3 HT3 HS3 HGe ⊢
  generalize w3.heap.size = b6 at HS3 ⊢
  go_loopg [9, 10] m (fun gk v9 v10 w' => ∃ (k : Nat) (A : Option Addr) (c : Nat), k + gk = m ∧ v9 = .slice A (bo k).length c ∧ v10 = .int .i64 ((k : Int) + 1) ∧ Aside0 (w'.ownsRow W.heap.size 3 1 (.slice A (bo k).length c) (bo k).length (nums .i64 (bo k))) ∧ Aside0 (w'.heap[b6]? = some (.cells #[.int .u64 (s.1 : Int), .int .u64 (s.2 : Int)] 34 (0, 0))) ∧ Aside0 (w'.heap[W.heap.size]? = some (.cells #[.int .i64 (m : Int), .slice AL L.length cL] 24 (0, 0))) ∧ Aside0 (Below W.heap.size W w'))
  case atStart => exact ⟨0, none, 0, by omega, by rw [HBo0.out]; rfl, by go_num, ⟨by rw [HBo0.out]; exact own_nil _ _ _ _⟩, HS3, HT3, HB3⟩
  case round =>
    clear HS3 HT3 HB3 HB HT
    obtain ⟨k, A, c, hkg, rfl, rfl, HO, HS, HT, HB⟩ := hrel
    have hc0 : wr.cell? ⟨W.heap.size, 0, none⟩ = some (.int .i64 (m : Int)) := (blk_cell HT.out 0).trans rfl
    have hc1 : wr.cell? ⟨W.heap.size, 1, none⟩ = some (.slice AL L.length cL) := (blk_cell HT.out 1).trans rfl
    have hd0 : wr.cell? ⟨b6, 0, none⟩ = some (.int .u64 (s.1 : Int)) := (blk_cell HS.out 0).trans rfl
    have hd1 : wr.cell? ⟨b6, 1, none⟩ = some (.int .u64 (s.2 : Int)) := (blk_cell HS.out 1).trans rfl
    cases gk with
    | zero =>
      have hk : k = m := by omega
      subst hk
      have hi : ¬ ((k : Int) + 1 ≤ (k : Int)) := by omega
      go_wp2
      exact bodyPost_ret (ret3 rfl) rfl ⟨_, rfl, HO.out, HB.out⟩
    | succ gk =>
      have hi : ((k : Int) + 1 ≤ (m : Int)) := by omega
      have HHk := Aside0.mk (show Calls Try.prog 60 #[setV2 s, .int .i64 ((k : Int) + 1)] wr fun e w' => e = .returned (.bool (memS s (k + 1))) ∧ Below wr.heap.size wr w' from HHas.out (k + 1) (by omega) (by omega) wr)
      have hlen : (bo k).length ≤ 4096 := Nat.le_trans (HLen.out k) (by omega)
      have HN := Aside0.mk (HBo.out k)
      cases hmem : memS s (k + 1) with
      | true =>
        have hl : boneL s (k + 1) = (k : Int) + 1 := by unfold boneL; rw [if_pos hmem]; rfl
        rw [hmem] at HHk
        rw [hl] at HN
        have HS1 := Aside0.mk (HSv1.out (-((k : Int) + 1)) (by omega) (by omega) (by omega))
        cases hr1 : (r (-((k : Int) + 1))).1 with
        | true =>
          rw [hr1] at HS1
          have HNk := Aside0.mk (show bo (k + 1) = bo k by rw [HN.out, hr1]; rfl)
          generalize (r (-((k : Int) + 1))).2 = p at HS1
          clear hr1 hmem hl HN HHas HSv1
          go_wp2_with (first | (go_at_call 60; refine (HHk.out).mono ?_; rintro e w2 ⟨rfl, hb2⟩; have HC2 := Aside0.mk (lits_C w2 [-((k : Int) + 1)] (by show 1 ≤ 1000; decide)); have HO2 := Aside0.mk (pw_own_below HO.out hb2); have HS2 := Aside0.mk (blk_below HS.out hb2); have HT2 := Aside0.mk (blk_below HT.out hb2); have HB2 := Aside0.mk (below_step HB.out hb2); have he0 : w2.cell? ⟨W.heap.size, 0, none⟩ = some (.int .i64 (m : Int)) := (blk_cell HT2.out 0).trans rfl; have he1 : w2.cell? ⟨W.heap.size, 1, none⟩ = some (.slice AL L.length cL) := (blk_cell HT2.out 1).trans rfl; clear hb2) | (go_at_call 10; refine (HS1.out _ _ (below_alloc HB2.out (.cells #[.int .i64 (-((k : Int) + 1))] 3)) HC2.out).mono ?_; rintro e w3 ⟨rfl, hb3⟩; have HO3 := Aside0.mk (own_alloc (pw_own_below (own_alloc HO2.out (.cells #[.int .i64 (-((k : Int) + 1))] 3)) hb3) (.cells #[.int .u64 (p.1 : Int), .int .u64 (p.2 : Int)] 34)); have HS3 := Aside0.mk (blk_alloc (blk_below (blk_alloc HS2.out (.cells #[.int .i64 (-((k : Int) + 1))] 3)) hb3) (.cells #[.int .u64 (p.1 : Int), .int .u64 (p.2 : Int)] 34)); have HT3 := Aside0.mk (blk_alloc (blk_below (blk_alloc HT2.out (.cells #[.int .i64 (-((k : Int) + 1))] 3)) hb3) (.cells #[.int .u64 (p.1 : Int), .int .u64 (p.2 : Int)] 34)); have HB3 := Aside0.mk (below_alloc (below_step (below_alloc HB2.out (.cells #[.int .i64 (-((k : Int) + 1))] 3)) hb3) (.cells #[.int .u64 (p.1 : Int), .int .u64 (p.2 : Int)] 34)); clear hb3))
          go_roundg gk
          case measure => omega
          case rel => exact ⟨k + 1, A, c, by omega, by rw [HNk.out], by go_num, ⟨by rw [HNk.out]; exact HO3.out⟩, HS3, HT3, HB3⟩
        | false =>
          rw [hr1] at HS1
          have HNk := Aside0.mk (show bo (k + 1) = bo k ++ [(k : Int) + 1] by rw [HN.out, hr1]; rfl)
          generalize (r (-((k : Int) + 1))).2 = p at HS1
          clear hr1 hmem hl HN HHas HSv1
          go_wp2_with (first | (go_at_call 60; refine (HHk.out).mono ?_; rintro e w2 ⟨rfl, hb2⟩; have HC2 := Aside0.mk (lits_C w2 [-((k : Int) + 1)] (by show 1 ≤ 1000; decide)); have HO2 := Aside0.mk (pw_own_below HO.out hb2); have HS2 := Aside0.mk (blk_below HS.out hb2); have HT2 := Aside0.mk (blk_below HT.out hb2); have HB2 := Aside0.mk (below_step HB.out hb2); have he0 : w2.cell? ⟨W.heap.size, 0, none⟩ = some (.int .i64 (m : Int)) := (blk_cell HT2.out 0).trans rfl; have he1 : w2.cell? ⟨W.heap.size, 1, none⟩ = some (.slice AL L.length cL) := (blk_cell HT2.out 1).trans rfl; clear hb2) | (go_at_call 10; refine (HS1.out _ _ (below_alloc HB2.out (.cells #[.int .i64 (-((k : Int) + 1))] 3)) HC2.out).mono ?_; rintro e w3 ⟨rfl, hb3⟩; have HO3 := Aside0.mk (own_alloc (pw_own_below (own_alloc HO2.out (.cells #[.int .i64 (-((k : Int) + 1))] 3)) hb3) (.cells #[.int .u64 (p.1 : Int), .int .u64 (p.2 : Int)] 34)); have HS3 := Aside0.mk (blk_alloc (blk_below (blk_alloc HS2.out (.cells #[.int .i64 (-((k : Int) + 1))] 3)) hb3) (.cells #[.int .u64 (p.1 : Int), .int .u64 (p.2 : Int)] 34)); have HT3 := Aside0.mk (blk_alloc (blk_below (blk_alloc HT2.out (.cells #[.int .i64 (-((k : Int) + 1))] 3)) hb3) (.cells #[.int .u64 (p.1 : Int), .int .u64 (p.2 : Int)] 34)); have HB3 := Aside0.mk (below_alloc (below_step (below_alloc HB2.out (.cells #[.int .i64 (-((k : Int) + 1))] 3)) hb3) (.cells #[.int .u64 (p.1 : Int), .int .u64 (p.2 : Int)] 34)); clear hb3) | (at_builtin; refine app_int W.heap.size HO3.out ((k : Int) + 1) hlen HB3.out.size rfl (.tmp 59) (.tmp 61) rfl rfl (by rw [blk_size]; rfl) ?_; intro v5 w5 ho5 hg5; rw [List.length_append, List.length_singleton] at ho5; obtain ⟨A5, c5, rfl, _, _, _, _⟩ := own_C ho5; have HS5 := Aside0.mk (blk_grown HS3.out hg5 (own_ne HO3.out HS3.out (by decide))); have HT5 := Aside0.mk (blk_grown HT3.out hg5 (own_ne HO3.out HT3.out (by decide))); have HB5 := Aside0.mk (Below.grown HB3.out hg5 HB3.out.size (fun k hk => own_base HO3.out k hk)); have HO5 := Aside0.mk ho5; clear ho5 hg5))
          go_roundg gk
          case measure => omega
          case rel => exact ⟨k + 1, A5, c5, by omega, by rw [HNk.out, List.length_append, List.length_singleton], by go_num, ⟨by rw [HNk.out, List.length_append, List.length_singleton]; exact HO5.out⟩, HS5, HT5, HB5⟩
      | false =>
        have hl : boneL s (k + 1) = -((k : Int) + 1) := by unfold boneL; rw [if_neg (by rw [hmem]; decide)]; rfl
        rw [hmem] at HHk
        rw [hl] at HN
        have HS1 := Aside0.mk (HSv1.out ((k : Int) + 1) (by omega) (by omega) (by omega))
        cases hr1 : (r ((k : Int) + 1)).1 with
        | true =>
          rw [hr1] at HS1
          have HNk := Aside0.mk (show bo (k + 1) = bo k by rw [HN.out, show -(-((k : Int) + 1)) = (k : Int) + 1 by omega, hr1]; rfl)
          generalize (r ((k : Int) + 1)).2 = p at HS1
          clear hr1 hmem hl HN HHas HSv1
          go_wp2_with (first | (go_at_call 60; refine (HHk.out).mono ?_; rintro e w2 ⟨rfl, hb2⟩; have HC2 := Aside0.mk (lits_C w2 [(k : Int) + 1] (by show 1 ≤ 1000; decide)); have HO2 := Aside0.mk (pw_own_below HO.out hb2); have HS2 := Aside0.mk (blk_below HS.out hb2); have HT2 := Aside0.mk (blk_below HT.out hb2); have HB2 := Aside0.mk (below_step HB.out hb2); have he0 : w2.cell? ⟨W.heap.size, 0, none⟩ = some (.int .i64 (m : Int)) := (blk_cell HT2.out 0).trans rfl; have he1 : w2.cell? ⟨W.heap.size, 1, none⟩ = some (.slice AL L.length cL) := (blk_cell HT2.out 1).trans rfl; clear hb2) | (go_at_call 10; refine (HS1.out _ _ (below_alloc HB2.out (.cells #[.int .i64 ((k : Int) + 1)] 3)) HC2.out).mono ?_; rintro e w3 ⟨rfl, hb3⟩; have HO3 := Aside0.mk (own_alloc (pw_own_below (own_alloc HO2.out (.cells #[.int .i64 ((k : Int) + 1)] 3)) hb3) (.cells #[.int .u64 (p.1 : Int), .int .u64 (p.2 : Int)] 34)); have HS3 := Aside0.mk (blk_alloc (blk_below (blk_alloc HS2.out (.cells #[.int .i64 ((k : Int) + 1)] 3)) hb3) (.cells #[.int .u64 (p.1 : Int), .int .u64 (p.2 : Int)] 34)); have HT3 := Aside0.mk (blk_alloc (blk_below (blk_alloc HT2.out (.cells #[.int .i64 ((k : Int) + 1)] 3)) hb3) (.cells #[.int .u64 (p.1 : Int), .int .u64 (p.2 : Int)] 34)); have HB3 := Aside0.mk (below_alloc (below_step (below_alloc HB2.out (.cells #[.int .i64 ((k : Int) + 1)] 3)) hb3) (.cells #[.int .u64 (p.1 : Int), .int .u64 (p.2 : Int)] 34)); clear hb3))
          go_roundg gk
          case measure => omega
          case rel => exact ⟨k + 1, A, c, by omega, by rw [HNk.out], by go_num, ⟨by rw [HNk.out]; exact HO3.out⟩, HS3, HT3, HB3⟩
        | false =>
          rw [hr1] at HS1
          have HNk := Aside0.mk (show bo (k + 1) = bo k ++ [-((k : Int) + 1)] by rw [HN.out, show -(-((k : Int) + 1)) = (k : Int) + 1 by omega, hr1]; rfl)
          generalize (r ((k : Int) + 1)).2 = p at HS1
          clear hr1 hmem hl HN HHas HSv1
          go_wp2_with (first | (go_at_call 60; refine (HHk.out).mono ?_; rintro e w2 ⟨rfl, hb2⟩; have HC2 := Aside0.mk (lits_C w2 [(k : Int) + 1] (by show 1 ≤ 1000; decide)); have HO2 := Aside0.mk (pw_own_below HO.out hb2); have HS2 := Aside0.mk (blk_below HS.out hb2); have HT2 := Aside0.mk (blk_below HT.out hb2); have HB2 := Aside0.mk (below_step HB.out hb2); have he0 : w2.cell? ⟨W.heap.size, 0, none⟩ = some (.int .i64 (m : Int)) := (blk_cell HT2.out 0).trans rfl; have he1 : w2.cell? ⟨W.heap.size, 1, none⟩ = some (.slice AL L.length cL) := (blk_cell HT2.out 1).trans rfl; clear hb2) | (go_at_call 10; refine (HS1.out _ _ (below_alloc HB2.out (.cells #[.int .i64 ((k : Int) + 1)] 3)) HC2.out).mono ?_; rintro e w3 ⟨rfl, hb3⟩; have HO3 := Aside0.mk (own_alloc (pw_own_below (own_alloc HO2.out (.cells #[.int .i64 ((k : Int) + 1)] 3)) hb3) (.cells #[.int .u64 (p.1 : Int), .int .u64 (p.2 : Int)] 34)); have HS3 := Aside0.mk (blk_alloc (blk_below (blk_alloc HS2.out (.cells #[.int .i64 ((k : Int) + 1)] 3)) hb3) (.cells #[.int .u64 (p.1 : Int), .int .u64 (p.2 : Int)] 34)); have HT3 := Aside0.mk (blk_alloc (blk_below (blk_alloc HT2.out (.cells #[.int .i64 ((k : Int) + 1)] 3)) hb3) (.cells #[.int .u64 (p.1 : Int), .int .u64 (p.2 : Int)] 34)); have HB3 := Aside0.mk (below_alloc (below_step (below_alloc HB2.out (.cells #[.int .i64 ((k : Int) + 1)] 3)) hb3) (.cells #[.int .u64 (p.1 : Int), .int .u64 (p.2 : Int)] 34)); clear hb3) | (at_builtin; refine app_int W.heap.size HO3.out (-((k : Int) + 1)) hlen HB3.out.size rfl (.tmp 59) (.tmp 61) rfl rfl (by rw [blk_size]; rfl) ?_; intro v5 w5 ho5 hg5; rw [List.length_append, List.length_singleton] at ho5; obtain ⟨A5, c5, rfl, _, _, _, _⟩ := own_C ho5; have HS5 := Aside0.mk (blk_grown HS3.out hg5 (own_ne HO3.out HS3.out (by decide))); have HT5 := Aside0.mk (blk_grown HT3.out hg5 (own_ne HO3.out HT3.out (by decide))); have HB5 := Aside0.mk (Below.grown HB3.out hg5 HB3.out.size (fun k hk => own_base HO3.out k hk)); have HO5 := Aside0.mk ho5; clear ho5 hg5))
          go_roundg gk
          case measure => omega
          case rel => exact ⟨k + 1, A5, c5, by omega, by rw [HNk.out, List.length_append, List.length_singleton], by go_num, ⟨by rw [HNk.out, List.length_append, List.length_singleton]; exact HO5.out⟩, HS5, HT5, HB5⟩
end
end Go.Proofs.Ytbnjbjcokkcfcaa.Sol
namespace Go.Proofs.Ytbnjbjcokkcfcaa.Sol
set_option linter.unusedVariables false
def chapB : List (List Int) := [[1, 2], [1, -2], [-1, 3, 4], [-1, 3, -4], [5, -6], [-5, 6]]
theorem chapB_check : checkF 6 chapB = 0 := by decide +kernel
theorem chapB_probe : probeU 6 chapB 20 5 (sortK []) = some (some [1, 3]) := by decide +kernel
theorem chapB_sat : (satF chapB 6 []).1 = true := by decide +kernel
theorem chapB_bones : bonesTo chapB 6 (satF chapB 6 []).2 6 = [1, 3] := by decide +kernel
end Go.Proofs.Ytbnjbjcokkcfcaa.Sol
namespace Go.Proofs.Ytbnjbjcokkcfcaa.Sol
set_option linter.unusedVariables false
/-- What follows from each literal, by its index; none: it fails. -/
def followsAt (N : Int) (L : List (List Int)) (k : Nat) (l : Int) : Option (Option (List Int)) := if l = 0 then some none else closeV N L k [l]
/-- Whether b follows from a. -/
def folB (fs : List (Option (List Int))) (n a b : Int) : Bool := match fs.getD (a + n).toNat none with
  | none => false
  | some c => c.contains b
def followsTo (N : Int) (L : List (List Int)) (k : Nat) : Nat → Option (List (Option (List Int)))
  | 0 => some []
  | i + 1 => match followsTo N L k i, followsAt N L k ((i : Int) - N) with
    | some fs, some f => some (fs ++ [f])
    | _, _ => none
/-- The inner loop: b from -n on, below a. -/
def pairs2 (fs : List (Option (List Int))) (n a : Int) (k : Nat) : Nat → Int → List Int → Option (List Int)
  | 0, _, up => some up
  | d + 1, b, up => if folB fs n a b && folB fs n b a then
      match linkU up k n a b with
      | none => none
      | some u => pairs2 fs n a k d (b + 1) u
    else pairs2 fs n a k d (b + 1) up
def pairs1 (fs : List (Option (List Int))) (n : Int) (k : Nat) : Nat → Int → List Int → Option (List Int)
  | 0, _, up => some up
  | d + 1, a, up => match pairs2 fs n a k (a + n).toNat (-n) up with
    | none => none
    | some u => pairs1 fs n k d (a + 1) u
def leasts (up : List Int) (k : Nat) (n : Int) : Nat → Option (List Int)
  | 0 => some []
  | v + 1 => match leasts up k n v, leastF up k n (v + 1) with
    | some l, some x => some (l ++ [x])
    | _, _ => none
end Go.Proofs.Ytbnjbjcokkcfcaa.Sol
