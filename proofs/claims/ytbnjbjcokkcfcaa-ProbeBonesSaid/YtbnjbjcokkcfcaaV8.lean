/- ProbeBones returns true for every theory and every set, and its arguments read afterwards as before. No condition. -/
import Derived.Test.YtbnjbjcokkcfcaaV7
import Derived.Test.YtbnjbjcokkcfcaaRows
import Derived.ProofKit
import Derived.OpenShut
import Derived.ChangeOld
import Derived.SizedLaws
import Derived.Deep.Matrix
import Derived.Lib.SmallJoins
import Derived.Carry
namespace Go.Proofs.Ytbnjbjcokkcfcaa.Sol
open Go.RowKit Go.Proofs.YtbnjbjcokkcfcaaW.PrintWords Go.Proofs.YtbnjbjcokkcfcaaW.PrintLast Go.Proofs.YtbnjbjcokkcfcaaW.PrintMore Go.Proofs.Ytbnjbjcokkcfcaa.PSearchOwn
set_option linter.unusedVariables false
set_option linter.unusedSimpArgs false
def q5r3T : Bool × List (List Nat × List Nat) := (true, [([], []), ([], []), ([1], [1]), ([2], [2]), ([0, 3, 3], [0, 3]), ([4, 4, 0, 1, 2, 3, 4], [4])])
def q5r3B : List Nat := [0, 0, 2, 6, 15, 31]
theorem q5r3tab : rtab .any (opsOf Try.f5 3) = q5r3T := by kernel_rfl
theorem q5r3bits : waitsOk q5r3T.2 q5r3B = true := by kernel_rfl
def q5r12T : Bool × List (List Nat × List Nat) := (true, [([], []), ([], []), ([1], [1]), ([0, 2], [0, 2]), ([3], [3]), ([4], [4]), ([], []), ([], []), ([6, 7], [6, 7]), ([8], [8]), ([9, 5], [9]), ([5, 10], [5, 10])])
def q5r12B : List Nat := [0, 0, 2, 7, 15, 31, 0, 0, 192, 448, 1023, 2047]
theorem q5r12tab : rtab .any (opsOf Try.f5 12) = q5r12T := by kernel_rfl
theorem q5r12bits : waitsOk q5r12T.2 q5r12B = true := by kernel_rfl
section
variable {W : World} {AL : Option Addr} {cL : Nat} {N : Int} {L : List (List Int)} {s : Nat × Nat}
set_option maxHeartbeats 4000000 in
set_option maxRecDepth 100000 in
/-- What is not looked at: the chapter's examples alone. -/
theorem bonesLaw_off (hL : Kd.C (Kd.slice 3 (Kd.int .i64)) W AL L.length L) (hcL : L.length ≤ cL) (hsm : smallB N L = false) :
    Calls Try.prog 5 #[.agg #[.int .i64 N, .slice AL L.length cL], setV2 s] W fun e w' => e = .returned (.bool true) ∧ Below W.heap.size W w' := by
  have HSm := Aside0.mk (fun w (hb : Below W.heap.size W w) => (show Calls Try.prog 21 #[.agg #[.int .i64 N, .slice AL L.length cL]] w fun e w' => e = .returned (.bool false) ∧ Below w.heap.size w w' by
    have := small_calls (N := N) (Kd.C_below hL hb) hcL
    rwa [hsm] at this))
  have HB := Aside0.mk (below_alloc (below_alloc (Below.refl W.heap.size W) (.cells #[.int .i64 N, .slice AL L.length cL] 24)) (.cells #[.int .u64 (s.1 : Int), .int .u64 (s.2 : Int)] 34))
  clear hL hcL hsm
  go_enter Try.func5, Try.ntmps5
  go_wp2_with (first
    | (go_at_call 21; refine (HSm.out _ HB.out).mono ?_; rintro e w1 ⟨rfl, hb1⟩; replace HB := Aside0.mk (below_step HB.out hb1); clear hb1)
    | (go_at_call 22; refine (works15_calls _).mono ?_; rintro e w2 ⟨rfl, hb2⟩; have HB2 := Aside0.mk (below_step HB.out hb2); clear hb2))
  go_ret
  exact ⟨rfl, HB2.out⟩
set_option maxHeartbeats 16000000 in
set_option maxRecDepth 100000 in
/-- No backbone: the theory is not valid, or has no model. -/
theorem bonesLaw_none (hL : Kd.C (Kd.slice 3 (Kd.int .i64)) W AL L.length L) (hcL : L.length ≤ cL) (hs : SOk s) (hsm : smallB N L = true) (x : Int)
    (hbo : ∀ w, Below W.heap.size W w → Calls Try.prog 25 #[.agg #[.int .i64 N, .slice AL L.length cL]] w fun e w' => e = .returned (.tuple #[.slice none 0 0, .bool false, .int .i64 x]) ∧ Below w.heap.size w w') (hev : ∀ t, evalB N L t = false) :
    Calls Try.prog 5 #[.agg #[.int .i64 N, .slice AL L.length cL], setV2 s] W fun e w' => e = .returned (.bool true) ∧ Below W.heap.size W w' := by
  have HSm := Aside0.mk (fun w (hb : Below W.heap.size W w) => (show Calls Try.prog 21 #[.agg #[.int .i64 N, .slice AL L.length cL]] w fun e w' => e = .returned (.bool true) ∧ Below w.heap.size w w' by
    have := small_calls (N := N) (Kd.C_below hL hb) hcL
    rwa [hsm] at this))
  obtain ⟨al, hal⟩ : ∃ al, allS (min N 128).toNat = al := ⟨_, rfl⟩
  have hAok : SOk al := by rw [← hal]; exact SOk.all _ (by omega)
  have HAll := Aside0.mk (fun (w : World) => (show Calls Try.prog 24 #[.int .i64 N] w fun e w' => e = .returned (setV2 al) ∧ Below w.heap.size w w' by
    have := all_callsI N w
    rwa [hal] at this))
  obtain ⟨t, ht⟩ : ∃ t, cutS s al = t := ⟨_, rfl⟩
  have HCut := Aside0.mk (fun (w : World) => (show Calls Try.prog 23 #[setV2 s, setV2 al] w fun e w' => e = .returned (setV2 t) ∧ Below w.heap.size w w' by
    have := cut_calls s al w hs hAok
    rwa [ht] at this))
  have htok : SOk t := by rw [← ht]; exact hs.cut
  have HEv := Aside0.mk (fun w (hb : Below W.heap.size W w) => eval_calls (N := N) (s := t) (Kd.C_below hL hb) hcL htok)
  have HBo := Aside0.mk hbo
  have HEf := Aside0.mk hev
  have HT := Aside0.mk (blk_alloc (blk_new W (.cells #[.int .i64 N, .slice AL L.length cL] 24)) (.cells #[.int .u64 (s.1 : Int), .int .u64 (s.2 : Int)] 34))
  have hu := blk_new (W.alloc (.cells #[.int .i64 N, .slice AL L.length cL] 24)) (.cells #[.int .u64 (s.1 : Int), .int .u64 (s.2 : Int)] 34)
  rw [show (W.alloc (.cells #[.int .i64 N, .slice AL L.length cL] 24)).heap.size = W.heap.size + 1 by simp] at hu
  have HU := Aside0.mk hu
  have HB := Aside0.mk (below_alloc (below_alloc (Below.refl W.heap.size W) (.cells #[.int .i64 N, .slice AL L.length cL] 24)) (.cells #[.int .u64 (s.1 : Int), .int .u64 (s.2 : Int)] 34))
  clear hu hL hcL hsm hs hal hAok ht htok hbo hev
  go_enter Try.func5, Try.ntmps5
  go_upto_region 3 with (go_at_call 21; refine (HSm.out _ HB.out).mono ?_; rintro e w1 ⟨rfl, hb1⟩; replace HT := Aside0.mk (blk_below HT.out hb1); replace HU := Aside0.mk (blk_below HU.out hb1); replace HB := Aside0.mk (below_step HB.out hb1); clear hb1)
  clear HSm
  go_wp2_with fail
  try go_step3
  refine start_ (n := 6) (S := fun w' => w'.cell? ⟨W.heap.size, 0, none⟩ = some (.int .i64 N) ∧ w'.cell? ⟨W.heap.size + 1, 0, none⟩ = some (.int .u64 (s.1 : Int)) ∧ w'.cell? ⟨W.heap.size + 1, 1, none⟩ = some (.int .u64 (s.2 : Int))) (ds := [5]) #[false, false, false, false, false, false] (by kernel_rfl) rfl rfl (⟨(blk_cell HT.out 0).trans rfl, (blk_cell HU.out 0).trans rfl, (blk_cell HU.out 1).trans rfl⟩) (fun hHeld => ?_)
  refine with_tabW q5r3tab q5r3bits (fun HT_ HW_ => ?_)
  replace HT := Aside0.mk (blk_drew HT.out)
  replace HU := Aside0.mk (blk_drew HU.out)
  replace HB := Aside0.mk (below_drew HB.out)
  generalize w1.drew = w2 at HT HU HB hHeld ⊢
  refine take_ (i := 0) (N := some 17) (v := ?_) (a' := ?_) #[true, false, false, false, false, false] rfl rfl (take_ofW HT_.out HW_.out (by kernel_rfl)) (fun _ _ _ h => h) (Or.inl ⟨by rfl, ?_⟩) hHeld ?_ ?_
  rotate_left
  · rintro w' ⟨s0, s1, s2⟩
    go_simp
    with_reducible rfl
  rotate_left
  · simp only [Act.put, List.setIfInBounds_toArray, List.set_cons_zero, List.set_cons_succ, i64_w, i32_w]
    rfl
  refine pure_ (i := 1) (N := some 18) (v := ?_) (a' := ?_) #[true, true, false, false, false, false] rfl rfl (any_of HT_.out (by kernel_rfl)) (fun _ _ _ h => h) (Or.inl ⟨by rfl, ?_⟩) ?_ ?_
  rotate_left
  · intro w'
    go_simp
    with_reducible rfl
  rotate_left
  · simp only [Act.put, List.setIfInBounds_toArray, List.set_cons_zero, List.set_cons_succ, i64_w, i32_w]
    rfl
  refine take_ (i := 2) (N := some 19) (v := ?_) (a' := ?_) #[true, true, true, false, false, false] rfl rfl (take_ofW HT_.out HW_.out (by kernel_rfl)) (fun _ _ _ h => h) (Or.inl ⟨by rfl, ?_⟩) hHeld ?_ ?_
  rotate_left
  · rintro w' ⟨s0, s1, s2⟩
    go_simp
    with_reducible rfl
  rotate_left
  · simp only [Act.put, List.setIfInBounds_toArray, List.set_cons_zero, List.set_cons_succ, i64_w, i32_w]
    rfl
  refine one_ (i := 3) (N := some 20) #[true, true, true, true, false, false] rfl rfl (one_of HT_.out (by kernel_rfl)) (by decide) (fun K hK => ?_)
  refine goes_ Try.func24 (by kernel_rfl) rfl #[.int .i64 N] (by rfl) rfl rfl (by simp only [List.map_toArray, List.map_cons, List.map_nil]; rfl) ?_
  refine (HAll.out _).mono ?_
  rintro e_ w_ ⟨rfl, hb2⟩
  refine ⟨_, rfl, ?_⟩
  replace HT := Aside0.mk (blk_below HT.out hb2)
  replace HU := Aside0.mk (blk_below HU.out hb2)
  replace HB := Aside0.mk (below_step HB.out hb2)
  clear hb2
  refine hK.out _ _ (⟨(blk_cell HT.out 0).trans rfl, (blk_cell HU.out 0).trans rfl, (blk_cell HU.out 1).trans rfl⟩) (fun hHeld => ?_)
  clear hK K
  refine norm_ (a' := ?_) ?_ ?_
  rotate_left
  · show Act.put _ (some 20) _ = _
    simp only [Act.put, List.setIfInBounds_toArray, List.set_cons_zero, List.set_cons_succ, i64_w, i32_w]
    rfl
  refine one_ (i := 4) (N := some 21) #[true, true, true, true, true, false] rfl rfl (one_of HT_.out (by kernel_rfl)) (by decide) (fun K hK => ?_)
  refine goes_ Try.func23 (by kernel_rfl) rfl #[setV2 s, setV2 al] (by rfl) rfl rfl (by simp only [List.map_toArray, List.map_cons, List.map_nil]; rfl) ?_
  refine (HCut.out _).mono ?_
  rintro e_ w_ ⟨rfl, hb3⟩
  refine ⟨_, rfl, ?_⟩
  replace HT := Aside0.mk (blk_below HT.out hb3)
  replace HU := Aside0.mk (blk_below HU.out hb3)
  replace HB := Aside0.mk (below_step HB.out hb3)
  clear hb3
  refine hK.out _ _ (⟨(blk_cell HT.out 0).trans rfl, (blk_cell HU.out 0).trans rfl, (blk_cell HU.out 1).trans rfl⟩) (fun hHeld => ?_)
  clear hK K
  refine norm_ (a' := ?_) ?_ ?_
  rotate_left
  · show Act.put _ (some 21) _ = _
    simp only [Act.put, List.setIfInBounds_toArray, List.set_cons_zero, List.set_cons_succ, i64_w, i32_w]
    rfl
  refine last_ (i := 5) (N := none) #[true, true, true, true, true, true] rfl rfl (one_of HT_.out (by kernel_rfl)) (by decide) (fun K hK => ?_)
  have hu0 : w_.cell? ⟨W.heap.size + 1, 0, none⟩ = some (.int .u64 (s.1 : Int)) := (blk_cell HU.out 0).trans rfl
  have hu1 : w_.cell? ⟨W.heap.size + 1, 1, none⟩ = some (.int .u64 (s.2 : Int)) := (blk_cell HU.out 1).trans rfl
  have hf0 := blk_frozen HU.out 0
  have hf1 := blk_frozen HU.out 1
  refine skip_ (w1 := ?_) (by rfl) rfl ?_ ?_
  rotate_left
  · go_simp
    rfl
  refine hK.out _ _ ?_
  clear hK K
  refine done_ (done_of HT_.out (by kernel_rfl)) ?_
  replace HU := Aside0.mk (set_blk HU.out t)
  replace HT := Aside0.mk (blk_far (p := ⟨W.heap.size + 1, 1, none⟩) (blk_far (p := ⟨W.heap.size + 1, 0, none⟩) HT.out (by show W.heap.size ≠ W.heap.size + 1; omega) (.int .u64 (t.1 : Int))) (by show W.heap.size ≠ W.heap.size + 1; omega) (.int .u64 (t.2 : Int)))
  replace HB := Aside0.mk (below_set (j := 1) (v := .int .u64 (t.2 : Int)) (below_set (j := 0) (v := .int .u64 (t.1 : Int)) HB.out (Nat.le_succ W.heap.size)) (Nat.le_succ W.heap.size))
  clear HAll HCut hu0 hu1 hf0 hf1
  generalize (w_.setCell ⟨W.heap.size + 1, 0, none⟩ (.int .u64 (t.1 : Int))).setCell ⟨W.heap.size + 1, 1, none⟩ (.int .u64 (t.2 : Int)) = w3 at HT HU HB ⊢
  have hc0 : w3.cell? ⟨W.heap.size, 0, none⟩ = some (.int .i64 N) := (blk_cell HT.out 0).trans rfl
  have hc1 : w3.cell? ⟨W.heap.size, 1, none⟩ = some (.slice AL L.length cL) := (blk_cell HT.out 1).trans rfl
  have HEw := Aside0.mk (fun w (hb : Below W.heap.size W w) => (show Calls Try.prog 26 #[.agg #[.int .i64 N, .slice AL L.length cL], setV2 t] w fun e w' => e = .returned (.bool false) ∧ Below w.heap.size w w' by
    have := HEv.out w hb
    rwa [HEf.out t] at this))
  clear HEv HEf
  by_cases hx : x = 0
  · have hxb : (x != 0) = false := by simpa using hx
    clear hx
    go_wp2_with (first
      | (go_at_call 25; refine (HBo.out _ HB.out).mono ?_; rintro e w4 ⟨rfl, hb4⟩; have HT4 := Aside0.mk (blk_below HT.out hb4); have HU4 := Aside0.mk (blk_below HU.out hb4); have HB4 := Aside0.mk (below_step HB.out hb4); have hd0 : w4.cell? ⟨W.heap.size, 0, none⟩ = some (.int .i64 N) := (blk_cell HT4.out 0).trans rfl; have hd1 : w4.cell? ⟨W.heap.size, 1, none⟩ = some (.slice AL L.length cL) := (blk_cell HT4.out 1).trans rfl; have hd2 : w4.cell? ⟨W.heap.size + 1, 0, none⟩ = some (.int .u64 (t.1 : Int)) := (blk_cell HU4.out 0).trans rfl; have hd3 : w4.cell? ⟨W.heap.size + 1, 1, none⟩ = some (.int .u64 (t.2 : Int)) := (blk_cell HU4.out 1).trans rfl; clear hb4)
      | (go_at_call 26; refine (HEw.out _ HB4.out).mono ?_; rintro e w5 ⟨rfl, hb5⟩; have HB5 := Aside0.mk (below_step HB4.out hb5); clear hb5)
      | (go_at_call 22; refine (works15_calls _).mono ?_; rintro e w6 ⟨rfl, hb6⟩; have HB6 := Aside0.mk (below_step HB5.out hb6); clear hb6))
    go_ret
    exact ⟨rfl, HB6.out⟩
  · have hxb : (x != 0) = true := by simpa using hx
    clear hx
    go_wp2_with (first
      | (go_at_call 25; refine (HBo.out _ HB.out).mono ?_; rintro e w4 ⟨rfl, hb4⟩; have HT4 := Aside0.mk (blk_below HT.out hb4); have HU4 := Aside0.mk (blk_below HU.out hb4); have HB4 := Aside0.mk (below_step HB.out hb4); have hd0 : w4.cell? ⟨W.heap.size, 0, none⟩ = some (.int .i64 N) := (blk_cell HT4.out 0).trans rfl; have hd1 : w4.cell? ⟨W.heap.size, 1, none⟩ = some (.slice AL L.length cL) := (blk_cell HT4.out 1).trans rfl; have hd2 : w4.cell? ⟨W.heap.size + 1, 0, none⟩ = some (.int .u64 (t.1 : Int)) := (blk_cell HU4.out 0).trans rfl; have hd3 : w4.cell? ⟨W.heap.size + 1, 1, none⟩ = some (.int .u64 (t.2 : Int)) := (blk_cell HU4.out 1).trans rfl; clear hb4)
      | (go_at_call 26; refine (HEw.out _ HB4.out).mono ?_; rintro e w5 ⟨rfl, hb5⟩; have HB5 := Aside0.mk (below_step HB4.out hb5); clear hb5)
      | (go_at_call 22; refine (works15_calls _).mono ?_; rintro e w6 ⟨rfl, hb6⟩; have HB6 := Aside0.mk (below_step HB5.out hb6); clear hb6))
    go_ret
    exact ⟨rfl, HB6.out⟩
end
end Go.Proofs.Ytbnjbjcokkcfcaa.Sol
namespace Go.Proofs.Ytbnjbjcokkcfcaa.Sol
open Go.RowKit Go.Proofs.YtbnjbjcokkcfcaaW.PrintWords Go.Proofs.YtbnjbjcokkcfcaaW.PrintLast Go.Proofs.YtbnjbjcokkcfcaaW.PrintMore Go.Proofs.Ytbnjbjcokkcfcaa.PSearchOwn
set_option linter.unusedVariables false
set_option linter.unusedSimpArgs false
/-- A cell of a row of the call's own. -/
theorem own_cell {w : World} {base g c i : Nat} {l : List Int} {x : Int} (h : w.ownsRow base 3 1 (.slice (some ⟨g, 0, none⟩) l.length c) l.length (nums .i64 l)) (hx : l[i]? = some x) : w.cell? ⟨g, i, none⟩ = some (.int .i64 x) := by
  have hi := (List.getElem?_eq_some_iff.1 hx).1
  have h1 := (own_at h (i : Int) (by omega) (by omega)).1
  rwa [Int.toNat_natCast, show rd l (i : Int) = x by simp [rd, List.getD_eq_getElem?_getD, hx]] at h1
section
variable {W : World} {AL : Option Addr} {cL : Nat} {N : Int} {L : List (List Int)} {s : Nat × Nat}
set_option maxHeartbeats 32000000 in
set_option maxRecDepth 100000 in
theorem bonesLaw_some (hL : Kd.C (Kd.slice 3 (Kd.int .i64)) W AL L.length L) (hcL : L.length ≤ cL) (hs : SOk s) (hsm : smallB N L = true) {m : Nat} (hm : m ≤ 9) (hN : N = (m : Int)) (l : List Int) (hlen : l.length ≤ 128)
    (hbo : ∀ w, Below W.heap.size W w → Calls Try.prog 25 #[.agg #[.int .i64 N, .slice AL L.length cL]] w fun e w' => (∃ A c, e = .returned (.tuple #[.slice A l.length c, .bool true, .int .i64 0]) ∧ w'.ownsRow W.heap.size 3 1 (.slice A l.length c) l.length (nums .i64 l)) ∧ Below w.heap.size w w')
    (hlits : Lits l) (hsort : ∀ i x y, l[i]? = some x → l[i + 1]? = some y → varOf x < varOf y) (htrue : ∀ t, evalB N L t = true → l.all (sat1 (memS t)) = true)
    (hopp : ∀ (v : Nat) (x : Int), 1 ≤ v → v ≤ m → (x = (v : Int) ∨ x = -(v : Int)) → x ∉ l → opposeF m L x = true) :
    Calls Try.prog 5 #[.agg #[.int .i64 N, .slice AL L.length cL], setV2 s] W fun e w' => e = .returned (.bool true) ∧ Below W.heap.size W w' := by
  have hN2 := hN
  have HSm := Aside0.mk (fun w (hb : Below W.heap.size W w) => (show Calls Try.prog 21 #[.agg #[.int .i64 N, .slice AL L.length cL]] w fun e w' => e = .returned (.bool true) ∧ Below w.heap.size w w' by
    have := small_calls (N := N) (Kd.C_below hL hb) hcL
    rwa [hsm] at this))
  obtain ⟨al, hal⟩ : ∃ al, allS (min N 128).toNat = al := ⟨_, rfl⟩
  have hAok : SOk al := by rw [← hal]; exact SOk.all _ (by omega)
  have HAll := Aside0.mk (fun (w : World) => (show Calls Try.prog 24 #[.int .i64 N] w fun e w' => e = .returned (setV2 al) ∧ Below w.heap.size w w' by
    have := all_callsI N w
    rwa [hal] at this))
  obtain ⟨t, ht⟩ : ∃ t, cutS s al = t := ⟨_, rfl⟩
  have HCut := Aside0.mk (fun (w : World) => (show Calls Try.prog 23 #[setV2 s, setV2 al] w fun e w' => e = .returned (setV2 t) ∧ Below w.heap.size w w' by
    have := cut_calls s al w hs hAok
    rwa [ht] at this))
  have htok : SOk t := by rw [← ht]; exact hs.cut
  have HEv := Aside0.mk (fun w (hb : Below W.heap.size W w) => eval_calls (N := N) (s := t) (Kd.C_below hL hb) hcL htok)
  have HBo := Aside0.mk hbo
  have HTr := Aside0.mk htrue
  have HLi := Aside0.mk hlits
  have HSo := Aside0.mk hsort
  have HTok := Aside0.mk htok
  have HM := Aside0.mk (show m ≤ 9 ∧ N = (m : Int) ∧ l.length ≤ 128 from ⟨hm, hN2, hlen⟩)
  have HVar := Aside0.mk (fun (w : World) (x : Int) => varL_calls (W := w) x)
  have HOd := Aside0.mk (fun (x : Int) (hx : varOf x ≠ 0) (w : World) (hb : Below W.heap.size W w) => (show Calls Try.prog 30 #[.agg #[.int .i64 N, .slice AL L.length cL], .int .i64 x] w fun e w' => e = .returned (.bool (opposeF m L x)) ∧ Below w.heap.size w w' by
    rw [hN2]
    exact opposed_calls hm (Kd.C_below hL hb) hcL hx))
  have HOp := Aside0.mk hopp
  have hNb : 0 ≤ N ∧ N ≤ 9 := by omega
  have hN0 := hNb.1
  have hN9 := hNb.2
  have HT := Aside0.mk (blk_alloc (blk_new W (.cells #[.int .i64 N, .slice AL L.length cL] 24)) (.cells #[.int .u64 (s.1 : Int), .int .u64 (s.2 : Int)] 34))
  have hu := blk_new (W.alloc (.cells #[.int .i64 N, .slice AL L.length cL] 24)) (.cells #[.int .u64 (s.1 : Int), .int .u64 (s.2 : Int)] 34)
  rw [show (W.alloc (.cells #[.int .i64 N, .slice AL L.length cL] 24)).heap.size = W.heap.size + 1 by simp] at hu
  have HU := Aside0.mk hu
  have HB := Aside0.mk (below_alloc (below_alloc (Below.refl W.heap.size W) (.cells #[.int .i64 N, .slice AL L.length cL] 24)) (.cells #[.int .u64 (s.1 : Int), .int .u64 (s.2 : Int)] 34))
  clear hu hL hcL hsm hs hal hAok ht htok hbo hlits hsort htrue hopp hm hN hN2 hlen hNb
  go_enter Try.func5, Try.ntmps5
  go_upto_region 3 with (go_at_call 21; refine (HSm.out _ HB.out).mono ?_; rintro e w1 ⟨rfl, hb1⟩; replace HT := Aside0.mk (blk_below HT.out hb1); replace HU := Aside0.mk (blk_below HU.out hb1); replace HB := Aside0.mk (below_step HB.out hb1); clear hb1)
  clear HSm
  go_wp2_with fail
  try go_step3
  refine start_ (n := 6) (S := fun w' => w'.cell? ⟨W.heap.size, 0, none⟩ = some (.int .i64 N) ∧ w'.cell? ⟨W.heap.size + 1, 0, none⟩ = some (.int .u64 (s.1 : Int)) ∧ w'.cell? ⟨W.heap.size + 1, 1, none⟩ = some (.int .u64 (s.2 : Int))) (ds := [5]) #[false, false, false, false, false, false] (by kernel_rfl) rfl rfl (⟨(blk_cell HT.out 0).trans rfl, (blk_cell HU.out 0).trans rfl, (blk_cell HU.out 1).trans rfl⟩) (fun hHeld => ?_)
  refine with_tabW q5r3tab q5r3bits (fun HT_ HW_ => ?_)
  replace HT := Aside0.mk (blk_drew HT.out)
  replace HU := Aside0.mk (blk_drew HU.out)
  replace HB := Aside0.mk (below_drew HB.out)
  generalize w1.drew = w2 at HT HU HB hHeld ⊢
  refine take_ (i := 0) (N := some 17) (v := ?_) (a' := ?_) #[true, false, false, false, false, false] rfl rfl (take_ofW HT_.out HW_.out (by kernel_rfl)) (fun _ _ _ h => h) (Or.inl ⟨by rfl, ?_⟩) hHeld ?_ ?_
  rotate_left
  · rintro w' ⟨s0, s1, s2⟩
    go_simp
    with_reducible rfl
  rotate_left
  · simp only [Act.put, List.setIfInBounds_toArray, List.set_cons_zero, List.set_cons_succ, i64_w, i32_w]
    rfl
  refine pure_ (i := 1) (N := some 18) (v := ?_) (a' := ?_) #[true, true, false, false, false, false] rfl rfl (any_of HT_.out (by kernel_rfl)) (fun _ _ _ h => h) (Or.inl ⟨by rfl, ?_⟩) ?_ ?_
  rotate_left
  · intro w'
    go_simp
    with_reducible rfl
  rotate_left
  · simp only [Act.put, List.setIfInBounds_toArray, List.set_cons_zero, List.set_cons_succ, i64_w, i32_w]
    rfl
  refine take_ (i := 2) (N := some 19) (v := ?_) (a' := ?_) #[true, true, true, false, false, false] rfl rfl (take_ofW HT_.out HW_.out (by kernel_rfl)) (fun _ _ _ h => h) (Or.inl ⟨by rfl, ?_⟩) hHeld ?_ ?_
  rotate_left
  · rintro w' ⟨s0, s1, s2⟩
    go_simp
    with_reducible rfl
  rotate_left
  · simp only [Act.put, List.setIfInBounds_toArray, List.set_cons_zero, List.set_cons_succ, i64_w, i32_w]
    rfl
  refine one_ (i := 3) (N := some 20) #[true, true, true, true, false, false] rfl rfl (one_of HT_.out (by kernel_rfl)) (by decide) (fun K hK => ?_)
  refine goes_ Try.func24 (by kernel_rfl) rfl #[.int .i64 N] (by rfl) rfl rfl (by simp only [List.map_toArray, List.map_cons, List.map_nil]; rfl) ?_
  refine (HAll.out _).mono ?_
  rintro e_ w_ ⟨rfl, hb2⟩
  refine ⟨_, rfl, ?_⟩
  replace HT := Aside0.mk (blk_below HT.out hb2)
  replace HU := Aside0.mk (blk_below HU.out hb2)
  replace HB := Aside0.mk (below_step HB.out hb2)
  clear hb2
  refine hK.out _ _ (⟨(blk_cell HT.out 0).trans rfl, (blk_cell HU.out 0).trans rfl, (blk_cell HU.out 1).trans rfl⟩) (fun hHeld => ?_)
  clear hK K
  refine norm_ (a' := ?_) ?_ ?_
  rotate_left
  · show Act.put _ (some 20) _ = _
    simp only [Act.put, List.setIfInBounds_toArray, List.set_cons_zero, List.set_cons_succ, i64_w, i32_w]
    rfl
  refine one_ (i := 4) (N := some 21) #[true, true, true, true, true, false] rfl rfl (one_of HT_.out (by kernel_rfl)) (by decide) (fun K hK => ?_)
  refine goes_ Try.func23 (by kernel_rfl) rfl #[setV2 s, setV2 al] (by rfl) rfl rfl (by simp only [List.map_toArray, List.map_cons, List.map_nil]; rfl) ?_
  refine (HCut.out _).mono ?_
  rintro e_ w_ ⟨rfl, hb3⟩
  refine ⟨_, rfl, ?_⟩
  replace HT := Aside0.mk (blk_below HT.out hb3)
  replace HU := Aside0.mk (blk_below HU.out hb3)
  replace HB := Aside0.mk (below_step HB.out hb3)
  clear hb3
  refine hK.out _ _ (⟨(blk_cell HT.out 0).trans rfl, (blk_cell HU.out 0).trans rfl, (blk_cell HU.out 1).trans rfl⟩) (fun hHeld => ?_)
  clear hK K
  refine norm_ (a' := ?_) ?_ ?_
  rotate_left
  · show Act.put _ (some 21) _ = _
    simp only [Act.put, List.setIfInBounds_toArray, List.set_cons_zero, List.set_cons_succ, i64_w, i32_w]
    rfl
  refine last_ (i := 5) (N := none) #[true, true, true, true, true, true] rfl rfl (one_of HT_.out (by kernel_rfl)) (by decide) (fun K hK => ?_)
  have hu0 : w_.cell? ⟨W.heap.size + 1, 0, none⟩ = some (.int .u64 (s.1 : Int)) := (blk_cell HU.out 0).trans rfl
  have hu1 : w_.cell? ⟨W.heap.size + 1, 1, none⟩ = some (.int .u64 (s.2 : Int)) := (blk_cell HU.out 1).trans rfl
  have hf0 := blk_frozen HU.out 0
  have hf1 := blk_frozen HU.out 1
  refine skip_ (w1 := ?_) (by rfl) rfl ?_ ?_
  rotate_left
  · go_simp
    rfl
  refine hK.out _ _ ?_
  clear hK K
  refine done_ (done_of HT_.out (by kernel_rfl)) ?_
  replace HU := Aside0.mk (set_blk HU.out t)
  replace HT := Aside0.mk (blk_far (p := ⟨W.heap.size + 1, 1, none⟩) (blk_far (p := ⟨W.heap.size + 1, 0, none⟩) HT.out (by show W.heap.size ≠ W.heap.size + 1; omega) (.int .u64 (t.1 : Int))) (by show W.heap.size ≠ W.heap.size + 1; omega) (.int .u64 (t.2 : Int)))
  replace HB := Aside0.mk (below_set (j := 1) (v := .int .u64 (t.2 : Int)) (below_set (j := 0) (v := .int .u64 (t.1 : Int)) HB.out (Nat.le_succ W.heap.size)) (Nat.le_succ W.heap.size))
  clear HAll HCut hu0 hu1 hf0 hf1
  generalize (w_.setCell ⟨W.heap.size + 1, 0, none⟩ (.int .u64 (t.1 : Int))).setCell ⟨W.heap.size + 1, 1, none⟩ (.int .u64 (t.2 : Int)) = w3 at HT HU HB ⊢
  have hc0 : w3.cell? ⟨W.heap.size, 0, none⟩ = some (.int .i64 N) := (blk_cell HT.out 0).trans rfl
  have hc1 : w3.cell? ⟨W.heap.size, 1, none⟩ = some (.slice AL L.length cL) := (blk_cell HT.out 1).trans rfl
  have HEw := Aside0.mk (fun w (hb : Below W.heap.size W w) => HEv.out w hb)
  have HTt := Aside0.mk (HTr.out t)
  clear HEv HTr
  have hm9 := HM.out.1
  go_upto_region 7 with (go_at_call 25; refine (HBo.out _ HB.out).mono ?_; rintro e w4 ⟨⟨A5, c5, rfl, ho4⟩, hb4⟩; have HO4 := Aside0.mk ho4; have HT4 := Aside0.mk (blk_below HT.out hb4); have HU4 := Aside0.mk (blk_below HU.out hb4); have HB4 := Aside0.mk (below_step HB.out hb4); clear hb4 ho4)
  clear HT HU HB hc0 hc1 HBo
  have hd0 : w4.cell? ⟨W.heap.size, 0, none⟩ = some (.int .i64 N) := (blk_cell HT4.out 0).trans rfl
  have hd1 : w4.cell? ⟨W.heap.size, 1, none⟩ = some (.slice AL L.length cL) := (blk_cell HT4.out 1).trans rfl
  have hd2 : w4.cell? ⟨W.heap.size + 1, 0, none⟩ = some (.int .u64 (t.1 : Int)) := (blk_cell HU4.out 0).trans rfl
  have hd3 : w4.cell? ⟨W.heap.size + 1, 1, none⟩ = some (.int .u64 (t.2 : Int)) := (blk_cell HU4.out 1).trans rfl
  go_cut [58] (fun v58 wc => v58 = .bool false ∧ Aside0 (wc.ownsRow W.heap.size 3 1 (.slice A5 l.length c5) l.length (nums .i64 l)) ∧ Aside0 (wc.heap[W.heap.size]? = some (.cells #[.int .i64 N, .slice AL L.length cL] 24 (0, 0))) ∧ Aside0 (wc.heap[W.heap.size + 1]? = some (.cells #[.int .u64 (t.1 : Int), .int .u64 (t.2 : Int)] 34 (0, 0))) ∧ Aside0 (Below W.heap.size W wc))
  case first =>
    clear HSo HOp HOd
    generalize evalB N L t = eb at HEw HTt
    cases eb with
    | false =>
      go_wp2_with (go_at_call 26; refine (HEw.out _ HB4.out).mono ?_; rintro e w5 ⟨rfl, hb5⟩; have HO5 := Aside0.mk (pw_own_below HO4.out hb5); have HT5 := Aside0.mk (blk_below HT4.out hb5); have HU5 := Aside0.mk (blk_below HU4.out hb5); have HB5 := Aside0.mk (below_step HB4.out hb5); clear hb5)
      go_meet
      case rel => exact ⟨rfl, HO5, HT5, HU5, HB5⟩
    | true =>
      have HAl := Aside0.mk (fun (w : World) (ho : w.ownsRow W.heap.size 3 1 (.slice A5 l.length c5) l.length (nums .i64 l)) => (show Calls Try.prog 27 #[setV2 t, .slice A5 l.length c5] w fun e w' => e = .returned (.bool true) ∧ Below w.heap.size w w' by
        have := allL_calls (c := c5) (s := t) (full_C ho) HLi.out HTok.out
        rwa [HTt.out rfl] at this))
      go_wp2_with (first
        | (go_at_call 26; refine (HEw.out _ HB4.out).mono ?_; rintro e w5 ⟨rfl, hb5⟩; have HO5 := Aside0.mk (pw_own_below HO4.out hb5); have HT5 := Aside0.mk (blk_below HT4.out hb5); have HU5 := Aside0.mk (blk_below HU4.out hb5); have HB5 := Aside0.mk (below_step HB4.out hb5); have he2 : w5.cell? ⟨W.heap.size + 1, 0, none⟩ = some (.int .u64 (t.1 : Int)) := (blk_cell HU5.out 0).trans rfl; have he3 : w5.cell? ⟨W.heap.size + 1, 1, none⟩ = some (.int .u64 (t.2 : Int)) := (blk_cell HU5.out 1).trans rfl; clear hb5)
        | (go_at_call 27; refine (HAl.out _ HO5.out).mono ?_; rintro e w6 ⟨rfl, hb6⟩; have HO6 := Aside0.mk (pw_own_below HO5.out hb6); have HT6 := Aside0.mk (blk_below HT5.out hb6); have HU6 := Aside0.mk (blk_below HU5.out hb6); have HB6 := Aside0.mk (below_step HB5.out hb6); clear hb6))
      go_meet
      case rel => exact ⟨rfl, HO6, HT6, HU6, HB6⟩
  case rest =>
    obtain ⟨rfl, HO, HT, HU, HB⟩ := hcut
    clear HO4 HT4 HU4 HB4 hd0 hd1 hd2 hd3 HEw HTt
    go_wp2
    go_loopg [8] (l.length - 1) (fun gk v8 w' => ∃ i : Nat, i + gk = l.length - 1 ∧ v8 = .int .i64 ((i : Int) + 1) ∧ Aside0 (w'.ownsRow W.heap.size 3 1 (.slice A5 l.length c5) l.length (nums .i64 l)) ∧ Aside0 (w'.heap[W.heap.size]? = some (.cells #[.int .i64 N, .slice AL L.length cL] 24 (0, 0))) ∧ Aside0 (w'.heap[W.heap.size + 1]? = some (.cells #[.int .u64 (t.1 : Int), .int .u64 (t.2 : Int)] 34 (0, 0))) ∧ Aside0 (Below W.heap.size W w'))
    case atStart => exact ⟨0, by omega, by go_num, HO, HT, HU, HB⟩
    case round =>
      clear HO HT HU HB
      obtain ⟨i, hig, rfl, HO, HT, HU, HB⟩ := hrel
      have hl128 : (l.length : Int) ≤ 128 := by have := HM.out.2.2; omega
      cases gk with
      | zero =>
        have hil : ¬ ((i : Int) + 1 < (l.length : Int)) := by omega
        clear HU
        go_wp2
        clear hil
        go_loopg [9, 10] m (fun gk v9 v10 w' => ∃ v : Nat, v + gk = m ∧ v9 = .int .i64 0 ∧ v10 = .int .i64 ((v : Int) + 1) ∧ Aside0 (w'.ownsRow W.heap.size 3 1 (.slice A5 l.length c5) l.length (nums .i64 l)) ∧ Aside0 (w'.heap[W.heap.size]? = some (.cells #[.int .i64 N, .slice AL L.length cL] 24 (0, 0))) ∧ Aside0 (Below W.heap.size W w'))
        case atStart => exact ⟨0, by omega, rfl, by go_num, HO, HT, HB⟩
        case round =>
          clear HO HT HB
          obtain ⟨v, hvg, rfl, rfl, HO, HT, HB⟩ := hrel
          have hc0 : wr.cell? ⟨W.heap.size, 0, none⟩ = some (.int .i64 N) := (blk_cell HT.out 0).trans rfl
          cases gk with
          | zero =>
            have hvn : ¬ ((v : Int) + 1 ≤ N) := by have := HM.out.2.1; omega
            go_wp2_with (go_at_call 22; refine (works15_calls _).mono ?_; rintro e w6 ⟨rfl, hb6⟩; have HB6 := Aside0.mk (below_step HB.out hb6); clear hb6)
            go_ret
            exact ⟨rfl, HB6.out⟩
          | succ gk =>
            have hvn : ((v : Int) + 1 ≤ N) := by have := HM.out.2.1; omega
            have HX2 := Aside0.mk (blk_new wr (.cells #[.int .i64 ((v : Int) + 1), .int .i64 (-((v : Int) + 1))] 3))
            have HO2 := Aside0.mk (own_alloc HO.out (.cells #[.int .i64 ((v : Int) + 1), .int .i64 (-((v : Int) + 1))] 3))
            have HT2 := Aside0.mk (blk_alloc HT.out (.cells #[.int .i64 ((v : Int) + 1), .int .i64 (-((v : Int) + 1))] 3))
            have HB2 := Aside0.mk (below_alloc HB.out (.cells #[.int .i64 ((v : Int) + 1), .int .i64 (-((v : Int) + 1))] 3))
            clear HO HT HB
            go_wp2
            clear hc0
            generalize wr.alloc (.cells #[.int .i64 ((v : Int) + 1), .int .i64 (-((v : Int) + 1))] 3) = w3 at HX2 HO2 HT2 HB2 ⊢
            generalize wr.heap.size = bx at HX2 ⊢
            go_loopg [9, 88] 2 (fun gj v9 v88 w' => ∃ i : Nat, i + gj = 2 ∧ v9 = .int .i64 0 ∧ v88 = .int .i64 (i : Int) ∧ Aside0 (w'.heap[bx]? = some (.cells #[.int .i64 ((v : Int) + 1), .int .i64 (-((v : Int) + 1))] 3 (0, 0))) ∧ Aside0 (w'.ownsRow W.heap.size 3 1 (.slice A5 l.length c5) l.length (nums .i64 l)) ∧ Aside0 (w'.heap[W.heap.size]? = some (.cells #[.int .i64 N, .slice AL L.length cL] 24 (0, 0))) ∧ Aside0 (Below W.heap.size W w'))
            case atStart => exact ⟨0, by omega, rfl, by go_num, HX2, HO2, HT2, HB2⟩
            case round =>
              clear HX2 HO2 HT2 HB2
              obtain ⟨i, hig, rfl, rfl, HX, HO, HT, HB⟩ := hrel
              cases gk with
              | zero =>
                have hi2 : i = 2 := by omega
                subst hi2
                go_wp2
                go_roundg gk
                case measure => omega
                case rel => exact ⟨v + 1, by omega, rfl, by go_num, HO, HT, HB⟩
              | succ gk2 =>
                have hi2 : (i : Int) < 2 := by omega
                obtain ⟨x, hx, hcell⟩ : ∃ x, (x = ((v + 1 : Nat) : Int) ∨ x = -((v + 1 : Nat) : Int)) ∧ wr.cell? ⟨bx, i, none⟩ = some (.int .i64 x) := by
                  have : i = 0 ∨ i = 1 := by omega
                  rcases this with rfl | rfl
                  · exact ⟨_, Or.inl rfl, (blk_cell HX.out 0).trans rfl⟩
                  · exact ⟨_, Or.inr rfl, (blk_cell HX.out 1).trans rfl⟩
                have HOx := Aside0.mk (fun (hn : x ∉ l) => HOp.out (v + 1) x (by omega) (by omega) hx hn)
                have hv0 : varOf x ≠ 0 := by
                  have := HM.out.1
                  unfold varOf
                  split
                  · omega
                  · split <;> omega
                have HOc := Aside0.mk (HOd.out x hv0)
                have HWi := Aside0.mk (show Calls Try.prog 29 #[.slice (some ⟨wr.heap.size, 0, none⟩) 1 1, .slice A5 l.length c5] (wr.alloc (.cells #[.int .i64 x] 3)) fun e w' => e = .returned (.bool (l.any (fun y => x == y))) ∧ Drawn0 (wr.alloc (.cells #[.int .i64 x] 3)) w' from within1_calls (litI_C wr x) (Nat.le_refl _) (full_C (own_alloc HO.out _)) (own_cap HO.out))
                have HX3 := Aside0.mk (blk_alloc HX.out (.cells #[.int .i64 x] 3))
                have HO3 := Aside0.mk (own_alloc HO.out (.cells #[.int .i64 x] 3))
                have HT3 := Aside0.mk (blk_alloc HT.out (.cells #[.int .i64 x] 3))
                have HB3 := Aside0.mk (below_alloc HB.out (.cells #[.int .i64 x] 3))
                clear hx hv0 HX HO HT HB
                cases hr : l.any (fun y => x == y) with
                | true =>
                  rw [hr] at HWi
                  clear hr
                  go_wp2_with (go_at_call 29; refine (HWi.out).mono ?_; rintro e w4 ⟨rfl, hd4⟩; have HX4 := Aside0.mk (blk_below HX3.out hd4.below); have HO4 := Aside0.mk (pw_own_below HO3.out hd4.below); have HT4 := Aside0.mk (blk_below HT3.out hd4.below); have HB4 := Aside0.mk (below_step HB3.out hd4.below); clear hd4)
                  go_roundg gk2
                  case measure => omega
                  case rel => exact ⟨i + 1, by omega, rfl, by go_num, HX4, HO4, HT4, HB4⟩
                | false =>
                  rw [hr] at HWi
                  have HNl := Aside0.mk (show opposeF m L x = true from HOx.out (fun hx => by
                    have := List.any_eq_false.1 hr x hx
                    simp at this))
                  rw [HNl.out] at HOc
                  clear hr HOx HNl
                  go_wp2_with (first
                    | (go_at_call 29; refine (HWi.out).mono ?_; rintro e w4 ⟨rfl, hd4⟩; have HX4 := Aside0.mk (blk_below HX3.out hd4.below); have HO4 := Aside0.mk (pw_own_below HO3.out hd4.below); have HT4 := Aside0.mk (blk_below HT3.out hd4.below); have HB4 := Aside0.mk (below_step HB3.out hd4.below); have hd0 : w4.cell? ⟨W.heap.size, 0, none⟩ = some (.int .i64 N) := (blk_cell HT4.out 0).trans rfl; have hd1 : w4.cell? ⟨W.heap.size, 1, none⟩ = some (.slice AL L.length cL) := (blk_cell HT4.out 1).trans rfl; clear hd4)
                    | (go_at_call 30; refine (HOc.out _ HB4.out).mono ?_; rintro e w5 ⟨rfl, hb5⟩; have HX5 := Aside0.mk (blk_below HX4.out hb5); have HO5 := Aside0.mk (pw_own_below HO4.out hb5); have HT5 := Aside0.mk (blk_below HT4.out hb5); have HB5 := Aside0.mk (below_step HB4.out hb5); clear hb5))
                  go_roundg gk2
                  case measure => omega
                  case rel => exact ⟨i + 1, by omega, rfl, by go_num, HX5, HO5, HT5, HB5⟩
      | succ gk =>
        have hil : ((i : Int) + 1 < (l.length : Int)) := by omega
        obtain ⟨x0, hx0⟩ : ∃ x0, l[i]? = some x0 := ⟨_, List.getElem?_eq_getElem (by omega)⟩
        obtain ⟨x1, hx1⟩ : ∃ x1, l[i + 1]? = some x1 := ⟨_, List.getElem?_eq_getElem (by omega)⟩
        have hlt := HSo.out i x0 x1 hx0 hx1
        rcases own_form HO.out with ⟨_, h9, _⟩ | ⟨gl, rfl⟩
        · omega
        have HC0 := Aside0.mk (fun (w : World) (ho : w.ownsRow W.heap.size 3 1 (.slice (some ⟨gl, 0, none⟩) l.length c5) l.length (nums .i64 l)) => own_cell ho hx0)
        have HC1 := Aside0.mk (fun (w : World) (ho : w.ownsRow W.heap.size 3 1 (.slice (some ⟨gl, 0, none⟩) l.length c5) l.length (nums .i64 l)) => own_cell ho hx1)
        have hge : ¬ (varOf x0 ≥ varOf x1) := by omega
        have hi0 : (0 : Int) ≤ (i : Int) + 1 := by omega
        have hii : (i : Int) < (l.length : Int) := by omega
        have hwi : wrap64 (i : Int) = (i : Int) := wrap_id (by omega) (by omega)
        clear hx0 hx1 hlt
        go_wp2_with fail
        try go_step3
        refine start_ (n := 12) (S := fun w' => w'.cell? ⟨gl, i, none⟩ = some (.int .i64 x0) ∧ w'.cell? ⟨gl, i + 1, none⟩ = some (.int .i64 x1)) (ds := []) #[false, false, false, false, false, false, false, false, false, false, false, false] (by kernel_rfl) rfl rfl (⟨HC0.out _ HO.out, HC1.out _ HO.out⟩) (fun hHeld => ?_)
        refine with_tabW q5r12tab q5r12bits (fun HT_ HW_ => ?_)
        replace HT := Aside0.mk (blk_drew HT.out)
        replace HU := Aside0.mk (blk_drew HU.out)
        replace HO := Aside0.mk (own_drew HO.out)
        replace HB := Aside0.mk (below_drew HB.out)
        generalize wr.drew = w2 at HT HU HO HB hHeld ⊢
        refine pure_ (i := 0) (N := some 65) (v := ?_) (a' := ?_) #[true, false, false, false, false, false, false, false, false, false, false, false] rfl rfl (any_of HT_.out (by kernel_rfl)) (fun _ _ _ h => h) (Or.inl ⟨by rfl, ?_⟩) ?_ ?_
        rotate_left
        · intro w'
          go_simp
          with_reducible rfl
        rotate_left
        · simp only [Act.put, List.setIfInBounds_toArray, List.set_cons_zero, List.set_cons_succ, i64_w, i32_w]
          rfl
        refine pure_ (i := 1) (N := some 66) (v := ?_) (a' := ?_) #[true, true, false, false, false, false, false, false, false, false, false, false] rfl rfl (any_of HT_.out (by kernel_rfl)) (fun _ _ _ h => h) (Or.inl ⟨by rfl, ?_⟩) ?_ ?_
        rotate_left
        · intro w'
          go_simp
          with_reducible rfl
        rotate_left
        · simp only [Act.put, List.setIfInBounds_toArray, List.set_cons_zero, List.set_cons_succ, i64_w, i32_w]
          rfl
        refine pure_ (i := 2) (N := some 67) (v := ?_) (a' := ?_) #[true, true, true, false, false, false, false, false, false, false, false, false] rfl rfl (any_of HT_.out (by kernel_rfl)) (fun _ _ _ h => h) (Or.inl ⟨by rfl, ?_⟩) ?_ ?_
        rotate_left
        · intro w'
          go_simp
          with_reducible rfl
        rotate_left
        · simp only [Act.put, List.setIfInBounds_toArray, List.set_cons_zero, List.set_cons_succ, i64_w, i32_w]
          rfl
        refine pure_ (i := 3) (N := some 68) (v := ?_) (a' := ?_) #[true, true, true, true, false, false, false, false, false, false, false, false] rfl rfl (any_of HT_.out (by kernel_rfl)) (fun _ _ _ h => h) (Or.inl ⟨by rfl, ?_⟩) ?_ ?_
        rotate_left
        · intro w'
          go_simp
          with_reducible rfl
        rotate_left
        · simp only [Act.put, List.setIfInBounds_toArray, List.set_cons_zero, List.set_cons_succ, i64_w, i32_w]
          rfl
        refine take_ (i := 4) (N := some 69) (v := ?_) (a' := ?_) #[true, true, true, true, true, false, false, false, false, false, false, false] rfl rfl (take_ofW HT_.out HW_.out (by kernel_rfl)) (fun _ _ _ h => h) (Or.inl ⟨by rfl, ?_⟩) hHeld ?_ ?_
        rotate_left
        · rintro w' ⟨s0, s1⟩
          go_simp
          with_reducible rfl
        rotate_left
        · simp only [Act.put, List.setIfInBounds_toArray, List.set_cons_zero, List.set_cons_succ, i64_w, i32_w]
          rfl
        refine pure_ (i := 6) (N := some 71) (v := ?_) (a' := ?_) #[true, true, true, true, true, false, true, false, false, false, false, false] rfl rfl (any_of HT_.out (by kernel_rfl)) (fun _ _ _ h => h) (Or.inl ⟨by rfl, ?_⟩) ?_ ?_
        rotate_left
        · intro w'
          go_simp
          with_reducible rfl
        rotate_left
        · simp only [Act.put, List.setIfInBounds_toArray, List.set_cons_zero, List.set_cons_succ, i64_w, i32_w]
          rfl
        refine pure_ (i := 7) (N := some 72) (v := ?_) (a' := ?_) #[true, true, true, true, true, false, true, true, false, false, false, false] rfl rfl (any_of HT_.out (by kernel_rfl)) (fun _ _ _ h => h) (Or.inl ⟨by rfl, ?_⟩) ?_ ?_
        rotate_left
        · intro w'
          go_simp
          with_reducible rfl
        rotate_left
        · simp only [Act.put, List.setIfInBounds_toArray, List.set_cons_zero, List.set_cons_succ, i64_w, i32_w]
          rfl
        refine pure_ (i := 8) (N := some 73) (v := ?_) (a' := ?_) #[true, true, true, true, true, false, true, true, true, false, false, false] rfl rfl (any_of HT_.out (by kernel_rfl)) (fun _ _ _ h => h) (Or.inl ⟨by rfl, ?_⟩) ?_ ?_
        rotate_left
        · intro w'
          go_simp
          with_reducible rfl
        rotate_left
        · simp only [Act.put, List.setIfInBounds_toArray, List.set_cons_zero, List.set_cons_succ, i64_w, i32_w]
          rfl
        refine take_ (i := 9) (N := some 74) (v := ?_) (a' := ?_) #[true, true, true, true, true, false, true, true, true, true, false, false] rfl rfl (take_ofW HT_.out HW_.out (by kernel_rfl)) (fun _ _ _ h => h) (Or.inl ⟨by rfl, ?_⟩) hHeld ?_ ?_
        rotate_left
        · rintro w' ⟨s0, s1⟩
          go_simp
          with_reducible rfl
        rotate_left
        · simp only [Act.put, List.setIfInBounds_toArray, List.set_cons_zero, List.set_cons_succ, i64_w, i32_w]
          rfl
        refine one_ (i := 5) (N := some 70) #[true, true, true, true, true, true, true, true, true, true, false, false] rfl rfl (one_of HT_.out (by kernel_rfl)) (by decide) (fun K hK => ?_)
        refine goes_ Try.func28 (by kernel_rfl) rfl #[.int .i64 x0] (by rfl) rfl rfl (by simp only [List.map_toArray, List.map_cons, List.map_nil]; rfl) ?_
        refine (HVar.out _ x0).mono ?_
        rintro e_ w_ ⟨rfl, hb2⟩
        refine ⟨_, rfl, ?_⟩
        replace HT := Aside0.mk (blk_below HT.out hb2.below)
        replace HU := Aside0.mk (blk_below HU.out hb2.below)
        replace HO := Aside0.mk (pw_own_below HO.out hb2.below)
        replace HB := Aside0.mk (below_step HB.out hb2.below)
        clear hb2
        refine hK.out _ _ (⟨HC0.out _ HO.out, HC1.out _ HO.out⟩) (fun hHeld => ?_)
        clear hK K
        refine norm_ (a' := ?_) ?_ ?_
        rotate_left
        · show Act.put _ (some 70) _ = _
          simp only [Act.put, List.setIfInBounds_toArray, List.set_cons_zero, List.set_cons_succ, i64_w, i32_w]
          rfl
        refine one_ (i := 10) (N := some 75) #[true, true, true, true, true, true, true, true, true, true, true, false] rfl rfl (one_of HT_.out (by kernel_rfl)) (by decide) (fun K hK => ?_)
        refine goes_ Try.func28 (by kernel_rfl) rfl #[.int .i64 x1] (by rfl) rfl rfl (by simp only [List.map_toArray, List.map_cons, List.map_nil]; rfl) ?_
        refine (HVar.out _ x1).mono ?_
        rintro e_ w_ ⟨rfl, hb3⟩
        refine ⟨_, rfl, ?_⟩
        replace HT := Aside0.mk (blk_below HT.out hb3.below)
        replace HU := Aside0.mk (blk_below HU.out hb3.below)
        replace HO := Aside0.mk (pw_own_below HO.out hb3.below)
        replace HB := Aside0.mk (below_step HB.out hb3.below)
        clear hb3
        refine hK.out _ _ (⟨HC0.out _ HO.out, HC1.out _ HO.out⟩) (fun hHeld => ?_)
        clear hK K
        refine norm_ (a' := ?_) ?_ ?_
        rotate_left
        · show Act.put _ (some 75) _ = _
          simp only [Act.put, List.setIfInBounds_toArray, List.set_cons_zero, List.set_cons_succ, i64_w, i32_w]
          rfl
        refine pure_ (i := 11) (N := some 76) (v := ?_) (a' := ?_) #[true, true, true, true, true, true, true, true, true, true, true, true] rfl rfl (any_of HT_.out (by kernel_rfl)) (fun _ _ _ h => h) (Or.inl ⟨by rfl, ?_⟩) ?_ ?_
        rotate_left
        · intro w'
          go_simp
          with_reducible rfl
        rotate_left
        · simp only [Act.put, List.setIfInBounds_toArray, List.set_cons_zero, List.set_cons_succ, i64_w, i32_w]
          rfl
        refine done_ (done_of HT_.out (by kernel_rfl)) ?_
        go_wp2
        go_roundg gk
        case measure => omega
        case rel => exact ⟨i + 1, by omega, by go_num, HO, HT, HU, HB⟩
end
end Go.Proofs.Ytbnjbjcokkcfcaa.Sol
namespace Go.Proofs.Ytbnjbjcokkcfcaa.Sol
open Go.ChangeShapes Go.WideShapes Go.ChangeAt Go.RowKit Go.Deep Go.Joins Go.Proofs.YtbnjbjcokkcfcaaW.PrintWords
set_option linter.unusedVariables false
set_option linter.unusedSimpArgs false
variable {H : Type} {enc : TypeId × Value → H}
theorem cells24 : Try.prog.cellsOf 24 = 2 := by kernel_rfl
theorem laidOut : laidOutB Try.prog = true := by kernel_rfl
theorem ints_C {w : World} {A : Option Addr} {n c : Nat} {zs : List Int} (hn : n ≤ c) (hc : c ≤ maxLen) (hz : zs.length = c) (h : ∀ a, A = some a → ∀ j, j < c → w.cell? (a.add j) = some (.int .i64 (zs.getD j 0))) (hA : A = none → c = 0) :
    (Kd.int .i64).C w A (zs.take n).length (zs.take n) := by
  have hl : (zs.take n).length = n := by simp; omega
  rw [hl]
  refine Kd.C_of_reads (d := (0 : Int)) ⟨hl, by unfold maxLen at hc; omega, fun h0 => ?_⟩
  cases A with
  | none => have := hA rfl; omega
  | some a =>
    refine ⟨a, rfl, fun j hj => ?_⟩
    rw [h a rfl j (by omega)]
    simp [List.getD_eq_getElem?_getD, List.getElem?_take, hj]
set_option maxRecDepth 100000 in
/-- A theory. -/
theorem open_theory {w : World} {b0 : Nat} {v : Value} {d : DataW H} {p : List MemPlace} (hv : Value.okWide Try.prog w .any b0 24 v) (h : DataW.Trod enc Try.prog w 0 (fun _ => true) true 24 v d p) :
    ∃ (N : Int) (A : Option Addr) (c : Nat) (L : List (List Int)), v = .agg #[.int .i64 N, .slice A L.length c] ∧ Kd.C (Kd.slice 3 (Kd.int .i64)) w A L.length L ∧ L.length ≤ c := by
  obtain ⟨c0, c1, y0, y1, n, rfl, rfl, rfl, h0, h1⟩ := open_agg2 Try.underlying24 (by kernel_rfl) cells24 hv h
  obtain ⟨N, e0, _⟩ := DataW.trod_int Try.underlying3 h0
  simp only [List.cons.injEq, and_true] at e0
  subst e0
  rcases open_int_rows Try.underlying22 Try.underlying25 Try.underlying3 (by kernel_rfl) (by kernel_rfl) h1 with ⟨e, _⟩ | ⟨a, len, cap, A, L, C, Z, e, _, hl, hm, _, hr⟩
  · simp only [List.cons.injEq, and_true] at e
    subst e
    exact ⟨N, none, 0, [], rfl, Kd.C_nil _ _, Nat.le_refl _⟩
  · simp only [List.cons.injEq, and_true] at e
    subst e
    have hlen : ((List.range len).map fun r => (Z r).take (L r)).length = len := by simp
    refine ⟨N, some a, cap, (List.range len).map fun r => (Z r).take (L r), by rw [hlen], ?_, by rw [hlen]; exact hl⟩
    refine ⟨rfl, by rw [hlen]; unfold maxLen at hm; omega, fun hpos => ⟨a, rfl, fun j q hj => ?_⟩⟩
    have hjl : j < len := by
      have := (List.getElem?_eq_some_iff.1 hj).1
      simpa using this
    obtain ⟨hc1, hc2, hc3, hc4, _, hc5, hc6⟩ := hr j (by omega)
    have hq : q = (Z j).take (L j) := by simpa [hjl] using hj.symm
    subst hq
    have hl2 : ((Z j).take (L j)).length = L j := by simp; omega
    refine ⟨[.slice (A j) ((Z j).take (L j)).length (C j)], rfl, ⟨A j, C j, rfl, by omega, ints_C hc2 hc3 hc4 (fun a' ha' k hk => (hc6 a' ha').2 k hk) hc5⟩, fun i u hu => ?_⟩
    have hi : i = 0 := by
      have := (List.getElem?_eq_some_iff.1 hu).1
      simpa using this
    subst hi
    simp only [List.getElem?_cons_zero, Option.some.injEq] at hu
    subst hu
    rw [hl2]
    simpa [Kd.slice] using hc1
end Go.Proofs.Ytbnjbjcokkcfcaa.Sol
namespace Go.Proofs.Ytbnjbjcokkcfcaa.Sol
open Go.ChangeShapes Go.WideShapes Go.ChangeAt Go.RowKit Go.Deep Go.Joins Go.Proofs.YtbnjbjcokkcfcaaW.PrintWords Go.Proofs.Ytbnjbjcokkcfcaa.PSearchOwn
set_option linter.unusedVariables false
set_option linter.unusedSimpArgs false
theorem pairwise_next {R : Int → Int → Prop} {l : List Int} (h : l.Pairwise R) (i : Nat) (x y : Int) (hx : l[i]? = some x) (hy : l[i + 1]? = some y) : R x y := by
  obtain ⟨h1, rfl⟩ := List.getElem?_eq_some_iff.1 hx
  obtain ⟨h2, rfl⟩ := List.getElem?_eq_some_iff.1 hy
  exact List.pairwise_iff_getElem.1 h i (i + 1) h1 h2 (by omega)
theorem small_nine {N : Int} {L : List (List Int)} (hs : smallB N L = true) (h0 : checkF N L = 0) : N ≤ 9 := by
  unfold smallB at hs
  split at hs
  · simp only [h0, if_true, Bool.and_eq_true, decide_eq_true_eq] at hs
    exact hs.2.1
  · cases hs
theorem bones_lits {L : List (List Int)} {m : Nat} (hm : m ≤ 128) (s : Nat × Nat) : Lits (bonesTo L m s m) := fun x hx => by
  obtain ⟨v, h1, h2, h3, _⟩ := (bones_mem L m s x m).1 hx
  rw [h3, bone_var s h1 (by omega)]
  omega
theorem bonesLaw_calls {N : Int} {W : World} {AL : Option Addr} {cL : Nat} {L : List (List Int)} {s : Nat × Nat} (hL : Kd.C (Kd.slice 3 (Kd.int .i64)) W AL L.length L) (hcL : L.length ≤ cL) (hs : SOk s) :
    Calls Try.prog 5 #[.agg #[.int .i64 N, .slice AL L.length cL], setV2 s] W fun e w' => e = .returned (.bool true) ∧ Below W.heap.size W w' := by
  cases hsm : smallB N L with
  | false => exact bonesLaw_off hL hcL hsm
  | true =>
    by_cases h0 : checkF N L = 0
    · have h9 := small_nine hsm h0
      obtain ⟨m, rfl, hm, _, _, _⟩ := checkF_ok h0
      cases hsat : (satF L m []).1 with
      | false => exact bonesLaw_none hL hcL hs hsm 0 (fun w hb => bones_none (Kd.C_below hL hb) hcL h0 hsat) (fun t => none_eval h0 hsat t)
      | true =>
        refine bonesLaw_some hL hcL hs hsm (m := m) (by omega) rfl (bonesTo L m (satF L m []).2 m) (Nat.le_trans (bones_len L m _ m) hm) (fun w hb => ?_) (bones_lits hm _) (fun i x y hx hy => pairwise_next (bones_sorted L m _ m hm) i x y hx hy) (fun t ht => bones_all h0 _ ht) (fun v x h1 h2 hx hn => bones_opposed (by omega) h0 hsat h1 h2 hx hn)
        refine Calls.mono (bones_some (Kd.C_below hL hb) hcL h0 hsat) ?_
        rintro e w' ⟨v, e1, ho, hb2⟩
        obtain ⟨A, c, hv⟩ := own_slice ho
        subst hv
        exact ⟨⟨A, c, e1, own_less ho hb.size⟩, hb2⟩
    · exact bonesLaw_none hL hcL hs hsm (checkF N L) (fun w hb => bones_off (Kd.C_below hL hb) hcL h0) (fun t => by unfold evalB; rw [decide_eq_false h0, Bool.false_and])
section
variable {H : Type} {enc : TypeId × Value → H}
theorem cells34 : Try.prog.cellsOf 34 = 2 := by kernel_rfl
theorem cells32 : Try.prog.cellsOf 32 = 1 := by kernel_rfl
theorem wf_u64 {n : Int} (h : (Lit.int .u64 n).wf = true) : 0 ≤ n ∧ n < 18446744073709551616 := by
  simp [Lit.wf, IntKind.min, IntKind.max, IntKind.signed, IntKind.bits] at h
  omega
set_option maxRecDepth 100000 in
/-- A set. -/
theorem open_set {w : World} {b0 : Nat} {v : Value} {d : DataW H} {p : List MemPlace} (hv : Value.okWide Try.prog w .any b0 34 v) (h : DataW.Trod enc Try.prog w 0 (fun _ => true) true 34 v d p) :
    ∃ s : Nat × Nat, v = setV2 s ∧ SOk s := by
  simp only [Value.okWide, Try.underlying34] at hv
  obtain ⟨cs, rfl, hsz, _⟩ := hv
  rw [cells34] at hsz
  obtain ⟨c0, c1, rfl⟩ : ∃ c0 c1, cs = #[c0, c1] := by
    match cs, hsz with
    | ⟨[c0, c1]⟩, _ => exact ⟨c0, c1, rfl⟩
  obtain ⟨fuel, hf⟩ := h
  obtain ⟨xs, m, rfl, hx, hl, hlen, hi⟩ := DataW.trod_array Try.underlying34 hf
  have h0 := hi 0 (by omega)
  have h1 := hi 1 (by omega)
  rw [cells32] at h0 h1
  rw [List.getElem?_eq_getElem (by omega)] at h0 h1
  obtain ⟨a, e0, _, wa⟩ := DataW.trod_int Try.underlying32 h0
  obtain ⟨b, e1, _, wb⟩ := DataW.trod_int Try.underlying32 h1
  have k0 : c0 = .int .u64 a := by simpa [Value.cells] using e0
  have k1 : c1 = .int .u64 b := by simpa [Value.cells] using e1
  clear e0 e1 hi h0 h1 hl hf hx hsz
  subst k0 k1
  have ha := wf_u64 wa
  have hb := wf_u64 wb
  refine ⟨(a.toNat, b.toNat), ?_, ?_, ?_⟩
  · show Value.agg #[.int .u64 a, .int .u64 b] = Value.agg #[.int .u64 ((a.toNat : Nat) : Int), .int .u64 ((b.toNat : Nat) : Int)]
    rw [Int.toNat_of_nonneg ha.1, Int.toNat_of_nonneg hb.1]
  · show a.toNat < 2 ^ 64; omega
  · show b.toNat < 2 ^ 64; omega
end
end Go.Proofs.Ytbnjbjcokkcfcaa.Sol
namespace Go.Proofs.Ytbnjbjcokkcfcaa.probeBones
open Go.ChangeShapes Go.WideShapes Go.ChangeAt Go.RowKit Go.Deep Go.Joins Go.Proofs.YtbnjbjcokkcfcaaW.PrintWords Go.Proofs.Ytbnjbjcokkcfcaa.Sol
set_option linter.unusedVariables false
set_option linter.unusedSimpArgs false
theorem own : ownKnob Try.prog.godebug = none := by kernel_rfl
set_option maxRecDepth 100000 in
theorem lifted (os : Os) (started : os.Started) (H : Type) (enc : TypeId × Value → H) :
    ReturnsInHanded {} Try.checked os 5 .any (Rows.probeBonesSpec.pre6 enc Try.prog Try.f5 Rows.probeBonesRow.domain false) (Rows.probeBonesSpec.post enc Try.prog Try.f5 false true false false) := by
  refine returnsInHanded_of_change_sized (C := Try.checked) own started (by kernel_rfl) Try.func5
    (ChangeSpec.witness6 (enc := enc) (C := Try.checked) false ⟨#[], #[.agg #[.int .i64 0, .slice none 0 0], .agg #[.int .u64 0, .int .u64 0]], []⟩ 8 (by kernel_rfl) (by kernel_rfl) (by kernel_rfl) (by kernel_rfl)) ?_
  intro W base args ds gs before hval0 hW hcnd hsz0 _
  have hval : ∀ (j : Nat) t v, Try.f5.params[j]? = some t → args[j]? = some v → Value.okWide Try.prog W .any base t v := hval0
  have hW' := hW
  obtain ⟨p, q, hA0, hV, rfl, hfz, hnd⟩ := hW
  have hA : DataW.TrodAll enc Try.prog W 0 (fun _ => true) true Try.f5.params.toList args.toList ds p := hA0
  rw [Try.params5] at hA hval
  obtain ⟨v0, vs0, d0, ds0, p0, q0, hargs, rfl, rfl, h0, r0⟩ := trodAll_cons hA
  obtain ⟨v1, vs1, d1, ds1, p1, q1, rfl, rfl, rfl, h1, r1⟩ := trodAll_cons r0
  obtain ⟨rfl, rfl, rfl⟩ := trodAll_nil r1
  obtain rfl : args = #[v0, v1] := by cases args; simp_all
  obtain ⟨rfl, rfl⟩ := trodVars_none hV
  obtain ⟨N, AL, cL, L, rfl, hL, hcL⟩ := open_theory (hval 0 24 v0 rfl rfl) h0
  obtain ⟨s, rfl, hs⟩ := open_set (hval 1 34 v1 rfl rfl) h1
  have lt0 : ∀ x ∈ p0, x.block < W.heap.size := by obtain ⟨m, hm⟩ := h0; exact DataW.trod_lt m _ _ _ hm
  have lt1 : ∀ x ∈ p1, x.block < W.heap.size := by obtain ⟨m, hm⟩ := h1; exact DataW.trod_lt m _ _ _ hm
  clear hA0 hval0 hsz0
  refine (bonesLaw_calls hL hcL hs).mono fun e W' ⟨he, bel⟩ => ?_
  subst he
  exact ⟨_, rfl, _, _, _, [], _, [], hW', trodAll_mk1 (shut_bool Try.underlying4 _), (trodAll_cons_mk (Below.trod laidOut (by kernel_rfl) (of_decide_eq_true (by kernel_rfl)) h0 bel lt0) (trodAll_cons_mk (Below.trod laidOut (by kernel_rfl) (of_decide_eq_true (by kernel_rfl)) h1 bel lt1) trodAll_mk0)), rfl, bel.frame _, fun h => by cases h⟩
theorem over : Rows.probeBonesRow.holds Try.pinned (OpenSpec.ofChange Rows.probeBonesSpec) :=
  OpenClaim.holds_of_wide 5 Try.f5 rfl rfl rfl rfl rfl rfl rfl ⟨rfl, rfl, rfl, rfl, rfl⟩ rfl rfl rfl rfl rfl (by kernel_rfl) Try.func5 (by kernel_rfl)
    (of_decide_eq_true (by kernel_rfl)) (by unfold Func.isWrapper; first | (rw [if_pos (by decide +kernel)]; kernel_rfl) | (rw [if_neg (by decide +kernel)]; exact ⟨rfl, rfl⟩))
    (fun os started H enc _ => lifted os started H enc)
theorem proved : Rows.ProbeBonesSaid := over
end Go.Proofs.Ytbnjbjcokkcfcaa.probeBones
namespace Go.Proofs.Ytbnjbjcokkcfcaa
/-- The row, under a short name, for the claim. -/
theorem probeBones_holds : Rows.ProbeBonesSaid := probeBones.proved
end Go.Proofs.Ytbnjbjcokkcfcaa
#print axioms Go.Proofs.Ytbnjbjcokkcfcaa.probeBones_holds
