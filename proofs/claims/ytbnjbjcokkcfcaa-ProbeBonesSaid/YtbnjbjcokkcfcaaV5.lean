/- The unit package and Closure, walked. -/
import Derived.Test.YtbnjbjcokkcfcaaV4
import Derived.ScopeJumps
namespace Go.Proofs.Ytbnjbjcokkcfcaa.Sol
open Go.RowKit Go.Proofs.YtbnjbjcokkcfcaaW.PrintWords Go.Proofs.YtbnjbjcokkcfcaaW.PrintLast Go.Proofs.YtbnjbjcokkcfcaaW.PrintMore Go.Proofs.Ytbnjbjcokkcfcaa.PSearchOwn
set_option linter.unusedVariables false
set_option linter.unusedSimpArgs false
section
variable {N : Int} {W : World} {AL : Option Addr} {cL : Nat} {L : List (List Int)} {A : Option Addr} {c : Nat} {l : List Int}
end
end Go.Proofs.Ytbnjbjcokkcfcaa.Sol
namespace Go.Proofs.Ytbnjbjcokkcfcaa.Sol
open Go.RowKit Go.Proofs.YtbnjbjcokkcfcaaW.PrintWords Go.Proofs.YtbnjbjcokkcfcaaW.PrintLast Go.Proofs.YtbnjbjcokkcfcaaW.PrintMore Go.Proofs.Ytbnjbjcokkcfcaa.PSearchOwn
set_option linter.unusedVariables false
set_option linter.unusedSimpArgs false
section
variable {W W2 w w2 : World} {bF gu gf : Nat} {R : Nat → Nat} {free : Nat × Nat} {es first xs : List Int} {v4 v12 vx : Value}
end
end Go.Proofs.Ytbnjbjcokkcfcaa.Sol
namespace Go.Proofs.Ytbnjbjcokkcfcaa.Sol
open Go.RowKit Go.Proofs.YtbnjbjcokkcfcaaW.PrintWords Go.Proofs.YtbnjbjcokkcfcaaW.PrintLast Go.Proofs.YtbnjbjcokkcfcaaW.PrintMore Go.Proofs.Ytbnjbjcokkcfcaa.PSearchOwn
set_option linter.unusedVariables false
set_option linter.unusedSimpArgs false
def q105r1T : Bool × List (List Nat × List Nat) := (true, [([], []), ([], []), ([1], [1]), ([2], [2]), ([3], [3]), ([], []), ([5], [5]), ([4, 6], [4, 6]), ([0, 0, 1, 2, 3, 4, 5, 6, 7], [0]), ([8, 0, 1, 2, 3, 4, 5, 6, 7], [8]), ([9, 7, 7, 0, 1, 2, 3, 4, 5, 6, 7], [7, 9])])
def q105r1B : List Nat := [0, 0, 2, 6, 14, 0, 32, 126, 255, 511, 1023]
theorem q105r1tab : rtab .any (opsOf Try.f105 1) = q105r1T := by kernel_rfl
theorem q105r1bits : waitsOk q105r1T.2 q105r1B = true := by kernel_rfl
def q105r2T : Bool × List (List Nat × List Nat) := (true, [([], []), ([], []), ([1], [1]), ([2], [2]), ([0], [0]), ([4], [4]), ([5, 3, 0, 1, 2, 3], [3, 5]), ([6, 3, 0, 1, 2, 3], [6])])
def q105r2B : List Nat := [0, 0, 2, 6, 1, 17, 63, 127]
theorem q105r2tab : rtab .any (opsOf Try.f105 2) = q105r2T := by kernel_rfl
theorem q105r2bits : waitsOk q105r2T.2 q105r2B = true := by kernel_rfl
/-- The index of a literal. -/
def atF (l : Int) : Nat := if l < 0 then (-2 * l + 1).toNat else (2 * l).toNat
theorem at_lt {l : Int} (h1 : -128 ≤ l) (h2 : l ≤ 128) : atF l < 258 := by unfold atF; split <;> omega
theorem at_calls (l : Int) (h1 : -128 ≤ l) (h2 : l ≤ 128) (w : World) :
    Calls Try.prog 104 #[.int .i64 l] w fun e w' => e = .returned (.int .i64 ((atF l : Nat) : Int)) ∧ Drawn0 w w' := by
  by_cases h : l < 0
  · have hw : (((atF l : Nat)) : Int) = -2 * l + 1 := by unfold atF; rw [if_pos h]; omega
    have HW := Aside0.mk hw
    clear hw
    generalize ((atF l : Nat) : Int) = r at HW ⊢
    go_enter Try.func104, Try.ntmps104
    go_wp2
    go_ret
    exact ⟨by rw [HW.out]; first | rfl | (congr 2; unfold wrap64; omega), by repeat (first | exact Drawn0.refl _ | apply Drawn0.step)⟩
  · have hw : (((atF l : Nat)) : Int) = 2 * l := by unfold atF; rw [if_neg h]; omega
    have HW := Aside0.mk hw
    clear hw
    generalize ((atF l : Nat) : Int) = r at HW ⊢
    go_enter Try.func104, Try.ntmps104
    go_wp2
    go_ret
    exact ⟨by rw [HW.out]; first | rfl | (congr 2; unfold wrap64; omega), by repeat (first | exact Drawn0.refl _ | apply Drawn0.step)⟩
/-- A step: a literal, its reason, its level. -/
abbrev Stp := Int × Int × Int
/-- A step in a row. -/
def KT : Kd Stp := Kd.pair (Kd.int .i64) (Kd.pair (Kd.int .i64) (Kd.int .i64))
theorem KT_sz : KT.sz = 3 := rfl
theorem KT_E : KT.E = [] := rfl
theorem KT_M (w : World) (base : Nat) (ok : Nat → Prop) (x : Stp) : KT.M w base ok x [.int .i64 x.1, .int .i64 x.2.1, .int .i64 x.2.2] :=
  ⟨[.int .i64 x.1], [.int .i64 x.2.1, .int .i64 x.2.2], rfl, rfl, ⟨[.int .i64 x.2.1], [.int .i64 x.2.2], rfl, rfl, rfl⟩⟩
theorem info110 : (Try.prog.info? 110).map (fun i => (i.zero, i.size, i.bytes)) = some (some (.agg #[.int .i64 0, .int .i64 0, .int .i64 0]), 3, 24) := by kernel_rfl
/-- The cells of a state. -/
def ucells (N : Int) (AL : Option Addr) (n cL : Nat) (v : Value) (bs : List Bool) : Array Value := (.int .i64 N :: .slice AL n cL :: v :: bs.map Value.bool).toArray
section
variable {w w2 : World} {g base : Nat} {N : Int} {AL : Option Addr} {n cL : Nat} {v : Value} {bs : List Bool}
theorem us_c1 (h : w.heap[g]? = some (.cells (ucells N AL n cL v bs) 116 (0, 0))) : w.cell? ⟨g, 1, none⟩ = some (.slice AL n cL) := (blk_cell h 1).trans (by simp [ucells])
theorem us_c2 (h : w.heap[g]? = some (.cells (ucells N AL n cL v bs) 116 (0, 0))) : w.cell? ⟨g, 2, none⟩ = some v := (blk_cell h 2).trans (by simp [ucells])
theorem us_bit (h : w.heap[g]? = some (.cells (ucells N AL n cL v bs) 116 (0, 0))) {i : Nat} (hi : i < bs.length) : w.cell? ⟨g, 3 + i, none⟩ = some (.bool (bs.getD i false)) := (blk_cell h (3 + i)).trans (by simp [ucells, show 3 + i = i + 3 by omega, hi])
theorem us_put2 (h : w.heap[g]? = some (.cells (ucells N AL n cL v bs) 116 (0, 0))) (u : Value) : (w.setCell ⟨g, 2, none⟩ u).heap[g]? = some (.cells (ucells N AL n cL u bs) 116 (0, 0)) := blk_put h 2 u (by simp [ucells])
theorem us_putb (h : w.heap[g]? = some (.cells (ucells N AL n cL v bs) 116 (0, 0))) (i : Nat) (b : Bool) : (w.setCell ⟨g, 3 + i, none⟩ (.bool b)).heap[g]? = some (.cells (ucells N AL n cL v (bs.set i b)) 116 (0, 0)) := blk_put h (3 + i) (.bool b) (by simp [ucells, show 3 + i = i + 3 by omega, List.map_set])
end
theorem Kd.R_drewN {α : Type} {d : Kd α} {e : Nat} {w : World} {base : Nat} {ok : Nat → Prop} {v : Value} {xs : List α} (h : d.R e w base ok v xs) (n : Nat) : d.R e (w.drewN n) base ok v xs := Kd.R_step h (fun _ _ _ => rfl)
theorem Kd.R_drew {α : Type} {d : Kd α} {e : Nat} {w : World} {base : Nat} {ok : Nat → Prop} {v : Value} {xs : List α} (h : d.R e w base ok v xs) : d.R e w.drew base ok v xs := Kd.R_step h (fun _ _ _ => rfl)
section
variable {ops : Array Oper} {o : Oper} {a : Act} {Q : Exit → Act → World → Prop} {Kc : Act → World → Prop}
/-- A step is appended, in a region of open order. -/
theorem app_step_step {w : World} (base : Nat) {v : Value} {l : List Stp} (hR : KT.R 110 w base (fun _ => True) v l) (x : Stp) (hlen : l.length ≤ 4096) (hbase : base ≤ w.heap.size) (hw : Region.wanted o (yielded ops a.tmps) = true) (s y : Operand) (ho : o.op = .call { callee := .builtin .append, args := #[s, y], argTypes := #[106, 106] }) (hs : a.eval s = v) (hy : a.eval y = .slice (some ⟨w.heap.size, 0, none⟩) 1 1)
    (K : ∀ A2 c2 w2, KT.R 110 w2 base (fun _ => True) (.slice A2 (l.length + 1) c2) (l ++ [x]) → w.grownBy w2 v.ownBlock → Below base w w2 → Kc (a.put o.dst (.slice A2 (l.length + 1) c2)) w2) :
    if Region.wanted o (yielded ops a.tmps) = true then Oper.wp Try.prog o a (w.alloc (.cells #[.int .i64 x.1, .int .i64 x.2.1, .int .i64 x.2.2] 110)) Kc Q else Kc (a.put o.dst undef) (w.alloc (.cells #[.int .i64 x.1, .int .i64 x.2.1, .int .i64 x.2.2] 110)) := by
  refine Kd.R_append_step KT (w0 := w) base hw s y 106 110 (.agg #[.int .i64 0, .int .i64 0, .int .i64 0]) 24 ho Try.underlying106 info110 rfl (by decide) (by decide) v l x [.int .i64 x.1, .int .i64 x.2.1, .int .i64 x.2.2] (fun _ => True) (fun _ => False) hs hy (KT_M _ _ _ x) (fun k hk => hk.elim) (fun _ _ => trivial) hR (Below.refl _ _ |>.mono hbase) hbase (by omega) ?_
  intro v1 w1 hr hb hg hat
  obtain ⟨inner1, ho1⟩ := Kd.R_own hr
  rw [List.length_append, List.length_singleton] at ho1
  obtain ⟨A2, c2, rfl⟩ := own_slice ho1
  exact K A2 c2 w1 hr hg hb
end
section
variable {W : World} {g base : Nat} {N : Int} {AL : Option Addr} {n cL c : Nat} {A : Option Addr} {l : List Stp} {bs : List Bool}
/-- What a state is. -/
structure US (W0 : World) (g : Nat) (N : Int) (AL : Option Addr) (n cL : Nat) (l : List Stp) (bs : List Bool) (w : World) : Prop where
  st : ∃ A c, w.heap[g]? = some (.cells (ucells N AL n cL (.slice A l.length c) bs) 116 (0, 0)) ∧ KT.R 110 w W0.heap.size (fun _ => True) (.slice A l.length c) l
  bl : bs.length = 258
  be : Below W0.heap.size W0 w
  gb : W0.heap.size ≤ g
theorem US.bg {W0 w w2 : World} (h : US W0 g N AL n cL l bs w) (hb : Below w.heap.size w w2) : US W0 g N AL n cL l bs w2 := by
  obtain ⟨⟨A, c, h1, h2⟩, h3, h4, h5⟩ := h
  exact ⟨⟨A, c, blk_below h1 hb, Kd.R_below h2 hb⟩, h3, below_step h4 hb, h5⟩
set_option maxHeartbeats 4000000 in
set_option maxRecDepth 100000 in
theorem add_calls {W0 : World} (h : US W0 g N AL n cL l bs W) (x : Stp) (hx1 : -128 ≤ x.1) (hx2 : x.1 ≤ 128) (hlen : l.length ≤ 4096) :
    Calls Try.prog 105 #[.pointer (some ⟨g, 0, none⟩), .agg #[.int .i64 x.1, .int .i64 x.2.1, .int .i64 x.2.2]] W fun e w' => e = .returned (.tuple #[]) ∧ US W0 g N AL n cL (l ++ [x]) (bs.set (atF x.1) true) w' := by
  obtain ⟨⟨A, c, hg, hR⟩, hbl, hbe, hgb⟩ := h
  have HG := Aside0.mk (blk_alloc hg (.cells #[.int .i64 x.1, .int .i64 x.2.1, .int .i64 x.2.2] 110))
  have HR := Aside0.mk (Kd.R_below hR (below_alloc (Below.refl W.heap.size W) (.cells #[.int .i64 x.1, .int .i64 x.2.1, .int .i64 x.2.2] 110)))
  have HX := Aside0.mk (blk_new W (.cells #[.int .i64 x.1, .int .i64 x.2.1, .int .i64 x.2.2] 110))
  have HB := Aside0.mk (below_alloc hbe (.cells #[.int .i64 x.1, .int .i64 x.2.1, .int .i64 x.2.2] 110))
  have HNx := Aside0.mk (show some W.heap.size ≠ (Value.slice A l.length c).ownBlock from fun e => by
    obtain ⟨inner, ho⟩ := Kd.R_own hR
    have := own_lt ho W.heap.size e.symm
    omega)
  have HLt := at_lt hx1 hx2
  have HAt0 := fun (w : World) => at_calls x.1 hx1 hx2 w
  obtain ⟨i, hi0⟩ : ∃ i, atF x.1 = i := ⟨_, rfl⟩
  rw [hi0] at HLt HAt0 ⊢
  have HAt := Aside0.mk HAt0
  have hi : i < bs.length := by omega
  have hi258 : (i : Int) < 258 := by omega
  clear hi0
  have HNe := Aside0.mk (show g ≠ W.heap.size from Nat.ne_of_lt (blk_lt hg))
  have hgb2 := hgb
  have hbs := hbe.size
  have HGb := Aside0.mk hgb
  have HBl := Aside0.mk hbl
  have HSz := Aside0.mk hbs
  clear hg hR hbe hx1 hx2 hgb hbl hbs hgb2
  go_enter Try.func105, Try.ntmps105
  go_wp2_with fail
  try go_step3
  clear HAt0
  generalize hb3 : W.heap.size = b3 at HX HNx HNe
  refine start_ (n := 11) (S := fun w' => w'.cell? ⟨g, 2, none⟩ = some (.slice A l.length c) ∧ w'.cell? ⟨b3, 0, none⟩ = some (.int .i64 x.1) ∧ w'.cell? ⟨b3, 1, none⟩ = some (.int .i64 x.2.1) ∧ w'.cell? ⟨b3, 2, none⟩ = some (.int .i64 x.2.2)) (ds := [10]) #[false, false, false, false, false, false, false, false, false, false, false] (by kernel_rfl) rfl rfl (⟨us_c2 HG.out, (blk_cell HX.out 0).trans rfl, (blk_cell HX.out 1).trans rfl, (blk_cell HX.out 2).trans rfl⟩) (fun hHeld => ?_)
  refine with_tabW q105r1tab q105r1bits (fun HT_ HW_ => ?_)
  replace HG := Aside0.mk (blk_drew HG.out)
  replace HX := Aside0.mk (blk_drew HX.out)
  replace HR := Aside0.mk (Kd.R_drew HR.out)
  replace HB := Aside0.mk (below_drew HB.out)
  generalize (World.alloc W (.cells #[.int .i64 x.1, .int .i64 x.2.1, .int .i64 x.2.2] 110)).drew = w1 at HG HX HR HB hHeld ⊢
  refine pure_ (i := 0) (N := some 4) (v := ?_) (a' := ?_) #[true, false, false, false, false, false, false, false, false, false, false] rfl rfl (any_of HT_.out (by kernel_rfl)) (fun _ _ _ h => h) (Or.inl ⟨by rfl, ?_⟩) ?_ ?_
  rotate_left
  · intro w'
    go_simp
    with_reducible rfl
  rotate_left
  · simp only [Act.put, List.setIfInBounds_toArray, List.set_cons_zero, List.set_cons_succ, i64_w, i32_w]
    rfl
  refine pure_ (i := 1) (N := some 5) (v := ?_) (a' := ?_) #[true, true, false, false, false, false, false, false, false, false, false] rfl rfl (any_of HT_.out (by kernel_rfl)) (fun _ _ _ h => h) (Or.inl ⟨by rfl, ?_⟩) ?_ ?_
  rotate_left
  · intro w'
    go_simp
    with_reducible rfl
  rotate_left
  · simp only [Act.put, List.setIfInBounds_toArray, List.set_cons_zero, List.set_cons_succ, i64_w, i32_w]
    rfl
  refine pure_ (i := 2) (N := some 6) (v := ?_) (a' := ?_) #[true, true, true, false, false, false, false, false, false, false, false] rfl rfl (any_of HT_.out (by kernel_rfl)) (fun _ _ _ h => h) (Or.inl ⟨by rfl, ?_⟩) ?_ ?_
  rotate_left
  · intro w'
    go_simp
    with_reducible rfl
  rotate_left
  · simp only [Act.put, List.setIfInBounds_toArray, List.set_cons_zero, List.set_cons_succ, i64_w, i32_w]
    rfl
  refine pure_ (i := 3) (N := some 7) (v := ?_) (a' := ?_) #[true, true, true, true, false, false, false, false, false, false, false] rfl rfl (any_of HT_.out (by kernel_rfl)) (fun _ _ _ h => h) (Or.inl ⟨by rfl, ?_⟩) ?_ ?_
  rotate_left
  · intro w'
    go_simp
    with_reducible rfl
  rotate_left
  · simp only [Act.put, List.setIfInBounds_toArray, List.set_cons_zero, List.set_cons_succ, i64_w, i32_w]
    rfl
  refine take_ (i := 4) (N := some 8) (v := ?_) (a' := ?_) #[true, true, true, true, true, false, false, false, false, false, false] rfl rfl (take_ofW HT_.out HW_.out (by kernel_rfl)) (fun _ _ _ h => h) (Or.inl ⟨by rfl, ?_⟩) hHeld ?_ ?_
  rotate_left
  · rintro w' ⟨s0, s1, s2, s3⟩
    go_simp
    with_reducible rfl
  rotate_left
  · simp only [Act.put, List.setIfInBounds_toArray, List.set_cons_zero, List.set_cons_succ, i64_w, i32_w]
    rfl
  refine take_ (i := 5) (N := some 9) (v := ?_) (a' := ?_) #[true, true, true, true, true, true, false, false, false, false, false] rfl rfl (take_ofW HT_.out HW_.out (by kernel_rfl)) (fun _ _ _ h => h) (Or.inl ⟨by rfl, ?_⟩) hHeld ?_ ?_
  rotate_left
  · rintro w' ⟨s0, s1, s2, s3⟩
    go_simp
    with_reducible rfl
  rotate_left
  · simp only [Act.put, List.setIfInBounds_toArray, List.set_cons_zero, List.set_cons_succ, i64_w, i32_w]
    rfl
  refine one_ (i := 6) (N := some 10) #[true, true, true, true, true, true, true, false, false, false, false] rfl rfl (one_of HT_.out (by kernel_rfl)) (by decide) (fun K hK => ?_)
  refine value_ (w1 := ?_) (v := ?_) (by rfl) rfl ?_ ?_
  rotate_left 2
  · go_simp
    (refine ⟨?_, ?_⟩ <;> rfl)
  refine hK.out _ _ (⟨us_c2 (blk_alloc HG.out _), (blk_cell (blk_alloc HX.out _) 0).trans rfl, (blk_cell (blk_alloc HX.out _) 1).trans rfl, (blk_cell (blk_alloc HX.out _) 2).trans rfl⟩) (fun hHeld => ?_)
  clear hK K
  refine norm_ (a' := ?_) ?_ ?_
  rotate_left
  · show Act.put _ (some 10) _ = _
    simp only [Act.put, List.setIfInBounds_toArray, List.set_cons_zero, List.set_cons_succ, i64_w, i32_w]
    rfl
  refine one_ (i := 7) (N := some 11) #[true, true, true, true, true, true, true, true, false, false, false] rfl rfl (one_of HT_.out (by kernel_rfl)) (by decide) (fun K hK => ?_)
  refine app_step_step W0.heap.size HR.out x hlen HB.out.size (by rfl) (.tmp 8) (.tmp 10) rfl rfl rfl ?_
  intro A8 c8 w8 hr8 hg8 hb8
  replace HG := Aside0.mk (blk_grown HG.out hg8 (Kd.R_ne HR.out HG.out (by decide)))
  replace HX := Aside0.mk (blk_grown HX.out hg8 HNx.out)
  replace HB := Aside0.mk (Below.trans HB.out hb8)
  replace HR := Aside0.mk (Kd.R_types hr8 HG.out (fun q hq => by simp only [KT_E, List.mem_cons, List.not_mem_nil, or_false] at hq; subst hq; decide))
  clear hr8 hg8 hb8
  refine hK.out _ _ (⟨us_c2 HG.out, (blk_cell HX.out 0).trans rfl, (blk_cell HX.out 1).trans rfl, (blk_cell HX.out 2).trans rfl⟩) (fun hHeld => ?_)
  clear hK K
  refine norm_ (a' := ?_) ?_ ?_
  rotate_left
  · show Act.put _ (some 11) _ = _
    simp only [Act.put, List.setIfInBounds_toArray, List.set_cons_zero, List.set_cons_succ, i64_w, i32_w]
    rfl
  refine pure_ (i := 8) (N := some 12) (v := ?_) (a' := ?_) #[true, true, true, true, true, true, true, true, true, false, false] rfl rfl (any_of HT_.out (by kernel_rfl)) (fun _ _ _ h => h) (Or.inl ⟨by rfl, ?_⟩) ?_ ?_
  rotate_left
  · intro w'
    go_simp
    with_reducible rfl
  rotate_left
  · simp only [Act.put, List.setIfInBounds_toArray, List.set_cons_zero, List.set_cons_succ, i64_w, i32_w]
    rfl
  refine pure_ (i := 9) (N := some 13) (v := ?_) (a' := ?_) #[true, true, true, true, true, true, true, true, true, true, false] rfl rfl (any_of HT_.out (by kernel_rfl)) (fun _ _ _ h => h) (Or.inl ⟨by rfl, ?_⟩) ?_ ?_
  rotate_left
  · intro w'
    go_simp
    with_reducible rfl
  rotate_left
  · simp only [Act.put, List.setIfInBounds_toArray, List.set_cons_zero, List.set_cons_succ, i64_w, i32_w]
    rfl
  refine last_ (i := 10) (N := none) #[true, true, true, true, true, true, true, true, true, true, true] rfl rfl (one_of HT_.out (by kernel_rfl)) (by decide) (fun K hK => ?_)
  have hf8 := blk_frozen HG.out 2
  have hc8 := us_c2 HG.out
  refine skip_ (w1 := ?_) (by rfl) rfl ?_ ?_
  rotate_left
  · go_simp
    rfl
  refine hK.out _ _ ?_
  clear hK K
  refine done_ (done_of HT_.out (by kernel_rfl)) ?_
  replace HG := Aside0.mk (us_put2 HG.out (.slice A8 (l.length + 1) c8))
  replace HX := Aside0.mk (blk_far (p := ⟨g, 2, none⟩) HX.out (Ne.symm HNe.out) (.slice A8 (l.length + 1) c8))
  replace HR := Aside0.mk (Kd.R_mono (Kd.R_far (p := ⟨g, 2, none⟩) HR.out (fun k hk => hk.2) (.slice A8 (l.length + 1) c8)) (fun _ hk => hk.1))
  replace HB := Aside0.mk (below_set (g := g) (j := 2) (v := .slice A8 (l.length + 1) c8) HB.out HGb.out)
  clear hf8 hc8
  go_wp2_with fail
  generalize w8.setCell ⟨g, 2, none⟩ (.slice A8 (l.length + 1) c8) = w9 at HG HX HR HB ⊢
  refine start_ (n := 8) (S := fun w' => w'.cell? ⟨b3, 0, none⟩ = some (.int .i64 x.1)) (ds := [7]) #[false, false, false, false, false, false, false, false] (by kernel_rfl) rfl rfl ((blk_cell HX.out 0).trans rfl) (fun hHeld => ?_)
  refine with_tabW q105r2tab q105r2bits (fun HT_ HW_ => ?_)
  replace HG := Aside0.mk (blk_drew HG.out)
  replace HX := Aside0.mk (blk_drew HX.out)
  replace HR := Aside0.mk (Kd.R_drew HR.out)
  replace HB := Aside0.mk (below_drew HB.out)
  generalize w9.drew = w10 at HG HX HR HB hHeld ⊢
  refine pure_ (i := 0) (N := some 14) (v := ?_) (a' := ?_) #[true, false, false, false, false, false, false, false] rfl rfl (any_of HT_.out (by kernel_rfl)) (fun _ _ _ h => h) (Or.inl ⟨by rfl, ?_⟩) ?_ ?_
  rotate_left
  · intro w'
    go_simp
    with_reducible rfl
  rotate_left
  · simp only [Act.put, List.setIfInBounds_toArray, List.set_cons_zero, List.set_cons_succ, i64_w, i32_w]
    rfl
  refine pure_ (i := 1) (N := some 15) (v := ?_) (a' := ?_) #[true, true, false, false, false, false, false, false] rfl rfl (any_of HT_.out (by kernel_rfl)) (fun _ _ _ h => h) (Or.inl ⟨by rfl, ?_⟩) ?_ ?_
  rotate_left
  · intro w'
    go_simp
    with_reducible rfl
  rotate_left
  · simp only [Act.put, List.setIfInBounds_toArray, List.set_cons_zero, List.set_cons_succ, i64_w, i32_w]
    rfl
  refine take_ (i := 2) (N := some 16) (v := ?_) (a' := ?_) #[true, true, true, false, false, false, false, false] rfl rfl (take_ofW HT_.out HW_.out (by kernel_rfl)) (fun _ _ _ h => h) (Or.inl ⟨by rfl, ?_⟩) hHeld ?_ ?_
  rotate_left
  · rintro w' s0
    go_simp
    with_reducible rfl
  rotate_left
  · simp only [Act.put, List.setIfInBounds_toArray, List.set_cons_zero, List.set_cons_succ, i64_w, i32_w]
    rfl
  refine pure_ (i := 4) (N := some 18) (v := ?_) (a' := ?_) #[true, true, true, false, true, false, false, false] rfl rfl (any_of HT_.out (by kernel_rfl)) (fun _ _ _ h => h) (Or.inl ⟨by rfl, ?_⟩) ?_ ?_
  rotate_left
  · intro w'
    go_simp
    with_reducible rfl
  rotate_left
  · simp only [Act.put, List.setIfInBounds_toArray, List.set_cons_zero, List.set_cons_succ, i64_w, i32_w]
    rfl
  refine pure_ (i := 5) (N := some 19) (v := ?_) (a' := ?_) #[true, true, true, false, true, true, false, false] rfl rfl (any_of HT_.out (by kernel_rfl)) (fun _ _ _ h => h) (Or.inl ⟨by rfl, ?_⟩) ?_ ?_
  rotate_left
  · intro w'
    go_simp
    with_reducible rfl
  rotate_left
  · simp only [Act.put, List.setIfInBounds_toArray, List.set_cons_zero, List.set_cons_succ, i64_w, i32_w]
    rfl
  refine one_ (i := 3) (N := some 17) #[true, true, true, true, true, true, false, false] rfl rfl (one_of HT_.out (by kernel_rfl)) (by decide) (fun K hK => ?_)
  refine goes_ Try.func104 (by kernel_rfl) rfl #[.int .i64 x.1] (by rfl) rfl rfl (by simp only [List.map_toArray, List.map_cons, List.map_nil]; rfl) ?_
  refine (HAt.out _).mono ?_
  rintro e_ w_ ⟨rfl, ⟨n2, rfl⟩⟩
  refine ⟨_, rfl, ?_⟩
  replace HG := Aside0.mk (blk_drewN HG.out n2)
  replace HX := Aside0.mk (blk_drewN HX.out n2)
  replace HR := Aside0.mk (Kd.R_drewN HR.out n2)
  replace HB := Aside0.mk (pw_below_drewN HB.out n2)
  generalize w10.drewN n2 = w11 at HG HX HR HB ⊢
  refine hK.out _ _ ((blk_cell HX.out 0).trans rfl) (fun hHeld => ?_)
  clear hK K
  refine norm_ (a' := ?_) ?_ ?_
  rotate_left
  · show Act.put _ (some 17) _ = _
    simp only [Act.put, List.setIfInBounds_toArray, List.set_cons_zero, List.set_cons_succ, i64_w, i32_w]
    rfl
  refine pure_ (i := 6) (N := some 20) (v := ?_) (a' := ?_) #[true, true, true, true, true, true, true, false] rfl rfl (any_of HT_.out (by kernel_rfl)) (fun _ _ _ h => h) (Or.inl ⟨by rfl, ?_⟩) ?_ ?_
  rotate_left
  · intro w'
    go_simp
    with_reducible rfl
  rotate_left
  · simp only [Act.put, List.setIfInBounds_toArray, List.set_cons_zero, List.set_cons_succ, i64_w, i32_w]
    rfl
  refine last_ (i := 7) (N := none) #[true, true, true, true, true, true, true, true] rfl rfl (one_of HT_.out (by kernel_rfl)) (by decide) (fun K hK => ?_)
  have hf8 := blk_frozen HG.out (3 + i)
  have hc8 := us_bit HG.out hi
  refine skip_ (w1 := ?_) (by rfl) rfl ?_ ?_
  rotate_left
  · go_simp
    rfl
  refine hK.out _ _ ?_
  clear hK K
  refine done_ (done_of HT_.out (by kernel_rfl)) ?_
  go_wp2
  go_end0
  refine ⟨rfl, ⟨⟨A8, c8, ?_, ?_⟩, (List.length_set).trans HBl.out, below_set HB.out HGb.out, HGb.out⟩⟩
  · rw [List.length_append, List.length_singleton]; exact us_putb HG.out i true
  · rw [List.length_append, List.length_singleton]
    exact Kd.R_mono (Kd.R_far (p := ⟨g, 3 + i, none⟩) (Kd.R_types HR.out HG.out (fun q hq => by simp only [KT_E, List.mem_cons, List.not_mem_nil, or_false] at hq; subst hq; decide)) (fun k hk => hk.2) (.bool true)) (fun _ _ => trivial)
end
end Go.Proofs.Ytbnjbjcokkcfcaa.Sol
namespace Go.Proofs.Ytbnjbjcokkcfcaa.Sol
open Go.RowKit Go.Proofs.YtbnjbjcokkcfcaaW.PrintWords Go.Proofs.YtbnjbjcokkcfcaaW.PrintLast Go.Proofs.YtbnjbjcokkcfcaaW.PrintMore Go.Proofs.Ytbnjbjcokkcfcaa.PSearchOwn
set_option linter.unusedVariables false
set_option linter.unusedSimpArgs false
def q119r1T : Bool × List (List Nat × List Nat) := (true, [([], []), ([], []), ([1], [1]), ([0], [0]), ([3], [3]), ([4, 2], [2, 4]), ([5], [5]), ([6, 2], [6])])
def q119r1B : List Nat := [0, 0, 2, 1, 9, 31, 63, 127]
theorem q119r1tab : rtab .any (opsOf Try.f119 1) = q119r1T := by kernel_rfl
theorem q119r1bits : waitsOk q119r1T.2 q119r1B = true := by kernel_rfl
def q119r3T : Bool × List (List Nat × List Nat) := (true, [([], []), ([], []), ([1], [1]), ([2], [2]), ([0], [0]), ([4], [4]), ([5, 3], [3, 5]), ([6], [6]), ([7, 3], [7]), ([8], [8]), ([8], [8]), ([9, 10, 8], [8, 9, 10]), ([8, 11], [8, 11]), ([12, 8], [12])])
def q119r3B : List Nat := [0, 0, 2, 6, 1, 17, 63, 127, 255, 511, 511, 2047, 4095, 8191]
theorem q119r3tab : rtab .any (opsOf Try.f119 3) = q119r3T := by kernel_rfl
theorem q119r3bits : waitsOk q119r3T.2 q119r3B = true := by kernel_rfl
def tru1 (bs : List Bool) (l : Int) : Bool := bs.getD (atF l) false
/-- What a literal does to the open one: whether to go on, the open literal, whether it is the only one. -/
def seeF (bs : List Bool) (x l : Int) : Bool × Int × Bool := if tru1 bs l then (false, x, true) else if tru1 bs (-l) || l == x then (true, x, true) else (x == 0, l, x == 0)
/-- What stands while a clause is looked at. -/
structure OW (W : World) (g b2 b4 b6 : Nat) (x : Int) (same : Bool) (w : World) : Prop where
  bx : w.heap[b2]? = some (.cells #[.pointer (some ⟨g, 0, none⟩)] 113 (0, 0))
  cx : w.heap[b4]? = some (.cells #[.int .i64 x] 3 (0, 0))
  cs : w.heap[b6]? = some (.cells #[.bool same] 4 (0, 0))
  be : Below W.heap.size W w
  h4 : W.heap.size ≤ b4
  h6 : W.heap.size ≤ b6
section
variable {W w : World} {g b2 b4 b6 : Nat} {x : Int} {same : Bool}
theorem OW.drew (h : OW W g b2 b4 b6 x same w) : OW W g b2 b4 b6 x same w.drew := ⟨h.bx, h.cx, h.cs, below_drew h.be, h.h4, h.h6⟩
theorem OW.drewN (h : OW W g b2 b4 b6 x same w) (n : Nat) : OW W g b2 b4 b6 x same (w.drewN n) := ⟨h.bx, h.cx, h.cs, pw_below_drewN h.be n, h.h4, h.h6⟩
theorem OW.setx (h : OW W g b2 b4 b6 x same w) (y : Int) : OW W g b2 b4 b6 y same (w.setCell ⟨b4, 0, none⟩ (.int .i64 y)) :=
  ⟨blk_far h.bx (blk_ne h.bx h.cx (by decide)) _, blk_put h.cx 0 _ rfl, blk_far h.cs (blk_ne h.cs h.cx (by decide)) _, below_set h.be h.h4, h.h4, h.h6⟩
theorem OW.sets (h : OW W g b2 b4 b6 x same w) (y : Bool) : OW W g b2 b4 b6 x y (w.setCell ⟨b6, 0, none⟩ (.bool y)) :=
  ⟨blk_far h.bx (blk_ne h.bx h.cs (by decide)) _, blk_far h.cx (blk_ne h.cx h.cs (by decide)) _, blk_put h.cs 0 _ rfl, below_set h.be h.h6, h.h4, h.h6⟩
end
section
variable {W w : World} {g b2 b4 b6 : Nat} {x : Int} {N : Int} {AL : Option Addr} {n cL : Nat} {v : Value} {bs : List Bool}
set_option maxHeartbeats 4000000 in
set_option maxRecDepth 100000 in
theorem see_calls (hg : W.heap[g]? = some (.cells (ucells N AL n cL v bs) 116 (0, 0))) (hbl : bs.length = 258) (h : OW W g b2 b4 b6 x true w) (l : Int) (h1 : -128 ≤ l) (h2 : l ≤ 128) :
    Calls Try.prog 119 #[.int .i64 l, .pointer (some ⟨b2, 0, none⟩), .pointer (some ⟨b4, 0, none⟩), .pointer (some ⟨b6, 0, none⟩)] w fun e w' => e = .returned (.bool (seeF bs x l).1) ∧ OW W g b2 b4 b6 (seeF bs x l).2.1 (seeF bs x l).2.2 w' := by
  have HO := Aside0.mk h
  have hi := at_lt h1 h2
  have hj := at_lt (l := -l) (by omega) (by omega)
  have HAt := Aside0.mk (fun (w : World) => at_calls l h1 h2 w)
  have HAt2 := Aside0.mk (fun (w : World) => (show Calls Try.prog 104 #[.int .i64 (wrap64 (-l))] w fun e w' => e = .returned (.int .i64 ((atF (-l) : Nat) : Int)) ∧ Drawn0 w w' by
    have hw : wrap64 (-l) = -l := by unfold wrap64; omega
    rw [hw]; exact at_calls (-l) (by omega) (by omega) w))
  have HBit := Aside0.mk (fun {w : World} (hb : Below W.heap.size W w) => us_bit (blk_below hg hb) (i := atF l) (by omega))
  have HBit2 := Aside0.mk (fun {w : World} (hb : Below W.heap.size W w) => us_bit (blk_below hg hb) (i := atF (-l)) (by omega))
  rw [show seeF bs x l = if bs.getD (atF l) false then (false, x, true) else if bs.getD (atF (-l)) false || l == x then (true, x, true) else (x == 0, l, x == 0) from rfl]
  generalize bs.getD (atF l) false = b at HBit ⊢
  generalize bs.getD (atF (-l)) false = b' at HBit2 ⊢
  generalize atF l = i at hi HAt HBit
  generalize atF (-l) = j at hj HAt2 HBit2
  have hi2 : (i : Int) < 258 := by omega
  have hj2 : (j : Int) < 258 := by omega
  clear hg hbl h
  go_enter Try.func119, Try.ntmps119
  go_wp2_with fail
  try go_step3
  refine start_ (n := 8) (S := fun w' => w'.cell? ⟨b2, 0, none⟩ = some (.pointer (some ⟨g, 0, none⟩)) ∧ w'.cell? ⟨g, 3 + i, none⟩ = some (.bool b)) (ds := []) #[false, false, false, false, false, false, false, false] (by kernel_rfl) rfl rfl (⟨(blk_cell HO.out.drew.bx 0).trans rfl, HBit.out HO.out.drew.be⟩) (fun hHeld => ?_)
  refine with_tabW q119r1tab q119r1bits (fun HT_ HW_ => ?_)
  replace HO := Aside0.mk HO.out.drew
  generalize w.drew = w1 at HO hHeld ⊢
  refine take_ (i := 0) (N := some 7) (v := ?_) (a' := ?_) #[true, false, false, false, false, false, false, false] rfl rfl (take_ofW HT_.out HW_.out (by kernel_rfl)) (fun _ _ _ h => h) (Or.inl ⟨by rfl, ?_⟩) hHeld ?_ ?_
  rotate_left
  · rintro w' ⟨s0, s1⟩
    go_simp
    with_reducible rfl
  rotate_left
  · simp only [Act.put, List.setIfInBounds_toArray, List.set_cons_zero, List.set_cons_succ, i64_w, i32_w]
    rfl
  refine pure_ (i := 1) (N := some 8) (v := ?_) (a' := ?_) #[true, true, false, false, false, false, false, false] rfl rfl (any_of HT_.out (by kernel_rfl)) (fun _ _ _ h => h) (Or.inl ⟨by rfl, ?_⟩) ?_ ?_
  rotate_left
  · intro w'
    go_simp
    with_reducible rfl
  rotate_left
  · simp only [Act.put, List.setIfInBounds_toArray, List.set_cons_zero, List.set_cons_succ, i64_w, i32_w]
    rfl
  refine pure_ (i := 3) (N := some 10) (v := ?_) (a' := ?_) #[true, true, false, true, false, false, false, false] rfl rfl (any_of HT_.out (by kernel_rfl)) (fun _ _ _ h => h) (Or.inl ⟨by rfl, ?_⟩) ?_ ?_
  rotate_left
  · intro w'
    go_simp
    with_reducible rfl
  rotate_left
  · simp only [Act.put, List.setIfInBounds_toArray, List.set_cons_zero, List.set_cons_succ, i64_w, i32_w]
    rfl
  refine pure_ (i := 4) (N := some 11) (v := ?_) (a' := ?_) #[true, true, false, true, true, false, false, false] rfl rfl (any_of HT_.out (by kernel_rfl)) (fun _ _ _ h => h) (Or.inl ⟨by rfl, ?_⟩) ?_ ?_
  rotate_left
  · intro w'
    go_simp
    with_reducible rfl
  rotate_left
  · simp only [Act.put, List.setIfInBounds_toArray, List.set_cons_zero, List.set_cons_succ, i64_w, i32_w]
    rfl
  refine one_ (i := 2) (N := some 9) #[true, true, true, true, true, false, false, false] rfl rfl (one_of HT_.out (by kernel_rfl)) (by decide) (fun K hK => ?_)
  refine goes_ Try.func104 (by kernel_rfl) rfl #[.int .i64 l] (by rfl) rfl rfl (by simp only [List.map_toArray, List.map_cons, List.map_nil]; rfl) ?_
  refine (HAt.out _).mono ?_
  rintro e_ w_ ⟨rfl, ⟨n2, rfl⟩⟩
  refine ⟨_, rfl, ?_⟩
  replace HO := Aside0.mk (HO.out.drewN n2)
  generalize w1.drewN n2 = w2 at HO ⊢
  refine hK.out _ _ (⟨(blk_cell HO.out.bx 0).trans rfl, HBit.out HO.out.be⟩) (fun hHeld => ?_)
  clear hK K
  refine norm_ (a' := ?_) ?_ ?_
  rotate_left
  · show Act.put _ (some 9) _ = _
    simp only [Act.put, List.setIfInBounds_toArray, List.set_cons_zero, List.set_cons_succ, i64_w, i32_w]
    rfl
  refine pure_ (i := 5) (N := some 12) (v := ?_) (a' := ?_) #[true, true, true, true, true, true, false, false] rfl rfl (any_of HT_.out (by kernel_rfl)) (fun _ _ _ h => h) (Or.inl ⟨by rfl, ?_⟩) ?_ ?_
  rotate_left
  · intro w'
    go_simp
    with_reducible rfl
  rotate_left
  · simp only [Act.put, List.setIfInBounds_toArray, List.set_cons_zero, List.set_cons_succ, i64_w, i32_w]
    rfl
  refine take_ (i := 6) (N := some 13) (v := ?_) (a' := ?_) #[true, true, true, true, true, true, true, false] rfl rfl (take_ofW HT_.out HW_.out (by kernel_rfl)) (fun _ _ _ h => h) (Or.inl ⟨by rfl, ?_⟩) hHeld ?_ ?_
  rotate_left
  · rintro w' ⟨s0, s1⟩
    go_simp
    with_reducible rfl
  rotate_left
  · simp only [Act.put, List.setIfInBounds_toArray, List.set_cons_zero, List.set_cons_succ, i64_w, i32_w]
    rfl
  refine pure_ (i := 7) (N := some 6) (v := ?_) (a' := ?_) #[true, true, true, true, true, true, true, true] rfl rfl (any_of HT_.out (by kernel_rfl)) (fun _ _ _ h => h) (Or.inl ⟨by rfl, ?_⟩) ?_ ?_
  rotate_left
  · intro w'
    go_simp
    with_reducible rfl
  rotate_left
  · simp only [Act.put, List.setIfInBounds_toArray, List.set_cons_zero, List.set_cons_succ, i64_w, i32_w]
    rfl
  refine done_ (done_of HT_.out (by kernel_rfl)) ?_
  cases b with
  | true =>
    go_wp2
    go_ret
    exact ⟨rfl, HO.out⟩
  | false =>
    go_wp2_with fail
    try go_step3
    cases b' with
    | true =>
      refine start_ (n := 14) (S := fun w' => w'.cell? ⟨b2, 0, none⟩ = some (.pointer (some ⟨g, 0, none⟩)) ∧ w'.cell? ⟨g, 3 + j, none⟩ = some (.bool true) ∧ w'.cell? ⟨b4, 0, none⟩ = some (.int .i64 x)) (ds := []) #[false, false, false, false, false, false, false, false, false, false, false, false, false, false] (by kernel_rfl) rfl rfl (⟨(blk_cell HO.out.drew.bx 0).trans rfl, HBit2.out HO.out.drew.be, (blk_cell HO.out.drew.cx 0).trans rfl⟩) (fun hHeld => ?_)
      refine with_tabW q119r3tab q119r3bits (fun HT_ HW_ => ?_)
      replace HO := Aside0.mk HO.out.drew
      generalize w2.drew = w3 at HO hHeld ⊢
      refine take_ (i := 0) (N := some 15) (v := ?_) (a' := ?_) #[true, false, false, false, false, false, false, false, false, false, false, false, false, false] rfl rfl (take_ofW HT_.out HW_.out (by kernel_rfl)) (fun _ _ _ h => h) (Or.inl ⟨by rfl, ?_⟩) hHeld ?_ ?_
      rotate_left
      · rintro w' ⟨s0, s1, s2⟩
        go_simp
        with_reducible rfl
      rotate_left
      · simp only [Act.put, List.setIfInBounds_toArray, List.set_cons_zero, List.set_cons_succ, i64_w, i32_w]
        rfl
      refine pure_ (i := 1) (N := some 16) (v := ?_) (a' := ?_) #[true, true, false, false, false, false, false, false, false, false, false, false, false, false] rfl rfl (any_of HT_.out (by kernel_rfl)) (fun _ _ _ h => h) (Or.inl ⟨by rfl, ?_⟩) ?_ ?_
      rotate_left
      · intro w'
        go_simp
        with_reducible rfl
      rotate_left
      · simp only [Act.put, List.setIfInBounds_toArray, List.set_cons_zero, List.set_cons_succ, i64_w, i32_w]
        rfl
      refine pure_ (i := 2) (N := some 17) (v := ?_) (a' := ?_) #[true, true, true, false, false, false, false, false, false, false, false, false, false, false] rfl rfl (any_of HT_.out (by kernel_rfl)) (fun _ _ _ h => h) (Or.inl ⟨by rfl, ?_⟩) ?_ ?_
      rotate_left
      · intro w'
        go_simp
        with_reducible rfl
      rotate_left
      · simp only [Act.put, List.setIfInBounds_toArray, List.set_cons_zero, List.set_cons_succ, i64_w, i32_w]
        rfl
      refine pure_ (i := 4) (N := some 19) (v := ?_) (a' := ?_) #[true, true, true, false, true, false, false, false, false, false, false, false, false, false] rfl rfl (any_of HT_.out (by kernel_rfl)) (fun _ _ _ h => h) (Or.inl ⟨by rfl, ?_⟩) ?_ ?_
      rotate_left
      · intro w'
        go_simp
        with_reducible rfl
      rotate_left
      · simp only [Act.put, List.setIfInBounds_toArray, List.set_cons_zero, List.set_cons_succ, i64_w, i32_w]
        rfl
      refine pure_ (i := 5) (N := some 20) (v := ?_) (a' := ?_) #[true, true, true, false, true, true, false, false, false, false, false, false, false, false] rfl rfl (any_of HT_.out (by kernel_rfl)) (fun _ _ _ h => h) (Or.inl ⟨by rfl, ?_⟩) ?_ ?_
      rotate_left
      · intro w'
        go_simp
        with_reducible rfl
      rotate_left
      · simp only [Act.put, List.setIfInBounds_toArray, List.set_cons_zero, List.set_cons_succ, i64_w, i32_w]
        rfl
      refine one_ (i := 3) (N := some 18) #[true, true, true, true, true, true, false, false, false, false, false, false, false, false] rfl rfl (one_of HT_.out (by kernel_rfl)) (by decide) (fun K hK => ?_)
      refine goes_ Try.func104 (by kernel_rfl) rfl #[.int .i64 (wrap64 (-l))] (by rfl) rfl rfl (by simp only [List.map_toArray, List.map_cons, List.map_nil]; rfl) ?_
      refine (HAt2.out _).mono ?_
      rintro e_ w_ ⟨rfl, ⟨n3, rfl⟩⟩
      refine ⟨_, rfl, ?_⟩
      replace HO := Aside0.mk (HO.out.drewN n3)
      generalize w3.drewN n3 = w4 at HO ⊢
      refine hK.out _ _ (⟨(blk_cell HO.out.bx 0).trans rfl, HBit2.out HO.out.be, (blk_cell HO.out.cx 0).trans rfl⟩) (fun hHeld => ?_)
      clear hK K
      refine norm_ (a' := ?_) ?_ ?_
      rotate_left
      · show Act.put _ (some 18) _ = _
        simp only [Act.put, List.setIfInBounds_toArray, List.set_cons_zero, List.set_cons_succ, i64_w, i32_w]
        rfl
      refine pure_ (i := 6) (N := some 21) (v := ?_) (a' := ?_) #[true, true, true, true, true, true, true, false, false, false, false, false, false, false] rfl rfl (any_of HT_.out (by kernel_rfl)) (fun _ _ _ h => h) (Or.inl ⟨by rfl, ?_⟩) ?_ ?_
      rotate_left
      · intro w'
        go_simp
        with_reducible rfl
      rotate_left
      · simp only [Act.put, List.setIfInBounds_toArray, List.set_cons_zero, List.set_cons_succ, i64_w, i32_w]
        rfl
      refine take_ (i := 7) (N := some 22) (v := ?_) (a' := ?_) #[true, true, true, true, true, true, true, true, false, false, false, false, false, false] rfl rfl (take_ofW HT_.out HW_.out (by kernel_rfl)) (fun _ _ _ h => h) (Or.inl ⟨by rfl, ?_⟩) hHeld ?_ ?_
      rotate_left
      · rintro w' ⟨s0, s1, s2⟩
        go_simp
        with_reducible rfl
      rotate_left
      · simp only [Act.put, List.setIfInBounds_toArray, List.set_cons_zero, List.set_cons_succ, i64_w, i32_w]
        rfl
      refine pure_ (i := 8) (N := some 23) (v := ?_) (a' := ?_) #[true, true, true, true, true, true, true, true, true, false, false, false, false, false] rfl rfl (any_of HT_.out (by kernel_rfl)) (fun _ _ _ h => h) (Or.inl ⟨by rfl, ?_⟩) ?_ ?_
      rotate_left
      · intro w'
        go_simp
        with_reducible rfl
      rotate_left
      · simp only [Act.put, List.setIfInBounds_toArray, List.set_cons_zero, List.set_cons_succ, i64_w, i32_w]
        rfl
      refine pure_ (i := 9) (N := some 24) (v := undef) (a' := ?_) #[true, true, true, true, true, true, true, true, true, true, false, false, false, false] rfl rfl (any_of HT_.out (by kernel_rfl)) (fun _ _ _ h => h) (Or.inr ⟨by rfl, rfl⟩) ?_ ?_
      rotate_left
      · simp only [Act.put, List.setIfInBounds_toArray, List.set_cons_zero, List.set_cons_succ, i64_w, i32_w]
        rfl
      refine take_ (i := 10) (N := some 25) (v := undef) (a' := ?_) #[true, true, true, true, true, true, true, true, true, true, true, false, false, false] rfl rfl (take_ofW HT_.out HW_.out (by kernel_rfl)) (fun _ _ _ h => h) (Or.inr ⟨by rfl, rfl⟩) hHeld ?_ ?_
      rotate_left
      · simp only [Act.put, List.setIfInBounds_toArray, List.set_cons_zero, List.set_cons_succ, i64_w, i32_w]
        rfl
      refine pure_ (i := 11) (N := some 26) (v := undef) (a' := ?_) #[true, true, true, true, true, true, true, true, true, true, true, true, false, false] rfl rfl (any_of HT_.out (by kernel_rfl)) (fun _ _ _ h => h) (Or.inr ⟨by rfl, rfl⟩) ?_ ?_
      rotate_left
      · simp only [Act.put, List.setIfInBounds_toArray, List.set_cons_zero, List.set_cons_succ, i64_w, i32_w]
        rfl
      refine pure_ (i := 12) (N := some 27) (v := ?_) (a' := ?_) #[true, true, true, true, true, true, true, true, true, true, true, true, true, false] rfl rfl (any_of HT_.out (by kernel_rfl)) (fun _ _ _ h => h) (Or.inl ⟨by rfl, ?_⟩) ?_ ?_
      rotate_left
      · intro w'
        go_simp
        with_reducible rfl
      rotate_left
      · simp only [Act.put, List.setIfInBounds_toArray, List.set_cons_zero, List.set_cons_succ, i64_w, i32_w]
        rfl
      refine pure_ (i := 13) (N := some 14) (v := ?_) (a' := ?_) #[true, true, true, true, true, true, true, true, true, true, true, true, true, true] rfl rfl (any_of HT_.out (by kernel_rfl)) (fun _ _ _ h => h) (Or.inl ⟨by rfl, ?_⟩) ?_ ?_
      rotate_left
      · intro w'
        go_simp
        with_reducible rfl
      rotate_left
      · simp only [Act.put, List.setIfInBounds_toArray, List.set_cons_zero, List.set_cons_succ, i64_w, i32_w]
        rfl
      refine done_ (done_of HT_.out (by kernel_rfl)) ?_
      go_wp2
      go_ret
      exact ⟨rfl, HO.out⟩
    | false =>
      refine start_ (n := 14) (S := fun w' => w'.cell? ⟨b2, 0, none⟩ = some (.pointer (some ⟨g, 0, none⟩)) ∧ w'.cell? ⟨g, 3 + j, none⟩ = some (.bool false) ∧ w'.cell? ⟨b4, 0, none⟩ = some (.int .i64 x)) (ds := []) #[false, false, false, false, false, false, false, false, false, false, false, false, false, false] (by kernel_rfl) rfl rfl (⟨(blk_cell HO.out.drew.bx 0).trans rfl, HBit2.out HO.out.drew.be, (blk_cell HO.out.drew.cx 0).trans rfl⟩) (fun hHeld => ?_)
      refine with_tabW q119r3tab q119r3bits (fun HT_ HW_ => ?_)
      replace HO := Aside0.mk HO.out.drew
      generalize w2.drew = w3 at HO hHeld ⊢
      refine take_ (i := 0) (N := some 15) (v := ?_) (a' := ?_) #[true, false, false, false, false, false, false, false, false, false, false, false, false, false] rfl rfl (take_ofW HT_.out HW_.out (by kernel_rfl)) (fun _ _ _ h => h) (Or.inl ⟨by rfl, ?_⟩) hHeld ?_ ?_
      rotate_left
      · rintro w' ⟨s0, s1, s2⟩
        go_simp
        with_reducible rfl
      rotate_left
      · simp only [Act.put, List.setIfInBounds_toArray, List.set_cons_zero, List.set_cons_succ, i64_w, i32_w]
        rfl
      refine pure_ (i := 1) (N := some 16) (v := ?_) (a' := ?_) #[true, true, false, false, false, false, false, false, false, false, false, false, false, false] rfl rfl (any_of HT_.out (by kernel_rfl)) (fun _ _ _ h => h) (Or.inl ⟨by rfl, ?_⟩) ?_ ?_
      rotate_left
      · intro w'
        go_simp
        with_reducible rfl
      rotate_left
      · simp only [Act.put, List.setIfInBounds_toArray, List.set_cons_zero, List.set_cons_succ, i64_w, i32_w]
        rfl
      refine pure_ (i := 2) (N := some 17) (v := ?_) (a' := ?_) #[true, true, true, false, false, false, false, false, false, false, false, false, false, false] rfl rfl (any_of HT_.out (by kernel_rfl)) (fun _ _ _ h => h) (Or.inl ⟨by rfl, ?_⟩) ?_ ?_
      rotate_left
      · intro w'
        go_simp
        with_reducible rfl
      rotate_left
      · simp only [Act.put, List.setIfInBounds_toArray, List.set_cons_zero, List.set_cons_succ, i64_w, i32_w]
        rfl
      refine pure_ (i := 4) (N := some 19) (v := ?_) (a' := ?_) #[true, true, true, false, true, false, false, false, false, false, false, false, false, false] rfl rfl (any_of HT_.out (by kernel_rfl)) (fun _ _ _ h => h) (Or.inl ⟨by rfl, ?_⟩) ?_ ?_
      rotate_left
      · intro w'
        go_simp
        with_reducible rfl
      rotate_left
      · simp only [Act.put, List.setIfInBounds_toArray, List.set_cons_zero, List.set_cons_succ, i64_w, i32_w]
        rfl
      refine pure_ (i := 5) (N := some 20) (v := ?_) (a' := ?_) #[true, true, true, false, true, true, false, false, false, false, false, false, false, false] rfl rfl (any_of HT_.out (by kernel_rfl)) (fun _ _ _ h => h) (Or.inl ⟨by rfl, ?_⟩) ?_ ?_
      rotate_left
      · intro w'
        go_simp
        with_reducible rfl
      rotate_left
      · simp only [Act.put, List.setIfInBounds_toArray, List.set_cons_zero, List.set_cons_succ, i64_w, i32_w]
        rfl
      refine one_ (i := 3) (N := some 18) #[true, true, true, true, true, true, false, false, false, false, false, false, false, false] rfl rfl (one_of HT_.out (by kernel_rfl)) (by decide) (fun K hK => ?_)
      refine goes_ Try.func104 (by kernel_rfl) rfl #[.int .i64 (wrap64 (-l))] (by rfl) rfl rfl (by simp only [List.map_toArray, List.map_cons, List.map_nil]; rfl) ?_
      refine (HAt2.out _).mono ?_
      rintro e_ w_ ⟨rfl, ⟨n3, rfl⟩⟩
      refine ⟨_, rfl, ?_⟩
      replace HO := Aside0.mk (HO.out.drewN n3)
      generalize w3.drewN n3 = w4 at HO ⊢
      refine hK.out _ _ (⟨(blk_cell HO.out.bx 0).trans rfl, HBit2.out HO.out.be, (blk_cell HO.out.cx 0).trans rfl⟩) (fun hHeld => ?_)
      clear hK K
      refine norm_ (a' := ?_) ?_ ?_
      rotate_left
      · show Act.put _ (some 18) _ = _
        simp only [Act.put, List.setIfInBounds_toArray, List.set_cons_zero, List.set_cons_succ, i64_w, i32_w]
        rfl
      refine pure_ (i := 6) (N := some 21) (v := ?_) (a' := ?_) #[true, true, true, true, true, true, true, false, false, false, false, false, false, false] rfl rfl (any_of HT_.out (by kernel_rfl)) (fun _ _ _ h => h) (Or.inl ⟨by rfl, ?_⟩) ?_ ?_
      rotate_left
      · intro w'
        go_simp
        with_reducible rfl
      rotate_left
      · simp only [Act.put, List.setIfInBounds_toArray, List.set_cons_zero, List.set_cons_succ, i64_w, i32_w]
        rfl
      refine take_ (i := 7) (N := some 22) (v := ?_) (a' := ?_) #[true, true, true, true, true, true, true, true, false, false, false, false, false, false] rfl rfl (take_ofW HT_.out HW_.out (by kernel_rfl)) (fun _ _ _ h => h) (Or.inl ⟨by rfl, ?_⟩) hHeld ?_ ?_
      rotate_left
      · rintro w' ⟨s0, s1, s2⟩
        go_simp
        with_reducible rfl
      rotate_left
      · simp only [Act.put, List.setIfInBounds_toArray, List.set_cons_zero, List.set_cons_succ, i64_w, i32_w]
        rfl
      refine pure_ (i := 8) (N := some 23) (v := ?_) (a' := ?_) #[true, true, true, true, true, true, true, true, true, false, false, false, false, false] rfl rfl (any_of HT_.out (by kernel_rfl)) (fun _ _ _ h => h) (Or.inl ⟨by rfl, ?_⟩) ?_ ?_
      rotate_left
      · intro w'
        go_simp
        with_reducible rfl
      rotate_left
      · simp only [Act.put, List.setIfInBounds_toArray, List.set_cons_zero, List.set_cons_succ, i64_w, i32_w]
        rfl
      refine pure_ (i := 9) (N := some 24) (v := ?_) (a' := ?_) #[true, true, true, true, true, true, true, true, true, true, false, false, false, false] rfl rfl (any_of HT_.out (by kernel_rfl)) (fun _ _ _ h => h) (Or.inl ⟨by rfl, ?_⟩) ?_ ?_
      rotate_left
      · intro w'
        go_simp
        with_reducible rfl
      rotate_left
      · simp only [Act.put, List.setIfInBounds_toArray, List.set_cons_zero, List.set_cons_succ, i64_w, i32_w]
        rfl
      refine take_ (i := 10) (N := some 25) (v := ?_) (a' := ?_) #[true, true, true, true, true, true, true, true, true, true, true, false, false, false] rfl rfl (take_ofW HT_.out HW_.out (by kernel_rfl)) (fun _ _ _ h => h) (Or.inl ⟨by rfl, ?_⟩) hHeld ?_ ?_
      rotate_left
      · rintro w' ⟨s0, s1, s2⟩
        go_simp
        with_reducible rfl
      rotate_left
      · simp only [Act.put, List.setIfInBounds_toArray, List.set_cons_zero, List.set_cons_succ, i64_w, i32_w]
        rfl
      refine pure_ (i := 11) (N := some 26) (v := ?_) (a' := ?_) #[true, true, true, true, true, true, true, true, true, true, true, true, false, false] rfl rfl (any_of HT_.out (by kernel_rfl)) (fun _ _ _ h => h) (Or.inl ⟨by rfl, ?_⟩) ?_ ?_
      rotate_left
      · intro w'
        go_simp
        with_reducible rfl
      rotate_left
      · simp only [Act.put, List.setIfInBounds_toArray, List.set_cons_zero, List.set_cons_succ, i64_w, i32_w]
        rfl
      refine pure_ (i := 12) (N := some 27) (v := ?_) (a' := ?_) #[true, true, true, true, true, true, true, true, true, true, true, true, true, false] rfl rfl (any_of HT_.out (by kernel_rfl)) (fun _ _ _ h => h) (Or.inl ⟨by rfl, ?_⟩) ?_ ?_
      rotate_left
      · intro w'
        go_simp
        with_reducible rfl
      rotate_left
      · simp only [Act.put, List.setIfInBounds_toArray, List.set_cons_zero, List.set_cons_succ, i64_w, i32_w]
        rfl
      refine pure_ (i := 13) (N := some 14) (v := ?_) (a' := ?_) #[true, true, true, true, true, true, true, true, true, true, true, true, true, true] rfl rfl (any_of HT_.out (by kernel_rfl)) (fun _ _ _ h => h) (Or.inl ⟨by rfl, ?_⟩) ?_ ?_
      rotate_left
      · intro w'
        go_simp
        with_reducible rfl
      rotate_left
      · simp only [Act.put, List.setIfInBounds_toArray, List.set_cons_zero, List.set_cons_succ, i64_w, i32_w]
        rfl
      refine done_ (done_of HT_.out (by kernel_rfl)) ?_
      cases hlx : (l == x) with
      | true =>
        go_wp2
        go_ret
        exact ⟨rfl, HO.out⟩
      | false =>
        have hc0 : w4.cell? ⟨b4, 0, none⟩ = some (.int .i64 x) := (blk_cell HO.out.cx 0).trans rfl
        have hs0 : w4.cell? ⟨b6, 0, none⟩ = some (.bool true) := (blk_cell HO.out.cs 0).trans rfl
        have hf4 := blk_frozen HO.out.cx 0
        have hf6 := blk_frozen HO.out.cs 0
        have hne : b4 ≠ b6 := blk_ne HO.out.cx HO.out.cs (by decide)
        go_wp2
        go_ret
        exact ⟨rfl, (HO.out.sets _).setx _⟩
end
end Go.Proofs.Ytbnjbjcokkcfcaa.Sol
namespace Go.Proofs.Ytbnjbjcokkcfcaa.Sol
open Go.RowKit Go.Proofs.YtbnjbjcokkcfcaaW.PrintWords Go.Proofs.YtbnjbjcokkcfcaaW.PrintLast Go.Proofs.YtbnjbjcokkcfcaaW.PrintMore Go.Proofs.Ytbnjbjcokkcfcaa.PSearchOwn
set_option linter.unusedVariables false
set_option linter.unusedSimpArgs false
/-- The open literal of a clause, as far as it is looked at. -/
def openF (bs : List Bool) : List Int → Int → Option Int
  | [], x => some x
  | l :: c, x => if (seeF bs x l).1 then openF bs c (seeF bs x l).2.1 else none
def openR : Option Int → Int × Bool
  | none => (0, false)
  | some x => (x, true)
theorem see_same (bs : List Bool) (x l : Int) (h : (seeF bs x l).1 = true) : (seeF bs x l).2.2 = true := by
  unfold seeF at h ⊢
  split
  · rfl
  · rename_i h1
    rw [if_neg h1] at h
    split
    · rfl
    · rename_i h2
      rw [if_neg h2] at h
      exact h
theorem res108 {tmps : Array Value} {w : World} {b : Nat} {x : Int} (hp : tmps.getD 4 undef = .pointer (some ⟨b, 0, none⟩)) (hc : w.cell? ⟨b, 0, none⟩ = some (.int .i64 x)) :
    (results Try.f108 tmps).run Try.prog w = .ok (.tuple #[.int .i64 x, tmps.getD 5 undef]) w := by
  have hp' : tmps[4]?.getD undef = .pointer (some ⟨b, 0, none⟩) := by simpa using hp
  have h : Try.f108.results = #[.cell 4 3, .tmp 5] := rfl
  have e : (isAgg 3).run Try.prog w = .ok false w := by kernel_rfl
  simp [results, h, hp', asAddr, loadVar, e, hc]
section
variable {W : World} {g : Nat} {N : Int} {AL : Option Addr} {n cL : Nat} {v : Value} {bs : List Bool} {A : Option Addr} {cc : Nat} {c : List Int}
set_option maxHeartbeats 4000000 in
set_option maxRecDepth 100000 in
theorem open_calls (hg : W.heap[g]? = some (.cells (ucells N AL n cL v bs) 116 (0, 0))) (hbl : bs.length = 258) (hc : (Kd.int .i64).C W A c.length c) (hb : ∀ l ∈ c, -128 ≤ l ∧ l ≤ 128) :
    Calls Try.prog 108 #[.pointer (some ⟨g, 0, none⟩), .slice A c.length cc] W fun e w' => e = .returned (.tuple #[.int .i64 (openR (openF bs c 0)).1, .bool (openR (openF bs c 0)).2]) ∧ Below W.heap.size W w' := by
  have HSee := Aside0.mk (fun (b2 b4 b6 : Nat) (x : Int) (w : World) (h : OW W g b2 b4 b6 x true w) (l : Int) (h1 : -128 ≤ l) (h2 : l ≤ 128) => see_calls hg hbl h l h1 h2)
  have HC := Aside0.mk hc
  have HBd := Aside0.mk hb
  have hmax := Kd.C_max hc
  clear hg hbl hc hb
  go_enter Try.func108, Try.ntmps108
  go_upto_region 3 with fail
  have hb1 := below_alloc (below_alloc (below_alloc (Below.refl W.heap.size W) (.cells #[.pointer (some ⟨g, 0, none⟩)] 113)) (.cells #[.int .i64 0] 3)) (.cells #[.bool true] 4)
  have hx1 := blk_alloc (blk_alloc (blk_new W (.cells #[.pointer (some ⟨g, 0, none⟩)] 113)) (.cells #[.int .i64 0] 3)) (.cells #[.bool true] 4)
  have hx2 := blk_alloc (blk_new (W.alloc (.cells #[.pointer (some ⟨g, 0, none⟩)] 113)) (.cells #[.int .i64 0] 3)) (.cells #[.bool true] 4)
  have hx3 := blk_new ((W.alloc (.cells #[.pointer (some ⟨g, 0, none⟩)] 113)).alloc (.cells #[.int .i64 0] 3)) (.cells #[.bool true] 4)
  simp only [blk_size] at hx2 hx3
  obtain ⟨b4, hb4⟩ : ∃ b4, W.heap.size + 1 = b4 := ⟨_, rfl⟩
  obtain ⟨b6, hb6⟩ : ∃ b6, W.heap.size + 1 + 1 = b6 := ⟨_, rfl⟩
  rw [hb6] at hx3 ⊢
  rw [hb4] at hx2 ⊢
  have h4 : W.heap.size ≤ b4 := by omega
  have h6 : W.heap.size ≤ b6 := by omega
  have HO := Aside0.mk (OW.mk (x := 0) (same := true) hx1 hx2 hx3 hb1 h4 h6)
  clear hb1 hx1 hx2 hx3 hb4 hb6 h4 h6
  generalize ((W.alloc (.cells #[.pointer (some ⟨g, 0, none⟩)] 113)).alloc (.cells #[.int .i64 0] 3)).alloc (.cells #[.bool true] 4) = w1 at HO ⊢
  go_wp2
  go_loopg [13] c.length (fun gk v13 w' => ∃ (i : Nat) (x : Int), i + gk = c.length ∧ v13 = .int .i64 (i : Int) ∧ Aside0 (openF bs c 0 = openF bs (c.drop i) x) ∧ Aside0 (OW W g W.heap.size b4 b6 x true w'))
  case atStart => exact ⟨0, 0, by omega, rfl, ⟨by rw [List.drop_zero]⟩, HO⟩
  case round =>
    clear HO
    obtain ⟨i, x, hig, rfl, HP, HO⟩ := hrel
    cases gk with
    | zero =>
      have hi : ¬ ((i : Int) < (c.length : Int)) := by omega
      replace HP := Aside0.mk (show openF bs c 0 = some x by rw [HP.out, List.drop_eq_nil_of_le (by omega)]; rfl)
      have hx0 : wr.cell? ⟨b4, 0, none⟩ = some (.int .i64 x) := (blk_cell HO.out.cx 0).trans rfl
      have hs0 : wr.cell? ⟨b6, 0, none⟩ = some (.bool true) := (blk_cell HO.out.cs 0).trans rfl
      have hf4 := blk_frozen HO.out.cx 0
      have hne : b4 ≠ b6 := blk_ne HO.out.cx HO.out.cs (by decide)
      go_wp2
      go_region
      all_goals
        go_wp2
        refine bodyPost_ret (res108 (x := x) rfl ((blk_cell (HO.out.drew.setx x).cx 0).trans rfl)) rfl ⟨?_, (HO.out.drew.setx x).be⟩
        rw [HP.out]; rfl
    | succ gk =>
      have hi : (i : Int) < (c.length : Int) := by omega
      obtain ⟨aC, hA, hcell⟩ := rd_int (Kd.C_below HC.out HO.out.be) i (by omega)
      subst hA
      have hxl : c.getD i 0 = c[i]'(by omega) := by simp [List.getD_eq_getElem?_getD, List.getElem?_eq_getElem (show i < c.length by omega)]
      have hdr : c.drop i = c.getD i 0 :: c.drop (i + 1) := by rw [List.drop_eq_getElem_cons (show i < c.length by omega), hxl]
      have hbd := HBd.out (c.getD i 0) (by rw [hxl]; exact List.getElem_mem _)
      have HPn := Aside0.mk (show openF bs c 0 = if (seeF bs x (c.getD i 0)).1 then openF bs (c.drop (i + 1)) (seeF bs x (c.getD i 0)).2.1 else none by rw [HP.out, hdr, openF])
      have HSm := Aside0.mk (see_same bs x (c.getD i 0))
      have HSe := Aside0.mk (HSee.out W.heap.size b4 b6 x wr HO.out (c.getD i 0) hbd.1 hbd.2)
      clear hxl hdr hbd HP
      generalize c.getD i 0 = l at hcell HPn HSm HSe
      generalize seeF bs x l = r at HPn HSm HSe
      obtain ⟨r1, r2, r3⟩ := r
      cases r1 with
      | false =>
        go_wp2_with (go_at_call 119; refine (HSe.out).mono ?_; rintro e w2 ⟨rfl, ho2⟩; have HO2 := Aside0.mk ho2; have hf4 := blk_frozen ho2.cx 0; have hx0 : w2.cell? ⟨b4, 0, none⟩ = some (.int .i64 r2) := (blk_cell ho2.cx 0).trans rfl; clear ho2)
        refine bodyPost_ret (res108 (x := 0) rfl ((blk_cell (HO2.out.setx 0).cx 0).trans rfl)) rfl ⟨?_, (HO2.out.setx 0).be⟩
        rw [HPn.out]; rfl
      | true =>
        obtain rfl : r3 = true := HSm.out rfl
        go_wp2_with (go_at_call 119; refine (HSe.out).mono ?_; rintro e w2 ⟨rfl, ho2⟩; have HO2 := Aside0.mk ho2; clear ho2)
        go_roundg gk
        case measure => omega
        case rel => exact ⟨i + 1, r2, by omega, by go_num, ⟨by rw [HPn.out]; rfl⟩, HO2⟩
end
end Go.Proofs.Ytbnjbjcokkcfcaa.Sol
namespace Go.Proofs.Ytbnjbjcokkcfcaa.Sol
open Go.RowKit Go.Proofs.YtbnjbjcokkcfcaaW.PrintWords Go.Proofs.YtbnjbjcokkcfcaaW.PrintLast Go.Proofs.YtbnjbjcokkcfcaaW.PrintMore Go.Proofs.Ytbnjbjcokkcfcaa.PSearchOwn
set_option linter.unusedVariables false
set_option linter.unusedSimpArgs false
/-- The first clause that is unit or false, and its open literal (or 0). -/
def scanU (bs : List Bool) : List (List Int) → Nat → Option (Nat × Int)
  | [], _ => none
  | c :: L, i => match openF bs c 0 with
    | none => scanU bs L (i + 1)
    | some x => some (i, x)
def propU (L : List (List Int)) (lev : Int) : Nat → List Stp → List Bool → Option (Int × List Stp × List Bool)
  | 0, _, _ => none
  | k + 1, l, bs => match scanU bs L 0 with
    | none => some (-1, l, bs)
    | some (i, x) => if x = 0 then some ((i : Int), l, bs) else propU L lev k (l ++ [(x, (i : Int), lev)]) (bs.set (atF x) true)
theorem open_mem (bs : List Bool) : ∀ (c : List Int) (x y : Int), openF bs c x = some y → y = x ∨ y ∈ c
  | [], x, y, h => by rw [openF] at h; injection h with h; exact Or.inl h.symm
  | l :: c, x, y, h => by
    rw [openF] at h
    split at h
    · rcases open_mem bs c _ y h with h2 | h2
      · have h3 : (seeF bs x l).2.1 = x ∨ (seeF bs x l).2.1 = l := by
          unfold seeF
          split
          · exact Or.inl rfl
          · split
            · exact Or.inl rfl
            · exact Or.inr rfl
        rcases h3 with h3 | h3
        · exact Or.inl (h2.trans h3)
        · rw [h3] at h2; exact Or.inr (h2 ▸ List.mem_cons_self)
      · exact Or.inr (List.mem_cons_of_mem _ h2)
    · cases h
section
variable {W W0 : World} {g : Nat} {N : Int} {AL : Option Addr} {cL : Nat} {L : List (List Int)} {bs bs' : List Bool} {l l' : List Stp}
set_option maxHeartbeats 8000000 in
set_option maxRecDepth 100000 in
theorem propU_calls (hL : Kd.C (Kd.slice 3 (Kd.int .i64)) W0 AL L.length L) (hb : ∀ c ∈ L, ∀ l ∈ c, -128 ≤ l ∧ l ≤ 128) (k : Nat) (hus : US W0 g N AL L.length cL l bs W) (lev : Int) {r : Int} (h : propU L lev k l bs = some (r, l', bs')) (hlen : l.length + k ≤ 4096) :
    Calls Try.prog 103 #[.pointer (some ⟨g, 0, none⟩), .int .i64 lev] W fun e w' => e = .returned (.int .i64 r) ∧ US W0 g N AL L.length cL l' bs' w' := by
  have HL := Aside0.mk hL
  have HBd := Aside0.mk hb
  have HU := Aside0.mk hus
  have HP := Aside0.mk h
  have HLen := Aside0.mk hlen
  have hmax := Kd.C_max hL
  clear hL hb hus h hlen
  go_enter Try.func103, Try.ntmps103
  go_wp2
  go_step3
  go_wp2
  go_step3
  go_wp2
  go_loopg [4] k (fun gk v4 w' => ∃ (l1 : List Stp) (bs1 : List Bool), Aside0 (propU L lev gk l1 bs1 = some (r, l', bs')) ∧ Aside0 (l1.length + gk ≤ 4096) ∧ Aside0 (US W0 g N AL L.length cL l1 bs1 w'))
  case atStart => exact ⟨l, bs, HP, HLen, HU⟩
  case round =>
    clear HP HLen HU
    obtain ⟨l1, bs1, HP, HLen, HU⟩ := hrel
    cases gk with
    | zero => exact absurd HP.out (by rw [propU]; intro h; cases h)
    | succ gk =>
      obtain ⟨A1, c1, hg1, _⟩ := HU.out.st
      have hc1 := us_c1 hg1
      clear hg1
      go_wp2
      clear hc1
      go_loopg [15] L.length (fun gj v15 w' => ∃ (i : Nat), i + gj = L.length ∧ v15 = .int .i64 (i : Int) ∧ Aside0 (scanU bs1 L 0 = scanU bs1 (L.drop i) i) ∧ Aside0 (US W0 g N AL L.length cL l1 bs1 w'))
      case atStart => exact ⟨0, by omega, rfl, ⟨by rw [List.drop_zero]⟩, HU⟩
      case round =>
        clear HU
        obtain ⟨i, hig, rfl, HS, HU⟩ := hrel
        cases gk with
        | zero =>
          have hi : ¬ ((i : Int) < (L.length : Int)) := by omega
          have HR := Aside0.mk (show r = -1 ∧ l' = l1 ∧ bs' = bs1 by
            have h1 := HP.out
            rw [propU, HS.out, List.drop_eq_nil_of_le (by omega)] at h1
            simp only [scanU, Option.some.injEq, Prod.mk.injEq] at h1
            exact ⟨h1.1.symm, h1.2.1.symm, h1.2.2.symm⟩)
          go_wp2
          try rw [Exit.noGoto_ret]
          go_ret
          exact ⟨by rw [HR.out.1]; rfl, by rw [HR.out.2.1, HR.out.2.2]; exact HU.out⟩
        | succ gk2 =>
          have hi : (i : Int) < (L.length : Int) := by omega
          have hiL : i < L.length := by omega
          obtain ⟨aL, A0, c0, hAL, hcell, hc0', hC0⟩ := rd_row (Kd.C_below HL.out HU.out.be) i hiL
          subst hAL
          have hgd : L.getD i [] = L[i] := by simp [List.getD_eq_getElem?_getD, List.getElem?_eq_getElem hiL]
          have hdr : L.drop i = L.getD i [] :: L.drop (i + 1) := by rw [List.drop_eq_getElem_cons hiL, hgd]
          have hmem : L.getD i [] ∈ L := by rw [hgd]; exact List.getElem_mem _
          have hbd := HBd.out _ hmem
          obtain ⟨A1, c1, hg1, _⟩ := HU.out.st
          have HOp := Aside0.mk (open_calls (cc := c0) hg1 HU.out.bl hC0 hbd)
          have HSn := Aside0.mk (show scanU bs1 L 0 = match openF bs1 (L.getD i []) 0 with | none => scanU bs1 (L.drop (i + 1)) (i + 1) | some x => some (i, x) by rw [HS.out, hdr, scanU])
          have HMm := Aside0.mk (fun y h => open_mem bs1 (L.getD i []) 0 y h)
          have HBc := Aside0.mk hbd
          clear hgd hdr hmem hbd hg1 hC0 hc0' hiL HS
          generalize L.getD i [] = c at hcell HOp HSn HMm HBc
          cases ho : openF bs1 c 0 with
          | none =>
            have HSx := Aside0.mk (show scanU bs1 L 0 = scanU bs1 (L.drop (i + 1)) (i + 1) by rw [HSn.out, ho])
            rw [ho] at HOp
            simp only [openR] at HOp
            clear HSn HMm HBc ho
            go_wp2_with (go_at_call 108; refine (HOp.out).mono ?_; rintro e w2 ⟨rfl, hb2⟩; have HU2 := Aside0.mk (HU.out.bg hb2); clear hb2)
            go_roundg gk2
            case measure => omega
            case rel => exact ⟨i + 1, by omega, by go_num, HSx, HU2⟩
          | some x =>
            have HSx := Aside0.mk (show scanU bs1 L 0 = some (i, x) by rw [HSn.out, ho])
            have HPx := Aside0.mk (show (if x = 0 then some ((i : Int), l1, bs1) else propU L lev gk (l1 ++ [(x, (i : Int), lev)]) (bs1.set (atF x) true)) = some (r, l', bs') by
              have h1 := HP.out
              rw [propU, HSx.out] at h1
              exact h1)
            have hxb : -128 ≤ x ∧ x ≤ 128 := by
              rcases HMm.out x ho with h | h
              · omega
              · exact HBc.out x h
            rw [ho] at HOp
            simp only [openR] at HOp
            clear HSn HMm HBc ho
            by_cases hx : x = 0
            · subst hx
              have HR := Aside0.mk (show r = (i : Int) ∧ l' = l1 ∧ bs' = bs1 by
                have h1 := HPx.out
                rw [if_pos rfl] at h1
                simp only [Option.some.injEq, Prod.mk.injEq] at h1
                exact ⟨h1.1.symm, h1.2.1.symm, h1.2.2.symm⟩)
              go_wp2_with (go_at_call 108; refine (HOp.out).mono ?_; rintro e w2 ⟨rfl, hb2⟩; have HU2 := Aside0.mk (HU.out.bg hb2); clear hb2)
              try rw [Exit.noGoto_ret]
              go_ret
              exact ⟨by rw [HR.out.1]; rfl, by rw [HR.out.2.1, HR.out.2.2]; exact HU2.out⟩
            · have HPy := Aside0.mk (show propU L lev gk (l1 ++ [(x, (i : Int), lev)]) (bs1.set (atF x) true) = some (r, l', bs') by
                have h1 := HPx.out
                rwa [if_neg hx] at h1)
              have hx0 : (x == 0) = false := by simpa using hx
              have HXb := Aside0.mk hxb
              clear hxb HPx hx
              go_wp2_with (first
                | (go_at_call 108; refine (HOp.out).mono ?_; rintro e w2 ⟨rfl, hb2⟩; have HU2 := Aside0.mk (HU.out.bg hb2); clear hb2)
                | (go_at_call 105; refine (add_calls HU2.out (x, (i : Int), lev) HXb.out.1 HXb.out.2 (by have := HLen.out; omega)).mono ?_; rintro e w3 ⟨rfl, hu3⟩; have HU3 := Aside0.mk hu3; clear hu3))
              go_roundg gk
              case measure => omega
              case rel => exact ⟨_, _, HPy, ⟨by rw [List.length_append, List.length_singleton]; have := HLen.out; omega⟩, HU3⟩
end
end Go.Proofs.Ytbnjbjcokkcfcaa.Sol
namespace Go.Proofs.Ytbnjbjcokkcfcaa.Sol
open Go.RowKit Go.Proofs.YtbnjbjcokkcfcaaW.PrintWords Go.Proofs.YtbnjbjcokkcfcaaW.PrintLast Go.Proofs.YtbnjbjcokkcfcaaW.PrintMore Go.Proofs.Ytbnjbjcokkcfcaa.PSearchOwn
set_option linter.unusedVariables false
set_option linter.unusedSimpArgs false
def q94r9T : Bool × List (List Nat × List Nat) := (true, [([], []), ([], []), ([1], [1]), ([2], [2]), ([0], [0]), ([4], [4]), ([5, 3], [3, 5]), ([6], [6])])
def q94r9B : List Nat := [0, 0, 2, 6, 1, 17, 63, 127]
theorem q94r9tab : rtab .any (opsOf Try.f94 9) = q94r9T := by kernel_rfl
theorem q94r9bits : waitsOk q94r9T.2 q94r9B = true := by kernel_rfl
def q94r11T : Bool × List (List Nat × List Nat) := (true, [([], []), ([], []), ([1], [1]), ([0], [0]), ([3], [3]), ([4, 2], [2, 4]), ([5], [5]), ([6], [6])])
def q94r11B : List Nat := [0, 0, 2, 1, 9, 31, 63, 127]
theorem q94r11tab : rtab .any (opsOf Try.f94 11) = q94r11T := by kernel_rfl
theorem q94r11bits : waitsOk q94r11T.2 q94r11B = true := by kernel_rfl
theorem ret3' {fn : Func} {tmps : Array Value} {w : World} {i j k : Nat} (h : fn.results = #[.tmp i, .tmp j, .tmp k]) : (results fn tmps).run Try.prog w = .ok (.tuple #[tmps.getD i undef, tmps.getD j undef, tmps.getD k undef]) w :=
  results_list (P := Try.prog) (fn := fn) (tmps := tmps) (w := w) (rs := [.tmp i, .tmp j, .tmp k]) h (by simp) (.tmp (.tmp (.tmp .nil)))
theorem trail1_calls (g : Nat) (N : Int) (s : Value) (l : Int) (W : World) (hg : W.heap[g]? = some (.cells #[.int .i64 N, s] 24 (0, 0))) :
    Calls Try.prog 102 #[.int .i64 l, .pointer (some ⟨g, 0, none⟩)] W fun e w' => e = .returned (.bool (!validB l N)) ∧ Below W.heap.size W w' := by
  have hc0 : W.cell? ⟨g, 0, none⟩ = some (.int .i64 N) := (blk_cell hg 0).trans rfl
  have HV := Aside0.mk (validL_calls (W := W) l N)
  clear hg
  go_enter Try.func102, Try.ntmps102
  go_wp2_with (go_at_call 32; refine (HV.out).mono ?_; rintro e w' ⟨rfl, ⟨n, rfl⟩⟩)
  go_ret
  exact ⟨rfl, pw_below_drewN (Below.refl _ _) n⟩
theorem enter102 (args : Array Value) (w : World) : (callFunc 102 args).run Try.prog w = .ok (.enter 102 args) w := Go.Proofs.enters_of Try.func102 (by kernel_rfl) rfl args w
def trailU (L : List (List Int)) (k : Nat) : List Int → Nat → Int → List Stp → List Bool → Option (Option (List Stp × Int))
  | [], _, conf, l, _ => some (some (l, conf))
  | d :: ds, i, conf, l, bs => if conf ≥ 0 then some (some (l, conf)) else if tru1 bs (-d) then some none else
    match propU L ((i : Int) + 1) k (if tru1 bs d then l else l ++ [(d, -1, (i : Int) + 1)]) (if tru1 bs d then bs else bs.set (atF d) true) with
    | none => none
    | some (c, l', bs') => trailU L k ds (i + 1) c l' bs'
def trail0 (L : List (List Int)) (k : Nat) (ds : List Int) : Option (Option (List Stp × Int)) :=
  match propU L 0 k [] (List.replicate 258 false) with
  | none => none
  | some (c, l, bs) => trailU L k ds 0 c l bs
theorem prop_len (L : List (List Int)) (lev : Int) : ∀ (k : Nat) (l : List Stp) (bs : List Bool) {r : Int} {l' : List Stp} {bs' : List Bool}, propU L lev k l bs = some (r, l', bs') → l'.length ≤ l.length + k
  | 0, l, bs, r, l', bs', h => by rw [propU] at h; cases h
  | k + 1, l, bs, r, l', bs', h => by
    rw [propU] at h
    split at h
    · simp only [Option.some.injEq, Prod.mk.injEq] at h
      rw [← h.2.1]; omega
    · split at h
      · simp only [Option.some.injEq, Prod.mk.injEq] at h
        rw [← h.2.1]; omega
      · have := prop_len L lev k _ _ h
        rw [List.length_append, List.length_singleton] at this
        omega
theorem zero116 : Try.zeroCells116 = (.int .i64 0 :: .slice none 0 0 :: .slice none 0 0 :: (List.replicate 258 false).map Value.bool).toArray := by kernel_rfl
theorem zero116u (N : Int) (AL : Option Addr) (n cL : Nat) : ((Try.zeroCells116.setIfInBounds 0 (.int .i64 N)).setIfInBounds 1 (.slice AL n cL)) = ucells N AL n cL (.slice none 0 0) (List.replicate 258 false) := by
  rw [zero116]
  unfold ucells
  simp only [List.setIfInBounds_toArray, List.set_cons_zero, List.set_cons_succ]
section
variable {W W0 w : World} {g : Nat} {N : Int} {AL : Option Addr} {n cL : Nat} {l : List Stp} {bs : List Bool}
theorem US.drew (h : US W0 g N AL n cL l bs w) : US W0 g N AL n cL l bs w.drew := by
  obtain ⟨⟨A, c, h1, h2⟩, h3, h4, h5⟩ := h
  exact ⟨⟨A, c, blk_drew h1, Kd.R_drew h2⟩, h3, below_drew h4, h5⟩
theorem US.drewN (h : US W0 g N AL n cL l bs w) (k : Nat) : US W0 g N AL n cL l bs (w.drewN k) := by
  obtain ⟨⟨A, c, h1, h2⟩, h3, h4, h5⟩ := h
  exact ⟨⟨A, c, blk_drewN h1 k, Kd.R_drewN h2 k⟩, h3, pw_below_drewN h4 k, h5⟩
theorem US.bit (h : US W0 g N AL n cL l bs w) {i : Nat} (hi : i < 258) : w.cell? ⟨g, 3 + i, none⟩ = some (.bool (bs.getD i false)) := by
  obtain ⟨⟨A, c, h1, h2⟩, h3, h4, h5⟩ := h
  exact us_bit h1 (by omega)
end
/-- What Trail leaves. -/
def TrailPost (W : World) (res : Option (List Stp × Int)) (e : Ending) (w' : World) : Prop :=
  (match res with
    | none => e = .returned (.tuple #[.slice none 0 0, .int .i64 0, .int .i64 8])
    | some (l, conf) => ∃ A c, e = .returned (.tuple #[.slice A l.length c, .int .i64 conf, .int .i64 0]) ∧ KT.R 110 w' W.heap.size (fun _ => True) (.slice A l.length c) l) ∧ Below W.heap.size W w'
section
variable {W : World} {N : Int} {AL A : Option Addr} {cL c : Nat} {L : List (List Int)} {ds : List Int}
set_option maxHeartbeats 16000000 in
set_option maxRecDepth 100000 in
theorem trail_calls (hL : Kd.C (Kd.slice 3 (Kd.int .i64)) W AL L.length L) (hcL : L.length ≤ cL) (hA : (Kd.int .i64).C W A ds.length ds) (h0 : checkF N L = 0) (hds : litsB ds N = true) (k : Nat) {res : Option (List Stp × Int)} (h : trail0 L k ds = some res) (hk : k ≤ 20) (hlen : ds.length ≤ 100) :
    Calls Try.prog 94 #[.agg #[.int .i64 N, .slice AL L.length cL], .slice A ds.length c] W (TrailPost W res) := by
  have hck : ∀ w, Below W.heap.size W w → Calls Try.prog 31 #[.agg #[.int .i64 N, .slice AL L.length cL]] w fun e w' => e = .returned (.int .i64 0) ∧ Below w.heap.size w w' := fun w hb => by
    have := check_calls (N := N) (Kd.C_below hL hb) hcL
    rwa [h0] at this
  obtain ⟨m, hm0, hm, _, hok, _⟩ := checkF_ok h0
  have hbd : ∀ c ∈ L, ∀ l ∈ c, -128 ≤ l ∧ l ≤ 128 := fun c hc l hl => by
    obtain ⟨_, h1, h2⟩ := hok c hc l hl
    omega
  have hdb : ∀ x ∈ ds, -128 ≤ x ∧ x ≤ 128 := fun x hx => by
    have h1 := List.all_eq_true.1 hds x hx
    unfold validB varOf at h1
    have h2 := (of_decide_eq_true h1).1
    split at h2
    · omega
    · split at h2 <;> omega
  have HDb := Aside0.mk hdb
  have HB := Aside0.mk (below_alloc (Below.refl W.heap.size W) (.cells #[.int .i64 N, .slice AL L.length cL] 24))
  have HT := Aside0.mk (blk_new W (.cells #[.int .i64 N, .slice AL L.length cL] 24))
  have HCk := Aside0.mk (hck _ HB.out)
  have HA := Aside0.mk hA
  have HAny := Aside0.mk (show (ds.any fun l => !validB l N) = false by
    rw [Bool.eq_false_iff]
    intro he
    obtain ⟨x, hx, h2⟩ := List.any_eq_true.1 he
    have := List.all_eq_true.1 hds x hx
    rw [this] at h2; cases h2)
  have HPr := Aside0.mk (fun (g : Nat) (l : List Stp) (bs : List Bool) (w : World) (hus : US W g N AL L.length cL l bs w) (lev r : Int) (l' : List Stp) (bs' : List Bool) (h : propU L lev k l bs = some (r, l', bs')) (hl : l.length ≤ 4000) => propU_calls hL hbd k hus lev h (by omega))
  have hmaxA := Kd.C_max hA
  obtain ⟨c0, l0, bs0, hp0, ht0⟩ : ∃ c0 l0 bs0, propU L 0 k [] (List.replicate 258 false) = some (c0, l0, bs0) ∧ trailU L k ds 0 c0 l0 bs0 = some res := by
    unfold trail0 at h
    cases hp : propU L 0 k [] (List.replicate 258 false) with
    | none => rw [hp] at h; cases h
    | some x => obtain ⟨c0, l0, bs0⟩ := x; rw [hp] at h; exact ⟨c0, l0, bs0, rfl, h⟩
  have HP0 := Aside0.mk hp0
  have HT0 := Aside0.mk ht0
  have HL0 := Aside0.mk (show l0.length ≤ 20 by have := prop_len L 0 k _ _ hp0; rw [List.length_nil] at this; omega)
  have HKl := Aside0.mk (fun (lev : Int) (l : List Stp) (bs : List Bool) (r : Int) (l' : List Stp) (bs' : List Bool) (h : propU L lev k l bs = some (r, l', bs')) => (show l'.length ≤ l.length + 20 by have := prop_len L lev k l bs h; omega))
  clear hck hL hA h0 hds h hp0 ht0 hbd hok hm hm0 hdb
  go_enter Try.func94, Try.ntmps94
  go_upto_region 4 with (first
    | (go_at_call 31; refine (HCk.out).mono ?_; rintro e w2 ⟨rfl, hb2⟩; have HB2 := Aside0.mk (below_step HB.out hb2); have HT2 := Aside0.mk (blk_below HT.out hb2); have hc0 : w2.cell? ⟨W.heap.size, 0, none⟩ = some (.int .i64 N) := (blk_cell HT2.out 0).trans rfl; have hc1 : w2.cell? ⟨W.heap.size, 1, none⟩ = some (.slice AL L.length cL) := (blk_cell HT2.out 1).trans rfl; clear hb2)
    | (go_at_call 63; refine (containsfuncB_calls (c := c) 102 #[.pointer (some ⟨W.heap.size, 0, none⟩)] (fun l => !validB l N) _ (Kd.C_below HA.out HB2.out) enter102 (fun w x _ hd => trail1_calls W.heap.size N _ x w (blk_below HT2.out hd))).mono ?_; rintro e w3 ⟨rfl, hb3⟩; rw [HAny.out]; have HB3 := Aside0.mk (below_step HB2.out hb3); have HT3 := Aside0.mk (blk_below HT2.out hb3); have hd0 : w3.cell? ⟨W.heap.size, 0, none⟩ = some (.int .i64 N) := (blk_cell HT3.out 0).trans rfl; have hd1 : w3.cell? ⟨W.heap.size, 1, none⟩ = some (.slice AL L.length cL) := (blk_cell HT3.out 1).trans rfl; clear hb3))
  rw [zero116u]
  have hus : US W w3.heap.size N AL L.length cL [] (List.replicate 258 false) (w3.alloc (.cells (ucells N AL L.length cL (.slice none 0 0) (List.replicate 258 false)) 116)) :=
    ⟨⟨none, 0, blk_new w3 _, Kd.R_nil _ _ _ _ _⟩, List.length_replicate, below_alloc HB3.out _, HB3.out.size⟩
  have HU := Aside0.mk hus
  clear hus hc0 hc1 hd0 hd1 HB2 HT2 HT3 HCk HT HB HB3
  generalize w3.alloc (.cells (ucells N AL L.length cL (.slice none 0 0) (List.replicate 258 false)) 116) = w4 at HU ⊢
  generalize w3.heap.size = g at HU ⊢
  generalize ucells N AL L.length cL (.slice none 0 0) (List.replicate 258 false) = cs0
  go_wp2_with (go_at_call 103; refine (HPr.out g [] _ _ HU.out 0 c0 l0 bs0 HP0.out (Nat.zero_le _)).mono ?_; rintro e w2 ⟨rfl, hu2⟩; have HU2 := Aside0.mk hu2; clear hu2)
  go_loopg [5, 25] ds.length (fun gk v5 v25 w' => ∃ (i : Nat) (conf : Int) (l1 : List Stp) (bs1 : List Bool), i + gk = ds.length ∧ v5 = .int .i64 conf ∧ v25 = .int .i64 (i : Int) ∧ Aside0 (trailU L k (ds.drop i) i conf l1 bs1 = some res) ∧ Aside0 (l1.length ≤ 20 + i * 21) ∧ Aside0 (US W g N AL L.length cL l1 bs1 w'))
  case atStart => exact ⟨0, c0, l0, bs0, by omega, rfl, rfl, ⟨by rw [List.drop_zero]; exact HT0.out⟩, ⟨by have := HL0.out; omega⟩, HU2⟩
  case round =>
    clear HU HU2 HT0 HP0 HL0
    obtain ⟨i, conf, l1, bs1, hig, rfl, rfl, HR, HLn, HU⟩ := hrel
    cases gk with
    | zero =>
      have hi : ¬ ((i : Int) < (ds.length : Int)) := by omega
      have HRes := Aside0.mk (show res = some (l1, conf) by
        have h1 := HR.out
        rw [List.drop_eq_nil_of_le (by omega), trailU] at h1
        injection h1 with h1
        exact h1.symm)
      obtain ⟨A1, c1, hg1, hr1⟩ := HU.out.st
      have hc2 := us_c2 hg1
      clear hg1
      go_wp2
      exact bodyPost_ret (ret3' rfl) rfl ⟨by rw [HRes.out]; exact ⟨A1, c1, rfl, hr1⟩, HU.out.be⟩
    | succ gk =>
      have hi : (i : Int) < (ds.length : Int) := by omega
      have hiL : i < ds.length := by omega
      obtain ⟨aC, hA, hcell⟩ := rd_int (Kd.C_below HA.out HU.out.be) i hiL
      subst hA
      have hxl : ds.getD i 0 = ds[i]'(by omega) := by simp [List.getD_eq_getElem?_getD, List.getElem?_eq_getElem hiL]
      have hdr : ds.drop i = ds.getD i 0 :: ds.drop (i + 1) := by rw [List.drop_eq_getElem_cons hiL, hxl]
      have hbd := HDb.out (ds.getD i 0) (by rw [hxl]; exact List.getElem_mem _)
      have HRn := Aside0.mk (show trailU L k (ds.getD i 0 :: ds.drop (i + 1)) i conf l1 bs1 = some res by rw [← hdr]; exact HR.out)
      clear hxl hdr HR hiL
      generalize ds.getD i 0 = d at hcell HRn hbd
      by_cases hcf : conf ≥ 0
      · have HRes := Aside0.mk (show res = some (l1, conf) by
          have h1 := HRn.out
          rw [trailU, if_pos hcf] at h1
          injection h1 with h1
          exact h1.symm)
        obtain ⟨A1, c1, hg1, hr1⟩ := HU.out.st
        have hc2 := us_c2 hg1
        clear hg1 hbd
        go_wp2
        exact bodyPost_ret (ret3' rfl) rfl ⟨by rw [HRes.out]; exact ⟨A1, c1, rfl, hr1⟩, HU.out.be⟩
      · have HRm := Aside0.mk (show (if bs1.getD (atF (-d)) false then some none else
            match propU L ((i : Int) + 1) k (if bs1.getD (atF d) false then l1 else l1 ++ [(d, -1, (i : Int) + 1)]) (if bs1.getD (atF d) false then bs1 else bs1.set (atF d) true) with
            | none => none
            | some (c, l', bs') => trailU L k (ds.drop (i + 1)) (i + 1) c l' bs') = some res by
          have h1 := HRn.out
          rw [trailU, if_neg hcf] at h1
          exact h1)
        have HJn := Aside0.mk (at_lt (l := -d) (by omega) (by omega))
        have HJp := Aside0.mk (at_lt hbd.1 hbd.2)
        have HAtN := Aside0.mk (fun (w : World) => (show Calls Try.prog 104 #[.int .i64 (wrap64 (-d))] w fun e w' => e = .returned (.int .i64 ((atF (-d) : Nat) : Int)) ∧ Drawn0 w w' by
          have hw : wrap64 (-d) = -d := by unfold wrap64; omega
          rw [hw]; exact at_calls (-d) (by omega) (by omega) w))
        have HAtP := Aside0.mk (fun (w : World) => at_calls d hbd.1 hbd.2 w)
        have HAdd := Aside0.mk (fun (w : World) (h : US W g N AL L.length cL l1 bs1 w) (hl : l1.length ≤ 4096) => add_calls h (d, -1, (i : Int) + 1) hbd.1 hbd.2 hl)
        have hjn := HJn.out
        have hjp := HJp.out
        clear hbd HRn
        generalize atF (-d) = jn at HJn HAtN HRm hjn
        generalize hjpe : atF d = jp at HJp HAtP HRm hjp
        have hjn2 : (jn : Int) < 258 := by omega
        have hjp2 : (jp : Int) < 258 := by omega
        have HJe := Aside0.mk hjpe
        have HBn := Aside0.mk (fun {w : World} (h : US W g N AL L.length cL l1 bs1 w) => h.bit HJn.out)
        have HBp := Aside0.mk (fun {w : World} (h : US W g N AL L.length cL l1 bs1 w) => h.bit HJp.out)
        clear hjpe
        generalize bs1.getD jn false = bn at HBn HRm
        generalize bs1.getD jp false = bp at HBp HRm
        go_upto_region 9 with fail
        refine start_ (n := 8) (S := fun w' => w'.cell? ⟨g, 3 + jn, none⟩ = some (.bool bn)) (ds := []) #[false, false, false, false, false, false, false, false] (by kernel_rfl) rfl rfl (HBn.out HU.out.drew) (fun hHeld => ?_)
        refine with_tabW q94r9tab q94r9bits (fun HT_ HW_ => ?_)
        replace HU := Aside0.mk HU.out.drew
        generalize wr.drew = w5 at HU hHeld ⊢
        refine pure_ (i := 0) (N := some 32) (v := ?_) (a' := ?_) #[true, false, false, false, false, false, false, false] rfl rfl (any_of HT_.out (by kernel_rfl)) (fun _ _ _ h => h) (Or.inl ⟨by rfl, ?_⟩) ?_ ?_
        rotate_left
        · intro w'
          go_simp
          with_reducible rfl
        rotate_left
        · simp only [Act.put, List.setIfInBounds_toArray, List.set_cons_zero, List.set_cons_succ, i64_w, i32_w]
          rfl
        refine pure_ (i := 1) (N := some 33) (v := ?_) (a' := ?_) #[true, true, false, false, false, false, false, false] rfl rfl (any_of HT_.out (by kernel_rfl)) (fun _ _ _ h => h) (Or.inl ⟨by rfl, ?_⟩) ?_ ?_
        rotate_left
        · intro w'
          go_simp
          with_reducible rfl
        rotate_left
        · simp only [Act.put, List.setIfInBounds_toArray, List.set_cons_zero, List.set_cons_succ, i64_w, i32_w]
          rfl
        refine pure_ (i := 2) (N := some 34) (v := ?_) (a' := ?_) #[true, true, true, false, false, false, false, false] rfl rfl (any_of HT_.out (by kernel_rfl)) (fun _ _ _ h => h) (Or.inl ⟨by rfl, ?_⟩) ?_ ?_
        rotate_left
        · intro w'
          go_simp
          with_reducible rfl
        rotate_left
        · simp only [Act.put, List.setIfInBounds_toArray, List.set_cons_zero, List.set_cons_succ, i64_w, i32_w]
          rfl
        refine pure_ (i := 4) (N := some 36) (v := ?_) (a' := ?_) #[true, true, true, false, true, false, false, false] rfl rfl (any_of HT_.out (by kernel_rfl)) (fun _ _ _ h => h) (Or.inl ⟨by rfl, ?_⟩) ?_ ?_
        rotate_left
        · intro w'
          go_simp
          with_reducible rfl
        rotate_left
        · simp only [Act.put, List.setIfInBounds_toArray, List.set_cons_zero, List.set_cons_succ, i64_w, i32_w]
          rfl
        refine pure_ (i := 5) (N := some 37) (v := ?_) (a' := ?_) #[true, true, true, false, true, true, false, false] rfl rfl (any_of HT_.out (by kernel_rfl)) (fun _ _ _ h => h) (Or.inl ⟨by rfl, ?_⟩) ?_ ?_
        rotate_left
        · intro w'
          go_simp
          with_reducible rfl
        rotate_left
        · simp only [Act.put, List.setIfInBounds_toArray, List.set_cons_zero, List.set_cons_succ, i64_w, i32_w]
          rfl
        refine one_ (i := 3) (N := some 35) #[true, true, true, true, true, true, false, false] rfl rfl (one_of HT_.out (by kernel_rfl)) (by decide) (fun K hK => ?_)
        refine goes_ Try.func104 (by kernel_rfl) rfl #[.int .i64 (wrap64 (-d))] (by rfl) rfl rfl (by simp only [List.map_toArray, List.map_cons, List.map_nil]; rfl) ?_
        refine (HAtN.out _).mono ?_
        rintro e_ w_ ⟨rfl, ⟨n2, rfl⟩⟩
        refine ⟨_, rfl, ?_⟩
        replace HU := Aside0.mk (HU.out.drewN n2)
        generalize w5.drewN n2 = w6 at HU ⊢
        refine hK.out _ _ (HBn.out HU.out) (fun hHeld => ?_)
        clear hK K
        refine norm_ (a' := ?_) ?_ ?_
        rotate_left
        · show Act.put _ (some 35) _ = _
          simp only [Act.put, List.setIfInBounds_toArray, List.set_cons_zero, List.set_cons_succ, i64_w, i32_w]
          rfl
        refine pure_ (i := 6) (N := some 38) (v := ?_) (a' := ?_) #[true, true, true, true, true, true, true, false] rfl rfl (any_of HT_.out (by kernel_rfl)) (fun _ _ _ h => h) (Or.inl ⟨by rfl, ?_⟩) ?_ ?_
        rotate_left
        · intro w'
          go_simp
          with_reducible rfl
        rotate_left
        · simp only [Act.put, List.setIfInBounds_toArray, List.set_cons_zero, List.set_cons_succ, i64_w, i32_w]
          rfl
        refine take_ (i := 7) (N := some 39) (v := ?_) (a' := ?_) #[true, true, true, true, true, true, true, true] rfl rfl (take_ofW HT_.out HW_.out (by kernel_rfl)) (fun _ _ _ h => h) (Or.inl ⟨by rfl, ?_⟩) hHeld ?_ ?_
        rotate_left
        · rintro w' s0
          go_simp
          with_reducible rfl
        rotate_left
        · simp only [Act.put, List.setIfInBounds_toArray, List.set_cons_zero, List.set_cons_succ, i64_w, i32_w]
          rfl
        refine done_ (done_of HT_.out (by kernel_rfl)) ?_
        cases bn with
        | true =>
          have HRes := Aside0.mk (show res = none by
            have h1 := HRm.out
            rw [if_pos rfl] at h1
            injection h1 with h1
            exact h1.symm)
          go_wp2
          exact bodyPost_ret (ret3' rfl) rfl ⟨by rw [HRes.out]; rfl, HU.out.be⟩
        | false =>
          replace HRm := Aside0.mk (show (match propU L ((i : Int) + 1) k (if bp then l1 else l1 ++ [(d, -1, (i : Int) + 1)]) (if bp then bs1 else bs1.set jp true) with
            | none => none
            | some (c, l', bs') => trailU L k (ds.drop (i + 1)) (i + 1) c l' bs') = some res by
            have h1 := HRm.out
            rw [if_neg (by decide)] at h1
            exact h1)
          go_upto_region 11 with fail
          refine start_ (n := 8) (S := fun w' => w'.cell? ⟨g, 3 + jp, none⟩ = some (.bool bp)) (ds := []) #[false, false, false, false, false, false, false, false] (by kernel_rfl) rfl rfl (HBp.out HU.out.drew) (fun hHeld => ?_)
          refine with_tabW q94r11tab q94r11bits (fun HT_ HW_ => ?_)
          replace HU := Aside0.mk HU.out.drew
          generalize w6.drew = w7 at HU hHeld ⊢
          refine pure_ (i := 0) (N := some 40) (v := ?_) (a' := ?_) #[true, false, false, false, false, false, false, false] rfl rfl (any_of HT_.out (by kernel_rfl)) (fun _ _ _ h => h) (Or.inl ⟨by rfl, ?_⟩) ?_ ?_
          rotate_left
          · intro w'
            go_simp
            with_reducible rfl
          rotate_left
          · simp only [Act.put, List.setIfInBounds_toArray, List.set_cons_zero, List.set_cons_succ, i64_w, i32_w]
            rfl
          refine pure_ (i := 1) (N := some 41) (v := ?_) (a' := ?_) #[true, true, false, false, false, false, false, false] rfl rfl (any_of HT_.out (by kernel_rfl)) (fun _ _ _ h => h) (Or.inl ⟨by rfl, ?_⟩) ?_ ?_
          rotate_left
          · intro w'
            go_simp
            with_reducible rfl
          rotate_left
          · simp only [Act.put, List.setIfInBounds_toArray, List.set_cons_zero, List.set_cons_succ, i64_w, i32_w]
            rfl
          refine pure_ (i := 3) (N := some 43) (v := ?_) (a' := ?_) #[true, true, false, true, false, false, false, false] rfl rfl (any_of HT_.out (by kernel_rfl)) (fun _ _ _ h => h) (Or.inl ⟨by rfl, ?_⟩) ?_ ?_
          rotate_left
          · intro w'
            go_simp
            with_reducible rfl
          rotate_left
          · simp only [Act.put, List.setIfInBounds_toArray, List.set_cons_zero, List.set_cons_succ, i64_w, i32_w]
            rfl
          refine pure_ (i := 4) (N := some 44) (v := ?_) (a' := ?_) #[true, true, false, true, true, false, false, false] rfl rfl (any_of HT_.out (by kernel_rfl)) (fun _ _ _ h => h) (Or.inl ⟨by rfl, ?_⟩) ?_ ?_
          rotate_left
          · intro w'
            go_simp
            with_reducible rfl
          rotate_left
          · simp only [Act.put, List.setIfInBounds_toArray, List.set_cons_zero, List.set_cons_succ, i64_w, i32_w]
            rfl
          refine one_ (i := 2) (N := some 42) #[true, true, true, true, true, false, false, false] rfl rfl (one_of HT_.out (by kernel_rfl)) (by decide) (fun K hK => ?_)
          refine goes_ Try.func104 (by kernel_rfl) rfl #[.int .i64 d] (by rfl) rfl rfl (by simp only [List.map_toArray, List.map_cons, List.map_nil]; rfl) ?_
          refine (HAtP.out _).mono ?_
          rintro e_ w_ ⟨rfl, ⟨n3, rfl⟩⟩
          refine ⟨_, rfl, ?_⟩
          replace HU := Aside0.mk (HU.out.drewN n3)
          generalize w7.drewN n3 = w8 at HU ⊢
          refine hK.out _ _ (HBp.out HU.out) (fun hHeld => ?_)
          clear hK K
          refine norm_ (a' := ?_) ?_ ?_
          rotate_left
          · show Act.put _ (some 42) _ = _
            simp only [Act.put, List.setIfInBounds_toArray, List.set_cons_zero, List.set_cons_succ, i64_w, i32_w]
            rfl
          refine pure_ (i := 5) (N := some 45) (v := ?_) (a' := ?_) #[true, true, true, true, true, true, false, false] rfl rfl (any_of HT_.out (by kernel_rfl)) (fun _ _ _ h => h) (Or.inl ⟨by rfl, ?_⟩) ?_ ?_
          rotate_left
          · intro w'
            go_simp
            with_reducible rfl
          rotate_left
          · simp only [Act.put, List.setIfInBounds_toArray, List.set_cons_zero, List.set_cons_succ, i64_w, i32_w]
            rfl
          refine take_ (i := 6) (N := some 46) (v := ?_) (a' := ?_) #[true, true, true, true, true, true, true, false] rfl rfl (take_ofW HT_.out HW_.out (by kernel_rfl)) (fun _ _ _ h => h) (Or.inl ⟨by rfl, ?_⟩) hHeld ?_ ?_
          rotate_left
          · rintro w' s0
            go_simp
            with_reducible rfl
          rotate_left
          · simp only [Act.put, List.setIfInBounds_toArray, List.set_cons_zero, List.set_cons_succ, i64_w, i32_w]
            rfl
          refine pure_ (i := 7) (N := some 47) (v := ?_) (a' := ?_) #[true, true, true, true, true, true, true, true] rfl rfl (any_of HT_.out (by kernel_rfl)) (fun _ _ _ h => h) (Or.inl ⟨by rfl, ?_⟩) ?_ ?_
          rotate_left
          · intro w'
            go_simp
            with_reducible rfl
          rotate_left
          · simp only [Act.put, List.setIfInBounds_toArray, List.set_cons_zero, List.set_cons_succ, i64_w, i32_w]
            rfl
          refine done_ (done_of HT_.out (by kernel_rfl)) ?_
          cases bp with
          | true =>
            obtain ⟨r, l', bs', hpr, htr⟩ : ∃ r l' bs', propU L ((i : Int) + 1) k l1 bs1 = some (r, l', bs') ∧ trailU L k (ds.drop (i + 1)) (i + 1) r l' bs' = some res := by
              have h1 := HRm.out
              simp only [if_true] at h1
              cases hp : propU L ((i : Int) + 1) k l1 bs1 with
              | none => rw [hp] at h1; cases h1
              | some x => obtain ⟨r, l', bs'⟩ := x; rw [hp] at h1; exact ⟨r, l', bs', rfl, h1⟩
            have HPx := Aside0.mk hpr
            have HTx := Aside0.mk htr
            clear hpr htr HRm
            go_wp2_with (go_at_call 103; refine (HPr.out g l1 bs1 _ HU.out ((i : Int) + 1) r l' bs' HPx.out (by have := HLn.out; omega)).mono ?_; rintro e w9 ⟨rfl, hu9⟩; have HU9 := Aside0.mk hu9; clear hu9)
            go_roundg gk
            case measure => omega
            case rel => exact ⟨i + 1, r, l', bs', by omega, rfl, by go_num, HTx, ⟨by have h1 := HKl.out _ _ _ _ _ _ HPx.out; have h2 := HLn.out; omega⟩, HU9⟩
          | false =>
            obtain ⟨r, l', bs', hpr, htr⟩ : ∃ r l' bs', propU L ((i : Int) + 1) k (l1 ++ [(d, -1, (i : Int) + 1)]) (bs1.set jp true) = some (r, l', bs') ∧ trailU L k (ds.drop (i + 1)) (i + 1) r l' bs' = some res := by
              have h1 := HRm.out
              simp only [Bool.false_eq_true, if_false] at h1
              cases hp : propU L ((i : Int) + 1) k (l1 ++ [(d, -1, (i : Int) + 1)]) (bs1.set jp true) with
              | none => rw [hp] at h1; cases h1
              | some x => obtain ⟨r, l', bs'⟩ := x; rw [hp] at h1; exact ⟨r, l', bs', rfl, h1⟩
            have HPx := Aside0.mk hpr
            have HTx := Aside0.mk htr
            clear hpr htr HRm
            go_wp2_with (first
              | (go_at_call 105; refine (HAdd.out _ HU.out (by have := HLn.out; omega)).mono ?_; rintro e w9 ⟨rfl, hu9⟩; rw [show atF (d, (-1 : Int), (i : Int) + 1).1 = jp from HJe.out] at hu9; have HU9 := Aside0.mk hu9; clear hu9)
              | (go_at_call 103; refine (HPr.out g _ _ _ HU9.out ((i : Int) + 1) r l' bs' HPx.out (by rw [List.length_append, List.length_singleton]; have := HLn.out; omega)).mono ?_; rintro e w10 ⟨rfl, hu10⟩; have HU10 := Aside0.mk hu10; clear hu10))
            go_roundg gk
            case measure => omega
            case rel => exact ⟨i + 1, r, l', bs', by omega, rfl, by go_num, HTx, ⟨by have h1 := HKl.out _ _ _ _ _ _ HPx.out; have h2 := HLn.out; rw [List.length_append, List.length_singleton] at h1; omega⟩, HU10⟩
end
end Go.Proofs.Ytbnjbjcokkcfcaa.Sol
namespace Go.Proofs.Ytbnjbjcokkcfcaa.Sol
open Go.RowKit Go.Proofs.YtbnjbjcokkcfcaaW.PrintWords Go.Proofs.YtbnjbjcokkcfcaaW.PrintLast Go.Proofs.YtbnjbjcokkcfcaaW.PrintMore Go.Proofs.Ytbnjbjcokkcfcaa.PSearchOwn
set_option linter.unusedVariables false
set_option linter.unusedSimpArgs false
theorem sorted_eq : ∀ (xs ys : List Int), xs.Pairwise (fun x y => key x < key y) → ys.Pairwise (fun x y => key x < key y) → (∀ x, x ∈ xs ↔ x ∈ ys) → xs = ys
  | [], [], _, _, _ => rfl
  | [], y :: ys, _, _, h => by have := (h y).2 List.mem_cons_self; cases this
  | x :: xs, [], _, _, h => by have := (h x).1 List.mem_cons_self; cases this
  | x :: xs, y :: ys, hx, hy, h => by
    rw [List.pairwise_cons] at hx hy
    have hxy : x = y := by
      rcases List.mem_cons.1 ((h x).1 List.mem_cons_self) with e | e
      · exact e
      · rcases List.mem_cons.1 ((h y).2 List.mem_cons_self) with e2 | e2
        · exact e2.symm
        · have h1 := hy.1 x e
          have h2 := hx.1 y e2
          omega
    subst hxy
    rw [sorted_eq xs ys hx.2 hy.2 (fun z => ⟨fun hz => by
      rcases List.mem_cons.1 ((h z).1 (List.mem_cons_of_mem _ hz)) with e | e
      · subst e; have := hx.1 z hz; omega
      · exact e, fun hz => by
      rcases List.mem_cons.1 ((h z).2 (List.mem_cons_of_mem _ hz)) with e | e
      · subst e; have := hy.1 z hz; omega
      · exact e⟩)]
/-- In order, each once, the same. -/
def goodT (ys out : List Int) : Prop := (∀ x, x ∈ ys ↔ x ∈ out) ∧ ys.Pairwise (fun x y => key x < key y)
set_option maxHeartbeats 1000000 in
theorem order3_calls (W : World) {A : Option Addr} {c : Nat} {l : List Int} {n : Int} (hA : (Kd.int .i64).C W A l.length l) (hc : l.length ≤ c) (hlen : l.length ≤ 4096) (hnil : A = none → c = 0) (hv : litsB l n = true) :
    Calls Try.prog 89 #[.slice A l.length c] W fun e w' => ∃ A3 c3 ys, e = .returned (.slice A3 ys.length c3) ∧ w'.ownsRow W.heap.size 3 1 (.slice A3 ys.length c3) ys.length (nums .i64 ys) ∧ goodT ys l ∧ Below W.heap.size W w' ∧ Calls Try.prog 90 #[.slice A3 ys.length c3] w' fun e w'' => e = .returned (.bool (oppB l)) ∧ Drawn0 w' w'' := by
  have HC := Aside0.mk (clone_calls W hA hc (by omega) hnil)
  have HR := Aside0.mk (lit_range hv)
  have HV := Aside0.mk hv
  clear hA hv
  go_enter Try.func89, Try.ntmps89
  go_wp2_with (first
    | (go_at_call 36; refine (HC.out).mono ?_; rintro e w1 ⟨v1, rfl, ho1, hb1⟩; have HB1 := Aside0.mk hb1; have HS := Aside0.mk (sort_calls w1 _ ho1 (fun x hx => (HR.out x hx).1) hlen); clear ho1 hb1)
    | (go_at_call 98; refine (HS.out).mono ?_; rintro e w2 ⟨rfl, ys, hyl, hym, hys, ho2, hb2⟩; have HB2 := Aside0.mk (hb2 _ _ HB1.out (Nat.le_refl _)); have HT := Aside0.mk (tidy_of HV.out hym hys hyl); have HG := Aside0.mk (compact_sorted ys hys (fun x hx y hy he => by have := key_inj (x := ⟨x, (HR.out x ((hym x).1 hx)).1⟩) (y := ⟨y, (HR.out y ((hym y).1 hy)).1⟩) he; exact congrArg Subtype.val this)); have HM := Aside0.mk hym; rw [← hyl] at ho2; have HK := Aside0.mk (compact_calls w2 _ ho2 (by omega)); clear ho2 hb2 hym hys hyl)
    | (go_at_call 101; refine (HK.out).mono ?_; rintro e w3 ⟨v3, rfl, ho3, hb3⟩; have HO3 := Aside0.mk ho3; have HB3 := Aside0.mk (hb3 _ _ HB2.out (Nat.le_refl _)); clear ho3 hb3))
  go_ret
  obtain ⟨A3, c3, hv3, hC3, hc3, _, _⟩ := own_C HO3.out
  have ho := HO3.out
  rw [hv3] at ho
  refine ⟨A3, c3, _, congrArg _ hv3, ho, ⟨fun x => (HG.out.1 x).trans (HM.out x), HG.out.2⟩, HB3.out, ?_⟩
  have := opposite_calls hC3 hc3 (Nat.le_trans HT.out.2.2 hlen) (fun x hx => by
    have := (HR.out x ((HT.out.1 x).1 hx)).1
    omega)
  rw [HT.out.2.1] at this
  exact this
/-- What Term leaves: nothing, or the literals in order. -/
def Term3Post (W : World) (n : Int) (l : List Int) (e : Ending) (w' : World) : Prop :=
  (∃ v ys, e = .returned (.tuple #[v, .bool (litsB l n && !oppB l)]) ∧ ((litsB l n && !oppB l) = true → w'.ownsRow W.heap.size 3 1 v ys.length (nums .i64 ys) ∧ goodT ys l)) ∧ Below W.heap.size W w'
theorem term3_calls (n : Int) (W : World) {A : Option Addr} {c : Nat} {l : List Int} (hA : (Kd.int .i64).C W A l.length l) (hc : l.length ≤ c) (hlen : l.length ≤ 4096) (hnil : A = none → c = 0) :
    Calls Try.prog 70 #[.slice A l.length c, .int .i64 n] W (Term3Post W n l) := by
  cases hb : (litsB l n && !oppB l) with
  | false =>
    refine (term_calls n W hA hc hlen hnil).mono ?_
    rintro e w' ⟨⟨v, ys, rfl, h⟩, hbe⟩
    exact ⟨⟨v, ys, rfl, fun h2 => by rw [hb] at h2; cases h2⟩, hbe⟩
  | true =>
    have hv : litsB l n = true := by cases h : litsB l n with | true => rfl | false => rw [h] at hb; cases hb
    have ho : oppB l = false := by cases h : oppB l with | false => rfl | true => rw [hv, h] at hb; cases hb
    have HV := Aside0.mk (validL88_calls (c := c) n W hA)
    have HO := Aside0.mk (fun (w : World) (hb : Below W.heap.size W w) => order3_calls w (Kd.C_below hA hb) hc hlen hnil hv)
    rw [hv] at HV
    have HN := Aside0.mk hv
    have HOp := Aside0.mk ho
    clear hA hv ho hb
    go_enter Try.func70, Try.ntmps70
    go_wp2_with (first
      | (go_at_call 88; refine (HV.out).mono ?_; rintro e w1 ⟨rfl, hb⟩; have HB := Aside0.mk hb; clear hb)
      | (go_at_call 89; refine (HO.out _ HB.out).mono ?_; rintro e w2 ⟨A3, c3, ys, rfl, ho2, ht2, hb2, ha2⟩; have HB2 := Aside0.mk (below_step HB.out hb2); have HO2 := Aside0.mk (own_less ho2 HB.out.size); have HT2 := Aside0.mk ht2; rw [HOp.out] at ha2; have HAdj := Aside0.mk ha2; clear ho2 ht2 hb2 ha2)
      | (go_at_call 90; refine (HAdj.out).mono ?_; rintro e w3 ⟨rfl, ⟨m, rfl⟩⟩))
    go_ret2
    exact ⟨⟨_, ys, by rw [HN.out, HOp.out]; rfl, fun h => ⟨own_move HO2.out (fun _ _ => rfl), HT2.out⟩⟩, pw_below_drewN HB2.out m⟩
end Go.Proofs.Ytbnjbjcokkcfcaa.Sol
namespace Go.Proofs.Ytbnjbjcokkcfcaa.Sol
open Go.RowKit Go.Proofs.YtbnjbjcokkcfcaaW.PrintWords Go.Proofs.YtbnjbjcokkcfcaaW.PrintLast Go.Proofs.YtbnjbjcokkcfcaaW.PrintMore Go.Proofs.Ytbnjbjcokkcfcaa.PSearchOwn
set_option linter.unusedVariables false
set_option linter.unusedSimpArgs false
def insK (x : Int) : List Int → List Int
  | [] => [x]
  | y :: l => if key x < key y then x :: y :: l else if key y < key x then y :: insK x l else y :: l
def sortK (l : List Int) : List Int := l.foldr insK []
def goodB (ys out : List Int) : Bool := out.all (fun x => ys.contains x) && ys.all (fun x => out.contains x) && decide (ys.Pairwise (fun x y => key x < key y))
theorem good_of {ys out : List Int} (h : goodB ys out = true) : goodT ys out := by
  unfold goodB at h
  rw [Bool.and_eq_true, Bool.and_eq_true] at h
  refine ⟨fun x => ⟨fun hx => ?_, fun hx => ?_⟩, of_decide_eq_true h.2⟩
  · exact List.contains_iff_mem.1 (List.all_eq_true.1 h.1.2 x hx)
  · exact List.contains_iff_mem.1 (List.all_eq_true.1 h.1.1 x hx)
/-- What follows from decisions, in order. -/
def closeU (N : Int) (L : List (List Int)) (k : Nat) (ds : List Int) : Option (Option (List Int)) :=
  match trail0 L k ds with
  | none => none
  | some none => some none
  | some (some (l, c)) => if c ≥ 0 then some none else if litsB (l.map (·.1)) N && !oppB (l.map (·.1)) then (if goodB (sortK (l.map (·.1))) (l.map (·.1)) then some (some (sortK (l.map (·.1)))) else none) else some none
def ClosePost (W : World) (o : Option (List Int)) (e : Ending) (w' : World) : Prop :=
  (match o with
    | none => ∃ v, e = .returned (.tuple #[v, .bool false])
    | some out => ∃ A c, e = .returned (.tuple #[.slice A out.length c, .bool true]) ∧ w'.ownsRow W.heap.size 3 1 (.slice A out.length c) out.length (nums .i64 out)) ∧ Below W.heap.size W w'
theorem trailU_len (L : List (List Int)) (k : Nat) (hk : k ≤ 20) : ∀ (ds : List Int) (i : Nat) (c : Int) (l : List Stp) (bs : List Bool) {l' : List Stp} {c' : Int}, trailU L k ds i c l bs = some (some (l', c')) → l'.length ≤ l.length + 21 * ds.length
  | [], i, c, l, bs, l', c', h => by
    rw [trailU] at h
    simp only [Option.some.injEq, Prod.mk.injEq] at h
    rw [← h.1]; omega
  | d :: ds, i, c, l, bs, l', c', h => by
    rw [trailU] at h
    split at h
    · simp only [Option.some.injEq, Prod.mk.injEq] at h
      rw [← h.1]; omega
    · split at h
      · cases h
      · split at h
        · cases h
        · rename_i c2 l2 bs2 hp
          have h1 := trailU_len L k hk ds _ _ _ _ h
          have h2 := prop_len L _ k _ _ hp
          have h3 : (if tru1 bs d = true then l else l ++ [(d, -1, (i : Int) + 1)]).length ≤ l.length + 1 := by
            split
            · omega
            · rw [List.length_append, List.length_singleton]; exact Nat.le_refl _
          rw [List.length_cons]
          omega
theorem trail0_len {L : List (List Int)} {k : Nat} (hk : k ≤ 20) {ds : List Int} {l' : List Stp} {c' : Int} (h : trail0 L k ds = some (some (l', c'))) : l'.length ≤ 20 + 21 * ds.length := by
  unfold trail0 at h
  split at h
  · cases h
  · rename_i c l bs hp
    have h1 := trailU_len L k hk ds _ _ _ _ h
    have h2 := prop_len L 0 k _ _ hp
    rw [List.length_nil] at h2
    omega
theorem KT_form {w : World} {base : Nat} {A : Option Addr} {c : Nat} {l : List Stp} (h : KT.R 110 w base (fun _ => True) (.slice A l.length c) l) : (A = none ∧ l = []) ∨ ∃ g, A = some ⟨g, 0, none⟩ ∧ base ≤ g := by
  obtain ⟨inner, ho⟩ := Kd.R_own h
  rcases ho.2 with ⟨e, h0⟩ | ⟨g, cap, cur, e, hb, _⟩
  · injection e with e1 e2
    exact Or.inl ⟨e1, List.eq_nil_of_length_eq_zero h0⟩
  · injection e with e1 e2
    exact Or.inr ⟨g, e1, hb⟩
theorem KT_elem {w : World} {base g n cap : Nat} {ok : Nat → Prop} {l : List Stp} (h : KT.R 110 w base ok (.slice (some ⟨g, 0, none⟩) n cap) l) (i : Nat) (hi : i < n) {p : Stp} (hp : l[i]? = some p) :
    w.cell? ⟨g, i * 3, none⟩ = some (.int .i64 p.1) ∧ w.cell? ⟨g, i * 3 + 1, none⟩ = some (.int .i64 p.2.1) ∧ w.cell? ⟨g, i * 3 + 2, none⟩ = some (.int .i64 p.2.2) := by
  obtain ⟨cs, hl, hM, hc, hf⟩ := Kd.R_elem h (0, 0, 0) (i : Int) (by omega) (by omega)
  have e0 : l.getD ((i : Int)).toNat (0, 0, 0) = p := by rw [List.getD_eq_getElem?_getD, Int.toNat_natCast, hp]; rfl
  rw [e0] at hM
  obtain ⟨c0, c1, rfl, rfl, ⟨d0, d1, rfl, rfl, rfl⟩⟩ := hM
  have e3 : ((i : Int)).toNat * KT.sz = i * 3 := by rw [Int.toNat_natCast, KT_sz]
  rw [e3] at hc hf
  exact ⟨hc 0 _ rfl, hc 1 _ rfl, hc 2 _ rfl⟩
theorem KT_grown {w w1 : World} {base b n : Nat} {v v2 : Value} {l : List Stp} {xs : List Value} (h : KT.R 110 w base (fun _ => True) v l) (ho : w.ownsRow b 3 1 v2 n xs) (hg : w.grownBy w1 v2.ownBlock) : KT.R 110 w1 base (fun _ => True) v l :=
  Kd.R_mono (Kd.R_grown (Kd.R_bound h) hg (fun k hk he => by
    obtain ⟨_, _, _, q, hq, cells, hc⟩ := hk
    simp only [KT_E, List.mem_cons, List.not_mem_nil, or_false] at hq
    subst hq
    exact own_ne ho hc (by decide) he)) (fun _ _ => trivial)
section
variable {W : World} {N : Int} {AL A : Option Addr} {cL c : Nat} {L : List (List Int)} {ds : List Int}
set_option maxHeartbeats 16000000 in
set_option maxRecDepth 100000 in
theorem close_calls (hL : Kd.C (Kd.slice 3 (Kd.int .i64)) W AL L.length L) (hcL : L.length ≤ cL) (hA : (Kd.int .i64).C W A ds.length ds) (h0 : checkF N L = 0) (hds : litsB ds N = true) (k : Nat) {res : Option (List Int)} (h : closeU N L k ds = some res) (hk : k ≤ 20) (hlen : ds.length ≤ 100) :
    Calls Try.prog 80 #[.agg #[.int .i64 N, .slice AL L.length cL], .slice A ds.length c] W (ClosePost W res) := by
  have HB := Aside0.mk (below_alloc (Below.refl W.heap.size W) (.cells #[.int .i64 N, .slice AL L.length cL] 24))
  have HT := Aside0.mk (blk_new W (.cells #[.int .i64 N, .slice AL L.length cL] 24))
  cases ht : trail0 L k ds with
  | none => unfold closeU at h; rw [ht] at h; cases h
  | some r =>
    have HTr := Aside0.mk (trail_calls (c := c) (Kd.C_below hL HB.out) hcL (Kd.C_below hA HB.out) h0 hds k ht hk hlen)
    cases r with
    | none =>
      have HRes := Aside0.mk (show res = none by unfold closeU at h; rw [ht] at h; injection h with h; exact h.symm)
      clear hL hA h0 hds h ht
      go_enter Try.func80, Try.ntmps80
      go_wp2_with (go_at_call 94; refine (HTr.out).mono ?_; rintro e w2 ⟨rfl, hb2⟩; have HB2 := Aside0.mk (below_step HB.out hb2); clear hb2)
      go_ret2
      exact ⟨by rw [HRes.out]; exact ⟨_, rfl⟩, HB2.out⟩
    | some r =>
      obtain ⟨l, cf⟩ := r
      by_cases hcf : cf ≥ 0
      · have HRes := Aside0.mk (show res = none by unfold closeU at h; rw [ht] at h; simp only [if_pos hcf] at h; injection h with h; exact h.symm)
        clear hL hA h0 hds h ht
        go_enter Try.func80, Try.ntmps80
        go_wp2_with (go_at_call 94; refine (HTr.out).mono ?_; rintro e w2 ⟨⟨A2, c2, rfl, hr2⟩, hb2⟩; have HB2 := Aside0.mk (below_step HB.out hb2); clear hb2 hr2)
        go_ret2
        exact ⟨by rw [HRes.out]; exact ⟨_, rfl⟩, HB2.out⟩
      · have HRes := Aside0.mk (show (if litsB (l.map (·.1)) N && !oppB (l.map (·.1)) then (if goodB (sortK (l.map (·.1))) (l.map (·.1)) then some (some (sortK (l.map (·.1)))) else none) else some none) = some res by unfold closeU at h; rw [ht] at h; simp only [if_neg hcf] at h; exact h)
        have hll : l.length ≤ 2200 := by have := trail0_len hk ht; omega
        clear hL hA h0 hds h ht
        go_enter Try.func80, Try.ntmps80
        go_upto_region 6 with (go_at_call 94; refine (HTr.out).mono ?_; rintro e w2 ⟨⟨A2, c2, rfl, hr2⟩, hb2⟩; have HR2 := Aside0.mk (Kd.R_lower hr2 HB.out.size); have HT2 := Aside0.mk (blk_below HT.out hb2); have HB2 := Aside0.mk (below_step HB.out hb2); clear hb2 hr2)
        clear HTr HB HT
        have HOu := Aside0.mk (fun i p (hp : l[i]? = some p) => (show (l.take (i + 1)).map (·.1) = (l.take i).map (·.1) ++ [p.1] by rw [List.take_add_one, hp, List.map_append]; rfl))
        have HOl := Aside0.mk (fun i (hi : i ≤ l.length) => (show ((l.take i).map (·.1)).length = i by rw [List.length_map, List.length_take]; omega))
        have HOz := Aside0.mk (show (l.take 0).map (fun x : Stp => x.1) = [] from rfl)
        have HOe := Aside0.mk (show (l.take l.length).map (fun x : Stp => x.1) = l.map (·.1) by rw [List.take_length])
        obtain ⟨ou, hou⟩ : ∃ ou : Nat → List Int, (fun i => (l.take i).map (fun x : Stp => x.1)) = ou := ⟨_, rfl⟩
        replace HOu := Aside0.mk (show ∀ i p, l[i]? = some p → ou (i + 1) = ou i ++ [p.1] by rw [← hou]; exact HOu.out)
        replace HOl := Aside0.mk (show ∀ i, i ≤ l.length → (ou i).length = i by rw [← hou]; exact HOl.out)
        replace HOz := Aside0.mk (show ou 0 = [] by rw [← hou]; exact HOz.out)
        replace HOe := Aside0.mk (show ou l.length = l.map (·.1) by rw [← hou]; exact HOe.out)
        clear hou
        go_loopg [9, 27] l.length (fun gk v9 v27 w' => ∃ (i : Nat) (A9 : Option Addr) (c9 : Nat), i + gk = l.length ∧ v9 = .slice A9 i c9 ∧ v27 = .int .i64 (i : Int) ∧ Aside0 (w'.ownsRow W.heap.size 3 1 (.slice A9 i c9) i (nums .i64 (ou i))) ∧ Aside0 (KT.R 110 w' W.heap.size (fun _ => True) (.slice A2 l.length c2) l) ∧ Aside0 (w'.heap[W.heap.size]? = some (.cells #[.int .i64 N, .slice AL L.length cL] 24 (0, 0))) ∧ Aside0 (Below W.heap.size W w'))
        case atStart => exact ⟨0, none, 0, by omega, rfl, rfl, ⟨by rw [HOz.out]; exact own_nil _ _ _ _⟩, HR2, HT2, HB2⟩
        case round =>
          clear HR2 HT2 HB2
          obtain ⟨i, A9, c9, hig, rfl, rfl, HO, HR, HT, HB⟩ := hrel
          cases gk with
          | zero =>
            have hil : i = l.length := by omega
            have hi : ¬ ((i : Int) < (l.length : Int)) := by omega
            have hc0 : wr.cell? ⟨W.heap.size, 0, none⟩ = some (.int .i64 N) := (blk_cell HT.out 0).trans rfl
            replace HO := Aside0.mk (show wr.ownsRow W.heap.size 3 1 (.slice A9 (ou i).length c9) (ou i).length (nums .i64 (ou i)) by rw [HOl.out i (by omega)]; exact HO.out)
            obtain ⟨A9', c9', he9, hC9, hc9, hn9, _⟩ := own_C HO.out
            injection he9 with he9 _ he9c
            subst he9 he9c
            have HTm := Aside0.mk (term3_calls N wr hC9 hc9 (by rw [HOl.out i (by omega)]; omega) hn9)
            rw [HOl.out i (by omega)] at HTm
            have HOi := Aside0.mk (show ou i = l.map (·.1) by rw [hil]; exact HOe.out)
            rw [HOi.out] at HTm
            clear hC9 hc9 hn9 hil
            cases hb : (litsB (l.map (·.1)) N && !oppB (l.map (·.1))) with
            | false =>
              have HR2 := Aside0.mk (show res = none by have h1 := HRes.out; rw [hb] at h1; simp only [Bool.false_eq_true, if_false] at h1; injection h1 with h1; exact h1.symm)
              unfold Term3Post at HTm
              rw [hb] at HTm
              clear hb HRes
              go_wp2_with (go_at_call 70; refine (HTm.out).mono ?_; rintro e w3 ⟨⟨v, ys, rfl, _⟩, hb3⟩; have HB3 := Aside0.mk (below_step HB.out hb3); clear hb3)
              go_ret2
              exact ⟨by rw [HR2.out]; exact ⟨_, rfl⟩, HB3.out⟩
            | true =>
              have hR2 : goodB (sortK (l.map (·.1))) (l.map (·.1)) = true ∧ res = some (sortK (l.map (·.1))) := by
                have h1 := HRes.out
                rw [hb, if_pos rfl] at h1
                split at h1
                · rename_i hg
                  injection h1 with h1
                  exact ⟨hg, h1.symm⟩
                · cases h1
              have HR2 := Aside0.mk hR2
              unfold Term3Post at HTm
              rw [hb] at HTm
              clear hb HRes hR2
              go_wp2_with (go_at_call 70; refine (HTm.out).mono ?_; rintro e w3 ⟨⟨v, ys, rfl, ho3⟩, hb3⟩; have HB3 := Aside0.mk (below_step HB.out hb3); have HO3 := Aside0.mk (ho3 rfl); clear hb3 ho3)
              go_ret2
              have hg := good_of HR2.out.1
              have hys := sorted_eq _ _ HO3.out.2.2 hg.2 (fun x => (HO3.out.2.1 x).trans (hg.1 x).symm)
              obtain ⟨A3, c3, hv3⟩ := own_slice HO3.out.1
              have ho := own_less HO3.out.1 HB.out.size
              subst hv3
              rw [hys] at ho ⊢
              exact ⟨by rw [HR2.out.2]; exact ⟨A3, c3, rfl, ho⟩, HB3.out⟩
          | succ gk =>
            have hi : (i : Int) < (l.length : Int) := by omega
            have hil : i < l.length := by omega
            obtain ⟨p, hp⟩ : ∃ p, l[i]? = some p := ⟨_, List.getElem?_eq_getElem hil⟩
            rcases KT_form HR.out with ⟨_, h9⟩ | ⟨g, rfl, _⟩
            · rw [h9] at hil; cases hil
            obtain ⟨hp0, hp1, hp2⟩ := KT_elem HR.out i hil hp
            have HOn := Aside0.mk (HOu.out i p hp)
            have HOi := Aside0.mk (HOl.out i (by omega))
            have HO2 := Aside0.mk (show (wr.alloc (.cells #[.int .i64 p.1, .int .i64 p.2.1, .int .i64 p.2.2] 110)).ownsRow W.heap.size 3 1 (.slice A9 i c9) (ou i).length (nums .i64 (ou i)) by rw [HOi.out]; exact own_alloc HO.out _)
            have HR3 := Aside0.mk (Kd.R_below HR.out (below_alloc (Below.refl wr.heap.size wr) (.cells #[.int .i64 p.1, .int .i64 p.2.1, .int .i64 p.2.2] 110)))
            have HT3 := Aside0.mk (blk_alloc HT.out (.cells #[.int .i64 p.1, .int .i64 p.2.1, .int .i64 p.2.2] 110))
            have HB3 := Aside0.mk (below_alloc HB.out (.cells #[.int .i64 p.1, .int .i64 p.2.1, .int .i64 p.2.2] 110))
            have hlen4 : (ou i).length ≤ 4096 := by rw [HOi.out]; omega
            clear hp hil
            go_wp2_with (at_builtin; refine app_int W.heap.size HO2.out p.1 hlen4 HB3.out.size rfl (.tmp 31) (.tmp 34) rfl rfl (by rw [blk_size]; rfl) ?_; intro v5 w5 ho5 hg5; rw [List.length_append, List.length_singleton, HOi.out] at ho5; obtain ⟨A5, c5, rfl, _, _, _, _⟩ := own_C ho5; have HR5 := Aside0.mk (KT_grown HR3.out HO2.out hg5); have HT5 := Aside0.mk (blk_grown HT3.out hg5 (own_ne HO2.out HT3.out (by decide))); have HB5 := Aside0.mk (Below.grown HB3.out hg5 HB3.out.size (fun k hk => own_base HO2.out k hk)); have HO5 := Aside0.mk ho5; clear ho5 hg5)
            go_roundg gk
            case measure => omega
            case rel => exact ⟨i + 1, A5, c5, by omega, rfl, by go_num, ⟨by rw [HOn.out]; exact HO5.out⟩, HR5, HT5, HB5⟩
end
end Go.Proofs.Ytbnjbjcokkcfcaa.Sol
namespace Go.Proofs.Ytbnjbjcokkcfcaa.Sol
open Go.RowKit Go.Proofs.YtbnjbjcokkcfcaaW.PrintWords Go.Proofs.YtbnjbjcokkcfcaaW.PrintLast Go.Proofs.YtbnjbjcokkcfcaaW.PrintMore Go.Proofs.Ytbnjbjcokkcfcaa.PSearchOwn
set_option linter.unusedVariables false
set_option linter.unusedSimpArgs false
set_option maxRecDepth 100000 in
theorem run_full {w : World} {A : Option Addr} {zs : List Int} (hC : (Kd.int .i64).C w A zs.length zs) (hnil : A = none → zs.length = 0) (i : Int) (ty : TypeId) (hlen : zs.length ≤ 4096) :
    ∃ v' w', (Builtin.append_ #[25, 25] ty #[.slice A zs.length zs.length, .slice (some ⟨w.heap.size, 0, none⟩) 1 1]).run Try.prog (w.alloc (.cells #[.int .i64 i] 3)) = .ok v' w' ∧ w'.ownsRow w.heap.size 3 1 v' (zs ++ [i]).length (nums .i64 (zs ++ [i])) ∧ Below w.heap.size w w' := by
  obtain ⟨i0, hi, hzz⟩ := Option.map_eq_some_iff.1 PPartsSplit.info3
  simp only [Prod.mk.injEq] at hzz
  obtain ⟨hz0, hz1, hz2⟩ := hzz
  have hnews : ∀ j u, [Value.int .i64 i][j]? = some u → (w.alloc (.cells #[.int .i64 i] 3)).cell? ((⟨w.heap.size, 0, none⟩ : Addr).add j) = some u := by
    simpa using World.news_of_block (cs := #[Value.int .i64 i]) (t := 3) (fr := (0, 0)) (heap_alloc_new w (.cells #[.int .i64 i] 3))
  have hone : ∀ u ∈ [Value.int .i64 i], u.oneCell' = true := fun u hu => by rw [List.mem_singleton.1 hu]; rfl
  have hb := below_alloc (Below.refl w.heap.size w) (.cells #[.int .i64 i] 3)
  have hsz : (w.alloc (.cells #[.int .i64 i] 3)).heap.size = w.heap.size + 1 := blk_size _ _
  have hll : (zs ++ [i]).length = zs.length + 1 := by rw [List.length_append, List.length_singleton]
  have hnn : nums .i64 (zs ++ [i]) = nums .i64 zs ++ [Value.int .i64 i] := by simp [nums]
  rw [hll, hnn]
  cases A with
  | none =>
    have h0 := hnil rfl
    have hzs : zs = [] := List.eq_nil_of_length_eq_zero h0
    subst hzs
    obtain ⟨v', w', hrun, r1, r2, _⟩ := run_append_own (P := Try.prog) (w.alloc (.cells #[.int .i64 i] 3)) (w.alloc (.cells #[.int .i64 i] 3)).heap.size 25 ty 3 i0 _ 1 8 Try.underlying25 hi hz0 hz1 hz2 rfl (by decide) (.slice none 0 0) 0 [] (World.ownsRow_nil _ _ 3 1) ⟨w.heap.size, 0, none⟩ 1 1 [.int .i64 i] rfl hnews hone (by decide) (by decide) (Nat.le_refl _)
    exact ⟨v', w', hrun, own_less r1 (by omega), Below.grown hb r2 (by omega) (fun k hk => by cases hk)⟩
  | some b =>
    obtain ⟨v', w', hrun, r1, r2⟩ := run_append_arg_grows (P := Try.prog) (w.alloc (.cells #[.int .i64 i] 3)) 25 ty 3 i0 _ 1 8 Try.underlying25 hi hz0 hz1 hz2 rfl (by decide) b zs.length zs.length (nums .i64 zs) (by simp [nums]) (fun j u hj => by
      have hjl : j < zs.length := by
        have := (List.getElem?_eq_some_iff.1 hj).1
        simpa [nums] using this
      obtain ⟨ad, e, hc⟩ := rd_int (Kd.C_below hC hb) j hjl
      injection e with e
      subst e
      rw [hc]
      have h2 : (nums .i64 zs)[j]? = some (.int .i64 (zs.getD j 0)) := by simp [nums, List.getD_eq_getElem?_getD, hjl]
      rw [← hj, h2]) ⟨w.heap.size, 0, none⟩ 1 1 [.int .i64 i] rfl hnews (by omega) (by simp only [maxLen]; omega) (by omega)
    exact ⟨v', w', hrun, own_less r1 (by omega), Below.grown hb r2 (by omega) (fun k hk => by cases hk)⟩
section
variable {ops : Array Oper} {rest : List Oper} {o : Oper} {a : Act} {Q : Exit → Act → World → Prop} {Kc : Act → World → Prop}
theorem app_full {w : World} {A : Option Addr} {zs : List Int} (hC : (Kd.int .i64).C w A zs.length zs) (hnil : A = none → zs.length = 0) (i : Int) (hlen : zs.length ≤ 4096) (hgd : o.guard = none) (s x : Operand) (ho : o.op = .call { callee := .builtin .append, args := #[s, x], argTypes := #[25, 25] }) (hs : a.eval s = .slice A zs.length zs.length) (hx : a.eval x = .slice (some ⟨w.heap.size, 0, none⟩) 1 1)
    (K : ∀ v2 w2, w2.ownsRow w.heap.size 3 1 v2 (zs ++ [i]).length (nums .i64 (zs ++ [i])) → Below w.heap.size w w2 → wpList Try.prog ops Q rest (a.put o.dst v2) w2) :
    wpList Try.prog ops Q (o :: rest) a (w.alloc (.cells #[.int .i64 i] 3)) := by
  refine wpList_plain hgd fun K' hK' => ?_
  obtain ⟨v', w', hrun, r1, r2⟩ := run_full hC hnil i o.type hlen
  unfold Oper.wp
  simp [execOp, ho, resolve, invoke, builtin, hs, hx, hrun, Result.andThen]
  exact hK' _ _ (K v' w' r1 r2)
theorem app_full_step {w : World} {A : Option Addr} {zs : List Int} (hC : (Kd.int .i64).C w A zs.length zs) (hnil : A = none → zs.length = 0) (i : Int) (hlen : zs.length ≤ 4096) (hw : Region.wanted o (yielded ops a.tmps) = true) (s x : Operand) (ho : o.op = .call { callee := .builtin .append, args := #[s, x], argTypes := #[25, 25] }) (hs : a.eval s = .slice A zs.length zs.length) (hx : a.eval x = .slice (some ⟨w.heap.size, 0, none⟩) 1 1)
    (K : ∀ v2 w2, w2.ownsRow w.heap.size 3 1 v2 (zs ++ [i]).length (nums .i64 (zs ++ [i])) → Below w.heap.size w w2 → Kc (a.put o.dst v2) w2) :
    if Region.wanted o (yielded ops a.tmps) = true then Oper.wp Try.prog o a (w.alloc (.cells #[.int .i64 i] 3)) Kc Q else Kc (a.put o.dst undef) (w.alloc (.cells #[.int .i64 i] 3)) := by
  rw [if_pos hw]
  obtain ⟨v', w', hrun, r1, r2⟩ := run_full hC hnil i o.type hlen
  unfold Oper.wp
  simp [execOp, ho, resolve, invoke, builtin, hs, hx, hrun, Result.andThen]
  exact K v' w' r1 r2
end
def hasF (l : List Int) (v : Int) : Bool := l.any (fun x => decide (varOf x = v))
set_option maxHeartbeats 1000000 in
theorem hasv_calls {W : World} {A : Option Addr} {c : Nat} {l : List Int} (v : Int) (hA : (Kd.int .i64).C W A l.length l) :
    Calls Try.prog 81 #[.slice A l.length c, .int .i64 v] W fun e w' => e = .returned (.bool (hasF l v)) ∧ Below W.heap.size W w' := by
  have HL := Aside0.mk hA
  have hmax := Kd.C_max hA
  have HV := Aside0.mk (fun (x : Int) (w : World) => varL_calls (W := w) x)
  clear hA
  go_enter Try.func81, Try.ntmps81
  go_wp2
  go_loopg [9] l.length (fun gk v9 w' => ∃ (i : Nat), i + gk = l.length ∧ v9 = .int .i64 (i : Int) ∧ Aside0 (hasF l v = hasF (l.drop i) v) ∧ Aside0 (Below W.heap.size W w'))
  case atStart => exact ⟨0, by omega, rfl, ⟨by rw [List.drop_zero]⟩, ⟨Below.refl _ W⟩⟩
  case round =>
    obtain ⟨i, hig, rfl, HP, HD⟩ := hrel
    cases gk with
    | zero =>
      have hi : ¬ ((i : Int) < (l.length : Int)) := by omega
      go_wp2
      go_ret
      exact ⟨by rw [HP.out, List.drop_eq_nil_of_le (by omega)]; rfl, HD.out⟩
    | succ gk =>
      have hi : (i : Int) < (l.length : Int) := by omega
      obtain ⟨ad, hA2, hx⟩ := rd_int (Kd.C_below HL.out HD.out) i (by omega)
      subst hA2
      obtain ⟨x, hxe⟩ : ∃ x, l.getD i 0 = x := ⟨_, rfl⟩
      rw [hxe] at hx
      have hxl : l[i]'(by omega) = x := by rw [← hxe]; simp [List.getD_eq_getElem?_getD, List.getElem?_eq_getElem (show i < l.length by omega)]
      have HAny := Aside0.mk (show hasF (l.drop i) v = (decide (varOf x = v) || hasF (l.drop (i + 1)) v) by rw [List.drop_eq_getElem_cons (show i < l.length by omega), hxl]; rfl)
      have HVx := Aside0.mk (HV.out x wr)
      clear hxl hxe
      generalize varOf x = y at HAny HVx
      by_cases hyv : y = v
      · subst hyv
        go_wp2_with (go_at_call 28; refine (HVx.out).mono ?_; rintro e w2 ⟨rfl, n2, rfl⟩)
        go_ret
        exact ⟨by show Ending.returned (Value.bool true) = _; rw [HP.out, HAny.out]; simp, pw_below_drewN HD.out n2⟩
      · have hyb : (y == v) = false := by simpa using hyv
        go_wp2_with (go_at_call 28; refine (HVx.out).mono ?_; rintro e w2 ⟨rfl, n2, rfl⟩)
        go_roundg gk
        case measure => omega
        case rel => exact ⟨i + 1, by omega, by go_num, ⟨by rw [HP.out, HAny.out, decide_eq_false hyv, Bool.false_or]⟩, ⟨pw_below_drewN HD.out n2⟩⟩
end Go.Proofs.Ytbnjbjcokkcfcaa.Sol
