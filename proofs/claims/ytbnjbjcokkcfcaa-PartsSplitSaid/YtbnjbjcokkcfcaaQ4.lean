/- Split as a plain function, and its walk. -/
import Derived.Test.YtbnjbjcokkcfcaaQ3
import Derived.Test.YtbnjbjcokkcfcaaRows
import Derived.ProofKit
import Derived.OpenShut
import Derived.ChangeOld
import Derived.SizedLaws
import Derived.Deep.Matrix
import Derived.Lib.SmallJoins
import Derived.Maps.Own
import Derived.Maps.OwnOps
import Derived.Maps.Views
namespace Go.Proofs.Ytbnjbjcokkcfcaa.Sol
open Go.RowKit Go.Proofs.YtbnjbjcokkcfcaaW.PrintWords
set_option linter.unusedVariables false
set_option linter.unusedSimpArgs false
abbrev vn (x : Int) : Nat := (varOf x).toNat
abbrev Part : Type := (Nat × Nat) × List Int
/-- What the first loop has found. -/
structure S1 where
  R : Nat → Nat
  free : Nat × Nat
  es : List Int
  first : List Int
def head0 (l : List Int) : Int := l.headD 0
def uniAll (x0 : Int) (xs : List Int) (R : Nat → Nat) : Nat → Nat := xs.foldl (fun R x => uni R (vn x0) (vn x)) R
def lessAll (xs : List Int) (s : Nat × Nat) : Nat × Nat := xs.foldl (fun s x => withoutS s (vn x)) s
def moreAll (xs : List Int) (s : Nat × Nat) : Nat × Nat := xs.foldl (fun s x => withS s (vn x)) s
def step1 (ys : List Int) (s : S1) (i : Nat) (c : List Int) : S1 :=
  if leftB c ys then
    (if restF c ys = [] then { s with es := s.es ++ [(i : Int)] }
     else { R := uniAll (head0 (restF c ys)) (restF c ys) s.R, free := lessAll (restF c ys) s.free, es := s.es, first := s.first ++ [(i : Int)] })
  else s
def fold1 (n : Nat) (ys : List Int) (L : List (List Int)) : Nat → S1
  | 0 => { R := id, free := lessAll ys (allS n), es := [], first := [] }
  | i + 1 => step1 ys (fold1 n ys L i) i (L.getD i [])
/-- The components by their roots. -/
abbrev Comps : Type := Nat → Option (List Int × (Nat × Nat))
def step2 (ys : List Int) (L : List (List Int)) (R : Nat → Nat) (m : Comps) (i : Int) : Comps := fun v =>
  if v = R (vn (head0 (restF (L.getD i.toNat []) ys))) then
    some (((m v).getD ([], (0, 0))).1 ++ [i], moreAll (restF (L.getD i.toNat []) ys) ((m v).getD ([], (0, 0))).2)
  else m v
def fold2 (ys : List Int) (L : List (List Int)) (R : Nat → Nat) (is : List Int) : Comps := is.foldl (step2 ys L R) (fun _ => none)
def swp (x : List Int × (Nat × Nat)) : Part := (x.2, x.1)
def splitF (n : Nat) (L : List (List Int)) (ys : List Int) : List Part × (Nat × Nat) :=
  (((fold1 n ys L L.length).es.map fun i => ((0, 0), [i])) ++ (List.range (n + 1)).filterMap (fun v => (fold2 ys L (fold1 n ys L L.length).R (fold1 n ys L L.length).first v).map swp), (fold1 n ys L L.length).free)
/-- A set of variables in a row. -/
def KS : Kd (Nat × Nat) := Kd.iso (Kd.pair (Kd.int .u64) (Kd.int .u64)) (fun s => ((s.1 : Int), (s.2 : Int)))
/-- A component in a row. -/
def KP : Kd Part := Kd.pair KS (Kd.slice 3 (Kd.int .i64))
theorem KP_sz : KP.sz = 3 := rfl
theorem KP_M {w : World} {base : Nat} {ok : Nat → Prop} {s : Nat × Nat} {cs : List Int} {v : Value} (h : (Kd.int .i64).R 3 w base ok v cs) : KP.M w base ok (s, cs) [.int .u64 (s.1 : Int), .int .u64 (s.2 : Int), v] :=
  ⟨[.int .u64 (s.1 : Int), .int .u64 (s.2 : Int)], [v], rfl, ⟨[.int .u64 (s.1 : Int)], [.int .u64 (s.2 : Int)], rfl, rfl, rfl⟩, ⟨v, rfl, h⟩⟩
end Go.Proofs.Ytbnjbjcokkcfcaa.Sol
namespace Go.Proofs.Ytbnjbjcokkcfcaa.Sol
open Go.ChangeShapes Go.WideShapes Go.ChangeAt Go.RowKit Go.Deep Go.Joins Go.Proofs.YtbnjbjcokkcfcaaW.PrintWords
set_option linter.unusedVariables false
set_option linter.unusedSimpArgs false
variable {H : Type} {enc : TypeId × Value → H}
theorem cells24 : Try.prog.cellsOf 24 = 2 := by kernel_rfl
theorem laidOut : laidOutB Try.prog = true := by kernel_rfl
theorem ints_C {w : World} {A : Option Addr} {n c : Nat} {zs : List Int} (hn : n ≤ c) (hc : c ≤ maxLen) (hz : zs.length = c) (h : ∀ a, A = some a → ∀ j, j < c → w.cell? (a.add j) = some (.int .i64 (zs.getD j 0))) (hA : A = none → c = 0) :
    (Kd.int .i64).C w A (zs.take n).length (zs.take n) := by
  have hl : (zs.take n).length = n := by simp; omega
  rw [hl]
  refine Kd.C_of_reads (d := (0 : Int)) ⟨hl, by unfold maxLen at hc; omega, fun h0 => ?_⟩
  cases A with
  | none => have := hA rfl; omega
  | some a =>
    refine ⟨a, rfl, fun j hj => ?_⟩
    rw [h a rfl j (by omega)]
    simp [List.getD_eq_getElem?_getD, List.getElem?_take, hj]
set_option maxRecDepth 100000 in
/-- A list of numbers. -/
theorem open_list {w : World} {b0 : Nat} {v : Value} {d : DataW H} {p : List MemPlace} (hv : Value.okWide Try.prog w .any b0 25 v) (h : DataW.Trod enc Try.prog w 0 (fun _ => true) true 25 v d p) :
    ∃ (A : Option Addr) (c : Nat) (l : List Int), v = .slice A l.length c ∧ (Kd.int .i64).C w A l.length l ∧ l.length ≤ c ∧ (A = none → c = 0) := by
  obtain ⟨a0, len0, cap0, rfl⟩ := okWide_slice Try.underlying25 hv
  obtain ⟨fuel, hf⟩ := h
  rcases open_ints Try.underlying25 Try.underlying3 (by kernel_rfl) hf with ⟨hcs, _⟩ | ⟨x, l, c, zs, hcs, _, hl, hm, hz, _, hcell, hwz⟩
  · simp [Value.cells] at hcs
    obtain ⟨rfl, rfl, rfl⟩ := hcs
    exact ⟨none, 0, [], rfl, Kd.C_nil _ _, Nat.le_refl _, fun _ => rfl⟩
  · simp [Value.cells] at hcs
    obtain ⟨rfl, rfl, rfl⟩ := hcs
    have hz2 : zs.length = cap0 := by simpa using hz
    have hl2 : (zs.take len0).length = len0 := by simp; omega
    have hC := ints_C (A := some x) (n := len0) hl hm hz2 (fun a ha j hj => by cases ha; exact hcell j (by omega)) (fun h => by cases h)
    exact ⟨some x, cap0, zs.take len0, by rw [hl2], hC, by omega, fun h => by cases h⟩
end Go.Proofs.Ytbnjbjcokkcfcaa.Sol
namespace Go.Proofs.Ytbnjbjcokkcfcaa.Sol
open Go.RowKit Go.Proofs.YtbnjbjcokkcfcaaW.PrintWords Go.Proofs.YtbnjbjcokkcfcaaW.PrintLast Go.Proofs.YtbnjbjcokkcfcaaW.PrintMore Go.Proofs.Ytbnjbjcokkcfcaa.PSearchOwn
set_option linter.unusedVariables false
set_option linter.unusedSimpArgs false
theorem res15 {tmps : Array Value} {w : World} {gR : Nat} {a b : Nat} {v : Value} {er : Int} (h4 : tmps.getD 4 undef = v) (h5 : tmps.getD 5 undef = .pointer (some ⟨gR, 0, none⟩)) (h6 : tmps.getD 6 undef = .int .i64 er) (hg : w.heap[gR]? = some (.cells #[.int .u64 (a : Int), .int .u64 (b : Int)] 34 (0, 0))) :
    (results Try.f15 tmps).run Try.prog w = .ok (.tuple #[v, .agg #[.int .u64 (a : Int), .int .u64 (b : Int)], .int .i64 er]) w := by
  have h := results_list (P := Try.prog) (fn := Try.f15) (tmps := tmps) (w := w) (rs := [.tmp 4, .cell 5 34, .tmp 6]) rfl (by simp) (.tmp (.cell gR 34 #[.int .u64 (a : Int), .int .u64 (b : Int)] (0, 0) _ h5 hg Try.underlying34 rfl size34 (.tmp .nil)))
  rw [h4, h6] at h
  exact h
/-- What Split leaves. -/
def SplitPost (W : World) (ok : Bool) (r : List Part × (Nat × Nat)) (e : Ending) (w' : World) : Prop :=
  ∃ v, e = .returned (.tuple #[v, setV2 (if ok then r.2 else (0, 0)), .int .i64 (if ok then 0 else 1)]) ∧ KP.R 68 w' W.heap.size (fun _ => True) v (if ok then r.1 else []) ∧ Below W.heap.size W w'
section
variable {N : Int} {W : World} {AL : Option Addr} {cL : Nat} {L : List (List Int)} {A : Option Addr} {c : Nat} {l : List Int}
set_option maxHeartbeats 2000000 in
set_option maxRecDepth 100000 in
theorem split_err (hL : Kd.C (Kd.slice 3 (Kd.int .i64)) W AL L.length L) (hcL : L.length ≤ cL) (hA : (Kd.int .i64).C W A l.length l) (hc : l.length ≤ c) (hlen : l.length ≤ 4096) (hnil : A = none → c = 0) (hok : okB N L l = false) (r : List Part × (Nat × Nat)) :
    Calls Try.prog 15 #[.agg #[.int .i64 N, .slice AL L.length cL], .slice A l.length c] W (SplitPost W false r) := by
  have hb0 := below_alloc (below_alloc (Below.refl W.heap.size W) (.cells #[.int .i64 N, .slice AL L.length cL] 24)) (.cells #[.int .u64 0, .int .u64 0] 34)
  have HB0 := Aside0.mk hb0
  have HC := Aside0.mk (checked_calls (N := N) (Kd.C_below hL hb0) hcL (Kd.C_below hA hb0) hc hlen hnil)
  have HOk := Aside0.mk hok
  have hR0 := blk_new (W.alloc (.cells #[.int .i64 N, .slice AL L.length cL] 24)) (.cells #[.int .u64 0, .int .u64 0] 34)
  rw [show (W.alloc (.cells #[.int .i64 N, .slice AL L.length cL] 24)).heap.size = W.heap.size + 1 by simp] at hR0
  have HR0 := Aside0.mk hR0
  clear hL hA hok hR0 hb0
  go_enter Try.func15, Try.ntmps15
  go_wp2_with (go_at_call 41; refine (HC.out).mono ?_; rintro e w1 ⟨⟨v, ys, rfl, hy⟩, hb1⟩; rw [HOk.out]; have HB1 := Aside0.mk (below_step HB0.out hb1); have HR1 := Aside0.mk (blk_below HR0.out hb1); have hf0 := blk_frozen HR1.out 0; have hf1 := blk_frozen HR1.out 1; have hc0 : w1.cell? ⟨W.heap.size + 1, 0, none⟩ = some (.int .u64 0) := (blk_cell HR1.out 0).trans rfl; have hc1 : w1.cell? ⟨W.heap.size + 1, 1, none⟩ = some (.int .u64 0) := (blk_cell HR1.out 1).trans rfl; clear hy hb1)
  refine bodyPost_ret (res15 (gR := W.heap.size + 1) (a := 0) (b := 0) rfl rfl rfl (blk_put (blk_put HR1.out 0 _ rfl) 1 _ rfl)) rfl ⟨_, rfl, Kd.R_nil _ _ _ _ _, ?_⟩
  exact below_set (below_set HB1.out (Nat.le_succ _)) (Nat.le_succ _)
end
end Go.Proofs.Ytbnjbjcokkcfcaa.Sol
namespace Go.Proofs.Ytbnjbjcokkcfcaa.Sol
open Go.RowKit Go.Proofs.YtbnjbjcokkcfcaaW.PrintWords Go.Proofs.YtbnjbjcokkcfcaaW.PrintLast Go.Proofs.YtbnjbjcokkcfcaaW.PrintMore Go.Proofs.Ytbnjbjcokkcfcaa.PSearchOwn
set_option linter.unusedVariables false
set_option linter.unusedSimpArgs false
structure Q1 (W W2 : World) (bF gu gf : Nat) (R : Nat → Nat) (free : Nat × Nat) (es first : List Int) (v4 v12 : Value) (vx : Value) (xs : List Int) (w : World) : Prop where
  below : Below W.heap.size W w
  kept : Kept W2 w (fun k => k = bF ∨ k = gu)
  gu0 : gu < W2.heap.size
  gf0 : gf < W2.heap.size
  bF0 : bF < W2.heap.size
  ge : W.heap.size ≤ bF ∧ W.heap.size ≤ gu ∧ W.heap.size ≤ W2.heap.size
  fr : w.heap[bF]? = some (.cells #[.int .u64 (free.1 : Int), .int .u64 (free.2 : Int)] 34 (0, 0))
  uf : ∃ up, Rooted up R ∧ UF w gu gf up
  l : KP.R 68 w W2.heap.size (fun k => some k ≠ v12.ownBlock) v4 (es.map fun i => ((0, 0), [i]))
  f : w.ownsRow W2.heap.size 3 1 v12 first.length (nums .i64 first)
  s : SOk free
  x : w.ownsRow W2.heap.size 3 1 vx xs.length (nums .i64 xs)
section
variable {W W2 w w2 : World} {bF gu gf : Nat} {R : Nat → Nat} {free : Nat × Nat} {es first xs : List Int} {v4 v12 vx : Value}
theorem Q1.bg (h : Q1 W W2 bF gu gf R free es first v4 v12 vx xs w) : Below w.heap.size w w2 → Q1 W W2 bF gu gf R free es first v4 v12 vx xs w2 := fun hb =>
  ⟨below_step h.below hb, h.kept.below hb, h.gu0, h.gf0, h.bF0, h.ge, blk_below h.fr hb, by obtain ⟨up, h1, h2⟩ := h.uf; exact ⟨up, h1, h2.below hb⟩, Kd.R_below h.l hb, pw_own_below h.f hb, h.s, pw_own_below h.x hb⟩
theorem Q1.drewN (h : Q1 W W2 bF gu gf R free es first v4 v12 vx xs w) (n : Nat) : Q1 W W2 bF gu gf R free es first v4 v12 vx xs (w.drewN n) := h.bg (pw_below_drewN (Below.refl _ _) n)
theorem Q1.drew (h : Q1 W W2 bF gu gf R free es first v4 v12 vx xs w) : Q1 W W2 bF gu gf R free es first v4 v12 vx xs w.drew := h.drewN 1
theorem Q1.ne (h : Q1 W W2 bF gu gf R free es first v4 v12 vx xs w) : bF ≠ gu ∧ bF ≠ gf := by
  obtain ⟨up, _, hu⟩ := h.uf
  exact ⟨blk_ne h.fr hu.u (by decide), blk_ne h.fr hu.f (by decide)⟩
theorem Q1.newR (h : Q1 W W2 bF gu gf R free es first v4 v12 vx xs w) {g : Nat} (hg : g < W2.heap.size) : KP.R 68 w W2.heap.size (fun k => some k ≠ v12.ownBlock ∧ k ≠ g) v4 (es.map fun i => ((0, 0), [i])) :=
  Kd.R_mono (Kd.R_bound h.l) (fun k hk => ⟨hk.1, by have := hk.2.1; omega⟩)
theorem Q1.newF (h : Q1 W W2 bF gu gf R free es first v4 v12 vx xs w) {g : Nat} (hg : g < W2.heap.size) : some g ≠ v12.ownBlock := fun he => by
  have := own_base h.f g he.symm; omega
theorem Q1.newX (h : Q1 W W2 bF gu gf R free es first v4 v12 vx xs w) {g : Nat} (hg : g < W2.heap.size) : some g ≠ vx.ownBlock := fun he => by
  have := own_base h.x g he.symm; omega
/-- A cell of an elder block is written. -/
theorem Q1.keepL (h : Q1 W W2 bF gu gf R free es first v4 v12 vx xs w) {g : Nat} (hg : g < W2.heap.size) (i : Nat) (u : Value) : KP.R 68 (w.setCell ⟨g, i, none⟩ u) W2.heap.size (fun k => some k ≠ v12.ownBlock) v4 (es.map fun i => ((0, 0), [i])) :=
  Kd.R_mono (Kd.R_far (p := ⟨g, i, none⟩) (h.newR hg) (fun _ hk => hk.2) u) (fun _ hk => hk.1)
theorem Q1.setFree (h : Q1 W W2 bF gu gf R free es first v4 v12 vx xs w) {s : Nat × Nat} (hs : SOk s) : Q1 W W2 bF gu gf R s es first v4 v12 vx xs ((w.setCell ⟨bF, 0, none⟩ (.int .u64 (s.1 : Int))).setCell ⟨bF, 1, none⟩ (.int .u64 (s.2 : Int))) := by
  have h1 : Q1 W W2 bF gu gf R (s.1, free.2) es first v4 v12 vx xs (w.setCell ⟨bF, 0, none⟩ (.int .u64 (s.1 : Int))) := by
    refine ⟨below_set h.below h.ge.1, h.kept.setCell (Or.inl (Or.inl rfl)) _, h.gu0, h.gf0, h.bF0, h.ge, blk_put h.fr 0 _ rfl, ?_, h.keepL h.bF0 0 _, own_setCell h.f (h.newF h.bF0) _, ⟨hs.1, h.s.2⟩, own_setCell h.x (h.newX h.bF0) _⟩
    obtain ⟨up, a, b⟩ := h.uf
    exact ⟨up, a, ⟨blk_far b.u (Ne.symm h.ne.1) _, blk_far b.f (Ne.symm h.ne.2) _⟩⟩
  refine ⟨below_set h1.below h.ge.1, h1.kept.setCell (Or.inl (Or.inl rfl)) _, h.gu0, h.gf0, h.bF0, h.ge, blk_put h1.fr 1 _ rfl, ?_, h1.keepL h.bF0 1 _, own_setCell h1.f (h.newF h.bF0) _, hs, own_setCell h1.x (h.newX h.bF0) _⟩
  obtain ⟨up, a, b⟩ := h1.uf
  exact ⟨up, a, ⟨blk_far b.u (Ne.symm h.ne.1) _, blk_far b.f (Ne.symm h.ne.2) _⟩⟩
/-- top has been called. -/
theorem Q1.top (h : Q1 W W2 bF gu gf R free es first v4 v12 vx xs w) {up : Nat → Nat} (hr : Rooted up R) (hu : UF w2 gu gf up) (hk : Kept w w2 (fun k => k = gu)) (hb : ∀ B w0, Below B w0 w → B ≤ gu → Below B w0 w2) : Q1 W W2 bF gu gf R free es first v4 v12 vx xs w2 :=
  ⟨hb _ _ h.below h.ge.2.1, h.kept.then_ hk (fun k hk => Or.inl (Or.inr hk)), h.gu0, h.gf0, h.bF0, h.ge, blk_kept h.fr hk h.ne.1, ⟨up, hr, hu⟩,
    Kd.R_mono (Kd.R_step (h.newR h.gu0) (fun k hk2 hlt => hk.2 k hlt hk2.2)) (fun _ hk => hk.1),
    own_move h.f (fun k hk2 => hk.2 k (own_lt h.f k hk2) (fun he => by have := own_base h.f k hk2; have := h.gu0; omega)), h.s,
    own_move h.x (fun k hk2 => hk.2 k (own_lt h.x k hk2) (fun he => by have := own_base h.x k hk2; have := h.gu0; omega))⟩
/-- Two roots are joined. -/
theorem Q1.union (h : Q1 W W2 bF gu gf R free es first v4 v12 vx xs w) {x y : Nat} (hx : x < 129) (hy : y < 129) (hx1 : 1 ≤ x) (hy1 : 1 ≤ y) (hne : R x ≠ R y) : Q1 W W2 bF gu gf (uni R x y) free es first v4 v12 vx xs (w.setCell ⟨gu, max (R x) (R y), none⟩ (.int .i64 ((min (R x) (R y) : Nat) : Int))) := by
  refine ⟨below_set h.below h.ge.2.1, h.kept.setCell (Or.inl (Or.inr rfl)) _, h.gu0, h.gf0, h.bF0, h.ge, blk_far h.fr h.ne.1 _, ?_, h.keepL h.gu0 _ _, own_setCell h.f (h.newF h.gu0) _, h.s, own_setCell h.x (h.newX h.gu0) _⟩
  obtain ⟨up, a, b⟩ := h.uf
  obtain ⟨a1, _, _⟩ := a.le x hx
  obtain ⟨b1, _, _⟩ := a.le y hy
  exact ⟨_, a.join hx hy hx1 hy1 hne, b.set (by omega)⟩
/-- A number more in first. -/
theorem Q1.push (h : Q1 W W2 bF gu gf R free es first v4 v12 vx xs w) {x : Int} {v : Value} (ho : w2.ownsRow W2.heap.size 3 1 v (first.length + 1) (nums .i64 (first ++ [x]))) (hg : w.grownBy w2 v12.ownBlock) (hat : v.ownBlock = v12.ownBlock ∨ ∃ b, v.ownBlock = some b ∧ w.heap.size ≤ b) : Q1 W W2 bF gu gf R free es (first ++ [x]) v4 v (.slice none 0 0) [] w2 := by
  have hW : W2.heap.size ≤ w.heap.size := h.kept.1
  have hold : ∀ k, v12.ownBlock = some k → W2.heap.size ≤ k := fun k hk => own_base h.f k hk
  refine ⟨Below.grown h.below hg h.below.size (fun k hk => by have := hold k hk; have := h.ge.2.2; omega), Kept.of_grown hg h.kept (fun k hk => Or.inr (hold k hk)), h.gu0, h.gf0, h.bF0, h.ge, blk_grown h.fr hg (h.newF h.bF0), ?_, ?_, ?_, h.s, own_nil _ _ _ _⟩
  · obtain ⟨up, a, b⟩ := h.uf
    exact ⟨up, a, ⟨blk_grown b.u hg (h.newF h.gu0), blk_grown b.f hg (h.newF h.gf0)⟩⟩
  · refine Kd.R_mono (Kd.R_grown (Kd.R_bound h.l) hg (fun k hk => hk.1)) (fun k hk => ?_)
    rcases hat with e | ⟨b, e, hb⟩
    · rw [e]; exact hk.1
    · rw [e]; intro he; injection he with he; have := hk.2.2.1; omega
  · rw [List.length_append]; exact ho
/-- A clause of nothing more in l. -/
theorem Q1.part (h : Q1 W W2 bF gu gf R free es first v4 v12 vx xs w) {x : Int} {v : Value} (hr : KP.R 68 w2 W2.heap.size (fun k => some k ≠ v12.ownBlock) v ((es.map fun i => ((0, 0), [i])) ++ [((0, 0), [x])])) (hg : w.grownBy w2 v4.ownBlock) : Q1 W W2 bF gu gf R free (es ++ [x]) first v v12 (.slice none 0 0) [] w2 := by
  obtain ⟨inner, ho⟩ := Kd.R_own h.l
  have hold : ∀ k, v4.ownBlock = some k → W2.heap.size ≤ k := fun k hk => own_base ho k hk
  have hne : ∀ g, g < W2.heap.size → some g ≠ v4.ownBlock := fun g hg he => by have := hold g he.symm; omega
  refine ⟨Below.grown h.below hg h.below.size (fun k hk => by have := hold k hk; have := h.ge.2.2; omega), Kept.of_grown hg h.kept (fun k hk => Or.inr (hold k hk)), h.gu0, h.gf0, h.bF0, h.ge, blk_grown h.fr hg (hne _ h.bF0), ?_, ?_, ?_, h.s, own_nil _ _ _ _⟩
  · obtain ⟨up, a, b⟩ := h.uf
    exact ⟨up, a, ⟨blk_grown b.u hg (hne _ h.gu0), blk_grown b.f hg (hne _ h.gf0)⟩⟩
  · rw [List.map_append]; exact hr
  · exact own_other h.f hg (own_type_ne h.f ho (by decide))
theorem Q1.withRow (h : Q1 W W2 bF gu gf R free es first v4 v12 vx xs w) {v : Value} {zs : List Int} (hx : w.ownsRow W2.heap.size 3 1 v zs.length (nums .i64 zs)) : Q1 W W2 bF gu gf R free es first v4 v12 v zs w :=
  ⟨h.below, h.kept, h.gu0, h.gf0, h.bF0, h.ge, h.fr, h.uf, h.l, h.f, h.s, hx⟩
/-- The loops begin. -/
theorem Q1.start {up : Nat → Nat} (hb : Below W.heap.size W w) (hr : w.heap[bF]? = some (.cells #[.int .u64 (free.1 : Int), .int .u64 (free.2 : Int)] 34 (0, 0))) (hR : Rooted up R) (hu : UF w gu gf up) (hge : W.heap.size ≤ bF ∧ W.heap.size ≤ gu) (hs : SOk free) : Q1 W w bF gu gf R free [] [] (.slice none 0 0) (.slice none 0 0) (.slice none 0 0) [] w :=
  ⟨hb, Kept.refl _ _, blk_lt hu.u, blk_lt hu.f, blk_lt hr, ⟨hge.1, hge.2, hb.size⟩, hr, ⟨up, hR, hu⟩, Kd.R_nil _ _ _ _ _, own_nil _ _ _ _, hs, own_nil _ _ _ _⟩
theorem info68 : (Try.prog.info? 68).map (fun i => (i.zero, i.size, i.bytes)) = some (some (.agg #[.int .u64 0, .int .u64 0, .slice none 0 0]), 3, 40) := by kernel_rfl
theorem info69 : (Try.prog.info? 69).map (fun i => (i.zero, i.size, i.bytes)) = some (some (.agg #[.int .u64 0, .int .u64 0, .slice none 0 0]), 3, 40) := by kernel_rfl
end
end Go.Proofs.Ytbnjbjcokkcfcaa.Sol
namespace Go.Proofs.Ytbnjbjcokkcfcaa.Sol
open Go.RowKit Go.Proofs.YtbnjbjcokkcfcaaW.PrintWords Go.Proofs.YtbnjbjcokkcfcaaW.PrintLast Go.Proofs.YtbnjbjcokkcfcaaW.PrintMore Go.Proofs.Ytbnjbjcokkcfcaa.PSearchOwn
set_option linter.unusedVariables false
set_option linter.unusedSimpArgs false
section
variable {W W2 w : World} {bF gu gf : Nat} {R : Nat → Nat} {free : Nat × Nat} {es first xs : List Int} {v4 v12 vx : Value} {ops : Array Oper} {rest : List Oper} {o : Oper} {a : Act} {Q : Exit → Act → World → Prop}
theorem part_wp (h : Q1 W W2 bF gu gf R free es first v4 v12 vx xs w) (i : Int) (hes : es.length ≤ 4096) (hgd : o.guard = none) (s x : Operand) (ho : o.op = .call { callee := .builtin .append, args := #[s, x], argTypes := #[40, 40] }) (hs : a.eval s = v4) (hx : a.eval x = .slice (some ⟨w.heap.size + 1, 0, none⟩) 1 1)
    (K : ∀ v w2, Q1 W W2 bF gu gf R free (es ++ [i]) first v v12 (.slice none 0 0) [] w2 → wpList Try.prog ops Q rest (a.put o.dst v) w2) :
    wpList Try.prog ops Q (o :: rest) a ((w.alloc (.cells #[.int .i64 i] 3)).alloc (.cells #[.int .u64 0, .int .u64 0, .slice (some ⟨w.heap.size, 0, none⟩) 1 1] 68)) := by
  have h2 := h.bg (below_alloc (Below.refl w.heap.size w) (.cells #[.int .i64 i] 3))
  have hsz : (w.alloc (.cells #[.int .i64 i] 3)).heap.size = w.heap.size + 1 := by simp
  have hW : W2.heap.size ≤ w.heap.size := h.kept.1
  have hrow : (w.alloc (.cells #[.int .i64 i] 3)).ownsRow W2.heap.size 3 1 (.slice (some ⟨w.heap.size, 0, none⟩) 1 1) 1 (nums .i64 [i]) := own_lit w W2.heap.size 3 .i64 [i] hW (by simp)
  obtain ⟨inner, ho4⟩ := Kd.R_own h.l
  have h12 : ∀ k, v12.ownBlock = some k → k < w.heap.size := fun k hk => own_lt h.f k hk
  have h4 : ∀ k, v4.ownBlock = some k → k < w.heap.size := fun k hk => own_lt ho4 k hk
  refine Kd.R_append KP (w0 := w.alloc (.cells #[.int .i64 i] 3)) W2.heap.size hgd s x 40 68 (.agg #[.int .u64 0, .int .u64 0, .slice none 0 0]) 40 ho Try.underlying40 info68 rfl (by decide) (by decide) v4 (es.map fun i => ((0, 0), [i])) ((0, 0), [i]) [.int .u64 0, .int .u64 0, .slice (some ⟨w.heap.size, 0, none⟩) 1 1] (fun k => some k ≠ v12.ownBlock) (fun k => k = w.heap.size) hs (by rw [hsz]; exact hx) (KP_M (s := (0, 0)) (Kd.R_of_own hrow (fun k hk => ?_))) (fun k hk => ?_) (fun k hk => ?_) h2.l (Below.refl _ _) (by rw [hsz]; omega) (by simp; omega) ?_
  · have : w.heap.size = k := by simpa [Value.ownBlock] using hk
    exact this.symm
  · subst hk
    exact ⟨fun he => by have := h12 _ he.symm; omega, fun he => by have := h4 _ he.symm; omega⟩
  · intro he; have := h12 _ he.symm; omega
  · intro v1 w1 hr hb hg _
    exact K v1 w1 (h2.part hr hg)
theorem push_wp (h : Q1 W W2 bF gu gf R free es first v4 v12 vx xs w) (i : Int) (hes : first.length ≤ 4096) {v : Value} {zs : List Int} (hz : w.ownsRow W2.heap.size 3 1 v zs.length (nums .i64 zs)) (hap : ∀ k, v.ownBlock = some k → some k ≠ v12.ownBlock) (hgd : o.guard = none) (s x : Operand) (ho : o.op = .call { callee := .builtin .append, args := #[s, x], argTypes := #[25, 25] }) (hs : a.eval s = v12) (hx : a.eval x = .slice (some ⟨w.heap.size, 0, none⟩) 1 1)
    (K : ∀ v2 w2, Q1 W W2 bF gu gf R free es (first ++ [i]) v4 v2 v zs w2 → wpList Try.prog ops Q rest (a.put o.dst v2) w2) :
    wpList Try.prog ops Q (o :: rest) a (w.alloc (.cells #[.int .i64 i] 3)) := by
  have hW : W2.heap.size ≤ w.heap.size := h.kept.1
  refine Kd.R_append (Kd.int .i64) (w0 := w) W2.heap.size hgd s x 25 3 (.int .i64 0) 8 ho Try.underlying25 PPartsSplit.info3 rfl (by decide) (by decide) v12 first i [.int .i64 i] (fun _ => True) (fun _ => False) hs hx rfl (fun k hk => hk.elim) (fun _ _ => trivial) (Kd.R_of_own h.f (fun _ _ => trivial)) (Below.refl _ _ |>.mono hW) hW (by omega) ?_
  intro v1 w1 hr hb hg hat
  have ho1 : w1.ownsRow W2.heap.size 3 1 v1 (first ++ [i]).length (nums .i64 (first ++ [i])) := Kd.own_of_R hr
  rw [List.length_append] at ho1
  refine K v1 w1 ((h.push ho1 hg hat).withRow (own_other hz hg ?_))
  cases hb2 : v.ownBlock with
  | none => exact Or.inl rfl
  | some k => exact Or.inr (fun he => hap k hb2 he)
theorem Q1.cellk {A5 : Option Addr} {c5 : Nat} (h : Q1 W W2 bF gu gf R free es first v4 v12 (.slice A5 xs.length c5) xs w) (k : Nat) (hk : k < xs.length) : ∃ ad, A5 = some ad ∧ w.cell? (ad.add k) = some (.int .i64 (xs.getD k 0)) := by
  obtain ⟨A, c, e, hC, _⟩ := own_C h.x
  injection e with e1 e2 e3
  subst e1
  exact rd_int hC k hk
theorem Q1.cell0 {a5 : Addr} {c5 : Nat} (h : Q1 W W2 bF gu gf R free es first v4 v12 (.slice (some a5) xs.length c5) xs w) (hne : xs ≠ []) : w.cell? a5 = some (.int .i64 (head0 xs)) := by
  obtain ⟨x, r, rfl⟩ := List.exists_cons_of_ne_nil hne
  obtain ⟨ad, e, hc⟩ := h.cellk 0 (by simp)
  injection e with e
  subst e
  exact hc
end
theorem top_lit {gu gf : Nat} {R up : Nat → Nat} (w : World) (x : Int) (hx : varOf x ≠ 0) (hR : Rooted up R) (hU : UF w gu gf up) : Calls Try.prog 42 (#[.int .i64 (varOf x)] ++ #[.pointer (some ⟨gu, 0, none⟩), .pointer (some ⟨gf, 0, none⟩)]) w (TopPost w gu gf R up (vn x)) := by
  have h2 := varOf_le x
  have := top_calls (vn x) (by unfold vn; omega) up hR w hU
  rw [show ((vn x : Nat) : Int) = varOf x by unfold vn; omega] at this
  exact this
theorem uniAll_snoc (x0 : Int) (l : List Int) (x : Int) (R : Nat → Nat) : uniAll x0 (l ++ [x]) R = uni (uniAll x0 l R) (vn x0) (vn x) := by unfold uniAll; rw [List.foldl_append]; rfl
theorem vn_ok {x : Int} (hx : varOf x ≠ 0) : 1 ≤ vn x ∧ vn x < 129 := by
  have h2 := varOf_le x
  unfold vn
  omega
end Go.Proofs.Ytbnjbjcokkcfcaa.Sol
namespace Go.Proofs.Ytbnjbjcokkcfcaa.Sol
open Go.RowKit Go.Maps Go.Proofs.YtbnjbjcokkcfcaaW.PrintWords
set_option linter.unusedVariables false
set_option linter.unusedSimpArgs false
/-- How a pointer reads: by its block's number. -/
def ptrR (v : Value) : Option (DataW Unit × List MemPlace) :=
  match v with
  | .pointer none => some (.nil, [])
  | .pointer (some a) => if a = ⟨a.block, 0, none⟩ then some (.lit (.int .i64 (a.block : Int)), []) else none
  | _ => none
def ptrOf (o : Option Nat) : Value := .pointer (o.map fun p => ⟨p, 0, none⟩)
def litOf (o : Option Nat) : DataW Unit := match o with | none => .nil | some p => .lit (.int .i64 (p : Int))
theorem ptrR_of (o : Option Nat) : ptrR (ptrOf o) = some (litOf o, []) := by
  cases o with
  | none => rfl
  | some p => simp [ptrOf, ptrR, litOf]
theorem ptrR_inv {v : Value} {o : Option Nat} {ps : List MemPlace} (h : ptrR v = some (litOf o, ps)) : v = ptrOf o := by
  unfold ptrR at h
  split at h
  · cases o with
    | none => rfl
    | some p => simp [litOf] at h
  · rename_i a
    split at h
    · rename_i ha
      cases o with
      | none => simp [litOf] at h
      | some p =>
        simp only [litOf, Option.some.injEq, Prod.mk.injEq, DataW.lit.injEq, Lit.int.injEq, true_and] at h
        have : a.block = p := by omega
        rw [ha, this]; rfl
    · cases h
  · cases h
/-- The map in block b holds f. -/
def OfMap (w : World) (b nm : Nat) (f : Nat → Option Nat) : Prop :=
  ∃ D, w.ownsMap Try.prog 3 ptrR b nm D ∧ IsMap D ∧ ∀ v : Nat, v < 129 → D.atKey (.int .i64 (v : Int)) .nil = litOf (f v)
theorem keyed3 : Keyed Try.prog 3 := int_keyed Try.underlying3
theorem key3 (v : Nat) (hv : v < 129) : keyOf Try.prog 3 (.int .i64 (v : Int)) = some (.int .i64 (v : Int)) := by
  simp [keyOf, Try.underlying3, mapKey]
  try (simp [Lit.wf, IntKind.min, IntKind.max, IntKind.signed, IntKind.bits]; omega)
theorem OfMap.made (w : World) : OfMap (w.alloc (.map #[] 0)) w.heap.size 0 (fun _ => none) := ⟨.map [], World.ownsMap_made _ _ _ _, ⟨_, rfl⟩, fun _ _ => rfl⟩
theorem OfMap.lookup {w : World} {b nm : Nat} {f : Nat → Option Nat} (h : OfMap w b nm f) {v : Nat} (hv : v < 129) : (Instr.lookup 74 (.map (some b)) (.int .i64 (v : Int)) false).run Try.prog w = .ok (ptrOf (f v)) w := by
  obtain ⟨D, h1, _, h3⟩ := h
  obtain ⟨val, ps, hrun, hR⟩ := h1.lookup keyed3 Try.underlying74 (z := .pointer none) (zd := .nil) (zp := []) (Try.zeroValue77 w) rfl (key3 v hv)
  rw [h3 v hv] at hR
  rw [hrun, ptrR_inv hR]
theorem OfMap.update {w : World} {b nm : Nat} {f : Nat → Option Nat} (h : OfMap w b nm f) {v p : Nat} (hv : v < 129) (hn : nm < maxLen) : ∃ w', (Instr.mapUpdate 74 (.map (some b)) (.int .i64 (v : Int)) (.pointer (some ⟨p, 0, none⟩))).run Try.prog w = .ok () w' ∧ OfMap w' b (nm + 1) (fun i => if i = v then some p else f i) ∧ w.grownBy w' (some b) := by
  obtain ⟨D, h1, h2, h3⟩ := h
  obtain ⟨w', hrun, r1, r2⟩ := h1.update keyed3 Try.underlying74 hn (key3 v hv) (ptrR_of (some p))
  have hk : WideAt.IsKeyLit (.int .i64 (v : Int)) := by first | trivial | simp [WideAt.IsKeyLit] | decide
  refine ⟨w', hrun, ⟨_, r1, IsMap.put h2 _ _, fun i hi => ?_⟩, r2⟩
  by_cases e : i = v
  · subst e; rw [atKey_put_same h2 hk]; simp
  · rw [atKey_put_other (by simp; omega), h3 i hi]; simp [e]
theorem OfMap.keep {w w' : World} {b nm : Nat} {f : Nat → Option Nat} (h : OfMap w b nm f) (hk : w'.heap[b]? = w.heap[b]?) : OfMap w' b nm f := by
  obtain ⟨D, ⟨es, clock, hb, r⟩, h2, h3⟩ := h
  exact ⟨D, ⟨es, clock, hk.trans hb, r⟩, h2, h3⟩
end Go.Proofs.Ytbnjbjcokkcfcaa.Sol
namespace Go.Proofs.Ytbnjbjcokkcfcaa.Sol
open Go.RowKit Go.Proofs.YtbnjbjcokkcfcaaW.PrintWords Go.Proofs.YtbnjbjcokkcfcaaW.PrintLast Go.Proofs.YtbnjbjcokkcfcaaW.PrintMore Go.Proofs.Ytbnjbjcokkcfcaa.PSearchOwn
set_option linter.unusedVariables false
set_option linter.unusedSimpArgs false
structure P2 (W W4 : World) (gu gf bm nm : Nat) (R : Nat → Nat) (m : Comps) (pB : Nat → Nat) (vB : Nat → Value) (vx : Value) (xs : List Int) (w : World) : Prop where
  below : Below W.heap.size W w
  kept : Kept W4 w (fun k => k = gu ∨ k = bm)
  ge : W.heap.size ≤ gu ∧ W.heap.size ≤ bm ∧ W.heap.size ≤ W4.heap.size
  lt : gu < W4.heap.size ∧ gf < W4.heap.size ∧ bm < W4.heap.size
  uf : ∃ up, Rooted up R ∧ UF w gu gf up
  map : OfMap w bm nm (fun v => (m v).map fun _ => pB v)
  parts : ∀ v cs s, m v = some (cs, s) → SOk s ∧ W4.heap.size ≤ pB v ∧ w.heap[pB v]? = some (.cells #[.int .u64 (s.1 : Int), .int .u64 (s.2 : Int), vB v] 68 (0, 0)) ∧ w.ownsRow W4.heap.size 3 1 (vB v) cs.length (nums .i64 cs)
  inj : ∀ v v', (m v).isSome = true → (m v').isSome = true → v ≠ v' → pB v ≠ pB v' ∧ ((vB v).ownBlock = none ∨ (vB v).ownBlock ≠ (vB v').ownBlock)
  x : w.ownsRow W4.heap.size 3 1 vx xs.length (nums .i64 xs)
  xap : ∀ v, (m v).isSome = true → vx.ownBlock = none ∨ vx.ownBlock ≠ (vB v).ownBlock
section
variable {W W4 w w2 : World} {gu gf bm nm : Nat} {R : Nat → Nat} {m : Comps} {pB : Nat → Nat} {vB : Nat → Value} {vx : Value} {xs : List Int}
theorem map_lt {w : World} {b n : Nat} {f : Nat → Option Nat} (h : OfMap w b n f) : b < w.heap.size := by
  obtain ⟨D, h1, _⟩ := h
  exact h1.lt
theorem map_ne {w : World} {b n g : Nat} {f : Nat → Option Nat} {cs : Array Value} {t : TypeId} (h : OfMap w b n f) (hg : w.heap[g]? = some (.cells cs t (0, 0))) : b ≠ g := by
  obtain ⟨D, ⟨es, clock, hb, _⟩, _⟩ := h
  rintro rfl
  rw [hb] at hg
  cases hg
theorem P2.bg (h : P2 W W4 gu gf bm nm R m pB vB vx xs w) (hb : Below w.heap.size w w2) : P2 W W4 gu gf bm nm R m pB vB vx xs w2 :=
  ⟨below_step h.below hb, h.kept.below hb, h.ge, h.lt, by obtain ⟨up, h1, h2⟩ := h.uf; exact ⟨up, h1, h2.below hb⟩, h.map.keep (hb.block _ (map_lt h.map)),
    fun v cs s hm => by obtain ⟨a, b, c, d⟩ := h.parts v cs s hm; exact ⟨a, b, blk_below c hb, pw_own_below d hb⟩, h.inj, pw_own_below h.x hb, h.xap⟩
theorem P2.drewN (h : P2 W W4 gu gf bm nm R m pB vB vx xs w) (n : Nat) : P2 W W4 gu gf bm nm R m pB vB vx xs (w.drewN n) := h.bg (pw_below_drewN (Below.refl _ _) n)
theorem P2.drew (h : P2 W W4 gu gf bm nm R m pB vB vx xs w) : P2 W W4 gu gf bm nm R m pB vB vx xs w.drew := h.drewN 1
theorem P2.start {up : Nat → Nat} (hb : Below W.heap.size W w) (hR : Rooted up R) (hu : UF w gu gf up) (hge : W.heap.size ≤ gu ∧ W.heap.size ≤ bm) (hm : OfMap w bm 0 (fun _ => none)) : P2 W w gu gf bm 0 R (fun _ => none) (fun _ => 0) (fun _ => .slice none 0 0) (.slice none 0 0) [] w :=
  ⟨hb, Kept.refl _ _, ⟨hge.1, hge.2, hb.size⟩, ⟨blk_lt hu.u, blk_lt hu.f, map_lt hm⟩, ⟨up, hR, hu⟩, hm, fun _ _ _ h => (by cases h), fun _ _ h => (by cases h), own_nil _ _ _ _, fun _ h => (by cases h)⟩
theorem P2.top (h : P2 W W4 gu gf bm nm R m pB vB vx xs w) {up : Nat → Nat} (hr : Rooted up R) (hu : UF w2 gu gf up) (hk : Kept w w2 (fun k => k = gu)) (hb : ∀ B w0, Below B w0 w → B ≤ gu → Below B w0 w2) : P2 W W4 gu gf bm nm R m pB vB vx xs w2 := by
  obtain ⟨up0, _, hu0⟩ := h.uf
  refine ⟨hb _ _ h.below h.ge.1, h.kept.then_ hk (fun k hk => Or.inl (Or.inl hk)), h.ge, h.lt, ⟨up, hr, hu⟩, h.map.keep (hk.2 bm (map_lt h.map) (map_ne h.map hu0.u)), fun v cs s hm => ?_, h.inj, ?_, h.xap⟩
  · obtain ⟨a, b, c, d⟩ := h.parts v cs s hm
    exact ⟨a, b, blk_kept c hk (fun he => by have := h.lt.1; omega), own_move d (fun k hk2 => hk.2 k (own_lt d k hk2) (fun he => by have := own_base d k hk2; have := h.lt.1; omega))⟩
  · exact own_move h.x (fun k hk2 => hk.2 k (own_lt h.x k hk2) (fun he => by have := own_base h.x k hk2; have := h.lt.1; omega))
theorem P2.withRow (h : P2 W W4 gu gf bm nm R m pB vB vx xs w) (hb : Below w.heap.size w w2) {v : Value} {zs : List Int} (hx : w2.ownsRow w.heap.size 3 1 v zs.length (nums .i64 zs)) : P2 W W4 gu gf bm nm R m pB vB v zs w2 := by
  have h2 := h.bg hb
  refine ⟨h2.below, h2.kept, h2.ge, h2.lt, h2.uf, h2.map, h2.parts, h2.inj, own_weaken hx h.kept.1, fun u hu => ?_⟩
  obtain ⟨cs, s, hm⟩ : ∃ cs s, m u = some (cs, s) := by
    cases hm : m u with
    | none => rw [hm] at hu; cases hu
    | some q => exact ⟨q.1, q.2, rfl⟩
  obtain ⟨_, _, _, d⟩ := h.parts u cs s hm
  exact own_apart' (n := w.heap.size) (fun k hk => own_base hx k hk) (fun k hk => own_lt d k hk)
/-- A component begins. -/
theorem P2.create (h : P2 W W4 gu gf bm nm R m pB vB vx xs w) {v : Nat} (hv : v < 129) (hn : nm < 1000) (hm : m v = none) :
    ∃ w2, (Instr.mapUpdate 74 (.map (some bm)) (.int .i64 (v : Int)) (.pointer (some ⟨w.heap.size, 0, none⟩))).run Try.prog (w.alloc (.cells #[.int .u64 0, .int .u64 0, .slice none 0 0] 68)) = .ok () w2 ∧
      P2 W W4 gu gf bm (nm + 1) R (fun i => if i = v then some ([], (0, 0)) else m i) (fun i => if i = v then w.heap.size else pB i) (fun i => if i = v then .slice none 0 0 else vB i) vx xs w2 := by
  have ha := h.bg (below_alloc (Below.refl w.heap.size w) (.cells #[.int .u64 0, .int .u64 0, .slice none 0 0] 68))
  have hp := blk_new w (.cells #[.int .u64 0, .int .u64 0, .slice none 0 0] 68)
  obtain ⟨w2, hrun, hmap, hg⟩ := ha.map.update (p := w.heap.size) hv (by unfold maxLen; omega)
  have hbm := h.lt.2.2
  have hWw := h.kept.1
  refine ⟨w2, hrun, Below.grown ha.below hg ha.below.size (fun k hk => by injection hk with hk; have := h.ge.2.1; omega), Kept.of_grown hg ha.kept (fun k hk => Or.inl (by injection hk with hk; exact Or.inr hk.symm)), h.ge, h.lt, ?_, ?_, fun u cs s hu => ?_, fun u u' h1 h2 hne => ?_, ?_, fun u hu => ?_⟩
  · obtain ⟨up, a, b⟩ := ha.uf
    exact ⟨up, a, ⟨blk_grown b.u hg (by intro he; injection he with he; exact map_ne ha.map b.u he.symm), blk_grown b.f hg (by intro he; injection he with he; exact map_ne ha.map b.f he.symm)⟩⟩
  · obtain ⟨D, a, b, c⟩ := hmap
    refine ⟨D, a, b, fun i hi => (c i hi).trans (congrArg litOf ?_)⟩
    by_cases e : i = v
    · subst e; simp
    · simp [e]
  · by_cases e : u = v
    · subst e
      simp only [if_true, Option.some.injEq, Prod.mk.injEq] at hu
      obtain ⟨rfl, rfl⟩ := hu
      simp only [if_true]
      exact ⟨SOk.zero, hWw, blk_grown hp hg (by intro he; injection he with he; omega), own_nil _ _ _ _⟩
    · simp only [if_neg e] at hu ⊢
      obtain ⟨a, b, c, d⟩ := ha.parts u cs s hu
      exact ⟨a, b, blk_grown c hg (by intro he; injection he with he; omega), own_other d hg (by
        cases hb : (vB u).ownBlock with
        | none => exact Or.inl rfl
        | some k => exact Or.inr (by intro he; injection he with he; have := own_base d k hb; omega))⟩
  · by_cases e : u = v
    · by_cases e' : u' = v
      · omega
      · simp only [if_pos e, if_neg e'] at h1 h2 ⊢
        refine ⟨?_, Or.inl rfl⟩
        cases hm' : m u' with
        | none => rw [hm'] at h2; cases h2
        | some q => have := blk_lt (h.parts u' q.1 q.2 hm').2.2.1; omega
    · by_cases e' : u' = v
      · simp only [if_neg e, if_pos e'] at h1 h2 ⊢
        refine ⟨?_, ?_⟩
        · cases hm' : m u with
          | none => rw [hm'] at h1; cases h1
          | some q => have := blk_lt (h.parts u q.1 q.2 hm').2.2.1; omega
        · cases hb : (vB u).ownBlock with
          | none => exact Or.inl rfl
          | some k => exact Or.inr (by intro he; cases he)
      · simp only [if_neg e, if_neg e'] at h1 h2 ⊢
        exact h.inj u u' h1 h2 hne
  · refine own_other ha.x hg ?_
    cases hb : vx.ownBlock with
    | none => exact Or.inl rfl
    | some k => exact Or.inr (by intro he; injection he with he; have := own_base ha.x k hb; omega)
  · by_cases e : u = v
    · simp only [if_pos e]
      cases hb : vx.ownBlock with
      | none => exact Or.inl rfl
      | some k => exact Or.inr (by intro he; cases he)
    · simp only [if_neg e] at hu ⊢
      exact h.xap u hu
theorem some_of {v : Nat} (h : (m v).isSome = true) : ∃ cs s, m v = some (cs, s) := by
  cases hm : m v with
  | none => rw [hm] at h; cases h
  | some q => exact ⟨q.1, q.2, rfl⟩
/-- A number more in a component's clauses. -/
theorem P2.append (h : P2 W W4 gu gf bm nm R m pB vB vx xs w) {v : Nat} {cs : List Int} {s : Nat × Nat} (hm : m v = some (cs, s)) {i : Int} {u : Value} (ho : w2.ownsRow W4.heap.size 3 1 u (cs.length + 1) (nums .i64 (cs ++ [i]))) (hg : w.grownBy w2 (vB v).ownBlock) (hat : u.ownBlock = (vB v).ownBlock ∨ ∃ b, u.ownBlock = some b ∧ w.heap.size ≤ b) :
    P2 W W4 gu gf bm nm R (fun i' => if i' = v then some (cs ++ [i], s) else m i') pB (fun i' => if i' = v then u else vB i') vx xs (w2.setCell ⟨pB v, 2, none⟩ u) := by
  obtain ⟨hs, hp1, hp2, hrow⟩ := h.parts v cs s hm
  have hmv : (m v).isSome = true := by rw [hm]; rfl
  have hWw := h.kept.1
  have hold : ∀ k, (vB v).ownBlock = some k → W4.heap.size ≤ k := fun k hk => own_base hrow k hk
  have hfar : ∀ g, g < W4.heap.size → some g ≠ (vB v).ownBlock := fun g hg he => by have := hold g he.symm; omega
  have hp3 : w2.heap[pB v]? = some (.cells #[.int .u64 (s.1 : Int), .int .u64 (s.2 : Int), vB v] 68 (0, 0)) := blk_grown hp2 hg (own_ne hrow hp2 (by decide))
  obtain ⟨up, hr, hu⟩ := h.uf
  have hu2 : UF w2 gu gf up := ⟨blk_grown hu.u hg (hfar _ h.lt.1), blk_grown hu.f hg (hfar _ h.lt.2.1)⟩
  have hmap2 : OfMap w2 bm nm (fun v => (m v).map fun _ => pB v) := h.map.keep (hg.block _ (map_lt h.map) (hfar _ h.lt.2.2))
  refine ⟨(Below.grown h.below hg h.below.size (fun k hk => by have := hold k hk; have := h.ge.2.2; omega)).setCell (by show _ ≤ pB v; have := h.ge.2.2; omega) _, (Kept.of_grown hg h.kept (fun k hk => Or.inr (hold k hk))).setCell (Or.inr hp1) _, h.ge, h.lt, ⟨up, hr, ⟨blk_far hu2.u (blk_ne hu2.u hp3 (by decide)) _, blk_far hu2.f (blk_ne hu2.f hp3 (by decide)) _⟩⟩, ?_, fun t cs' s' ht => ?_, fun t t' h1 h2 hne => ?_, ?_, fun t ht => ?_⟩
  · have hk : OfMap (w2.setCell ⟨pB v, 2, none⟩ u) bm nm (fun v => (m v).map fun _ => pB v) := hmap2.keep (Below.heap_setCell w2 ⟨pB v, 2, none⟩ u bm (map_ne hmap2 hp3))
    obtain ⟨D, a, b, c⟩ := hk
    refine ⟨D, a, b, fun j hj => (c j hj).trans (congrArg litOf ?_)⟩
    by_cases e : j = v
    · subst e; simp [hm]
    · simp [e]
  · by_cases e : t = v
    · subst e
      simp only [if_true, Option.some.injEq, Prod.mk.injEq] at ht
      obtain ⟨rfl, rfl⟩ := ht
      simp only [if_true]
      refine ⟨hs, hp1, blk_put hp3 2 _ rfl, ?_⟩
      rw [List.length_append]
      exact own_setCell ho (own_ne ho hp3 (by decide)) _
    · simp only [if_neg e] at ht ⊢
      obtain ⟨a, b, c, d⟩ := h.parts t cs' s' ht
      have hts : (m t).isSome = true := by rw [ht]; rfl
      obtain ⟨i1, i2⟩ := h.inj t v hts hmv e
      have c2 := blk_grown c hg (own_ne hrow c (by decide))
      have d2 := own_other d hg i2
      exact ⟨a, b, blk_far c2 (by show pB t ≠ pB v; exact i1) _, own_setCell d2 (own_ne d2 hp3 (by decide)) _⟩
  · have key : ∀ t, (m t).isSome = true → t ≠ v → (vB t).ownBlock = none ∨ (vB t).ownBlock ≠ u.ownBlock := fun t ht hne => by
      obtain ⟨cs', s', hm'⟩ := some_of ht
      have d := (h.parts t cs' s' hm').2.2.2
      rcases hat with e | ⟨b, e, hb⟩
      · rw [e]; exact (h.inj t v ht hmv hne).2
      · exact own_apart (n := w.heap.size) (fun k hk => own_lt d k hk) (fun k hk => by rw [e] at hk; injection hk with hk; omega)
    by_cases e : t = v
    · by_cases e' : t' = v
      · omega
      · simp only [if_pos e, if_neg e'] at h1 h2 ⊢
        refine ⟨e ▸ (h.inj v t' hmv h2 (fun h => e' h.symm)).1, ?_⟩
        rcases key t' h2 e' with hh | hh
        · cases hb : u.ownBlock with
          | none => exact Or.inl rfl
          | some k => exact Or.inr (by rw [hh]; simp)
        · exact Or.inr (Ne.symm hh)
    · by_cases e' : t' = v
      · simp only [if_neg e, if_pos e'] at h1 h2 ⊢
        exact ⟨e' ▸ (h.inj t v h1 hmv e).1, key t h1 e⟩
      · simp only [if_neg e, if_neg e'] at h1 h2 ⊢
        exact h.inj t t' h1 h2 hne
  · have hx2 := own_other h.x hg (h.xap v hmv)
    exact own_setCell hx2 (own_ne hx2 hp3 (by decide)) _
  · by_cases e : t = v
    · simp only [if_pos e]
      rcases hat with e2 | ⟨b, e2, hb⟩
      · rw [e2]; exact h.xap v hmv
      · exact own_apart (n := w.heap.size) (fun k hk => own_lt h.x k hk) (fun k hk => by rw [e2] at hk; injection hk with hk; omega)
    · simp only [if_neg e] at ht ⊢
      exact h.xap t ht
/-- A component's variables. -/
theorem P2.setS (h : P2 W W4 gu gf bm nm R m pB vB vx xs w) {v : Nat} {cs : List Int} {s s2 : Nat × Nat} (hm : m v = some (cs, s)) (hs2 : SOk s2) :
    P2 W W4 gu gf bm nm R (fun i' => if i' = v then some (cs, s2) else m i') pB vB vx xs ((w.setCell ⟨pB v, 0, none⟩ (.int .u64 (s2.1 : Int))).setCell ⟨pB v, 1, none⟩ (.int .u64 (s2.2 : Int))) := by
  obtain ⟨hs, hp1, hp2, hrow⟩ := h.parts v cs s hm
  have hmv : (m v).isSome = true := by rw [hm]; rfl
  have hWp : W.heap.size ≤ pB v := Nat.le_trans h.ge.2.2 hp1
  have hp3 := blk_put hp2 0 (.int .u64 (s2.1 : Int)) rfl
  obtain ⟨up, hr, hu⟩ := h.uf
  have nu := blk_ne hu.u hp2 (by decide)
  have nf := blk_ne hu.f hp2 (by decide)
  have nb := map_ne h.map hp2
  refine ⟨below_set (below_set h.below hWp) hWp, (h.kept.setCell (Or.inr hp1) _).setCell (Or.inr hp1) _, h.ge, h.lt, ⟨up, hr, ⟨blk_far (blk_far hu.u nu _) nu _, blk_far (blk_far hu.f nf _) nf _⟩⟩, ?_, fun t cs' s' ht => ?_, fun t t' h1 h2 hne => ?_, ?_, fun t ht => ?_⟩
  · have hk : OfMap ((w.setCell ⟨pB v, 0, none⟩ (.int .u64 (s2.1 : Int))).setCell ⟨pB v, 1, none⟩ (.int .u64 (s2.2 : Int))) bm nm (fun v => (m v).map fun _ => pB v) :=
      h.map.keep ((Below.heap_setCell _ ⟨pB v, 1, none⟩ _ bm nb).trans (Below.heap_setCell w ⟨pB v, 0, none⟩ _ bm nb))
    obtain ⟨D, a, b, c⟩ := hk
    refine ⟨D, a, b, fun j hj => (c j hj).trans (congrArg litOf ?_)⟩
    by_cases e : j = v
    · subst e; simp [hm]
    · simp [e]
  · by_cases e : t = v
    · subst e
      simp only [if_true, Option.some.injEq, Prod.mk.injEq] at ht
      obtain ⟨rfl, rfl⟩ := ht
      exact ⟨hs2, hp1, blk_put hp3 1 _ rfl, own_setCell (own_setCell hrow (own_ne hrow hp2 (by decide)) _) (own_ne hrow hp2 (by decide)) _⟩
    · simp only [if_neg e] at ht
      obtain ⟨a, b, c, d⟩ := h.parts t cs' s' ht
      have i1 := (h.inj t v (by rw [ht]; rfl) hmv e).1
      exact ⟨a, b, blk_far (blk_far c i1 _) i1 _, own_setCell (own_setCell d (own_ne d hp2 (by decide)) _) (own_ne d hp2 (by decide)) _⟩
  · have up1 : ∀ t, ((fun i' => if i' = v then some (cs, s2) else m i') t).isSome = true → (m t).isSome = true := fun t ht => by
      by_cases e : t = v
      · rw [e]; exact hmv
      · simpa [e] using ht
    exact h.inj t t' (up1 t h1) (up1 t' h2) hne
  · exact own_setCell (own_setCell h.x (own_ne h.x hp2 (by decide)) _) (own_ne h.x hp2 (by decide)) _
  · by_cases e : t = v
    · rw [e]; exact h.xap v hmv
    · simp only [if_neg e] at ht
      exact h.xap t ht
end
end Go.Proofs.Ytbnjbjcokkcfcaa.Sol
namespace Go.Proofs.Ytbnjbjcokkcfcaa.Sol
open Go.RowKit Go.Proofs.YtbnjbjcokkcfcaaW.PrintWords Go.Proofs.YtbnjbjcokkcfcaaW.PrintLast Go.Proofs.YtbnjbjcokkcfcaaW.PrintMore Go.Proofs.Ytbnjbjcokkcfcaa.PSearchOwn
set_option linter.unusedVariables false
set_option linter.unusedSimpArgs false
section
variable {W W4 w w2 : World} {gu gf bm nm : Nat} {R : Nat → Nat} {m : Comps} {pB : Nat → Nat} {vB : Nat → Value} {vx : Value} {xs : List Int}
theorem P2.look (h : P2 W W4 gu gf bm nm R m pB vB vx xs w) {v : Nat} (hv : v < 129) : (Instr.lookup 74 (.map (some bm)) (.int .i64 (v : Int)) false).run Try.prog w = .ok (ptrOf ((m v).map fun _ => pB v)) w := h.map.lookup hv
theorem P2.look1 (h : P2 W W4 gu gf bm nm R m pB vB vx xs w) {v : Nat} (hv : v < 129) {q : List Int × (Nat × Nat)} (hm : m v = some q) : (Instr.lookup 74 (.map (some bm)) (.int .i64 (v : Int)) false).run Try.prog w = .ok (.pointer (some ⟨pB v, 0, none⟩)) w := by
  have := h.look hv
  rw [hm] at this
  exact this
theorem P2.cellv (h : P2 W W4 gu gf bm nm R m pB vB vx xs w) {v : Nat} {cs : List Int} {s : Nat × Nat} (hm : m v = some (cs, s)) : w.cell? ⟨pB v, 2, none⟩ = some (vB v) := (blk_cell (h.parts v cs s hm).2.2.1 2).trans rfl
theorem P2.cells (h : P2 W W4 gu gf bm nm R m pB vB vx xs w) {v : Nat} {cs : List Int} {s : Nat × Nat} (hm : m v = some (cs, s)) : w.cell? ⟨pB v, 0, none⟩ = some (.int .u64 (s.1 : Int)) ∧ w.cell? ⟨pB v, 1, none⟩ = some (.int .u64 (s.2 : Int)) := ⟨(blk_cell (h.parts v cs s hm).2.2.1 0).trans rfl, (blk_cell (h.parts v cs s hm).2.2.1 1).trans rfl⟩
theorem P2.mid (h : P2 W W4 gu gf bm nm R m pB vB vx xs w) {v : Nat} (hv : v < 129) {cs : List Int} {s : Nat × Nat} (hm : m v = some (cs, s)) (hg : w.grownBy w2 (vB v).ownBlock) :
    (Instr.lookup 74 (.map (some bm)) (.int .i64 (v : Int)) false).run Try.prog w2 = .ok (.pointer (some ⟨pB v, 0, none⟩)) w2 ∧ w2.cell? ⟨pB v, 2, none⟩ = some (vB v) ∧ w2.frozen? ⟨pB v, 2, none⟩ = false := by
  obtain ⟨hs, hp1, hp2, hrow⟩ := h.parts v cs s hm
  have hp3 := blk_grown hp2 hg (own_ne hrow hp2 (by decide))
  have hmap2 : OfMap w2 bm nm (fun v => (m v).map fun _ => pB v) := h.map.keep (hg.block _ (map_lt h.map) (fun he => by
    have := own_base hrow bm he.symm; have := h.lt.2.2; omega))
  refine ⟨?_, (blk_cell hp3 2).trans rfl, blk_frozen hp3 2⟩
  have := hmap2.lookup hv
  simp only [hm] at this
  exact this
theorem P2.cellk {A5 : Option Addr} {c5 : Nat} (h : P2 W W4 gu gf bm nm R m pB vB (.slice A5 xs.length c5) xs w) (k : Nat) (hk : k < xs.length) : ∃ ad, A5 = some ad ∧ w.cell? (ad.add k) = some (.int .i64 (xs.getD k 0)) := by
  obtain ⟨A, c, e, hC, _⟩ := own_C h.x
  injection e with e1 e2 e3
  subst e1
  exact rd_int hC k hk
theorem P2.cell0 {a5 : Addr} {c5 : Nat} (h : P2 W W4 gu gf bm nm R m pB vB (.slice (some a5) xs.length c5) xs w) (hne : xs ≠ []) : w.cell? a5 = some (.int .i64 (head0 xs)) := by
  obtain ⟨x, r, rfl⟩ := List.exists_cons_of_ne_nil hne
  obtain ⟨ad, e, hc⟩ := h.cellk 0 (by simp)
  injection e with e
  subst e
  exact hc
theorem P2.noRow (h : P2 W W4 gu gf bm nm R m pB vB vx xs w) : P2 W W4 gu gf bm nm R m pB vB (.slice none 0 0) [] w :=
  ⟨h.below, h.kept, h.ge, h.lt, h.uf, h.map, h.parts, h.inj, own_nil _ _ _ _, fun _ _ => Or.inl rfl⟩
theorem comps_set (m : Comps) (v : Nat) (a b : List Int × (Nat × Nat)) : (fun i' => if i' = v then some b else (if i' = v then some a else m i')) = fun i' => if i' = v then some b else m i' := by
  funext i
  by_cases h : i = v
  · simp [h]
  · simp [h]
end
/-- What stays through the third loop. -/
structure Z2 (W W4 : World) (n : Nat) (AL : Option Addr) (cL : Nat) (L : List (List Int)) (v : Value) (ys : List Int) (v12 : Value) (first : List Int) (v4 : Value) (es : List Part) (bF : Nat) (free : Nat × Nat) (gu bm : Nat) : Prop where
  th : W4.heap[W.heap.size]? = some (.cells #[.int .i64 (n : Int), .slice AL L.length cL] 24 (0, 0))
  yr : W4.ownsRow W.heap.size 3 1 v ys.length (nums .i64 ys)
  f : W4.ownsRow W.heap.size 3 1 v12 first.length (nums .i64 first)
  l : KP.R 68 W4 W.heap.size (fun k => k ≠ gu ∧ k ≠ bm) v4 es
  fr : W4.heap[bF]? = some (.cells #[.int .u64 (free.1 : Int), .int .u64 (free.2 : Int)] 34 (0, 0))
  gu : ∃ cs, W4.heap[gu]? = some (.cells cs 72 (0, 0))
  bm : ∃ nm f, OfMap W4 bm nm f
theorem Z2.at {W W4 w : World} {n : Nat} {AL : Option Addr} {cL : Nat} {L : List (List Int)} {v : Value} {ys : List Int} {v12 : Value} {first : List Int} {v4 : Value} {es : List Part} {bF : Nat} {free : Nat × Nat} {gu bm : Nat}
    (h : Z2 W W4 n AL cL L v ys v12 first v4 es bF free gu bm) (hk : Kept W4 w (fun k => k = gu ∨ k = bm)) :
    w.heap[W.heap.size]? = some (.cells #[.int .i64 (n : Int), .slice AL L.length cL] 24 (0, 0)) ∧ w.ownsRow W.heap.size 3 1 v ys.length (nums .i64 ys) ∧ w.ownsRow W.heap.size 3 1 v12 first.length (nums .i64 first) ∧ KP.R 68 w W.heap.size (fun _ => True) v4 es ∧ w.heap[bF]? = some (.cells #[.int .u64 (free.1 : Int), .int .u64 (free.2 : Int)] 34 (0, 0)) := by
  obtain ⟨cs, hgu⟩ := h.gu
  obtain ⟨nm, f, hbm⟩ := h.bm
  have ne : ∀ {g : Nat} {cs' : Array Value} {t : TypeId}, W4.heap[g]? = some (.cells cs' t (0, 0)) → t ≠ 72 → ¬ (g = gu ∨ g = bm) := fun hg ht he => he.elim (blk_ne hg hgu ht) (fun e => map_ne hbm hg e.symm)
  have row : ∀ {v : Value} {k : Nat} {zs : List Int}, W4.ownsRow W.heap.size 3 1 v k (nums .i64 zs) → w.ownsRow W.heap.size 3 1 v k (nums .i64 zs) := fun hr => own_move hr (fun k hk2 => by
    obtain ⟨cells, hc⟩ := own_typed hr k hk2
    exact hk.2 k (own_lt hr k hk2) (ne hc (by decide)))
  exact ⟨blk_kept h.th hk (ne h.th (by decide)), row h.yr, row h.f, Kd.R_mono (Kd.R_step h.l (fun k hk2 hlt => hk.2 k hlt (fun he => he.elim hk2.1 hk2.2))) (fun _ _ => trivial), blk_kept h.fr hk (ne h.fr (by decide))⟩
theorem fold1_first (n : Nat) (ys : List Int) (L : List (List Int)) (i : Nat) : ∀ x ∈ (fold1 n ys L i).first, ∃ j : Nat, j < i ∧ x = (j : Int) ∧ leftB (L.getD j []) ys = true ∧ restF (L.getD j []) ys ≠ [] := by
  induction i with
  | zero => intro x hx; cases hx
  | succ i ih =>
    intro x hx
    have hx : x ∈ (step1 ys (fold1 n ys L i) i (L.getD i [])).first := hx
    unfold step1 at hx
    split at hx
    · rename_i h1
      split at hx
      · obtain ⟨j, a, b⟩ := ih x hx
        exact ⟨j, by omega, b⟩
      · rename_i h2
        rcases List.mem_append.1 hx with hx | hx
        · obtain ⟨j, a, b⟩ := ih x hx
          exact ⟨j, by omega, b⟩
        · rw [List.mem_singleton] at hx
          exact ⟨i, by omega, hx, h1, h2⟩
    · obtain ⟨j, a, b⟩ := ih x hx
      exact ⟨j, by omega, b⟩
theorem fold2_snoc (ys : List Int) (L : List (List Int)) (R : Nat → Nat) (l : List Int) (x : Int) : fold2 ys L R (l ++ [x]) = step2 ys L R (fold2 ys L R l) x := by unfold fold2; rw [List.foldl_append]; rfl
theorem moreAll_snoc (l : List Int) (x : Int) (s : Nat × Nat) : moreAll (l ++ [x]) s = withS (moreAll l s) (vn x) := by unfold moreAll; rw [List.foldl_append]; rfl
theorem with_lit (w : World) (s : Nat × Nat) (x : Int) (hs : SOk s) (hx : varOf x ≠ 0) : Calls Try.prog 45 #[setV2 s, .int .i64 (varOf x)] w fun e w' => e = .returned (setV2 (withS s (vn x))) ∧ Below w.heap.size w w' := by
  have h2 := varOf_le x
  have := with_calls s (vn x) (by unfold vn; omega) (by unfold vn; omega) w hs.1 hs.2
  rwa [show ((vn x : Nat) : Int) = varOf x by unfold vn; omega] at this
theorem fold2_len (ys : List Int) (L : List (List Int)) (R : Nat → Nat) : ∀ (l : List Int) (m : Comps) (b : Nat), (∀ v q, m v = some q → q.1.length ≤ b) → ∀ v q, l.foldl (step2 ys L R) m v = some q → q.1.length ≤ b + l.length
  | [], m, b, h, v, q, hq => h v q hq
  | x :: l, m, b, h, v, q, hq => by
    have := fold2_len ys L R l (step2 ys L R m x) (b + 1) (fun v q hq => by
      unfold step2 at hq
      split at hq
      · injection hq with hq
        rw [← hq]
        cases hm : m v with
        | none => simp
        | some p => have := h v p hm; simp; omega
      · have := h v q hq; omega) v q hq
    rw [List.length_cons]; omega
theorem fold2_getD (ys : List Int) (L : List (List Int)) (R : Nat → Nat) (l : List Int) (v : Nat) : ((fold2 ys L R l v).getD ([], (0, 0))).1.length ≤ l.length := by
  cases h : fold2 ys L R l v with
  | none => simp
  | some q =>
    have := fold2_len ys L R l (fun _ => none) 0 (fun _ _ h => by cases h) v q h
    simp; omega
end Go.Proofs.Ytbnjbjcokkcfcaa.Sol
namespace Go.Proofs.Ytbnjbjcokkcfcaa.Sol
open Go.RowKit Go.Proofs.YtbnjbjcokkcfcaaW.PrintWords Go.Proofs.YtbnjbjcokkcfcaaW.PrintLast Go.Proofs.YtbnjbjcokkcfcaaW.PrintMore Go.Proofs.Ytbnjbjcokkcfcaa.PSearchOwn
set_option linter.unusedVariables false
set_option linter.unusedSimpArgs false
structure P3 (W : World) (bF : Nat) (free : Nat × Nat) (bm nm : Nat) (m : Comps) (pB : Nat → Nat) (vB : Nat → Value) (v4 : Value) (es : List Part) (w : World) : Prop where
  below : Below W.heap.size W w
  ge : W.heap.size ≤ bF
  fr : w.heap[bF]? = some (.cells #[.int .u64 (free.1 : Int), .int .u64 (free.2 : Int)] 34 (0, 0))
  map : OfMap w bm nm (fun v => (m v).map fun _ => pB v)
  parts : ∀ v cs s, m v = some (cs, s) → w.heap[pB v]? = some (.cells #[.int .u64 (s.1 : Int), .int .u64 (s.2 : Int), vB v] 68 (0, 0)) ∧ w.ownsRow W.heap.size 3 1 (vB v) cs.length (nums .i64 cs) ∧ some (pB v) ≠ v4.ownBlock
  l : KP.R 68 w W.heap.size (fun _ => True) v4 es
section
variable {W w w2 : World} {bF bm nm : Nat} {free : Nat × Nat} {m : Comps} {pB : Nat → Nat} {vB : Nat → Value} {v4 : Value} {es : List Part} {ops : Array Oper} {rest : List Oper} {o : Oper} {a : Act} {Q : Exit → Act → World → Prop}
theorem P3.start {W4 : World} {gu gf : Nat} {R : Nat → Nat} {vx : Value} {xs : List Int} {n : Nat} {AL : Option Addr} {cL : Nat} {L : List (List Int)} {v : Value} {ys : List Int} {v12 : Value} {first : List Int}
    (h : P2 W W4 gu gf bm nm R m pB vB vx xs w) (hz : Z2 W W4 n AL cL L v ys v12 first v4 es bF free gu bm) (hge : W.heap.size ≤ bF) : P3 W bF free bm nm m pB vB v4 es w := by
  obtain ⟨a, b, c, d, e⟩ := hz.at h.kept
  obtain ⟨inner, ho⟩ := Kd.R_own hz.l
  refine ⟨h.below, hge, e, h.map, fun v cs s hm => ?_, d⟩
  obtain ⟨_, p1, p2, p3⟩ := h.parts v cs s hm
  exact ⟨p2, own_weaken p3 h.ge.2.2, fun he => by have := own_lt ho _ he.symm; omega⟩
theorem P3.append (h : P3 W bF free bm nm m pB vB v4 es w) {p : Part} {u : Value} (hr : KP.R 68 w2 W.heap.size (fun _ => True) u (es ++ [p])) (hg : w.grownBy w2 v4.ownBlock) (hat : u.ownBlock = v4.ownBlock ∨ ∃ b, u.ownBlock = some b ∧ w.heap.size ≤ b) : P3 W bF free bm nm m pB vB u (es ++ [p]) w2 := by
  obtain ⟨inner, ho⟩ := Kd.R_own h.l
  refine ⟨Below.grown h.below hg h.below.size (fun k hk => own_base ho k hk), h.ge, blk_grown h.fr hg (own_ne ho h.fr (by decide)), h.map.keep (hg.block _ (map_lt h.map) (fun he => ?_)), fun v cs s hm => ?_, hr⟩
  · obtain ⟨cells, hc⟩ := own_typed ho bm he.symm
    exact map_ne h.map hc rfl
  · obtain ⟨a, b, c⟩ := h.parts v cs s hm
    refine ⟨blk_grown a hg c, own_other b hg (own_type_ne b ho (by decide)), ?_⟩
    rcases hat with e | ⟨k, e, hk⟩
    · rw [e]; exact c
    · rw [e]; intro he; injection he with he; have := blk_lt a; omega
theorem P3.look (h : P3 W bF free bm nm m pB vB v4 es w) {v : Nat} (hv : v < 129) : (Instr.lookup 74 (.map (some bm)) (.int .i64 (v : Int)) false).run Try.prog w = .ok (ptrOf ((m v).map fun _ => pB v)) w := h.map.lookup hv
theorem part3_wp (h : P3 W bF free bm nm m pB vB v4 es w) {v : Nat} {cs : List Int} {sS : Nat × Nat} (hm : m v = some (cs, sS)) (hes : es.length ≤ 4096) (hgd : o.guard = none) (s x : Operand) (ho : o.op = .call { callee := .builtin .append, args := #[s, x], argTypes := #[40, 40] }) (hs : a.eval s = v4) (hx : a.eval x = .slice (some ⟨w.heap.size, 0, none⟩) 1 1)
    (K : ∀ u w2, P3 W bF free bm nm m pB vB u (es ++ [(sS, cs)]) w2 → wpList Try.prog ops Q rest (a.put o.dst u) w2) :
    wpList Try.prog ops Q (o :: rest) a (w.alloc (.cells #[.int .u64 (sS.1 : Int), .int .u64 (sS.2 : Int), vB v] 68)) := by
  obtain ⟨p1, p2, p3⟩ := h.parts v cs sS hm
  obtain ⟨inner, ho4⟩ := Kd.R_own h.l
  refine Kd.R_append KP (w0 := W) W.heap.size hgd s x 40 68 (.agg #[.int .u64 0, .int .u64 0, .slice none 0 0]) 40 ho Try.underlying40 info68 rfl (by decide) (by decide) v4 es (sS, cs) [.int .u64 (sS.1 : Int), .int .u64 (sS.2 : Int), vB v] (fun _ => True) (fun k => (vB v).ownBlock = some k) hs hx (KP_M (Kd.R_of_own p2 (fun k hk => hk))) (fun k hk => ⟨trivial, fun he => ?_⟩) (fun _ _ => trivial) h.l h.below h.below.size (by omega) ?_
  · rcases own_type_ne p2 ho4 (by decide) with e | e
    · rw [e] at hk; cases hk
    · exact e (by rw [hk]; exact he)
  · intro u w1 hr hb hg hat
    exact K u w1 (h.append hr hg hat)
end
theorem filterMap_range {α : Type} (f : Nat → Option α) (k : Nat) : (List.range (k + 1)).filterMap f = (List.range k).filterMap f ++ (match f k with | some x => [x] | none => []) := by
  rw [List.range_succ, List.filterMap_append]
  congr 1
  cases h : f k <;> simp [List.filterMap_cons, h]
theorem filterMap_len {α : Type} (f : Nat → Option α) (k : Nat) : ((List.range k).filterMap f).length ≤ k := by
  have := List.length_filterMap_le f (List.range k)
  rwa [List.length_range] at this
end Go.Proofs.Ytbnjbjcokkcfcaa.Sol
namespace Go.Proofs.Ytbnjbjcokkcfcaa.Sol
open Go.RowKit Go.Proofs.YtbnjbjcokkcfcaaW.PrintWords Go.Proofs.YtbnjbjcokkcfcaaW.PrintLast Go.Proofs.YtbnjbjcokkcfcaaW.PrintMore Go.Proofs.Ytbnjbjcokkcfcaa.PSearchOwn
set_option linter.unusedVariables false
set_option linter.unusedSimpArgs false
/-- What Split leaves, of valid arguments. -/
def SplitDone (W : World) (n : Nat) (L : List (List Int)) (l : List Int) (e : Ending) (w' : World) : Prop := ∃ ys, Tidy ys l ∧ SplitPost W true (splitF n L ys) e w'
theorem zero72 : Try.zeroCells72 = upC (fun _ => 0) := by kernel_rfl
/-- What stays through the loops. -/
structure Z (W W2 : World) (n : Nat) (AL : Option Addr) (cL : Nat) (L : List (List Int)) (v : Value) (ys : List Int) (bF gu : Nat) : Prop where
  th : W2.heap[W.heap.size]? = some (.cells #[.int .i64 (n : Int), .slice AL L.length cL] 24 (0, 0))
  yr : W2.ownsRow W.heap.size 3 1 v ys.length (nums .i64 ys)
  fr : ∃ cs, W2.heap[bF]? = some (.cells cs 34 (0, 0))
  gu : ∃ cs, W2.heap[gu]? = some (.cells cs 72 (0, 0))
theorem Z.th' {W W2 w : World} {n : Nat} {AL : Option Addr} {cL : Nat} {L : List (List Int)} {v : Value} {ys : List Int} {bF gu : Nat} (h : Z W W2 n AL cL L v ys bF gu) (hk : Kept W2 w (fun k => k = bF ∨ k = gu)) : w.heap[W.heap.size]? = some (.cells #[.int .i64 (n : Int), .slice AL L.length cL] 24 (0, 0)) := by
  obtain ⟨cs, h1⟩ := h.fr
  obtain ⟨cs2, h2⟩ := h.gu
  exact blk_kept h.th hk (fun he => he.elim (blk_ne h.th h1 (by decide)) (blk_ne h.th h2 (by decide)))
theorem Z.row {W W2 w : World} {n : Nat} {AL : Option Addr} {cL : Nat} {L : List (List Int)} {v : Value} {ys : List Int} {bF gu : Nat} (h : Z W W2 n AL cL L v ys bF gu) (hk : Kept W2 w (fun k => k = bF ∨ k = gu)) : w.ownsRow W.heap.size 3 1 v ys.length (nums .i64 ys) := by
  obtain ⟨cs, h1⟩ := h.fr
  obtain ⟨cs2, h2⟩ := h.gu
  refine own_move h.yr (fun k hk2 => hk.2 k (own_lt h.yr k hk2) (fun he => he.elim (fun he => ?_) (fun he => ?_)))
  · subst he; exact own_ne h.yr h1 (by decide) hk2.symm
  · subst he; exact own_ne h.yr h2 (by decide) hk2.symm
theorem Z.C {W W2 w : World} {n : Nat} {AL : Option Addr} {cL : Nat} {L : List (List Int)} {A : Option Addr} {c : Nat} {ys : List Int} {bF gu : Nat} (h : Z W W2 n AL cL L (.slice A ys.length c) ys bF gu) (hk : Kept W2 w (fun k => k = bF ∨ k = gu)) : (Kd.int .i64).C w A ys.length ys := by
  obtain ⟨A2, c2, e, h1, _⟩ := own_C (h.row hk)
  injection e with e1 e2 e3
  subst e1
  exact h1
theorem rooted0 : Rooted (fun _ => 0) id := ⟨fun _ _ _ => rfl, fun _ _ h => absurd rfl h⟩
theorem lessAll_snoc (l : List Int) (x : Int) (s : Nat × Nat) : lessAll (l ++ [x]) s = withoutS (lessAll l s) (vn x) := by unfold lessAll; rw [List.foldl_append]; rfl
theorem fold1_len (n : Nat) (ys : List Int) (L : List (List Int)) (i : Nat) : (fold1 n ys L i).es.length ≤ i ∧ (fold1 n ys L i).first.length ≤ i := by
  induction i with
  | zero => exact ⟨Nat.le_refl _, Nat.le_refl _⟩
  | succ i ih =>
    show (step1 ys (fold1 n ys L i) i (L.getD i [])).es.length ≤ i + 1 ∧ (step1 ys (fold1 n ys L i) i (L.getD i [])).first.length ≤ i + 1
    unfold step1
    split
    · split
      · simp only [List.length_append, List.length_singleton]; omega
      · simp only [List.length_append, List.length_singleton]; omega
    · omega
theorem without_lit (w : World) (s : Nat × Nat) (x : Int) (hs : SOk s) (hx : varOf x ≠ 0) : Calls Try.prog 43 #[setV2 s, .int .i64 (varOf x)] w fun e w' => e = .returned (setV2 (withoutS s (vn x))) ∧ Below w.heap.size w w' := by
  have h2 := varOf_le x
  have := without_calls s (vn x) (by unfold vn; omega) (by unfold vn; omega) w hs
  rwa [show ((vn x : Nat) : Int) = varOf x by unfold vn; omega] at this
def q15r11T : Bool × List (List Nat × List Nat) := (true, [([], []), ([], []), ([1], [1]), ([0, 2, 2], [0, 2]), ([3, 3, 0, 1, 2, 3], [3])])
def q15r11B : List Nat := [0, 0, 2, 7, 15]
theorem q15r11tab : rtab .any (opsOf Try.f15 11) = q15r11T := by kernel_rfl
theorem q15r11bits : waitsOk q15r11T.2 q15r11B = true := by kernel_rfl
def q15r26T : Bool × List (List Nat × List Nat) := (true, [([], []), ([], []), ([1], [1]), ([0, 2, 2], [0, 2]), ([3, 3, 0, 1, 2, 3], [3])])
def q15r26B : List Nat := [0, 0, 2, 7, 15]
theorem q15r26tab : rtab .any (opsOf Try.f15 26) = q15r26T := by kernel_rfl
theorem q15r26bits : waitsOk q15r26T.2 q15r26B = true := by kernel_rfl
def q15r27T : Bool × List (List Nat × List Nat) := (true, [([], []), ([], []), ([1], [1]), ([2], [2]), ([3], [3]), ([0, 4, 4], [0, 4]), ([], []), ([], []), ([7, 5], [7]), ([6, 8, 8], [6, 8]), ([5, 9, 0, 1, 2, 3, 4, 5], [5]), ([9, 10, 0, 1, 2, 3, 4, 5, 6, 7, 8, 9, 10], [9])])
def q15r27B : List Nat := [0, 0, 2, 6, 14, 31, 0, 0, 191, 511, 1023, 2047]
theorem q15r27tab : rtab .any (opsOf Try.f15 27) = q15r27T := by kernel_rfl
theorem q15r27bits : waitsOk q15r27T.2 q15r27B = true := by kernel_rfl
def q15r36T : Bool × List (List Nat × List Nat) := (true, [([], []), ([], []), ([1], [1]), ([2], [2]), ([3], [3]), ([0, 4, 4], [0, 4]), ([5, 5, 0, 1, 2, 3, 4, 5], [5])])
def q15r36B : List Nat := [0, 0, 2, 6, 14, 31, 63]
theorem q15r36tab : rtab .any (opsOf Try.f15 36) = q15r36T := by kernel_rfl
theorem q15r36bits : waitsOk q15r36T.2 q15r36B = true := by kernel_rfl
def q15r39T : Bool × List (List Nat × List Nat) := (true, [([], []), ([], []), ([0, 1], [0, 1]), ([], []), ([], []), ([3, 4], [3, 4]), ([5], [5]), ([6], [6]), ([7], [7]), ([], []), ([9], [9]), ([8, 10], [8, 10]), ([2, 0, 1, 2, 3, 4, 5, 6, 7, 8, 9, 10, 11], [2]), ([12, 0, 1, 2, 3, 4, 5, 6, 7, 8, 9, 10, 11], [12]), ([13, 11, 11, 0, 1, 2, 3, 4, 5, 6, 7, 8, 9, 10, 11], [11, 13])])
def q15r39B : List Nat := [0, 0, 3, 0, 0, 24, 56, 120, 248, 0, 512, 2040, 4095, 8191, 16383]
theorem q15r39tab : rtab .any (opsOf Try.f15 39) = q15r39T := by kernel_rfl
theorem q15r39bits : waitsOk q15r39T.2 q15r39B = true := by kernel_rfl
def q15r43T : Bool × List (List Nat × List Nat) := (true, [([], []), ([], []), ([0, 1], [0, 1]), ([], []), ([], []), ([3, 4], [3, 4]), ([5], [5]), ([6], [6]), ([7], [7]), ([], []), ([9], [9]), ([8, 10, 10], [8, 10]), ([2, 0, 1, 2, 3, 4, 5, 6, 7, 8, 9, 10, 11], [2]), ([12, 0, 1, 2, 3, 4, 5, 6, 7, 8, 9, 10, 11], [12]), ([13, 11, 11, 0, 1, 2, 3, 4, 5, 6, 7, 8, 9, 10, 11], [11, 13])])
def q15r43B : List Nat := [0, 0, 3, 0, 0, 24, 56, 120, 248, 0, 512, 2040, 4095, 8191, 16383]
theorem q15r43tab : rtab .any (opsOf Try.f15 43) = q15r43T := by kernel_rfl
theorem q15r43bits : waitsOk q15r43T.2 q15r43B = true := by kernel_rfl
section
variable {N : Int} {W : World} {AL : Option Addr} {cL : Nat} {L : List (List Int)} {A : Option Addr} {c : Nat} {l : List Int}
set_option maxHeartbeats 4000000 in
set_option maxRecDepth 100000 in
theorem split_ok (hL : Kd.C (Kd.slice 3 (Kd.int .i64)) W AL L.length L) (hcL : L.length ≤ cL) (hA : (Kd.int .i64).C W A l.length l) (hc : l.length ≤ c) (hlen : l.length ≤ 4096) (hnil : A = none → c = 0) {n : Nat} (hN : N = n) (hn : n ≤ 128) (hok : okB N L l = true) (hLn : L.length ≤ 100) (hLits : ∀ c ∈ L, c.length ≤ 4096 ∧ Lits c) (hlits : Lits l) :
    Calls Try.prog 15 #[.agg #[.int .i64 N, .slice AL L.length cL], .slice A l.length c] W (SplitDone W n L l) := by
  subst hN
  have hb0 := below_alloc (below_alloc (Below.refl W.heap.size W) (.cells #[.int .i64 (n : Int), .slice AL L.length cL] 24)) (.cells #[.int .u64 0, .int .u64 0] 34)
  have HB0 := Aside0.mk hb0
  have HC := Aside0.mk (checked_calls (N := (n : Int)) (Kd.C_below hL hb0) hcL (Kd.C_below hA hb0) hc hlen hnil)
  have HL := Aside0.mk hL
  have HOk := Aside0.mk hok
  have HLs := Aside0.mk hLits
  have Hls := Aside0.mk hlits
  have hR0 := blk_new (W.alloc (.cells #[.int .i64 (n : Int), .slice AL L.length cL] 24)) (.cells #[.int .u64 0, .int .u64 0] 34)
  rw [show (W.alloc (.cells #[.int .i64 (n : Int), .slice AL L.length cL] 24)).heap.size = W.heap.size + 1 by simp] at hR0
  have HR0 := Aside0.mk hR0
  have HT0 := Aside0.mk (blk_alloc (blk_new W (.cells #[.int .i64 (n : Int), .slice AL L.length cL] 24)) (.cells #[.int .u64 0, .int .u64 0] 34))
  clear hL hA hok hR0 hb0 hLits hlits
  go_enter Try.func15, Try.ntmps15
  go_upto_region 7 with (go_at_call 41; refine (HC.out).mono ?_; rintro e w1 ⟨⟨v, ys, rfl, hy⟩, hb1⟩; have HY := Aside0.mk (hy HOk.out); rw [HOk.out]; have HB1 := Aside0.mk (below_step HB0.out hb1); have HR1 := Aside0.mk (blk_below HR0.out hb1); have HT1 := Aside0.mk (blk_below HT0.out hb1); clear hy hb1)
  have ht1 := blk_alloc (blk_alloc HT1.out (.cells Try.zeroCells72 72)) (.cells #[.func (.func 42) #[] #[.pointer (some ⟨w1.heap.size, 0, none⟩), .pointer (some ⟨w1.heap.size + 1, 0, none⟩)]] 55)
  have hr1 := blk_alloc (blk_alloc HR1.out (.cells Try.zeroCells72 72)) (.cells #[.func (.func 42) #[] #[.pointer (some ⟨w1.heap.size, 0, none⟩), .pointer (some ⟨w1.heap.size + 1, 0, none⟩)]] 55)
  have hb1 := below_alloc (below_alloc HB1.out (.cells Try.zeroCells72 72)) (.cells #[.func (.func 42) #[] #[.pointer (some ⟨w1.heap.size, 0, none⟩), .pointer (some ⟨w1.heap.size + 1, 0, none⟩)]] 55)
  have hy1 := own_alloc (own_alloc (own_less HY.out.1 HB0.out.size) (.cells Try.zeroCells72 72)) (.cells #[.func (.func 42) #[] #[.pointer (some ⟨w1.heap.size, 0, none⟩), .pointer (some ⟨w1.heap.size + 1, 0, none⟩)]] 55)
  have hu1 := blk_alloc (blk_new w1 (.cells Try.zeroCells72 72)) (.cells #[.func (.func 42) #[] #[.pointer (some ⟨w1.heap.size, 0, none⟩), .pointer (some ⟨w1.heap.size + 1, 0, none⟩)]] 55)
  have hf1 := blk_new (w1.alloc (.cells Try.zeroCells72 72)) (.cells #[.func (.func 42) #[] #[.pointer (some ⟨w1.heap.size, 0, none⟩), .pointer (some ⟨w1.heap.size + 1, 0, none⟩)]] 55)
  rw [show (w1.alloc (.cells Try.zeroCells72 72)).heap.size = w1.heap.size + 1 by simp] at hf1
  have HT2 := Aside0.mk ht1
  have HR2 := Aside0.mk hr1
  have HB2 := Aside0.mk hb1
  have HY2 := Aside0.mk hy1
  have HU2 := Aside0.mk (UF.mk (up := fun _ => 0) (by rw [← zero72]; exact hu1) hf1)
  have hys := Nat.le_trans HY.out.2.2.2 hlen
  have HTd := Aside0.mk HY.out.2
  have HGe := Aside0.mk HB1.out.size
  clear ht1 hr1 hb1 hy1 hu1 hf1 HT1 HR1 HB1 HY HR0 HT0 HB0 HC
  generalize (w1.alloc (Obj.cells Try.zeroCells72 72)).alloc (.cells #[.func (.func 42) #[] #[.pointer (some ⟨w1.heap.size, 0, none⟩), .pointer (some ⟨w1.heap.size + 1, 0, none⟩)]] 55) = wa at HT2 HR2 HB2 HY2 HU2 ⊢
  generalize w1.heap.size = gu at HU2 HGe ⊢
  obtain ⟨A3, c3, rfl, _, hc3, _, _⟩ := own_C HY2.out
  go_cut [] (fun wc => Aside0 (Q1 W wc (W.heap.size + 1) gu (gu + 1) id (allS n) [] [] (.slice none 0 0) (.slice none 0 0) (.slice none 0 0) [] wc) ∧ Aside0 (Z W wc n AL cL L (.slice A3 ys.length c3) ys (W.heap.size + 1) gu))
  case first =>
    have hc0 : wa.cell? ⟨W.heap.size, 0, none⟩ = some (.int .i64 (n : Int)) := (blk_cell HT2.out 0).trans rfl
    have HAll := Aside0.mk (all_calls24 n hn wa)
    go_wp2_with (go_at_call 24; refine (HAll.out).mono ?_; rintro e w2 ⟨rfl, hb2⟩; have HB3 := Aside0.mk hb2; have HR3 := Aside0.mk (blk_below HR2.out hb2); have hf0 := blk_frozen HR3.out 0; have hf1 := blk_frozen HR3.out 1; have hq0 : w2.cell? ⟨W.heap.size + 1, 0, none⟩ = some (.int .u64 0) := (blk_cell HR3.out 0).trans rfl; have hq1 : w2.cell? ⟨W.heap.size + 1, 1, none⟩ = some (.int .u64 0) := (blk_cell HR3.out 1).trans rfl; clear hb2)
    go_meet
    case rel =>
      have hb3 := below_step HB2.out HB3.out
      have ht3 := blk_below HT2.out HB3.out
      have hu3 := HU2.out.below HB3.out
      have hy3 := pw_own_below HY2.out HB3.out
      have ne0 : W.heap.size ≠ W.heap.size + 1 := by omega
      have nu : gu ≠ W.heap.size + 1 := blk_ne hu3.u HR3.out (by decide)
      have nf : gu + 1 ≠ W.heap.size + 1 := blk_ne hu3.f HR3.out (by decide)
      have hge := HGe.out
      have nb : some (W.heap.size + 1) ≠ (Value.slice A3 ys.length c3).ownBlock := own_ne hy3 HR3.out (by decide)
      have hr4 := blk_put (blk_put HR3.out 0 (.int .u64 ((allS n).1 : Int)) rfl) 1 (.int .u64 ((allS n).2 : Int)) rfl
      have hu4 : UF ((w2.setCell ⟨W.heap.size + 1, 0, none⟩ (.int .u64 ((allS n).1 : Int))).setCell ⟨W.heap.size + 1, 1, none⟩ (.int .u64 ((allS n).2 : Int))) gu (gu + 1) (fun _ => 0) := ⟨blk_far (blk_far hu3.u nu _) nu _, blk_far (blk_far hu3.f nf _) nf _⟩
      refine ⟨⟨Q1.start (below_set (below_set hb3 (Nat.le_succ _)) (Nat.le_succ _)) hr4 rooted0 hu4 ⟨Nat.le_succ _, hge⟩ (SOk.all n hn)⟩, ⟨⟨blk_far (blk_far ht3 ne0 _) ne0 _, own_setCell (own_setCell hy3 nb _) nb _, ⟨_, hr4⟩, ⟨_, hu4.u⟩⟩⟩⟩
  case rest =>
    obtain ⟨HQ0, HZ⟩ := hcut
    clear HT2 HR2 HB2 HY2 HU2
    have HWo := Aside0.mk without_lit
    have HVar := Aside0.mk (fun (x : Int) (w : World) => varL_calls (W := w) x)
    go_wp2
    go_loopg [46] ys.length (fun gk v46 w' => ∃ (i : Nat), i + gk = ys.length ∧ v46 = .int .i64 (i : Int) ∧ Aside0 (Q1 W wc (W.heap.size + 1) gu (gu + 1) id (lessAll (ys.take i) (allS n)) [] [] (.slice none 0 0) (.slice none 0 0) (.slice none 0 0) [] w'))
    case atStart => exact ⟨0, by omega, rfl, HQ0⟩
    case round =>
      clear HQ0
      obtain ⟨i, hig, rfl, HQ⟩ := hrel
      cases gk with
      | zero =>
        have hi : i = ys.length := by omega
        subst hi
        rw [List.take_length] at HQ
        have hi : ¬ ((ys.length : Int) < (ys.length : Int)) := by omega
        have hth := HZ.out.th' HQ.out.kept
        have hc1 : (wr.alloc (.map #[] 0)).cell? ⟨W.heap.size, 1, none⟩ = some (.slice AL L.length cL) := (blk_cell (blk_alloc hth _) 1).trans rfl
        have HTh := Aside0.mk hth
        clear hth
        obtain ⟨up, hup1, hup2⟩ := HQ.out.uf
        have hQ3 := Q1.start (below_alloc HQ.out.below (.map #[] 0)) (blk_alloc HQ.out.fr (.map #[] 0)) hup1 (hup2.below (below_alloc (Below.refl _ _) (.map #[] 0))) ⟨Nat.le_succ _, HGe.out⟩ HQ.out.s
        have hZ3 : Z W (wr.alloc (.map #[] 0)) n AL cL L (.slice A3 ys.length c3) ys (W.heap.size + 1) gu := ⟨blk_alloc HTh.out _, own_alloc (HZ.out.row HQ.out.kept) _, ⟨_, blk_alloc HQ.out.fr _⟩, ⟨_, blk_alloc hup2.u _⟩⟩
        have HQ3 := Aside0.mk hQ3
        have HZ3 := Aside0.mk hZ3
        have HM3 := Aside0.mk (OfMap.made wr)
        have HBge := Aside0.mk HQ.out.below.size
        have hmm := @run_makeMap Try.prog
        clear HQ HZ HTh hup1 hup2 up hQ3 hZ3
        go_wp2
        clear hmm hc1
        generalize wr.alloc (.map #[] 0) = w3 at HQ3 HZ3 HM3 ⊢
        generalize wr.heap.size = bm at HM3 HBge ⊢
        go_loopg [4, 12, 59] L.length (fun gk v4 v12 v59 w' => ∃ (i : Nat), i + gk = L.length ∧ v59 = .int .i64 (i : Int) ∧ Aside0 (Q1 W w3 (W.heap.size + 1) gu (gu + 1) (fold1 n ys L i).R (fold1 n ys L i).free (fold1 n ys L i).es (fold1 n ys L i).first v4 v12 (.slice none 0 0) [] w'))
        case atStart => exact ⟨0, by omega, rfl, HQ3⟩
        case round =>
          clear HQ3
          obtain ⟨i, hig, rfl, HQ⟩ := hrel
          cases gk with
          | zero =>
            have hi : i = L.length := by omega
            subst hi
            have hi2 : ¬ ((L.length : Int) < (L.length : Int)) := by omega
            obtain ⟨up, hup1, hup2⟩ := HQ.out.uf
            obtain ⟨csF, hF3⟩ := HZ3.out.fr
            obtain ⟨csU, hU3⟩ := HZ3.out.gu
            have hbm := HM3.out.keep (HQ.out.kept.2 bm (map_lt HM3.out) (fun he => he.elim (map_ne HM3.out hF3) (map_ne HM3.out hU3)))
            have hz2 : Z2 W wr n AL cL L (.slice A3 ys.length c3) ys u12 (fold1 n ys L L.length).first u4 ((fold1 n ys L L.length).es.map fun i => ((0, 0), [i])) (W.heap.size + 1) (fold1 n ys L L.length).free gu bm :=
              ⟨HZ3.out.th' HQ.out.kept, HZ3.out.row HQ.out.kept, own_weaken HQ.out.f HQ.out.ge.2.2, Kd.R_lower (Kd.R_mono (Kd.R_bound HQ.out.l) (fun k hk => ⟨by have := hk.2.1; have := HQ.out.gu0; omega, by have := hk.2.1; have := map_lt HM3.out; omega⟩)) HQ.out.ge.2.2, HQ.out.fr, ⟨_, hup2.u⟩, ⟨_, _, hbm⟩⟩
            have hP := P2.start HQ.out.below hup1 hup2 ⟨HQ.out.ge.2.1, HBge.out⟩ hbm
            have hff := fold1_first n ys L L.length
            have hfl := fold1_len n ys L L.length
            obtain ⟨s, hs⟩ : ∃ s, fold1 n ys L L.length = s := ⟨_, rfl⟩
            have HSf := Aside0.mk (show splitF n L ys = ((s.es.map fun i => ((0, 0), [i])) ++ (List.range (n + 1)).filterMap (fun v => (fold2 ys L s.R s.first v).map swp), s.free) from by unfold splitF; rw [hs])
            rw [hs] at hz2 hP hff hfl
            obtain ⟨Rf, freef, esf, firstf⟩ := s
            have hSok : SOk freef := by have := HQ.out.s; rw [hs] at this; exact this
            have HSok := Aside0.mk hSok
            have HZ4 := Aside0.mk hz2
            have HP4 := Aside0.mk hP
            have HFf := Aside0.mk hff
            have hfl2 : firstf.length ≤ 100 := by have := hfl.2; simp only at this; omega
            have hel2 : esf.length ≤ 100 := by have := hfl.1; simp only at this; omega
            clear HQ HZ3 HM3 hup1 hup2 hF3 hU3 hbm hz2 hP hff hfl hs hi2 HBge up hSok
            obtain ⟨A12, c12, rfl, _, hc12, _, _⟩ := own_C HZ4.out.f
            obtain ⟨w4, hw4⟩ : ∃ w4, w4 = wr := ⟨_, rfl⟩
            rw [← hw4] at HZ4 HP4
            have HW4 := Aside0.mk hw4
            clear hw4
            go_wp2
            rw [← HW4.out]
            clear HW4
            go_loopg [119] firstf.length (fun gk v119 w' => ∃ (k nm : Nat) (pB : Nat → Nat) (vB : Nat → Value), k + gk = firstf.length ∧ nm ≤ k ∧ v119 = .int .i64 (k : Int) ∧ Aside0 (P2 W w4 gu (gu + 1) bm nm Rf (fold2 ys L Rf (firstf.take k)) pB vB (.slice none 0 0) [] w'))
            case atStart => exact ⟨0, 0, _, _, by omega, Nat.le_refl _, rfl, HP4⟩
            case round =>
              clear HP4
              obtain ⟨k, nm, pB, vB, hkg, hnm, rfl, HP⟩ := hrel
              cases gk with
              | zero =>
                have hk : k = firstf.length := by omega
                subst hk
                rw [List.take_length] at HP
                have hk : ¬ ((firstf.length : Int) < (firstf.length : Int)) := by omega
                have hth := (HZ4.out.at HP.out.kept).1
                have hc0 : wr.cell? ⟨W.heap.size, 0, none⟩ = some (.int .i64 (n : Int)) := (blk_cell hth 0).trans rfl
                have HP5 := Aside0.mk (P3.start HP.out HZ4.out (Nat.le_succ _))
                clear HP HZ4 hth
                obtain ⟨mF, hmF⟩ : ∃ mF, fold2 ys L Rf firstf = mF := ⟨_, rfl⟩
                rw [hmF] at HP5 HSf
                clear hmF
                have hwn : wrap64 ((n : Int) + 1) = (n : Int) + 1 := by unfold wrap64; omega
                go_wp2
                clear hwn hc0
                go_loopg [4, 186] (n + 1) (fun gk v4 v186 w' => ∃ (v : Nat), v + gk = n + 1 ∧ v186 = .int .i64 (v : Int) ∧ Aside0 (P3 W (W.heap.size + 1) freef bm nm mF pB vB v4 ((esf.map fun i => ((0, 0), [i])) ++ (List.range v).filterMap (fun v => (mF v).map swp)) w'))
                case atStart => exact ⟨0, by omega, rfl, ⟨by rw [List.range_zero, List.filterMap_nil, List.append_nil]; exact HP5.out⟩⟩
                case round =>
                  clear HP5
                  obtain ⟨v, hvg, rfl, HP⟩ := hrel
                  cases gk with
                  | zero =>
                    have hv : v = n + 1 := by omega
                    subst hv
                    have hv : ¬ (((n + 1 : Nat) : Int) < (n : Int) + 1) := by omega
                    have hf0 := blk_frozen HP.out.fr 0
                    have hf1 := blk_frozen HP.out.fr 1
                    have hq0 : wr.cell? ⟨W.heap.size + 1, 0, none⟩ = some (.int .u64 (freef.1 : Int)) := (blk_cell HP.out.fr 0).trans rfl
                    have hq1 : wr.cell? ⟨W.heap.size + 1, 1, none⟩ = some (.int .u64 (freef.2 : Int)) := (blk_cell HP.out.fr 1).trans rfl
                    go_wp2
                    go_region
                    go_wp2
                    refine bodyPost_ret (res15 (v := u4) (gR := W.heap.size + 1) (a := freef.1) (b := freef.2) (er := 0) rfl rfl rfl (blk_drew (blk_put (blk_put HP.out.fr 0 _ rfl) 1 _ rfl))) rfl ?_
                    refine ⟨ys, HTd.out, u4, ?_, ?_, ?_⟩
                    · rw [if_pos rfl, if_pos rfl, HSf.out]
                    · rw [if_pos rfl, HSf.out]
                      exact Kd.R_drewN (Kd.R_set (Kd.R_set HP.out.l HP.out.fr (by decide) 0 (.int .u64 (freef.1 : Int))) (blk_put HP.out.fr 0 (.int .u64 (freef.1 : Int)) rfl) (by decide) 1 (.int .u64 (freef.2 : Int))) 1
                    · exact below_drew1 (below_set (below_set HP.out.below (Nat.le_succ _)) (Nat.le_succ _))
                  | succ gk =>
                    have hvI : (v : Int) < (n : Int) + 1 := by omega
                    have hlk := HP.out.look (show v < 129 by omega)
                    have hlen5 : ((esf.map fun i => (((0, 0), [i]) : Part)) ++ (List.range v).filterMap (fun v => (mF v).map swp)).length ≤ 4096 := by
                      have := filterMap_len (fun v => (mF v).map swp) v
                      rw [List.length_append, List.length_map]
                      omega
                    cases hm : mF v with
                    | none =>
                      have he : (List.range (v + 1)).filterMap (fun v => (mF v).map swp) = (List.range v).filterMap (fun v => (mF v).map swp) := by rw [filterMap_range]; simp [hm]
                      have HE := Aside0.mk he
                      rw [hm] at hlk
                      simp only [Option.map_none, ptrOf] at hlk
                      clear he hlen5
                      go_wp2
                      go_roundg gk
                      case measure => omega
                      case rel => exact ⟨v + 1, by omega, by go_num, ⟨by rw [HE.out]; exact HP.out⟩⟩
                    | some q =>
                      obtain ⟨cs, sS⟩ := q
                      have he : ((esf.map fun i => (((0, 0), [i]) : Part)) ++ (List.range (v + 1)).filterMap (fun v => (mF v).map swp)) = ((esf.map fun i => (((0, 0), [i]) : Part)) ++ (List.range v).filterMap (fun v => (mF v).map swp)) ++ [(sS, cs)] := by rw [filterMap_range]; simp [hm, swp]
                      have HE := Aside0.mk he
                      rw [hm] at hlk
                      simp only [Option.map_some, ptrOf] at hlk
                      obtain ⟨hpb, _, _⟩ := HP.out.parts v cs sS hm
                      have hq0 : wr.cell? ⟨pB v, 0, none⟩ = some (.int .u64 (sS.1 : Int)) := (blk_cell hpb 0).trans rfl
                      have hq1 : wr.cell? ⟨pB v, 1, none⟩ = some (.int .u64 (sS.2 : Int)) := (blk_cell hpb 1).trans rfl
                      have hq2 : wr.cell? ⟨pB v, 2, none⟩ = some (vB v) := (blk_cell hpb 2).trans rfl
                      have HM := Aside0.mk hm
                      clear he hpb hm
                      generalize ((esf.map fun i => (((0, 0), [i]) : Part)) ++ (List.range v).filterMap (fun v => (mF v).map swp)) = es5 at HP HE hlen5
                      go_wp2_with (at_builtin; refine part3_wp HP.out HM.out hlen5 rfl (.tmp 194) (.tmp 198) rfl rfl rfl ?_; intro u6 w6 hp6; have HP6 := Aside0.mk hp6; clear hp6)
                      go_roundg gk
                      case measure => omega
                      case rel => exact ⟨v + 1, by omega, by go_num, ⟨by rw [HE.out]; exact HP6.out⟩⟩
              | succ gk =>
                have hk : (k : Int) < (firstf.length : Int) := by omega
                have hza := HZ4.out.at HP.out.kept
                have hC12 : (Kd.int .i64).C wr A12 firstf.length firstf := by
                  obtain ⟨A', c', e, hC, _⟩ := own_C hza.2.2.1
                  injection e with e1 e2 e3
                  rw [e1]; exact hC
                have hCys : (Kd.int .i64).C wr A3 ys.length ys := by
                  obtain ⟨A', c', e, hC, _⟩ := own_C hza.2.1
                  injection e with e1 e2 e3
                  rw [e1]; exact hC
                obtain ⟨ad12, hA12, hx⟩ := rd_int hC12 k (by omega)
                subst hA12
                have hc1 : wr.cell? ⟨W.heap.size, 1, none⟩ = some (.slice AL L.length cL) := (blk_cell hza.1 1).trans rfl
                obtain ⟨x, hxe⟩ : ∃ x, firstf.getD k 0 = x := ⟨_, rfl⟩
                rw [hxe] at hx
                have hgei : firstf[k]? = some x := by
                  rw [← hxe]; simp [List.getD_eq_getElem?_getD, List.getElem?_eq_getElem (show k < firstf.length by omega)]
                have htk : firstf.take (k + 1) = firstf.take k ++ [x] := by rw [List.take_add_one, hgei]; rfl
                have HTk := Aside0.mk htk
                obtain ⟨j, hjL, hxj, hlf, hre⟩ := HFf.out x (List.mem_of_getElem? hgei)
                subst hxj
                obtain ⟨aL, A0, c0, hAL, hcell, hc0, hC0⟩ := rd_row (Kd.C_below HL.out HP.out.below) j hjL
                subst hAL
                have hcl := HLs.out (L.getD j []) (by rw [List.getD_eq_getElem?_getD, List.getElem?_eq_getElem hjL]; exact List.getElem_mem _)
                have HRest := Aside0.mk (rest_calls hC0 hc0 hCys hc3 hcl.1 (fun x hx => by have h1 := hcl.2 x hx; unfold varOf at h1; split at h1 <;> (try split at h1) <;> omega))
                have hst : ∀ m : Comps, step2 ys L Rf m (j : Int) = fun v => if v = Rf (vn (head0 (restF (L.getD j []) ys))) then some (((m v).getD ([], (0, 0))).1 ++ [(j : Int)], moreAll (restF (L.getD j []) ys) ((m v).getD ([], (0, 0))).2) else m v := fun m => rfl
                obtain ⟨cl, hcle⟩ : ∃ cl, L.getD j [] = cl := ⟨_, rfl⟩
                rw [hcle] at hcell hc0 hC0 hcl HRest hlf hre hst
                rw [hlf] at HRest
                simp only [if_true] at HRest
                obtain ⟨left, hleft⟩ : ∃ left, restF cl ys = left := ⟨_, rfl⟩
                rw [hleft] at hre HRest hst
                have HSt := Aside0.mk hst
                have hl0 : ¬ ((left.length : Int) = 0) := by
                  have := List.length_pos_iff.2 hre
                  omega
                have HNe := Aside0.mk hre
                have HLft := Aside0.mk (show ∀ x ∈ left, varOf x ≠ 0 from fun x hx => by rw [← hleft] at hx; exact hcl.2 x (List.mem_filter.1 hx).1)
                have hll : left.length ≤ 4096 := by have h1 := hcl.1; have h2 := List.length_filter_le (fun x => !decide (-x ∈ ys)) cl; rw [← hleft]; unfold restF; omega
                have HX0 := Aside0.mk (HLft.out (head0 left) (by
                  obtain ⟨y, r, rfl⟩ := List.exists_cons_of_ne_nil HNe.out
                  exact List.mem_cons_self))
                have hjI : (j : Int) < (L.length : Int) := by omega
                clear hre hC0 hcl hcle hgei htk hxe hlf hC12 hCys hleft hst hza
                have hpos : 0 < left.length := by omega
                go_wp2_with (go_at_call 44; refine (HRest.out).mono ?_; rintro e w5 ⟨v15, rfl, hr15, hb4⟩; obtain ⟨A5, c5, rfl, _⟩ := Kd.R_reads hr15; replace HP := Aside0.mk (HP.out.withRow hb4 (Kd.own_of_R hr15)); clear hr15 hb4)
                obtain ⟨a5, hA5, _⟩ := HP.out.cellk 0 hpos
                subst hA5
                obtain ⟨up, hup⟩ := HP.out.uf
                have HF := Aside0.mk hup.2.f
                have HR0 := Aside0.mk hup.1
                have HU := Aside0.mk hup.2
                clear hup
                refine start_ (n := 7) (S := fun w' => w'.cell? ⟨gu + 1, 0, none⟩ = some (.func (.func 42) #[] #[.pointer (some ⟨gu, 0, none⟩), .pointer (some ⟨gu + 1, 0, none⟩)]) ∧ w'.cell? a5 = some (.int .i64 (head0 left))) (ds := []) #[false, false, false, false, false, false, false] (by kernel_rfl) rfl rfl (⟨(blk_cell HU.out.f 0).trans rfl, HP.out.cell0 HNe.out⟩) (fun hHeld => ?_)
                refine with_tabW q15r36tab q15r36bits (fun HT_ HW_ => ?_)
                refine take_ (i := 0) (N := some 133) (v := ?_) (a' := ?_) #[true, false, false, false, false, false, false] rfl rfl (take_ofW HT_.out HW_.out (by kernel_rfl)) (fun _ _ _ h => h) (Or.inl ⟨by rfl, ?_⟩) hHeld ?_ ?_
                rotate_left
                · rintro w' ⟨s0, s1⟩
                  go_simp
                  with_reducible rfl
                rotate_left
                · simp only [Act.put, List.setIfInBounds_toArray, List.set_cons_zero, List.set_cons_succ, i64_w, i32_w]
                  rfl
                refine pure_ (i := 1) (N := some 134) (v := ?_) (a' := ?_) #[true, true, false, false, false, false, false] rfl rfl (any_of HT_.out (by kernel_rfl)) (fun _ _ _ h => h) (Or.inl ⟨by rfl, ?_⟩) ?_ ?_
                rotate_left
                · intro w'
                  go_simp
                  with_reducible rfl
                rotate_left
                · simp only [Act.put, List.setIfInBounds_toArray, List.set_cons_zero, List.set_cons_succ, i64_w, i32_w]
                  rfl
                refine pure_ (i := 2) (N := some 135) (v := ?_) (a' := ?_) #[true, true, true, false, false, false, false] rfl rfl (any_of HT_.out (by kernel_rfl)) (fun _ _ _ h => h) (Or.inl ⟨by rfl, ?_⟩) ?_ ?_
                rotate_left
                · intro w'
                  go_simp
                  with_reducible rfl
                rotate_left
                · simp only [Act.put, List.setIfInBounds_toArray, List.set_cons_zero, List.set_cons_succ, i64_w, i32_w]
                  rfl
                refine take_ (i := 3) (N := some 136) (v := ?_) (a' := ?_) #[true, true, true, true, false, false, false] rfl rfl (take_ofW HT_.out HW_.out (by kernel_rfl)) (fun _ _ _ h => h) (Or.inl ⟨by rfl, ?_⟩) hHeld ?_ ?_
                rotate_left
                · rintro w' ⟨s0, s1⟩
                  go_simp
                  with_reducible rfl
                rotate_left
                · simp only [Act.put, List.setIfInBounds_toArray, List.set_cons_zero, List.set_cons_succ, i64_w, i32_w]
                  rfl
                refine one_ (i := 4) (N := some 137) #[true, true, true, true, true, false, false] rfl rfl (one_of HT_.out (by kernel_rfl)) (by decide) (fun K hK => ?_)
                refine goes_ Try.func28 (by kernel_rfl) rfl #[.int .i64 (head0 left)] (by rfl) rfl rfl (by simp only [List.map_toArray, List.map_cons, List.map_nil]; rfl) ?_
                refine (HVar.out (head0 left) _).mono ?_
                rintro e_ w_ ⟨rfl, ⟨n_, rfl⟩⟩
                refine ⟨_, rfl, ?_⟩
                replace HP := Aside0.mk (HP.out.drew.drewN n_)
                have hU2 : UF (w5.drew.drewN n_) gu (gu + 1) up := ⟨HU.out.u, HU.out.f⟩
                replace HU := Aside0.mk hU2
                clear hU2
                generalize w5.drew.drewN n_ = wv at HP HU ⊢
                refine hK.out _ _ (⟨(blk_cell HU.out.f 0).trans rfl, HP.out.cell0 HNe.out⟩) (fun hHeld => ?_)
                clear hK K
                refine norm_ (a' := ?_) ?_ ?_
                rotate_left
                · show Act.put _ (some 137) _ = _
                  simp only [Act.put, List.setIfInBounds_toArray, List.set_cons_zero, List.set_cons_succ, i64_w, i32_w]
                  rfl
                refine one_ (i := 5) (N := some 138) #[true, true, true, true, true, true, false] rfl rfl (one_of HT_.out (by kernel_rfl)) (by decide) (fun K hK => ?_)
                refine goesV_ Try.func42 (by kernel_rfl) rfl #[.int .i64 (varOf (head0 left))] #[.pointer (some ⟨gu, 0, none⟩), .pointer (some ⟨gu + 1, 0, none⟩)] (.tmp 133) (by rfl) rfl rfl (by rfl) (by simp only [List.map_toArray, List.map_cons, List.map_nil]; rfl) ?_
                refine (top_lit _ _ HX0.out HR0.out HU.out).mono ?_
                rintro e_ wv2 ⟨rfl, up2, hR2, hU2, hk2, hi2, hb2⟩
                refine ⟨_, rfl, ?_⟩
                replace HP := Aside0.mk (HP.out.top hR2 hU2 hk2 hb2)
                replace HR0 := Aside0.mk hR2
                replace HU := Aside0.mk hU2
                replace HF := Aside0.mk hU2.f
                clear hR2 hU2 hk2 hi2 hb2
                refine hK.out _ _ (⟨(blk_cell HU.out.f 0).trans rfl, HP.out.cell0 HNe.out⟩) (fun hHeld => ?_)
                clear hK K
                refine norm_ (a' := ?_) ?_ ?_
                rotate_left
                · show Act.put _ (some 138) _ = _
                  simp only [Act.put, List.setIfInBounds_toArray, List.set_cons_zero, List.set_cons_succ, i64_w, i32_w]
                  rfl
                refine pure_ (i := 6) (N := some 25) (v := ?_) (a' := ?_) #[true, true, true, true, true, true, true] rfl rfl (any_of HT_.out (by kernel_rfl)) (fun _ _ _ h => h) (Or.inl ⟨by rfl, ?_⟩) ?_ ?_
                rotate_left
                · intro w'
                  go_simp
                  with_reducible rfl
                rotate_left
                · simp only [Act.put, List.setIfInBounds_toArray, List.set_cons_zero, List.set_cons_succ, i64_w, i32_w]
                  rfl
                refine done_ (done_of HT_.out (by kernel_rfl)) ?_
                have hvv := (HR0.out.le _ (vn_ok HX0.out).2).1
                have hv129 : Rf (vn (head0 left)) < 129 := by have := (vn_ok HX0.out).2; omega
                obtain ⟨vv, hvve⟩ : ∃ vv, Rf (vn (head0 left)) = vv := ⟨_, rfl⟩
                rw [hvve] at hv129 HSt
                simp only [hvve]
                clear hvv hvve HR0 HU HF
                obtain ⟨m0, hm0⟩ : ∃ m0, fold2 ys L Rf (firstf.take k) = m0 := ⟨_, rfl⟩
                have HM0 := Aside0.mk hm0
                rw [hm0] at HP
                clear hm0
                have hlk := HP.out.look hv129
                go_upto_region 37 with fail
                go_cut [142] (fun v142 wc => v142 = .bool (m0 vv).isNone ∧ wc = wv2)
                case first =>
                  cases hm : m0 vv with
                  | none =>
                    rw [hm] at hlk
                    simp only [Option.map_none, ptrOf] at hlk
                    go_wp2
                    go_meet
                    case rel => exact ⟨by rw [hm]; rfl, rfl⟩
                  | some q =>
                    rw [hm] at hlk
                    simp only [Option.map_some, ptrOf] at hlk
                    go_wp2
                    go_meet
                    case rel => exact ⟨by rw [hm]; rfl, rfl⟩
                case rest =>
                obtain ⟨rfl, rfl⟩ := hcut
                clear hlk
                go_upto_if 142 with fail
                go_cut [] (fun wc => ∃ (m1 : Comps) (pB : Nat → Nat) (vB : Nat → Value) (nm : Nat), nm ≤ k + 1 ∧ Aside0 (P2 W w4 gu (gu + 1) bm nm Rf m1 pB vB (.slice (some a5) left.length c5) left wc) ∧ Aside0 (m1 vv = some ((m0 vv).getD ([], (0, 0)))) ∧ Aside0 (∀ u, u ≠ vv → m1 u = m0 u))
                case first =>
                  cases hm : m0 vv with
                  | none =>
                    obtain ⟨w7, hmu, hP7⟩ := HP.out.create hv129 (by omega) hm
                    have HP7 := Aside0.mk hP7
                    clear hP7
                    go_wp2
                    go_meet
                    case rel => exact ⟨_, _, _, _, by omega, HP7, ⟨by simp [hm]⟩, ⟨fun u hu => by simp [hu]⟩⟩
                  | some q =>
                    go_wp2
                    go_meet
                    case rel => exact ⟨m0, _, _, _, by omega, HP, ⟨by rw [hm]; rfl⟩, ⟨fun u hu => rfl⟩⟩
                case rest =>
                  obtain ⟨m1, pB, vB, nm, hnm, HP, HM1, HMu⟩ := hcut
                  obtain ⟨q1, hq1⟩ : ∃ q, (m0 vv).getD ([], (0, 0)) = q := ⟨_, rfl⟩
                  have hcs := fold2_getD ys L Rf (firstf.take k) vv
                  rw [HM0.out, hq1] at hcs
                  have hcs2 : q1.1.length ≤ 100 := by have : (firstf.take k).length ≤ k := by simp; omega
                                                      omega
                  obtain ⟨cs1, s1⟩ := q1
                  simp only at hcs2
                  rw [hq1] at HM1
                  have HQ1 := Aside0.mk hq1
                  clear hq1 hcs
                  have HPd := Aside0.mk HP.out.drew
                  have HPa := Aside0.mk (HP.out.drew.bg (below_alloc (Below.refl _ _) (.cells #[.int .i64 (j : Int)] 3)))
                  have HRow := Aside0.mk (HPd.out.parts vv cs1 s1 HM1.out).2.2.2
                  have HS1 := Aside0.mk (HPd.out.parts vv cs1 s1 HM1.out).1
                  clear HP
                  go_wp2_with fail
                  try go_step3
                  refine start_ (n := 15) (S := fun w' => (Instr.lookup 74 (.map (some bm)) (.int .i64 (vv : Int)) false).run Try.prog w' = .ok (.pointer (some ⟨pB vv, 0, none⟩)) w' ∧ w'.cell? ⟨pB vv, 2, none⟩ = some (vB vv)) (ds := [14]) #[false, false, false, false, false, false, false, false, false, false, false, false, false, false, false] (by kernel_rfl) rfl rfl (⟨HPd.out.look1 hv129 HM1.out, HPd.out.cellv HM1.out⟩) (fun hHeld => ?_)
                  refine with_tabW q15r39tab q15r39bits (fun HT_ HW_ => ?_)
                  refine pure_ (i := 0) (N := some 147) (v := ?_) (a' := ?_) #[true, false, false, false, false, false, false, false, false, false, false, false, false, false, false] rfl rfl (any_of HT_.out (by kernel_rfl)) (fun _ _ _ h => h) (Or.inl ⟨by rfl, ?_⟩) ?_ ?_
                  rotate_left
                  · intro w'
                    go_simp
                    with_reducible rfl
                  rotate_left
                  · simp only [Act.put, List.setIfInBounds_toArray, List.set_cons_zero, List.set_cons_succ, i64_w, i32_w]
                    rfl
                  refine pure_ (i := 1) (N := some 148) (v := ?_) (a' := ?_) #[true, true, false, false, false, false, false, false, false, false, false, false, false, false, false] rfl rfl (any_of HT_.out (by kernel_rfl)) (fun _ _ _ h => h) (Or.inl ⟨by rfl, ?_⟩) ?_ ?_
                  rotate_left
                  · intro w'
                    go_simp
                    with_reducible rfl
                  rotate_left
                  · simp only [Act.put, List.setIfInBounds_toArray, List.set_cons_zero, List.set_cons_succ, i64_w, i32_w]
                    rfl
                  refine take_ (i := 2) (N := some 149) (v := ?_) (a' := ?_) #[true, true, true, false, false, false, false, false, false, false, false, false, false, false, false] rfl rfl (take_ofW HT_.out HW_.out (by kernel_rfl)) (fun _ _ _ h => h) (Or.inl ⟨by rfl, ?_⟩) hHeld ?_ ?_
                  rotate_left
                  · rintro w' ⟨s0, s1⟩
                    go_simp
                    with_reducible rfl
                  rotate_left
                  · simp only [Act.put, List.setIfInBounds_toArray, List.set_cons_zero, List.set_cons_succ, i64_w, i32_w]
                    rfl
                  refine pure_ (i := 3) (N := some 150) (v := ?_) (a' := ?_) #[true, true, true, true, false, false, false, false, false, false, false, false, false, false, false] rfl rfl (any_of HT_.out (by kernel_rfl)) (fun _ _ _ h => h) (Or.inl ⟨by rfl, ?_⟩) ?_ ?_
                  rotate_left
                  · intro w'
                    go_simp
                    with_reducible rfl
                  rotate_left
                  · simp only [Act.put, List.setIfInBounds_toArray, List.set_cons_zero, List.set_cons_succ, i64_w, i32_w]
                    rfl
                  refine pure_ (i := 4) (N := some 151) (v := ?_) (a' := ?_) #[true, true, true, true, true, false, false, false, false, false, false, false, false, false, false] rfl rfl (any_of HT_.out (by kernel_rfl)) (fun _ _ _ h => h) (Or.inl ⟨by rfl, ?_⟩) ?_ ?_
                  rotate_left
                  · intro w'
                    go_simp
                    with_reducible rfl
                  rotate_left
                  · simp only [Act.put, List.setIfInBounds_toArray, List.set_cons_zero, List.set_cons_succ, i64_w, i32_w]
                    rfl
                  refine take_ (i := 5) (N := some 152) (v := ?_) (a' := ?_) #[true, true, true, true, true, true, false, false, false, false, false, false, false, false, false] rfl rfl (take_ofW HT_.out HW_.out (by kernel_rfl)) (fun _ _ _ h => h) (Or.inl ⟨by rfl, ?_⟩) hHeld ?_ ?_
                  rotate_left
                  · rintro w' ⟨s0, s1⟩
                    go_simp
                    with_reducible rfl
                  rotate_left
                  · simp only [Act.put, List.setIfInBounds_toArray, List.set_cons_zero, List.set_cons_succ, i64_w, i32_w]
                    rfl
                  refine pure_ (i := 6) (N := some 153) (v := ?_) (a' := ?_) #[true, true, true, true, true, true, true, false, false, false, false, false, false, false, false] rfl rfl (any_of HT_.out (by kernel_rfl)) (fun _ _ _ h => h) (Or.inl ⟨by rfl, ?_⟩) ?_ ?_
                  rotate_left
                  · intro w'
                    go_simp
                    with_reducible rfl
                  rotate_left
                  · simp only [Act.put, List.setIfInBounds_toArray, List.set_cons_zero, List.set_cons_succ, i64_w, i32_w]
                    rfl
                  refine pure_ (i := 7) (N := some 154) (v := ?_) (a' := ?_) #[true, true, true, true, true, true, true, true, false, false, false, false, false, false, false] rfl rfl (any_of HT_.out (by kernel_rfl)) (fun _ _ _ h => h) (Or.inl ⟨by rfl, ?_⟩) ?_ ?_
                  rotate_left
                  · intro w'
                    go_simp
                    with_reducible rfl
                  rotate_left
                  · simp only [Act.put, List.setIfInBounds_toArray, List.set_cons_zero, List.set_cons_succ, i64_w, i32_w]
                    rfl
                  refine take_ (i := 8) (N := some 155) (v := ?_) (a' := ?_) #[true, true, true, true, true, true, true, true, true, false, false, false, false, false, false] rfl rfl (take_ofW HT_.out HW_.out (by kernel_rfl)) (fun _ _ _ h => h) (Or.inl ⟨by rfl, ?_⟩) hHeld ?_ ?_
                  rotate_left
                  · rintro w' ⟨s0, s1⟩
                    go_simp
                    with_reducible rfl
                  rotate_left
                  · simp only [Act.put, List.setIfInBounds_toArray, List.set_cons_zero, List.set_cons_succ, i64_w, i32_w]
                    rfl
                  refine pure_ (i := 9) (N := some 156) (v := ?_) (a' := ?_) #[true, true, true, true, true, true, true, true, true, true, false, false, false, false, false] rfl rfl (any_of HT_.out (by kernel_rfl)) (fun _ _ _ h => h) (Or.inl ⟨by rfl, ?_⟩) ?_ ?_
                  rotate_left
                  · intro w'
                    go_simp
                    with_reducible rfl
                  rotate_left
                  · simp only [Act.put, List.setIfInBounds_toArray, List.set_cons_zero, List.set_cons_succ, i64_w, i32_w]
                    rfl
                  refine one_ (i := 10) (N := some 157) #[true, true, true, true, true, true, true, true, true, true, true, false, false, false, false] rfl rfl (one_of HT_.out (by kernel_rfl)) (by decide) (fun K hK => ?_)
                  refine value_ (w1 := ?_) (v := ?_) (by rfl) rfl ?_ ?_
                  rotate_left 2
                  · go_simp
                    (refine ⟨?_, ?_⟩ <;> rfl)
                  refine hK.out _ _ (⟨HPa.out.look1 hv129 HM1.out, HPa.out.cellv HM1.out⟩) (fun hHeld => ?_)
                  clear hK K
                  refine norm_ (a' := ?_) ?_ ?_
                  rotate_left
                  · show Act.put _ (some 157) _ = _
                    simp only [Act.put, List.setIfInBounds_toArray, List.set_cons_zero, List.set_cons_succ, i64_w, i32_w]
                    rfl
                  refine one_ (i := 11) (N := some 158) #[true, true, true, true, true, true, true, true, true, true, true, true, false, false, false] rfl rfl (one_of HT_.out (by kernel_rfl)) (by decide) (fun K hK => ?_)
                  refine Kd.R_append_step (Kd.int .i64) (w0 := wc.drew) w4.heap.size (by rfl) (.tmp 155) (.tmp 157) 25 3 (.int .i64 0) 8 rfl Try.underlying25 PPartsSplit.info3 rfl (by decide) (by decide) (vB vv) cs1 (j : Int) [.int .i64 (j : Int)] (fun _ => True) (fun _ => False) rfl rfl rfl (fun k hk => hk.elim) (fun _ _ => trivial) (Kd.R_of_own HRow.out (fun _ _ => trivial)) (Below.refl _ _ |>.mono HPd.out.kept.1) HPd.out.kept.1 (by omega) ?_
                  intro u8 w8 hr8 hb8 hg8 hat8
                  have HMid := Aside0.mk (HPd.out.mid hv129 HM1.out hg8)
                  have ho8 : w8.ownsRow w4.heap.size 3 1 u8 (cs1.length + 1) (nums .i64 (cs1 ++ [(j : Int)])) := by have := Kd.own_of_R hr8; rwa [List.length_append] at this
                  obtain ⟨A8, c8, rfl⟩ := own_slice ho8
                  have HP8 := Aside0.mk (HPd.out.append HM1.out ho8 hg8 hat8)
                  clear hr8 hb8 hg8 hat8 ho8
                  refine hK.out _ _ (⟨HMid.out.1, HMid.out.2.1⟩) (fun hHeld => ?_)
                  clear hK K
                  refine norm_ (a' := ?_) ?_ ?_
                  rotate_left
                  · show Act.put _ (some 158) _ = _
                    simp only [Act.put, List.setIfInBounds_toArray, List.set_cons_zero, List.set_cons_succ, i64_w, i32_w]
                    rfl
                  refine pure_ (i := 12) (N := some 159) (v := ?_) (a' := ?_) #[true, true, true, true, true, true, true, true, true, true, true, true, true, false, false] rfl rfl (any_of HT_.out (by kernel_rfl)) (fun _ _ _ h => h) (Or.inl ⟨by rfl, ?_⟩) ?_ ?_
                  rotate_left
                  · intro w'
                    go_simp
                    with_reducible rfl
                  rotate_left
                  · simp only [Act.put, List.setIfInBounds_toArray, List.set_cons_zero, List.set_cons_succ, i64_w, i32_w]
                    rfl
                  refine pure_ (i := 13) (N := some 160) (v := ?_) (a' := ?_) #[true, true, true, true, true, true, true, true, true, true, true, true, true, true, false] rfl rfl (any_of HT_.out (by kernel_rfl)) (fun _ _ _ h => h) (Or.inl ⟨by rfl, ?_⟩) ?_ ?_
                  rotate_left
                  · intro w'
                    go_simp
                    with_reducible rfl
                  rotate_left
                  · simp only [Act.put, List.setIfInBounds_toArray, List.set_cons_zero, List.set_cons_succ, i64_w, i32_w]
                    rfl
                  refine last_ (i := 14) (N := none) #[true, true, true, true, true, true, true, true, true, true, true, true, true, true, true] rfl rfl (one_of HT_.out (by kernel_rfl)) (by decide) (fun K hK => ?_)
                  have hf8 := HMid.out.2.2
                  have hc8 := HMid.out.2.1
                  refine skip_ (w1 := ?_) (by rfl) rfl ?_ ?_
                  rotate_left
                  · go_simp
                    rfl
                  refine hK.out _ _ ?_
                  clear hK K
                  refine done_ (done_of HT_.out (by kernel_rfl)) ?_
                  clear hf8 hc8 HMid HPd HPa HRow
                  generalize w8.setCell ⟨pB vv, 2, none⟩ (.slice A8 (cs1.length + 1) c8) = w9 at HP8 ⊢
                  obtain ⟨vB2, hvB2⟩ : ∃ vB2, (fun i' => if i' = vv then .slice A8 (cs1.length + 1) c8 else vB i') = vB2 := ⟨_, rfl⟩
                  rw [hvB2] at HP8
                  clear hvB2
                  have HP9 := Aside0.mk (show P2 W w4 gu (gu + 1) bm nm Rf (fun i' => if i' = vv then some (cs1 ++ [(j : Int)], moreAll (left.take 0) s1) else m1 i') pB vB2 (.slice (some a5) left.length c5) left w9 from HP8.out)
                  clear HP8
                  go_wp2
                  go_loopg [163] left.length (fun gj v163 w' => ∃ (kk : Nat), kk + gj = left.length ∧ v163 = .int .i64 (kk : Int) ∧ Aside0 (SOk (moreAll (left.take kk) s1)) ∧ Aside0 (P2 W w4 gu (gu + 1) bm nm Rf (fun i' => if i' = vv then some (cs1 ++ [(j : Int)], moreAll (left.take kk) s1) else m1 i') pB vB2 (.slice (some a5) left.length c5) left w'))
                  case atStart => exact ⟨0, by omega, rfl, HS1, HP9⟩
                  case round =>
                    clear HP9
                    obtain ⟨kk, hkg, rfl, HSk, HP⟩ := hrel
                    cases gk with
                    | zero =>
                      have hkk : kk = left.length := by omega
                      subst hkk
                      rw [List.take_length] at HP
                      have hkk : ¬ ((left.length : Int) < (left.length : Int)) := by omega
                      go_wp2
                      go_roundg gk
                      case measure => omega
                      case rel =>
                        have he : fold2 ys L Rf (firstf.take (k + 1)) = fun i' => if i' = vv then some (cs1 ++ [(j : Int)], moreAll left s1) else m1 i' := by
                          rw [HTk.out, fold2_snoc, HM0.out, HSt.out]
                          funext u
                          by_cases hu : u = vv
                          · rw [hu, if_pos rfl, if_pos rfl, HQ1.out]
                          · rw [if_neg hu, if_neg hu, HMu.out u hu]
                        exact ⟨k + 1, nm, pB, vB2, by omega, hnm, by go_num, ⟨by rw [he]; exact HP.out.noRow⟩⟩
                    | succ gj =>
                      have hkk : (kk : Int) < (left.length : Int) := by omega
                      obtain ⟨a5b, hA5b, hx⟩ := HP.out.cellk kk (by omega)
                      injection hA5b with hA5b
                      subst hA5b
                      obtain ⟨x, hxe⟩ : ∃ x, left.getD kk 0 = x := ⟨_, rfl⟩
                      rw [hxe] at hx
                      have hgei : left[kk]? = some x := by
                        rw [← hxe]; simp [List.getD_eq_getElem?_getD, List.getElem?_eq_getElem (show kk < left.length by omega)]
                      have htk : left.take (kk + 1) = left.take kk ++ [x] := by rw [List.take_add_one, hgei]; rfl
                      have HTk2 := Aside0.mk htk
                      have HX := Aside0.mk (HLft.out x (List.mem_of_getElem? hgei))
                      clear hxe hgei htk
                      go_wp2_with fail
                      try go_step3
                      refine start_ (n := 15) (S := fun w' => (Instr.lookup 74 (.map (some bm)) (.int .i64 (vv : Int)) false).run Try.prog w' = .ok (.pointer (some ⟨pB vv, 0, none⟩)) w' ∧ w'.cell? ⟨pB vv, 0, none⟩ = some (.int .u64 ((moreAll (left.take kk) s1).1 : Int)) ∧ w'.cell? ⟨pB vv, 1, none⟩ = some (.int .u64 ((moreAll (left.take kk) s1).2 : Int))) (ds := [14]) #[false, false, false, false, false, false, false, false, false, false, false, false, false, false, false] (by kernel_rfl) rfl rfl (⟨HP.out.drew.look1 hv129 (if_pos rfl), (HP.out.drew.cells (v := vv) (if_pos rfl)).1, (HP.out.drew.cells (v := vv) (if_pos rfl)).2⟩) (fun hHeld => ?_)
                      refine with_tabW q15r43tab q15r43bits (fun HT_ HW_ => ?_)
                      refine pure_ (i := 0) (N := some 167) (v := ?_) (a' := ?_) #[true, false, false, false, false, false, false, false, false, false, false, false, false, false, false] rfl rfl (any_of HT_.out (by kernel_rfl)) (fun _ _ _ h => h) (Or.inl ⟨by rfl, ?_⟩) ?_ ?_
                      rotate_left
                      · intro w'
                        go_simp
                        with_reducible rfl
                      rotate_left
                      · simp only [Act.put, List.setIfInBounds_toArray, List.set_cons_zero, List.set_cons_succ, i64_w, i32_w]
                        rfl
                      refine pure_ (i := 1) (N := some 168) (v := ?_) (a' := ?_) #[true, true, false, false, false, false, false, false, false, false, false, false, false, false, false] rfl rfl (any_of HT_.out (by kernel_rfl)) (fun _ _ _ h => h) (Or.inl ⟨by rfl, ?_⟩) ?_ ?_
                      rotate_left
                      · intro w'
                        go_simp
                        with_reducible rfl
                      rotate_left
                      · simp only [Act.put, List.setIfInBounds_toArray, List.set_cons_zero, List.set_cons_succ, i64_w, i32_w]
                        rfl
                      refine take_ (i := 2) (N := some 169) (v := ?_) (a' := ?_) #[true, true, true, false, false, false, false, false, false, false, false, false, false, false, false] rfl rfl (take_ofW HT_.out HW_.out (by kernel_rfl)) (fun _ _ _ h => h) (Or.inl ⟨by rfl, ?_⟩) hHeld ?_ ?_
                      rotate_left
                      · rintro w' ⟨s0, s1, s2⟩
                        go_simp
                        with_reducible rfl
                      rotate_left
                      · simp only [Act.put, List.setIfInBounds_toArray, List.set_cons_zero, List.set_cons_succ, i64_w, i32_w]
                        rfl
                      refine pure_ (i := 3) (N := some 170) (v := ?_) (a' := ?_) #[true, true, true, true, false, false, false, false, false, false, false, false, false, false, false] rfl rfl (any_of HT_.out (by kernel_rfl)) (fun _ _ _ h => h) (Or.inl ⟨by rfl, ?_⟩) ?_ ?_
                      rotate_left
                      · intro w'
                        go_simp
                        with_reducible rfl
                      rotate_left
                      · simp only [Act.put, List.setIfInBounds_toArray, List.set_cons_zero, List.set_cons_succ, i64_w, i32_w]
                        rfl
                      refine pure_ (i := 4) (N := some 171) (v := ?_) (a' := ?_) #[true, true, true, true, true, false, false, false, false, false, false, false, false, false, false] rfl rfl (any_of HT_.out (by kernel_rfl)) (fun _ _ _ h => h) (Or.inl ⟨by rfl, ?_⟩) ?_ ?_
                      rotate_left
                      · intro w'
                        go_simp
                        with_reducible rfl
                      rotate_left
                      · simp only [Act.put, List.setIfInBounds_toArray, List.set_cons_zero, List.set_cons_succ, i64_w, i32_w]
                        rfl
                      refine take_ (i := 5) (N := some 172) (v := ?_) (a' := ?_) #[true, true, true, true, true, true, false, false, false, false, false, false, false, false, false] rfl rfl (take_ofW HT_.out HW_.out (by kernel_rfl)) (fun _ _ _ h => h) (Or.inl ⟨by rfl, ?_⟩) hHeld ?_ ?_
                      rotate_left
                      · rintro w' ⟨s0, s1, s2⟩
                        go_simp
                        with_reducible rfl
                      rotate_left
                      · simp only [Act.put, List.setIfInBounds_toArray, List.set_cons_zero, List.set_cons_succ, i64_w, i32_w]
                        rfl
                      refine pure_ (i := 6) (N := some 173) (v := ?_) (a' := ?_) #[true, true, true, true, true, true, true, false, false, false, false, false, false, false, false] rfl rfl (any_of HT_.out (by kernel_rfl)) (fun _ _ _ h => h) (Or.inl ⟨by rfl, ?_⟩) ?_ ?_
                      rotate_left
                      · intro w'
                        go_simp
                        with_reducible rfl
                      rotate_left
                      · simp only [Act.put, List.setIfInBounds_toArray, List.set_cons_zero, List.set_cons_succ, i64_w, i32_w]
                        rfl
                      refine pure_ (i := 7) (N := some 174) (v := ?_) (a' := ?_) #[true, true, true, true, true, true, true, true, false, false, false, false, false, false, false] rfl rfl (any_of HT_.out (by kernel_rfl)) (fun _ _ _ h => h) (Or.inl ⟨by rfl, ?_⟩) ?_ ?_
                      rotate_left
                      · intro w'
                        go_simp
                        with_reducible rfl
                      rotate_left
                      · simp only [Act.put, List.setIfInBounds_toArray, List.set_cons_zero, List.set_cons_succ, i64_w, i32_w]
                        rfl
                      refine take_ (i := 8) (N := some 175) (v := ?_) (a' := ?_) #[true, true, true, true, true, true, true, true, true, false, false, false, false, false, false] rfl rfl (take_ofW HT_.out HW_.out (by kernel_rfl)) (fun _ _ _ h => h) (Or.inl ⟨by rfl, ?_⟩) hHeld ?_ ?_
                      rotate_left
                      · rintro w' ⟨s0, s1, s2⟩
                        go_simp
                        with_reducible rfl
                      rotate_left
                      · simp only [Act.put, List.setIfInBounds_toArray, List.set_cons_zero, List.set_cons_succ, i64_w, i32_w]
                        rfl
                      refine pure_ (i := 9) (N := some 176) (v := ?_) (a' := ?_) #[true, true, true, true, true, true, true, true, true, true, false, false, false, false, false] rfl rfl (any_of HT_.out (by kernel_rfl)) (fun _ _ _ h => h) (Or.inl ⟨by rfl, ?_⟩) ?_ ?_
                      rotate_left
                      · intro w'
                        go_simp
                        with_reducible rfl
                      rotate_left
                      · simp only [Act.put, List.setIfInBounds_toArray, List.set_cons_zero, List.set_cons_succ, i64_w, i32_w]
                        rfl
                      refine one_ (i := 10) (N := some 177) #[true, true, true, true, true, true, true, true, true, true, true, false, false, false, false] rfl rfl (one_of HT_.out (by kernel_rfl)) (by decide) (fun K hK => ?_)
                      refine goes_ Try.func28 (by kernel_rfl) rfl #[.int .i64 x] (by rfl) rfl rfl (by simp only [List.map_toArray, List.map_cons, List.map_nil]; rfl) ?_
                      refine (HVar.out x _).mono ?_
                      rintro e_ w_ ⟨rfl, ⟨n_, rfl⟩⟩
                      refine ⟨_, rfl, ?_⟩
                      replace HP := Aside0.mk (HP.out.drew.drewN n_)
                      clear hx
                      generalize wr.drew.drewN n_ = wv at HP ⊢
                      refine hK.out _ _ (⟨HP.out.look1 hv129 (if_pos rfl), (HP.out.cells (v := vv) (if_pos rfl)).1, (HP.out.cells (v := vv) (if_pos rfl)).2⟩) (fun hHeld => ?_)
                      clear hK K
                      refine norm_ (a' := ?_) ?_ ?_
                      rotate_left
                      · show Act.put _ (some 177) _ = _
                        simp only [Act.put, List.setIfInBounds_toArray, List.set_cons_zero, List.set_cons_succ, i64_w, i32_w]
                        rfl
                      refine one_ (i := 11) (N := some 178) #[true, true, true, true, true, true, true, true, true, true, true, true, false, false, false] rfl rfl (one_of HT_.out (by kernel_rfl)) (by decide) (fun K hK => ?_)
                      refine goes_ Try.func45 (by kernel_rfl) rfl #[setV2 (moreAll (left.take kk) s1), .int .i64 (varOf x)] (by rfl) rfl rfl (by simp only [List.map_toArray, List.map_cons, List.map_nil]; rfl) ?_
                      refine (with_lit _ _ x HSk.out HX.out).mono ?_
                      rintro e_ w_ ⟨rfl, hb3⟩
                      refine ⟨_, rfl, ?_⟩
                      replace HP := Aside0.mk (HP.out.bg hb3)
                      clear hb3
                      refine hK.out _ _ (⟨HP.out.look1 hv129 (if_pos rfl), (HP.out.cells (v := vv) (if_pos rfl)).1, (HP.out.cells (v := vv) (if_pos rfl)).2⟩) (fun hHeld => ?_)
                      clear hK K
                      refine norm_ (a' := ?_) ?_ ?_
                      rotate_left
                      · show Act.put _ (some 178) _ = _
                        simp only [Act.put, List.setIfInBounds_toArray, List.set_cons_zero, List.set_cons_succ, i64_w, i32_w]
                        rfl
                      refine pure_ (i := 12) (N := some 179) (v := ?_) (a' := ?_) #[true, true, true, true, true, true, true, true, true, true, true, true, true, false, false] rfl rfl (any_of HT_.out (by kernel_rfl)) (fun _ _ _ h => h) (Or.inl ⟨by rfl, ?_⟩) ?_ ?_
                      rotate_left
                      · intro w'
                        go_simp
                        with_reducible rfl
                      rotate_left
                      · simp only [Act.put, List.setIfInBounds_toArray, List.set_cons_zero, List.set_cons_succ, i64_w, i32_w]
                        rfl
                      refine pure_ (i := 13) (N := some 180) (v := ?_) (a' := ?_) #[true, true, true, true, true, true, true, true, true, true, true, true, true, true, false] rfl rfl (any_of HT_.out (by kernel_rfl)) (fun _ _ _ h => h) (Or.inl ⟨by rfl, ?_⟩) ?_ ?_
                      rotate_left
                      · intro w'
                        go_simp
                        with_reducible rfl
                      rotate_left
                      · simp only [Act.put, List.setIfInBounds_toArray, List.set_cons_zero, List.set_cons_succ, i64_w, i32_w]
                        rfl
                      refine last_ (i := 14) (N := none) #[true, true, true, true, true, true, true, true, true, true, true, true, true, true, true] rfl rfl (one_of HT_.out (by kernel_rfl)) (by decide) (fun K hK => ?_)
                      obtain ⟨_, _, hpb, _⟩ := HP.out.parts vv _ _ (if_pos rfl)
                      have hf0 := blk_frozen hpb 0
                      have hf1 := blk_frozen hpb 1
                      have hq0 := (HP.out.cells (v := vv) (if_pos rfl)).1
                      have hq1 := (HP.out.cells (v := vv) (if_pos rfl)).2
                      clear hpb
                      refine skip_ (w1 := ?_) (by rfl) rfl ?_ ?_
                      rotate_left
                      · go_simp
                        rfl
                      refine hK.out _ _ ?_
                      clear hK K
                      refine done_ (done_of HT_.out (by kernel_rfl)) ?_
                      have hvo := vn_ok HX.out
                      have hsw := HSk.out.with (v := vn x) hvo.1 (by omega)
                      have hpn := HP.out.setS (v := vv) (if_pos rfl) hsw
                      rw [comps_set] at hpn
                      have hme : moreAll (left.take (kk + 1)) s1 = withS (moreAll (left.take kk) s1) (vn x) := by rw [HTk2.out, moreAll_snoc]
                      rw [← hme] at hpn hsw
                      have HPn := Aside0.mk hpn
                      have HSn := Aside0.mk hsw
                      rw [← hme]
                      clear hpn hsw hme hvo hf0 hf1 hq0 hq1
                      go_wp2
                      go_roundg gj
                      case measure => omega
                      case rel => exact ⟨kk + 1, by omega, by go_num, HSn, HPn⟩
          | succ gk =>
            have hi : (i : Int) < (L.length : Int) := by omega
            obtain ⟨aL, A0, c0, hAL, hcell, hc0, hC0⟩ := rd_row (Kd.C_below HL.out HQ.out.below) i (by omega)
            subst hAL
            have hcl := HLs.out (L.getD i []) (by rw [List.getD_eq_getElem?_getD, List.getElem?_eq_getElem (show i < L.length by omega)]; exact List.getElem_mem _)
            have HRest := Aside0.mk (rest_calls hC0 hc0 (HZ3.out.C HQ.out.kept) hc3 hcl.1 (fun x hx => by have h1 := hcl.2 x hx; unfold varOf at h1; split at h1 <;> (try split at h1) <;> omega))
            have HStep := Aside0.mk (show fold1 n ys L (i + 1) = step1 ys (fold1 n ys L i) i (L.getD i []) from rfl)
            have HLen := Aside0.mk (fold1_len n ys L i)
            obtain ⟨cl, hcle⟩ : ∃ cl, L.getD i [] = cl := ⟨_, rfl⟩
            rw [hcle] at hcell hc0 hC0 hcl HRest HStep
            obtain ⟨s, hs⟩ : ∃ s, fold1 n ys L i = s := ⟨_, rfl⟩
            rw [hs] at HQ HStep HLen
            obtain ⟨R0, free0, es0, first0⟩ := s
            have HCl := Aside0.mk hcl
            clear hC0 hcl hcle hs
            by_cases hlf : leftB cl ys = true
            · rw [hlf] at HRest
              simp only [if_true] at HRest
              by_cases hre : restF cl ys = []
              · rw [hre] at HRest
                go_wp2_with (first
                  | (go_at_call 44; refine (HRest.out).mono ?_; rintro e w4 ⟨v15, rfl, hr15, hb4⟩; obtain ⟨A5, c5, rfl, _⟩ := Kd.R_reads hr15; replace HQ := Aside0.mk (HQ.out.bg hb4); clear hr15 hb4)
                  | (at_builtin; refine part_wp HQ.out (i : Int) (by have := HLen.out.1; omega) rfl (.tmp 75) (.tmp 79) rfl rfl rfl ?_; intro v4n w5 hQ5; have HQ5 := Aside0.mk hQ5; clear hQ5))
                go_roundg gk
                case measure => omega
                case rel => exact ⟨i + 1, by omega, by go_num, ⟨by rw [HStep.out]; unfold step1; rw [if_pos hlf, if_pos hre]; exact HQ5.out⟩⟩
              · obtain ⟨left, hleft⟩ : ∃ left, restF cl ys = left := ⟨_, rfl⟩
                rw [hleft] at hre HRest
                have hl0 : ¬ ((left.length : Int) = 0) := by
                  have := List.length_pos_iff.2 hre
                  omega
                have HNe := Aside0.mk hre
                have HLft := Aside0.mk (show ∀ x ∈ left, varOf x ≠ 0 from fun x hx => by rw [← hleft] at hx; exact HCl.out.2 x ((List.mem_filter.1 hx).1))
                have hll : left.length ≤ 4096 := by have h1 := HCl.out.1; have h2 := List.length_filter_le (fun x => !decide (-x ∈ ys)) cl; rw [← hleft]; unfold restF; omega
                clear hre
                go_wp2_with (first
                  | (go_at_call 44; refine (HRest.out).mono ?_; rintro e w4 ⟨v15, rfl, hr15, hb4⟩; obtain ⟨A5, c5, rfl, _⟩ := Kd.R_reads hr15; have HX15 := Aside0.mk (Kd.own_of_R hr15); have HSz := Aside0.mk (own_lt HQ.out.f); have HSz2 := Aside0.mk HQ.out.kept.1; replace HQ := Aside0.mk (HQ.out.bg hb4); clear hr15 hb4)
                  | (at_builtin; refine push_wp HQ.out (i : Int) (by have := HLen.out.2; omega) (own_weaken HX15.out HSz2.out) (fun k hk he => by have h1 := own_base HX15.out k hk; have h2 := HSz.out k he.symm; omega) rfl (.tmp 81) (.tmp 83) rfl rfl rfl ?_; intro v12n w5 hQ5; have HQ5 := Aside0.mk hQ5; clear hQ5))
                have HQ3i := Aside0.mk (show Q1 W w3 (W.heap.size + 1) gu (gu + 1) (uniAll (head0 left) (left.take 0) R0) (lessAll (left.take 0) free0) es0 (first0 ++ [(i : Int)]) u4 v12n (.slice A5 left.length c5) left w5 from HQ5.out)
                clear HQ5 HQ HX15 HSz HSz2
                go_loopg [87] left.length (fun gj v87 w' => ∃ (k : Nat), k + gj = left.length ∧ v87 = .int .i64 (k : Int) ∧ Aside0 (Q1 W w3 (W.heap.size + 1) gu (gu + 1) (uniAll (head0 left) (left.take k) R0) (lessAll (left.take k) free0) es0 (first0 ++ [(i : Int)]) u4 v12n (.slice A5 left.length c5) left w'))
                case atStart => exact ⟨0, by omega, rfl, HQ3i⟩
                case round =>
                  clear HQ3i
                  obtain ⟨k, hkg, rfl, HQ⟩ := hrel
                  cases gk with
                  | zero =>
                    have hk : k = left.length := by omega
                    subst hk
                    rw [List.take_length] at HQ
                    have hk : ¬ ((left.length : Int) < (left.length : Int)) := by omega
                    go_wp2
                    trace_state
                    go_roundg gk
                    case measure => omega
                    case rel => exact ⟨i + 1, by omega, by go_num, ⟨by rw [HStep.out]; unfold step1; rw [if_pos hlf, if_neg (by rw [hleft]; exact HNe.out)]; simp only [hleft]; exact HQ.out.withRow (own_nil _ _ _ _)⟩⟩
                  | succ gj =>
                    have hk : (k : Int) < (left.length : Int) := by omega
                    obtain ⟨a5, hA5, hx⟩ := HQ.out.cellk k (by omega)
                    subst hA5
                    obtain ⟨x, hxe⟩ : ∃ x, left.getD k 0 = x := ⟨_, rfl⟩
                    rw [hxe] at hx
                    have hgei : left[k]? = some x := by
                      rw [← hxe]; simp [List.getD_eq_getElem?_getD, List.getElem?_eq_getElem (show k < left.length by omega)]
                    have htk : left.take (k + 1) = left.take k ++ [x] := by rw [List.take_add_one, hgei]; rfl
                    have HTk := Aside0.mk htk
                    have HX := Aside0.mk (HLft.out x (List.mem_of_getElem? hgei))
                    have HX0 := Aside0.mk (HLft.out (head0 left) (by
                      obtain ⟨y, r, rfl⟩ := List.exists_cons_of_ne_nil HNe.out
                      exact List.mem_cons_self))
                    clear hxe hgei htk
                    have hpos : 0 < left.length := by omega
                    go_wp2_with fail
                    try go_step3
                    refine start_ (n := 5) (S := fun w' => w'.cell? ⟨W.heap.size + 1, 0, none⟩ = some (.int .u64 ((lessAll (left.take k) free0).1 : Int)) ∧ w'.cell? ⟨W.heap.size + 1, 1, none⟩ = some (.int .u64 ((lessAll (left.take k) free0).2 : Int))) (ds := [4]) #[false, false, false, false, false] (by kernel_rfl) rfl rfl (⟨(blk_cell HQ.out.fr 0).trans rfl, (blk_cell HQ.out.fr 1).trans rfl⟩) (fun hHeld => ?_)
                    refine with_tabW q15r26tab q15r26bits (fun HT_ HW_ => ?_)
                    refine take_ (i := 0) (N := some 91) (v := ?_) (a' := ?_) #[true, false, false, false, false] rfl rfl (take_ofW HT_.out HW_.out (by kernel_rfl)) (fun _ _ _ h => h) (Or.inl ⟨by rfl, ?_⟩) hHeld ?_ ?_
                    rotate_left
                    · rintro w' ⟨s0, s1⟩
                      go_simp
                      with_reducible rfl
                    rotate_left
                    · simp only [Act.put, List.setIfInBounds_toArray, List.set_cons_zero, List.set_cons_succ, i64_w, i32_w]
                      rfl
                    refine pure_ (i := 1) (N := some 92) (v := ?_) (a' := ?_) #[true, true, false, false, false] rfl rfl (any_of HT_.out (by kernel_rfl)) (fun _ _ _ h => h) (Or.inl ⟨by rfl, ?_⟩) ?_ ?_
                    rotate_left
                    · intro w'
                      go_simp
                      with_reducible rfl
                    rotate_left
                    · simp only [Act.put, List.setIfInBounds_toArray, List.set_cons_zero, List.set_cons_succ, i64_w, i32_w]
                      rfl
                    refine one_ (i := 2) (N := some 93) #[true, true, true, false, false] rfl rfl (one_of HT_.out (by kernel_rfl)) (by decide) (fun K hK => ?_)
                    refine goes_ Try.func28 (by kernel_rfl) rfl #[.int .i64 x] (by rfl) rfl rfl (by simp only [List.map_toArray, List.map_cons, List.map_nil]; rfl) ?_
                    refine (HVar.out x _).mono ?_
                    rintro e_ w_ ⟨rfl, ⟨n_, rfl⟩⟩
                    refine ⟨_, rfl, ?_⟩
                    replace HQ := Aside0.mk (HQ.out.drew.drewN n_)
                    clear hx
                    generalize wr.drew.drewN n_ = wv at HQ ⊢
                    refine hK.out _ _ (⟨(blk_cell HQ.out.fr 0).trans rfl, (blk_cell HQ.out.fr 1).trans rfl⟩) (fun hHeld => ?_)
                    clear hK K
                    refine norm_ (a' := ?_) ?_ ?_
                    rotate_left
                    · show Act.put _ (some 93) _ = _
                      simp only [Act.put, List.setIfInBounds_toArray, List.set_cons_zero, List.set_cons_succ, i64_w, i32_w]
                      rfl
                    refine one_ (i := 3) (N := some 94) #[true, true, true, true, false] rfl rfl (one_of HT_.out (by kernel_rfl)) (by decide) (fun K hK => ?_)
                    refine goes_ Try.func43 (by kernel_rfl) rfl #[setV2 (lessAll (left.take k) free0), .int .i64 (varOf x)] (by rfl) rfl rfl (by simp only [List.map_toArray, List.map_cons, List.map_nil]; rfl) ?_
                    refine (HWo.out _ _ x HQ.out.s HX.out).mono ?_
                    rintro e_ w_ ⟨rfl, hb3⟩
                    refine ⟨_, rfl, ?_⟩
                    replace HQ := Aside0.mk (HQ.out.bg hb3)
                    clear hb3
                    refine hK.out _ _ (⟨(blk_cell HQ.out.fr 0).trans rfl, (blk_cell HQ.out.fr 1).trans rfl⟩) (fun hHeld => ?_)
                    clear hK K
                    refine norm_ (a' := ?_) ?_ ?_
                    rotate_left
                    · show Act.put _ (some 94) _ = _
                      simp only [Act.put, List.setIfInBounds_toArray, List.set_cons_zero, List.set_cons_succ, i64_w, i32_w]
                      rfl
                    refine last_ (i := 4) (N := none) #[true, true, true, true, true] rfl rfl (one_of HT_.out (by kernel_rfl)) (by decide) (fun K hK => ?_)
                    have hf0 := blk_frozen HQ.out.fr 0
                    have hf1 := blk_frozen HQ.out.fr 1
                    have hq0 : w_.cell? ⟨W.heap.size + 1, 0, none⟩ = some (.int .u64 ((lessAll (left.take k) free0).1 : Int)) := (blk_cell HQ.out.fr 0).trans rfl
                    have hq1 : w_.cell? ⟨W.heap.size + 1, 1, none⟩ = some (.int .u64 ((lessAll (left.take k) free0).2 : Int)) := (blk_cell HQ.out.fr 1).trans rfl
                    refine skip_ (w1 := ?_) (by rfl) rfl ?_ ?_
                    rotate_left
                    · go_simp
                      rfl
                    refine hK.out _ _ ?_
                    clear hK K
                    refine done_ (done_of HT_.out (by kernel_rfl)) ?_
                    replace HQ := Aside0.mk (show Q1 W w3 (W.heap.size + 1) gu (gu + 1) (uniAll (head0 left) (left.take k) R0) (lessAll (left.take (k + 1)) free0) es0 (first0 ++ [(i : Int)]) u4 v12n (.slice (some a5) left.length c5) left _ from by rw [HTk.out, lessAll_snoc]; exact HQ.out.setFree (HQ.out.s.without _))
                    clear hf0 hf1 hq0 hq1
                    generalize ((w_.setCell ⟨W.heap.size + 1, 0, none⟩ (.int .u64 ((withoutS (lessAll (left.take k) free0) (vn x)).1 : Int))).setCell ⟨W.heap.size + 1, 1, none⟩ (.int .u64 ((withoutS (lessAll (left.take k) free0) (vn x)).2 : Int))) = wk at HQ ⊢
                    go_wp2_with fail
                    try go_step3
                    obtain ⟨up, hup⟩ := HQ.out.uf
                    have HF := Aside0.mk hup.2.f
                    have HR0 := Aside0.mk hup.1
                    have HU := Aside0.mk hup.2
                    clear hup
                    refine start_ (n := 12) (S := fun w' => w'.cell? ⟨gu + 1, 0, none⟩ = some (.func (.func 42) #[] #[.pointer (some ⟨gu, 0, none⟩), .pointer (some ⟨gu + 1, 0, none⟩)]) ∧ w'.cell? a5 = some (.int .i64 (head0 left))) (ds := []) #[false, false, false, false, false, false, false, false, false, false, false, false] (by kernel_rfl) rfl rfl (⟨(blk_cell HF.out 0).trans rfl, HQ.out.cell0 HNe.out⟩) (fun hHeld => ?_)
                    refine with_tabW q15r27tab q15r27bits (fun HT_ HW_ => ?_)
                    refine take_ (i := 0) (N := some 95) (v := ?_) (a' := ?_) #[true, false, false, false, false, false, false, false, false, false, false, false] rfl rfl (take_ofW HT_.out HW_.out (by kernel_rfl)) (fun _ _ _ h => h) (Or.inl ⟨by rfl, ?_⟩) hHeld ?_ ?_
                    rotate_left
                    · rintro w' ⟨s0, s1⟩
                      go_simp
                      with_reducible rfl
                    rotate_left
                    · simp only [Act.put, List.setIfInBounds_toArray, List.set_cons_zero, List.set_cons_succ, i64_w, i32_w]
                      rfl
                    refine pure_ (i := 1) (N := some 96) (v := ?_) (a' := ?_) #[true, true, false, false, false, false, false, false, false, false, false, false] rfl rfl (any_of HT_.out (by kernel_rfl)) (fun _ _ _ h => h) (Or.inl ⟨by rfl, ?_⟩) ?_ ?_
                    rotate_left
                    · intro w'
                      go_simp
                      with_reducible rfl
                    rotate_left
                    · simp only [Act.put, List.setIfInBounds_toArray, List.set_cons_zero, List.set_cons_succ, i64_w, i32_w]
                      rfl
                    refine pure_ (i := 2) (N := some 97) (v := ?_) (a' := ?_) #[true, true, true, false, false, false, false, false, false, false, false, false] rfl rfl (any_of HT_.out (by kernel_rfl)) (fun _ _ _ h => h) (Or.inl ⟨by rfl, ?_⟩) ?_ ?_
                    rotate_left
                    · intro w'
                      go_simp
                      with_reducible rfl
                    rotate_left
                    · simp only [Act.put, List.setIfInBounds_toArray, List.set_cons_zero, List.set_cons_succ, i64_w, i32_w]
                      rfl
                    refine take_ (i := 3) (N := some 98) (v := ?_) (a' := ?_) #[true, true, true, true, false, false, false, false, false, false, false, false] rfl rfl (take_ofW HT_.out HW_.out (by kernel_rfl)) (fun _ _ _ h => h) (Or.inl ⟨by rfl, ?_⟩) hHeld ?_ ?_
                    rotate_left
                    · rintro w' ⟨s0, s1⟩
                      go_simp
                      with_reducible rfl
                    rotate_left
                    · simp only [Act.put, List.setIfInBounds_toArray, List.set_cons_zero, List.set_cons_succ, i64_w, i32_w]
                      rfl
                    refine take_ (i := 6) (N := some 101) (v := ?_) (a' := ?_) #[true, true, true, true, false, false, true, false, false, false, false, false] rfl rfl (take_ofW HT_.out HW_.out (by kernel_rfl)) (fun _ _ _ h => h) (Or.inl ⟨by rfl, ?_⟩) hHeld ?_ ?_
                    rotate_left
                    · rintro w' ⟨s0, s1⟩
                      go_simp
                      with_reducible rfl
                    rotate_left
                    · simp only [Act.put, List.setIfInBounds_toArray, List.set_cons_zero, List.set_cons_succ, i64_w, i32_w]
                      rfl
                    refine pure_ (i := 7) (N := some 102) (v := ?_) (a' := ?_) #[true, true, true, true, false, false, true, true, false, false, false, false] rfl rfl (any_of HT_.out (by kernel_rfl)) (fun _ _ _ h => h) (Or.inl ⟨by rfl, ?_⟩) ?_ ?_
                    rotate_left
                    · intro w'
                      go_simp
                      with_reducible rfl
                    rotate_left
                    · simp only [Act.put, List.setIfInBounds_toArray, List.set_cons_zero, List.set_cons_succ, i64_w, i32_w]
                      rfl
                    refine one_ (i := 4) (N := some 99) #[true, true, true, true, true, false, true, true, false, false, false, false] rfl rfl (one_of HT_.out (by kernel_rfl)) (by decide) (fun K hK => ?_)
                    refine goes_ Try.func28 (by kernel_rfl) rfl #[.int .i64 (head0 left)] (by rfl) rfl rfl (by simp only [List.map_toArray, List.map_cons, List.map_nil]; rfl) ?_
                    refine (HVar.out (head0 left) _).mono ?_
                    rintro e_ w_ ⟨rfl, ⟨n_, rfl⟩⟩
                    refine ⟨_, rfl, ?_⟩
                    replace HQ := Aside0.mk (HQ.out.drew.drewN n_)
                    replace HU := Aside0.mk (HU.out.drewN n_)
                    have hU2 : UF (wk.drew.drewN n_) gu (gu + 1) up := ⟨HU.out.u, HU.out.f⟩
                    replace HU := Aside0.mk hU2
                    clear hU2
                    generalize wk.drew.drewN n_ = wv at HQ HU ⊢
                    refine hK.out _ _ (⟨(blk_cell HU.out.f 0).trans rfl, HQ.out.cell0 HNe.out⟩) (fun hHeld => ?_)
                    clear hK K
                    refine norm_ (a' := ?_) ?_ ?_
                    rotate_left
                    · show Act.put _ (some 99) _ = _
                      simp only [Act.put, List.setIfInBounds_toArray, List.set_cons_zero, List.set_cons_succ, i64_w, i32_w]
                      rfl
                    refine one_ (i := 5) (N := some 100) #[true, true, true, true, true, true, true, true, false, false, false, false] rfl rfl (one_of HT_.out (by kernel_rfl)) (by decide) (fun K hK => ?_)
                    refine goesV_ Try.func42 (by kernel_rfl) rfl #[.int .i64 (varOf (head0 left))] #[.pointer (some ⟨gu, 0, none⟩), .pointer (some ⟨gu + 1, 0, none⟩)] (.tmp 95) (by rfl) rfl rfl (by rfl) (by simp only [List.map_toArray, List.map_cons, List.map_nil]; rfl) ?_
                    refine (top_lit _ _ HX0.out HR0.out HU.out).mono ?_
                    rintro e_ wv2 ⟨rfl, up2, hR2, hU2, hk2, hi2, hb2⟩
                    refine ⟨_, rfl, ?_⟩
                    replace HQ := Aside0.mk (HQ.out.top hR2 hU2 hk2 hb2)
                    replace HR0 := Aside0.mk hR2
                    replace HU := Aside0.mk hU2
                    replace HF := Aside0.mk hU2.f
                    clear hR2 hU2 hk2 hi2 hb2
                    refine hK.out _ _ (⟨(blk_cell HU.out.f 0).trans rfl, HQ.out.cell0 HNe.out⟩) (fun hHeld => ?_)
                    clear hK K
                    refine norm_ (a' := ?_) ?_ ?_
                    rotate_left
                    · show Act.put _ (some 100) _ = _
                      simp only [Act.put, List.setIfInBounds_toArray, List.set_cons_zero, List.set_cons_succ, i64_w, i32_w]
                      rfl
                    refine one_ (i := 8) (N := some 103) #[true, true, true, true, true, true, true, true, true, false, false, false] rfl rfl (one_of HT_.out (by kernel_rfl)) (by decide) (fun K hK => ?_)
                    refine goes_ Try.func28 (by kernel_rfl) rfl #[.int .i64 x] (by rfl) rfl rfl (by simp only [List.map_toArray, List.map_cons, List.map_nil]; rfl) ?_
                    refine (HVar.out x _).mono ?_
                    rintro e_ w_ ⟨rfl, ⟨n_, rfl⟩⟩
                    refine ⟨_, rfl, ?_⟩
                    replace HQ := Aside0.mk (HQ.out.drewN n_)
                    have hU2 : UF (wv2.drewN n_) gu (gu + 1) up2 := ⟨HU.out.u, HU.out.f⟩
                    replace HU := Aside0.mk hU2
                    clear hU2
                    generalize wv2.drewN n_ = wv3 at HQ HU ⊢
                    refine hK.out _ _ (⟨(blk_cell HU.out.f 0).trans rfl, HQ.out.cell0 HNe.out⟩) (fun hHeld => ?_)
                    clear hK K
                    refine norm_ (a' := ?_) ?_ ?_
                    rotate_left
                    · show Act.put _ (some 103) _ = _
                      simp only [Act.put, List.setIfInBounds_toArray, List.set_cons_zero, List.set_cons_succ, i64_w, i32_w]
                      rfl
                    refine one_ (i := 9) (N := some 104) #[true, true, true, true, true, true, true, true, true, true, false, false] rfl rfl (one_of HT_.out (by kernel_rfl)) (by decide) (fun K hK => ?_)
                    refine goesV_ Try.func42 (by kernel_rfl) rfl #[.int .i64 (varOf x)] #[.pointer (some ⟨gu, 0, none⟩), .pointer (some ⟨gu + 1, 0, none⟩)] (.tmp 101) (by rfl) rfl rfl (by rfl) (by simp only [List.map_toArray, List.map_cons, List.map_nil]; rfl) ?_
                    refine (top_lit _ _ HX.out HR0.out HU.out).mono ?_
                    rintro e_ wv4 ⟨rfl, up3, hR2, hU2, hk2, hi2, hb2⟩
                    refine ⟨_, rfl, ?_⟩
                    replace HQ := Aside0.mk (HQ.out.top hR2 hU2 hk2 hb2)
                    replace HR0 := Aside0.mk hR2
                    replace HU := Aside0.mk hU2
                    replace HF := Aside0.mk hU2.f
                    clear hR2 hU2 hk2 hi2 hb2
                    refine hK.out _ _ (⟨(blk_cell HU.out.f 0).trans rfl, HQ.out.cell0 HNe.out⟩) (fun hHeld => ?_)
                    clear hK K
                    refine norm_ (a' := ?_) ?_ ?_
                    rotate_left
                    · show Act.put _ (some 104) _ = _
                      simp only [Act.put, List.setIfInBounds_toArray, List.set_cons_zero, List.set_cons_succ, i64_w, i32_w]
                      rfl
                    refine pure_ (i := 10) (N := some 19) (v := ?_) (a' := ?_) #[true, true, true, true, true, true, true, true, true, true, true, false] rfl rfl (any_of HT_.out (by kernel_rfl)) (fun _ _ _ h => h) (Or.inl ⟨by rfl, ?_⟩) ?_ ?_
                    rotate_left
                    · intro w'
                      go_simp
                      with_reducible rfl
                    rotate_left
                    · simp only [Act.put, List.setIfInBounds_toArray, List.set_cons_zero, List.set_cons_succ, i64_w, i32_w]
                      rfl
                    refine pure_ (i := 11) (N := some 20) (v := ?_) (a' := ?_) #[true, true, true, true, true, true, true, true, true, true, true, true] rfl rfl (any_of HT_.out (by kernel_rfl)) (fun _ _ _ h => h) (Or.inl ⟨by rfl, ?_⟩) ?_ ?_
                    rotate_left
                    · intro w'
                      go_simp
                      with_reducible rfl
                    rotate_left
                    · simp only [Act.put, List.setIfInBounds_toArray, List.set_cons_zero, List.set_cons_succ, i64_w, i32_w]
                      rfl
                    refine done_ (done_of HT_.out (by kernel_rfl)) ?_
                    have hvx := vn_ok HX.out
                    have hv0 := vn_ok HX0.out
                    have hle1 := (HR0.out.le _ hv0.2).1
                    have hle2 := (HR0.out.le _ hvx.2).1
                    by_cases hne : uniAll (head0 left) (left.take k) R0 (vn (head0 left)) = uniAll (head0 left) (left.take k) R0 (vn x)
                    · have he : uniAll (head0 left) (left.take (k + 1)) R0 = uniAll (head0 left) (left.take k) R0 := by rw [HTk.out, uniAll_snoc, uni_same hne]
                      have HE := Aside0.mk he
                      clear he hvx hv0 hle1 hle2
                      go_wp2
                      go_roundg gj
                      case measure => omega
                      case rel => exact ⟨k + 1, by omega, by go_num, ⟨by rw [HE.out]; exact HQ.out⟩⟩
                    · have he : uniAll (head0 left) (left.take (k + 1)) R0 = uni (uniAll (head0 left) (left.take k) R0) (vn (head0 left)) (vn x) := by rw [HTk.out, uniAll_snoc]
                      have HE := Aside0.mk he
                      have hQ7 := HQ.out.union hv0.2 hvx.2 hv0.1 hvx.1 hne
                      rw [← he] at hQ7
                      have HQ7 := Aside0.mk hQ7
                      clear he hQ7
                      obtain ⟨ra, hra⟩ : ∃ r, uniAll (head0 left) (left.take k) R0 (vn (head0 left)) = r := ⟨_, rfl⟩
                      obtain ⟨rb, hrb⟩ : ∃ r, uniAll (head0 left) (left.take k) R0 (vn x) = r := ⟨_, rfl⟩
                      rw [hra, hrb] at hne HQ7
                      rw [hra] at hle1
                      rw [hrb] at hle2
                      simp only [hra, hrb]
                      have hmx : max (ra : Int) (rb : Int) = ((max ra rb : Nat) : Int) := by omega
                      have hmn : min (ra : Int) (rb : Int) = ((min ra rb : Nat) : Int) := by omega
                      have hcm := up_cell HU.out (v := max ra rb) (by omega)
                      have hfm := blk_frozen HU.out.u (max ra rb)
                      have hlt : ((max ra rb : Nat) : Int) < 129 := by omega
                      have hneI : ¬ ((ra : Int) = (rb : Int)) := by omega
                      clear hra hrb hle1 hle2 hvx hv0
                      go_wp2
                      trace_state
                      go_roundg gj
                      case measure => omega
                      case rel => exact ⟨k + 1, by omega, by go_num, HQ7⟩
            · rw [eq_false_of_ne_true hlf] at HRest
              go_wp2_with (go_at_call 44; refine (HRest.out).mono ?_; rintro e w4 ⟨v15, rfl, hr15, hb4⟩; obtain ⟨A5, c5, rfl, _⟩ := Kd.R_reads hr15; replace HQ := Aside0.mk (HQ.out.bg hb4); clear hr15 hb4)
              go_roundg gk
              case measure => omega
              case rel => exact ⟨i + 1, by omega, by go_num, ⟨by rw [HStep.out]; unfold step1; rw [if_neg hlf]; exact HQ.out⟩⟩
      | succ gk =>
        have hi : (i : Int) < (ys.length : Int) := by omega
        obtain ⟨ad, hA2, hx⟩ := rd_int (HZ.out.C HQ.out.kept) i (by omega)
        subst hA2
        obtain ⟨x, hxe⟩ : ∃ x, ys.getD i 0 = x := ⟨_, rfl⟩
        rw [hxe] at hx
        have hgei : ys[i]? = some x := by
          rw [← hxe]; simp [List.getD_eq_getElem?_getD, List.getElem?_eq_getElem (show i < ys.length by omega)]
        have htk : ys.take (i + 1) = ys.take i ++ [x] := by rw [List.take_add_one, hgei]; rfl
        have HTk := Aside0.mk htk
        have HX := Aside0.mk (Hls.out x ((HTd.out.1 x).1 (List.mem_of_getElem? hgei)))
        clear hxe hgei htk
        go_wp2_with fail
        try go_step3
        refine start_ (n := 5) (S := fun w' => w'.cell? ⟨W.heap.size + 1, 0, none⟩ = some (.int .u64 ((lessAll (ys.take i) (allS n)).1 : Int)) ∧ w'.cell? ⟨W.heap.size + 1, 1, none⟩ = some (.int .u64 ((lessAll (ys.take i) (allS n)).2 : Int))) (ds := [4]) #[false, false, false, false, false] (by kernel_rfl) rfl rfl (⟨(blk_cell HQ.out.fr 0).trans rfl, (blk_cell HQ.out.fr 1).trans rfl⟩) (fun hHeld => ?_)
        refine with_tabW q15r11tab q15r11bits (fun HT_ HW_ => ?_)
        refine take_ (i := 0) (N := some 50) (v := ?_) (a' := ?_) #[true, false, false, false, false] rfl rfl (take_ofW HT_.out HW_.out (by kernel_rfl)) (fun _ _ _ h => h) (Or.inl ⟨by rfl, ?_⟩) hHeld ?_ ?_
        rotate_left
        · rintro w' ⟨s0, s1⟩
          go_simp
          with_reducible rfl
        rotate_left
        · simp only [Act.put, List.setIfInBounds_toArray, List.set_cons_zero, List.set_cons_succ, i64_w, i32_w]
          rfl
        refine pure_ (i := 1) (N := some 51) (v := ?_) (a' := ?_) #[true, true, false, false, false] rfl rfl (any_of HT_.out (by kernel_rfl)) (fun _ _ _ h => h) (Or.inl ⟨by rfl, ?_⟩) ?_ ?_
        rotate_left
        · intro w'
          go_simp
          with_reducible rfl
        rotate_left
        · simp only [Act.put, List.setIfInBounds_toArray, List.set_cons_zero, List.set_cons_succ, i64_w, i32_w]
          rfl
        refine one_ (i := 2) (N := some 52) #[true, true, true, false, false] rfl rfl (one_of HT_.out (by kernel_rfl)) (by decide) (fun K hK => ?_)
        refine goes_ Try.func28 (by kernel_rfl) rfl #[.int .i64 x] (by rfl) rfl rfl (by simp only [List.map_toArray, List.map_cons, List.map_nil]; rfl) ?_
        refine (HVar.out x _).mono ?_
        rintro e_ w_ ⟨rfl, ⟨n_, rfl⟩⟩
        refine ⟨_, rfl, ?_⟩
        replace HQ := Aside0.mk (HQ.out.drew.drewN n_)
        clear hx
        generalize wr.drew.drewN n_ = wv at HQ ⊢
        refine hK.out _ _ (⟨(blk_cell HQ.out.fr 0).trans rfl, (blk_cell HQ.out.fr 1).trans rfl⟩) (fun hHeld => ?_)
        clear hK K
        refine norm_ (a' := ?_) ?_ ?_
        rotate_left
        · show Act.put _ (some 52) _ = _
          simp only [Act.put, List.setIfInBounds_toArray, List.set_cons_zero, List.set_cons_succ, i64_w, i32_w]
          rfl
        refine one_ (i := 3) (N := some 53) #[true, true, true, true, false] rfl rfl (one_of HT_.out (by kernel_rfl)) (by decide) (fun K hK => ?_)
        refine goes_ Try.func43 (by kernel_rfl) rfl #[setV2 (lessAll (ys.take i) (allS n)), .int .i64 (varOf x)] (by rfl) rfl rfl (by simp only [List.map_toArray, List.map_cons, List.map_nil]; rfl) ?_
        refine (HWo.out _ _ x HQ.out.s HX.out).mono ?_
        rintro e_ w_ ⟨rfl, hb3⟩
        refine ⟨_, rfl, ?_⟩
        replace HQ := Aside0.mk (HQ.out.bg hb3)
        clear hb3
        refine hK.out _ _ (⟨(blk_cell HQ.out.fr 0).trans rfl, (blk_cell HQ.out.fr 1).trans rfl⟩) (fun hHeld => ?_)
        clear hK K
        refine norm_ (a' := ?_) ?_ ?_
        rotate_left
        · show Act.put _ (some 53) _ = _
          simp only [Act.put, List.setIfInBounds_toArray, List.set_cons_zero, List.set_cons_succ, i64_w, i32_w]
          rfl
        refine last_ (i := 4) (N := none) #[true, true, true, true, true] rfl rfl (one_of HT_.out (by kernel_rfl)) (by decide) (fun K hK => ?_)
        have hf0 := blk_frozen HQ.out.fr 0
        have hf1 := blk_frozen HQ.out.fr 1
        have hq0 : w_.cell? ⟨W.heap.size + 1, 0, none⟩ = some (.int .u64 ((lessAll (ys.take i) (allS n)).1 : Int)) := (blk_cell HQ.out.fr 0).trans rfl
        have hq1 : w_.cell? ⟨W.heap.size + 1, 1, none⟩ = some (.int .u64 ((lessAll (ys.take i) (allS n)).2 : Int)) := (blk_cell HQ.out.fr 1).trans rfl
        refine skip_ (w1 := ?_) (by rfl) rfl ?_ ?_
        rotate_left
        · go_simp
          rfl
        refine hK.out _ _ ?_
        clear hK K
        refine done_ (done_of HT_.out (by kernel_rfl)) ?_
        go_wp2
        go_roundg gk
        case measure => omega
        case rel => exact ⟨i + 1, by omega, by go_num, ⟨by rw [HTk.out, lessAll_snoc]; exact HQ.out.setFree (HQ.out.s.without _)⟩⟩
end
end Go.Proofs.Ytbnjbjcokkcfcaa.Sol
