/- Equal and the chapter s examples, walked; the plain law of the backbone. -/
import Derived.Test.YtbnjbjcokkcfcaaV6
import Derived.Maps.Own
import Derived.Maps.OwnOps
import Derived.Maps.Views
import Derived.Maps.OwnSet
namespace Go.Proofs.Ytbnjbjcokkcfcaa.Sol
open Go.RowKit Go.Maps Go.Proofs.YtbnjbjcokkcfcaaW.PrintWords
set_option linter.unusedVariables false
set_option linter.unusedSimpArgs false
theorem keyed3 : Keyed Try.prog 3 := int_keyed Try.underlying3
end Go.Proofs.Ytbnjbjcokkcfcaa.Sol
namespace Go.Proofs.Ytbnjbjcokkcfcaa.Sol
open Go.RowKit Go.Maps Go.Proofs.YtbnjbjcokkcfcaaW.PrintWords
set_option linter.unusedVariables false
set_option linter.unusedSimpArgs false
/-- How a bool reads. -/
def boolR (v : Value) : Option (DataW Unit × List MemPlace) :=
  match v with
  | .bool x => some (.lit (.bool x), [])
  | _ => none
theorem boolR_inv {v : Value} {x : Bool} {ps : List MemPlace} (h : boolR v = some (.lit (.bool x), ps)) : v = .bool x := by
  unfold boolR at h
  split at h
  · simp only [Option.some.injEq, Prod.mk.injEq, DataW.lit.injEq, Lit.bool.injEq] at h
    rw [h.1]
  · cases h
/-- The map in block b holds f. -/
def BMap (w : World) (b nm : Nat) (f : Int → Bool) : Prop :=
  ∃ D, w.ownsMap Try.prog 3 boolR b nm D ∧ IsMap D ∧ ∀ v : Int, -1000 ≤ v → v ≤ 1000 → D.atKey (.int .i64 v) (.lit (.bool false)) = .lit (.bool (f v))
theorem keyI (v : Int) (h0 : -1000 ≤ v) (h1 : v ≤ 1000) : keyOf Try.prog 3 (.int .i64 v) = some (.int .i64 v) := by
  simp [keyOf, Try.underlying3, mapKey]
  try (simp [Lit.wf, IntKind.min, IntKind.max, IntKind.signed, IntKind.bits]; omega)
theorem BMap.made (w : World) : BMap (w.alloc (.map #[] 0)) w.heap.size 0 (fun _ => false) := ⟨.map [], World.ownsMap_made _ _ _ _, ⟨_, rfl⟩, fun _ _ _ => rfl⟩
theorem BMap.lookup {w : World} {b nm : Nat} {f : Int → Bool} (h : BMap w b nm f) {v : Int} (h0 : -1000 ≤ v) (h1 : v ≤ 1000) : (Instr.lookup 102 (.map (some b)) (.int .i64 v) false).run Try.prog w = .ok (.bool (f v)) w := by
  obtain ⟨D, hD, _, h3⟩ := h
  obtain ⟨val, ps, hrun, hR⟩ := hD.lookup keyed3 Try.underlying102 (z := .bool false) (zd := .lit (.bool false)) (zp := []) (Try.zeroValue4 w) rfl (keyI v h0 h1)
  rw [h3 v h0 h1] at hR
  rw [hrun, boolR_inv hR]
theorem look_none (w : World) {v : Int} (h0 : -1000 ≤ v) (h1 : v ≤ 1000) : (Instr.lookup 102 (.map none) (.int .i64 v) false).run Try.prog w = .ok (.bool false) w := by
  have := Maps.look_nil (w := w) false keyed3 Try.underlying102 (Try.zeroValue4 w) (keyI v h0 h1)
  simpa using this
theorem BMap.update {w : World} {b nm : Nat} {f : Int → Bool} (h : BMap w b nm f) {v : Int} (h0 : -1000 ≤ v) (h1 : v ≤ 1000) (hn : nm < maxLen) : ∃ w', (Instr.mapUpdate 102 (.map (some b)) (.int .i64 v) (.bool true)).run Try.prog w = .ok () w' ∧ BMap w' b (nm + 1) (fun i => i == v || f i) ∧ w.grownBy w' (some b) := by
  obtain ⟨D, hD, h2, h3⟩ := h
  obtain ⟨w', hrun, r1, r2⟩ := hD.update keyed3 Try.underlying102 hn (keyI v h0 h1) (show boolR (.bool true) = some (.lit (.bool true), []) from rfl)
  have hk : WideAt.IsKeyLit (.int .i64 v) := by first | trivial | simp [WideAt.IsKeyLit] | decide
  refine ⟨w', hrun, ⟨_, r1, IsMap.put h2 _ _, fun i hi0 hi1 => ?_⟩, r2⟩
  by_cases e : i = v
  · subst e; rw [atKey_put_same h2 hk]; simp
  · rw [atKey_put_other (by simp; omega), h3 i hi0 hi1]; simp [e]
theorem BMap.keep {w w' : World} {b nm : Nat} {f : Int → Bool} (h : BMap w b nm f) (hk : w'.heap[b]? = w.heap[b]?) : BMap w' b nm f := by
  obtain ⟨D, ⟨es, clock, hb, r⟩, h2, h3⟩ := h
  exact ⟨D, ⟨es, clock, hk.trans hb, r⟩, h2, h3⟩
theorem BMap.lt {w : World} {b nm : Nat} {f : Int → Bool} (h : BMap w b nm f) : b < w.heap.size := by
  obtain ⟨D, h1, _⟩ := h
  exact h1.lt
theorem BMap.not_cells {w : World} {b nm g : Nat} {f : Int → Bool} {cs : Array Value} {t : TypeId} (h : BMap w b nm f) (hg : w.heap[g]? = some (.cells cs t (0, 0))) : g ≠ b := by
  obtain ⟨D, ⟨es, clock, hb, r⟩, h2, h3⟩ := h
  rintro rfl
  rw [hg] at hb
  cases hb
theorem BMap.cast {w : World} {b nm : Nat} {f f' : Int → Bool} (h : BMap w b nm f) (e : ∀ v, f v = f' v) : BMap w b nm f' := by
  rwa [show f = f' from funext e] at h
/-- What an element of the row holds. -/
def MapOk (w : World) (o : Option Nat) (c : Option (List Int)) : Prop :=
  match o, c with
  | none, none => True
  | some b, some c => ∃ nm, BMap w b nm (fun v => c.contains v)
  | _, _ => False
/-- The row of maps: the first ones are those of fs. -/
structure FX (gf : Nat) (fo : List (Option Nat)) (fs : List (Option (List Int))) (w : World) : Prop where
  bx : w.heap[gf]? = some (.cells (fo.map Value.map).toArray 102 (0, 0))
  ok : ∀ i, i < fs.length → MapOk w (fo.getD i none) (fs.getD i none)
theorem MapOk.keep {w w' : World} {o : Option Nat} {c : Option (List Int)} (h : MapOk w o c) (hk : ∀ b, o = some b → w'.heap[b]? = w.heap[b]?) : MapOk w' o c := by
  unfold MapOk at h ⊢
  split
  · trivial
  · rename_i b c
    obtain ⟨nm, hm⟩ := h
    exact ⟨nm, hm.keep (hk b rfl)⟩
  · rename_i h1 h2
    split at h
    · exact h1 rfl rfl
    · exact h2 _ _ rfl rfl
    · exact h
theorem MapOk.lt {w : World} {b : Nat} {c : Option (List Int)} (h : MapOk w (some b) c) : b < w.heap.size := by
  cases c with
  | none => exact h.elim
  | some c => obtain ⟨nm, hm⟩ := h; exact hm.lt
theorem MapOk.not_cells {w : World} {b g : Nat} {c : Option (List Int)} {cs : Array Value} {t : TypeId} (h : MapOk w (some b) c) (hg : w.heap[g]? = some (.cells cs t (0, 0))) : g ≠ b := by
  cases c with
  | none => exact h.elim
  | some c => obtain ⟨nm, hm⟩ := h; exact hm.not_cells hg
theorem FX.keep {gf : Nat} {fo : List (Option Nat)} {fs : List (Option (List Int))} {w w' : World} (h : FX gf fo fs w) (h1 : w'.heap[gf]? = w.heap[gf]?) (h2 : ∀ i, i < fs.length → ∀ b, fo.getD i none = some b → w'.heap[b]? = w.heap[b]?) : FX gf fo fs w' :=
  ⟨h1.trans h.bx, fun i hi => (h.ok i hi).keep (fun b hb => h2 i hi b hb)⟩
theorem FX.below {gf : Nat} {fo : List (Option Nat)} {fs : List (Option (List Int))} {w w' : World} (h : FX gf fo fs w) (hb : Below w.heap.size w w') : FX gf fo fs w' :=
  h.keep (hb.block gf (blk_lt h.bx)) (fun i hi b hbb => hb.block b (by have := h.ok i hi; rw [hbb] at this; exact this.lt))
/-- A cell of another row is written. -/
theorem FX.far {gf g : Nat} {fo : List (Option Nat)} {fs : List (Option (List Int))} {w : World} {cs : Array Value} {t : TypeId} (h : FX gf fo fs w) (hg : w.heap[g]? = some (.cells cs t (0, 0))) (hne : gf ≠ g) (i : Nat) (v : Value) : FX gf fo fs (w.setCell ⟨g, i, none⟩ v) :=
  h.keep (Below.heap_setCell w ⟨g, i, none⟩ v gf hne) (fun j hj b hbb => Below.heap_setCell w ⟨g, i, none⟩ v b (by
    have := h.ok j hj
    rw [hbb] at this
    exact (this.not_cells hg).symm))
/-- Another map is written. -/
theorem FX.other {gf b : Nat} {fo : List (Option Nat)} {fs : List (Option (List Int))} {w w' : World} (h : FX gf fo fs w) (hg : w.grownBy w' (some b)) (h1 : gf ≠ b) (h2 : ∀ i, i < fs.length → fo.getD i none ≠ some b) : FX gf fo fs w' :=
  h.keep (hg.block gf (blk_lt h.bx) (by simpa using h1)) (fun i hi b' hbb => hg.block b' (by have := h.ok i hi; rw [hbb] at this; exact this.lt) (by
    intro e
    injection e with e
    exact h2 i hi (by rw [hbb, e])))
/-- The next element of the row is written. -/
theorem FX.put {gf : Nat} {fo : List (Option Nat)} {fs : List (Option (List Int))} {w : World} (h : FX gf fo fs w) (b : Nat) : FX gf (fo.set fs.length (some b)) fs (w.setCell ⟨gf, fs.length, none⟩ (.map (some b))) := by
  refine ⟨blk_put h.bx fs.length _ (by simp [List.map_set]), fun i hi => ?_⟩
  have e : (fo.set fs.length (some b)).getD i none = fo.getD i none := by
    rw [List.getD_eq_getElem?_getD, List.getD_eq_getElem?_getD, List.getElem?_set_ne (by omega)]
  rw [e]
  refine (h.ok i hi).keep (fun b' hb' => Below.heap_setCell w ⟨gf, fs.length, none⟩ _ b' ?_)
  have := h.ok i hi
  rw [hb'] at this
  exact (this.not_cells h.bx).symm
theorem FX.snoc {gf : Nat} {fo : List (Option Nat)} {fs : List (Option (List Int))} {w : World} (h : FX gf fo fs w) {c : Option (List Int)} (hc : MapOk w (fo.getD fs.length none) c) : FX gf fo (fs ++ [c]) w := by
  refine ⟨h.bx, fun i hi => ?_⟩
  rw [List.length_append, List.length_singleton] at hi
  by_cases e : i < fs.length
  · rw [show (fs ++ [c]).getD i none = fs.getD i none by rw [List.getD_eq_getElem?_getD, List.getD_eq_getElem?_getD, List.getElem?_append_left e]]
    exact h.ok i e
  · obtain rfl : i = fs.length := by omega
    rw [show (fs ++ [c]).getD fs.length none = c by rw [List.getD_eq_getElem?_getD, List.getElem?_append_right (by omega)]; simp]
    exact hc
theorem FX.cell {gf : Nat} {fo : List (Option Nat)} {fs : List (Option (List Int))} {w : World} (h : FX gf fo fs w) {i : Nat} (hi : i < fo.length) : w.cell? ⟨gf, i, none⟩ = some (.map (fo.getD i none)) := by
  rw [blk_cell h.bx i]
  simp [List.getD_eq_getElem?_getD, hi]
/-- Whether v follows, by the row. -/
def folAt (fs : List (Option (List Int))) (i : Nat) (v : Int) : Bool := match fs.getD i none with
  | none => false
  | some c => c.contains v
theorem folB_at (fs : List (Option (List Int))) (n a b : Int) (i : Nat) (h : a + n = (i : Int)) : folB fs n a b = folAt fs i b := by
  unfold folB folAt
  rw [h, Int.toNat_natCast]
  cases fs.getD i none <;> rfl
theorem FX.look {gf : Nat} {fo : List (Option Nat)} {fs : List (Option (List Int))} {w : World} (h : FX gf fo fs w) {i : Nat} (hi : i < fs.length) {v : Int} (h0 : -1000 ≤ v) (h1 : v ≤ 1000) : (Instr.lookup 102 (.map (fo.getD i none)) (.int .i64 v) false).run Try.prog w = .ok (.bool (folAt fs i v)) w := by
  have hk := h.ok i hi
  unfold folAt
  unfold MapOk at hk
  split at hk
  · rename_i e1 e2
    rw [e1, e2]
    exact look_none w h0 h1
  · rename_i b c e1 e2
    rw [e1, e2]
    obtain ⟨nm, hm⟩ := hk
    exact hm.lookup h0 h1
  · exact hk.elim
end Go.Proofs.Ytbnjbjcokkcfcaa.Sol
namespace Go.Proofs.Ytbnjbjcokkcfcaa.Sol
open Go.RowKit Go.Maps Go.Proofs.YtbnjbjcokkcfcaaW.PrintWords Go.Proofs.Ytbnjbjcokkcfcaa.PSearchOwn
set_option linter.unusedVariables false
set_option linter.unusedSimpArgs false
/-- The first i of M numbers, then zeros. -/
def upI (M i : Nat) : List Int := (List.range M).map fun (j : Nat) => if j < i then (j : Int) else 0
theorem upI_len (M i : Nat) : (upI M i).length = M := by simp [upI]
theorem upI_set (M i : Nat) : (upI M i).set i (i : Int) = upI M (i + 1) := by
  apply List.ext_getElem
  · simp [upI]
  · intro j h1 h2
    simp only [upI, List.getElem_set, List.getElem_map, List.getElem_range]
    by_cases h : i = j
    · subst h; simp
    · rw [if_neg h]
      by_cases h3 : j < i
      · rw [if_pos h3, if_pos (by omega)]
      · rw [if_neg h3, if_neg (by omega)]
theorem upI_zero (M : Nat) : upI M 0 = List.replicate M 0 := by
  apply List.ext_getElem
  · simp [upI]
  · intro j h1 h2
    simp [upI]
theorem followsTo_len {N : Int} {L : List (List Int)} {k : Nat} : ∀ {i : Nat} {fs : List (Option (List Int))}, followsTo N L k i = some fs → fs.length = i
  | 0, fs, h => by rw [followsTo] at h; injection h with h; rw [← h]; rfl
  | i + 1, fs, h => by
    rw [followsTo] at h
    split at h
    · rename_i fs0 f h1 h2
      injection h with h
      rw [← h, List.length_append, List.length_singleton, followsTo_len h1]
    · cases h
theorem followsTo_step {N : Int} {L : List (List Int)} {k : Nat} : ∀ {M : Nat} {fs : List (Option (List Int))}, followsTo N L k M = some fs → ∀ j, j < M → ∃ fsj f, followsTo N L k j = some fsj ∧ followsAt N L k ((j : Int) - N) = some f ∧ followsTo N L k (j + 1) = some (fsj ++ [f]) ∧ f ∈ fs
  | 0, fs, h, j, hj => by omega
  | M + 1, fs, h, j, hj => by
    have h0 := h
    rw [followsTo] at h
    split at h
    · rename_i fs0 f h1 h2
      injection h with h
      by_cases e : j = M
      · subst e
        exact ⟨fs0, f, h1, h2, by rw [h0, h], by rw [← h]; simp⟩
      · obtain ⟨fsj, f', g1, g2, g3, g4⟩ := followsTo_step h1 j (by omega)
        exact ⟨fsj, f', g1, g2, g3, by rw [← h]; exact List.mem_append_left _ g4⟩
    · cases h
theorem leasts_len {up : List Int} {k : Nat} {n : Int} : ∀ {v : Nat} {l : List Int}, leasts up k n v = some l → l.length = v
  | 0, l, h => by rw [leasts] at h; injection h with h; rw [← h]; rfl
  | v + 1, l, h => by
    rw [leasts] at h
    split at h
    · rename_i l0 x h1 h2
      injection h with h
      rw [← h, List.length_append, List.length_singleton, leasts_len h1]
    · cases h
theorem leasts_step {up : List Int} {k : Nat} {n : Int} : ∀ {m : Nat} {out : List Int}, leasts up k n m = some out → ∀ v, v < m → ∃ l x, leasts up k n v = some l ∧ leastF up k n (v + 1) = some x ∧ leasts up k n (v + 1) = some (l ++ [x])
  | 0, out, h, v, hv => by omega
  | m + 1, out, h, v, hv => by
    have h0 := h
    rw [leasts] at h
    split at h
    · rename_i l0 x h1 h2
      injection h with h
      by_cases e : v = m
      · subst e
        exact ⟨l0, x, h1, h2, by rw [h0, h]⟩
      · exact leasts_step h1 v (by omega)
    · cases h
theorem linkU_len {up u : List Int} {k : Nat} {n a b : Int} (h : linkU up k n a b = some u) : u.length = up.length := by
  unfold linkU at h
  split at h
  · cases h
  · rename_i u1 h1
    rw [joinU_len h, joinU_len h1]
theorem pairs2_len {fs : List (Option (List Int))} {n a : Int} {k : Nat} : ∀ {d : Nat} {b : Int} {up u : List Int}, pairs2 fs n a k d b up = some u → u.length = up.length
  | 0, b, up, u, h => by rw [pairs2] at h; injection h with h; rw [h]
  | d + 1, b, up, u, h => by
    rw [pairs2] at h
    split at h
    · split at h
      · cases h
      · rename_i u1 h1
        rw [pairs2_len h, linkU_len h1]
    · exact pairs2_len h
/-- What unit.Closure says of one literal. -/
def OnePost (base : Nat) (r : Option (List Int)) (e : Ending) (w' : World) : Prop :=
  match r with
    | none => ∃ v, e = .returned (.tuple #[v, .bool false])
    | some out => ∃ A c, e = .returned (.tuple #[.slice A out.length c, .bool true]) ∧ w'.ownsRow base 3 1 (.slice A out.length c) out.length (nums .i64 out)
theorem litI_C (W : World) (x : Int) : (Kd.int .i64).C (W.alloc (.cells #[.int .i64 x] 3)) (some ⟨W.heap.size, 0, none⟩) [x].length [x] := by
  obtain ⟨A, c, e, h, _⟩ := own_C (own_lit W W.heap.size 3 .i64 [x] (Nat.le_refl _) (by simp))
  cases e
  exact h
section
variable {W : World} {N : Int} {AL : Option Addr} {cL : Nat} {L : List (List Int)}
theorem closeOne_calls (hL : Kd.C (Kd.slice 3 (Kd.int .i64)) W AL L.length L) (hcL : L.length ≤ cL) (h0 : checkF N L = 0) (k : Nat) (hk : k ≤ 20) (l : Int) {r : Option (List Int)} (h : closeV N L k [l] = some r) (w : World) (hb : Below W.heap.size W w) :
    Calls Try.prog 80 #[.agg #[.int .i64 N, .slice AL L.length cL], .slice (some ⟨w.heap.size, 0, none⟩) 1 1] (w.alloc (.cells #[.int .i64 l] 3)) fun e w' => OnePost W.heap.size r e w' ∧ Below w.heap.size w w' := by
  have hbl := below_alloc (Below.refl w.heap.size w) (.cells #[.int .i64 l] 3)
  have hb2 := below_step hb hbl
  refine Calls.mono (closeV_calls (c := 1) (Kd.C_below hL hb2) hcL (litI_C w l) h0 k h hk) ?_
  rintro e w' ⟨h1, hbe⟩
  refine ⟨?_, below_step hbl hbe⟩
  cases r with
  | none => exact h1
  | some out =>
    obtain ⟨A, c, e1, ho⟩ := h1
    exact ⟨A, c, e1, own_less ho hb2.size⟩
end
/-- The world with the links and the row of maps laid. -/
def W5 (w : World) (N : Int) (M : Nat) : World := ((w.alloc (.cells (madeCells #[.int .i64 0] M) 3)).alloc (.cells #[.int .i64 N, .slice (some ⟨w.heap.size, 0, none⟩) M M] 100)).alloc (.cells (madeCells #[.map none] M) 102)
theorem made_int (n : Nat) : madeCells #[.int .i64 0] n = (nums .i64 (List.replicate n (0 : Int))).toArray := by
  apply Array.ext'
  rw [toList_madeCells_one]; simp [nums]
theorem made_map (n : Nat) : madeCells #[.map none] n = ((List.replicate n (none : Option Nat)).map Value.map).toArray := by
  apply Array.ext'
  rw [toList_madeCells_one]; simp
theorem eq_start (w : World) (N : Int) (M : Nat) : LX (w.heap.size + 1) w.heap.size N (upI M 0) M (W5 w N M) ∧ FX (w.heap.size + 1 + 1) (List.replicate M none) [] (W5 w N M) ∧ Below w.heap.size w (W5 w N M) := by
  unfold W5
  refine ⟨⟨?_, ?_⟩, ⟨?_, fun i hi => absurd hi (by simp)⟩, ?_⟩
  · rw [upI_len]
    have := blk_new (w.alloc (.cells (madeCells #[.int .i64 0] M) 3)) (.cells #[.int .i64 N, .slice (some ⟨w.heap.size, 0, none⟩) M M] 100)
    rw [blk_size] at this
    exact blk_alloc this _
  · rw [upI_zero, ← made_int]
    exact blk_alloc (blk_alloc (blk_new w _) _) _
  · rw [← made_map]
    have := blk_new ((w.alloc (.cells (madeCells #[.int .i64 0] M) 3)).alloc (.cells #[.int .i64 N, .slice (some ⟨w.heap.size, 0, none⟩) M M] 100)) (.cells (madeCells #[.map none] M) 102)
    rw [blk_size, blk_size] at this
    exact this
  · exact below_alloc (below_alloc (below_alloc (Below.refl _ _) _) _) _
/-- Making the two rows. -/
theorem mk25 (N : Int) (M : Nat) (h : 2 * N + 1 = (M : Int)) (hM : M ≤ 1000) : ∀ w : World, (Instr.makeSlice 25 (.int .i64 (2 * N + 1)) (.int .i64 (2 * N + 1))).run Try.prog w = .ok (.slice (some ⟨w.heap.size, 0, none⟩) M M) (w.alloc (.cells (madeCells #[.int .i64 0] M) 3)) := by
  rw [h]
  exact print_make (P := Try.prog) 25 3 .i64 8 Try.underlying25 info3 (by decide) M (by omega)
theorem info102 : (Try.prog.info? 102).map (fun i => (i.zero, i.size, i.bytes)) = some (some (.map none), 1, 8) := by kernel_rfl
theorem mk101 (N : Int) (M : Nat) (h : 2 * N + 1 = (M : Int)) (hM : M ≤ 1000) : ∀ w : World, (Instr.makeSlice 101 (.int .i64 (2 * N + 1)) (.int .i64 (2 * N + 1))).run Try.prog w = .ok (.slice (some ⟨w.heap.size, 0, none⟩) M M) (w.alloc (.cells (madeCells #[.map none] M) 102)) := by
  rw [h]
  exact print_make_of (P := Try.prog) 101 102 (.map none) 8 Try.underlying101 info102 rfl (by decide) M (by omega)
end Go.Proofs.Ytbnjbjcokkcfcaa.Sol
namespace Go.Proofs.Ytbnjbjcokkcfcaa.Sol
open Go.RowKit Go.Maps Go.Proofs.YtbnjbjcokkcfcaaW.PrintWords Go.Proofs.YtbnjbjcokkcfcaaW.PrintLast Go.Proofs.YtbnjbjcokkcfcaaW.PrintMore Go.Proofs.Ytbnjbjcokkcfcaa.PSearchOwn
set_option linter.unusedVariables false
set_option linter.unusedSimpArgs false
theorem own_grow {w w1 : World} {base b n nm : Nat} {f : Int → Bool} {v : Value} {xs : List Value} (h : w.ownsRow base 3 1 v n xs) (hm : BMap w b nm f) (hg : w.grownBy w1 (some b)) : w1.ownsRow base 3 1 v n xs := by
  refine own_other h hg ?_
  rcases h.2 with ⟨rfl, _⟩ | ⟨g', cap, cur, rfl, _, hh, _⟩
  · exact .inl rfl
  · refine .inr fun he => ?_
    have : g' = b := by simpa [Value.ownBlock] using he
    exact hm.not_cells hh this
theorem own_set {w : World} {base n g i : Nat} {t : TypeId} {cs : Array Value} {v u : Value} {xs : List Value} (h : w.ownsRow base 3 1 v n xs) (hg : w.heap[g]? = some (.cells cs t (0, 0))) (hne : (3 : TypeId) ≠ t) : (w.setCell ⟨g, i, none⟩ u).ownsRow base 3 1 v n xs :=
  own_move h (fun k hk => Below.heap_setCell w ⟨g, i, none⟩ u k (fun e => own_ne h hg hne (by rw [hk]; exact congrArg some e.symm)))
theorem LX.grow {g gu c b nm : Nat} {n : Int} {up : List Int} {w w1 : World} {f : Int → Bool} (h : LX g gu n up c w) (hm : BMap w b nm f) (hg : w.grownBy w1 (some b)) : LX g gu n up c w1 :=
  ⟨blk_grown h.bx hg (by simpa using hm.not_cells h.bx), blk_grown h.ru hg (by simpa using hm.not_cells h.ru)⟩
theorem LX.far {g gu c gf i : Nat} {n : Int} {up : List Int} {w : World} {t : TypeId} {cs : Array Value} (h : LX g gu n up c w) (hf : w.heap[gf]? = some (.cells cs t (0, 0))) (h1 : (100 : TypeId) ≠ t) (h2 : (3 : TypeId) ≠ t) (u : Value) : LX g gu n up c (w.setCell ⟨gf, i, none⟩ u) :=
  ⟨blk_far h.bx (blk_ne h.bx hf h1) _, blk_far h.ru (blk_ne h.ru hf h2) _⟩
theorem FX.kept {gf gu : Nat} {fo : List (Option Nat)} {fs : List (Option (List Int))} {w w' : World} {cs : Array Value} {t : TypeId} (h : FX gf fo fs w) (hu : w.heap[gu]? = some (.cells cs t (0, 0))) (hne : (102 : TypeId) ≠ t) (hk : Kept w w' (fun x => x = gu)) : FX gf fo fs w' :=
  h.keep (hk.2 gf (blk_lt h.bx) (blk_ne h.bx hu hne)) (fun i hi b hb => by
    have h1 := h.ok i hi
    rw [hb] at h1
    exact hk.2 b h1.lt (h1.not_cells hu).symm)
theorem contains_snoc (l : List Int) (x v : Int) : (v == x || l.contains v) = (l ++ [x]).contains v := by
  rw [Bool.eq_iff_iff]
  simp [or_comm]
section
variable {W : World} {N : Int} {AL : Option Addr} {cL : Nat} {L : List (List Int)}
set_option maxHeartbeats 32000000 in
set_option maxRecDepth 100000 in
theorem equal_calls (hL : Kd.C (Kd.slice 3 (Kd.int .i64)) W AL L.length L) (hcL : L.length ≤ cL) (h0 : checkF N L = 0) (k m M : Nat) (hk : k ≤ 20) (hN : N = (m : Int)) (hMm : M = 2 * m + 1) (hm : m ≤ 20)
    {fs : List (Option (List Int))} {up out : List Int} (hf : followsTo N L k M = some fs) (hfb : ∀ c, some c ∈ fs → c.length ≤ 1000 ∧ ∀ x ∈ c, -128 ≤ x ∧ x ≤ 128) (hp : pairs1 fs N 20 M (-N) (upI M M) = some up) (hl : leasts up 20 N m = some out) :
    Calls Try.prog 58 #[.agg #[.int .i64 N, .slice AL L.length cL]] W fun e w' => (∃ A c, e = .returned (.tuple #[.slice A out.length c, .int .i64 0]) ∧ w'.ownsRow W.heap.size 3 1 (.slice A out.length c) out.length (nums .i64 out)) ∧ Below W.heap.size W w' := by
  have hck : ∀ w, Below W.heap.size W w → Calls Try.prog 31 #[.agg #[.int .i64 N, .slice AL L.length cL]] w fun e w' => e = .returned (.int .i64 0) ∧ Below w.heap.size w w' := fun w hb => by
    have := check_calls (N := N) (Kd.C_below hL hb) hcL
    rwa [h0] at this
  have HB0 := Aside0.mk (below_alloc (Below.refl W.heap.size W) (.cells #[.int .i64 N, .slice AL L.length cL] 24))
  have HT0 := Aside0.mk (blk_new W (.cells #[.int .i64 N, .slice AL L.length cL] 24))
  have HCk := Aside0.mk (hck _ HB0.out)
  have HCV := Aside0.mk (fun (l : Int) (r : Option (List Int)) (h : closeV N L k [l] = some r) (w : World) (hb : Below W.heap.size W w) => closeOne_calls hL hcL h0 k hk l h w hb)
  have HStep := Aside0.mk (followsTo_step hf)
  have HLen := Aside0.mk (@followsTo_len N L k)
  have HF0 := Aside0.mk hf
  have HFb := Aside0.mk hfb
  have HP := Aside0.mk hp
  have HLs := Aside0.mk hl
  have HN := Aside0.mk (show N = (m : Int) ∧ M = 2 * m + 1 ∧ (M : Int) = 2 * N + 1 by omega)
  have hN0 : 0 ≤ N := by omega
  have hN1 : N ≤ 20 := by omega
  have hM1 : M ≤ 41 := by omega
  have hmk25 := mk25 N M (by omega) (by omega)
  have hmk101 := mk101 N M (by omega) (by omega)
  clear hck hL hcL h0 hf hfb hp hl hN hMm
  go_enter Try.func58, Try.ntmps58
  go_upto_region 7 with (go_at_call 31; refine (HCk.out).mono ?_; rintro e w2 ⟨rfl, hb2⟩; have HB2 := Aside0.mk (below_step HB0.out hb2); have HT2 := Aside0.mk (blk_below HT0.out hb2); have hc0 : w2.cell? ⟨W.heap.size, 0, none⟩ = some (.int .i64 N) := (blk_cell HT2.out 0).trans rfl; clear hb2)
  clear hmk25 hmk101 hc0 HT0 HB0 HCk
  obtain ⟨hx5, hf5, hb5⟩ := eq_start w2 N M
  have HX5 := Aside0.mk hx5
  have HF5 := Aside0.mk hf5
  have HB5 := Aside0.mk (below_step HB2.out hb5)
  have HT5 := Aside0.mk (blk_below HT2.out hb5)
  have HG := Aside0.mk (show W.heap.size ≤ w2.heap.size ∧ W.heap.size ≤ w2.heap.size + 1 + 1 from ⟨HB2.out.size, Nat.le_trans HB2.out.size (by omega)⟩)
  clear hx5 hf5 hb5 HB2 HT2
  unfold W5 at HX5 HF5 HB5 HT5
  generalize ((w2.alloc (.cells (madeCells #[.int .i64 0] M) 3)).alloc (.cells #[.int .i64 N, .slice (some ⟨w2.heap.size, 0, none⟩) M M] 100)).alloc (.cells (madeCells #[.map none] M) 102) = w5 at HX5 HF5 HB5 HT5 ⊢
  generalize w2.heap.size + 1 + 1 = gf at HF5 HG ⊢
  generalize w2.heap.size + 1 = g at HX5 ⊢
  generalize w2.heap.size = gu at HX5 HG ⊢
  go_wp2
  go_loopg [8] M (fun gk v8 w' => ∃ (j : Nat) (l : Int) (fo : List (Option Nat)) (fsj : List (Option (List Int))), j + gk = M ∧ v8 = .int .i64 l ∧ Aside0 (l + N = (j : Int)) ∧ Aside0 (followsTo N L k j = some fsj) ∧ Aside0 (fo.length = M ∧ ∀ i, j ≤ i → fo.getD i none = none) ∧ Aside0 (LX g gu N (upI M j) M w') ∧ Aside0 (FX gf fo fsj w') ∧ Aside0 (w'.heap[W.heap.size]? = some (.cells #[.int .i64 N, .slice AL L.length cL] 24 (0, 0))) ∧ Aside0 (Below W.heap.size W w'))
  case atStart => exact ⟨0, -N, List.replicate M none, [], by omega, rfl, ⟨by omega⟩, ⟨by rw [followsTo]⟩, ⟨List.length_replicate, fun i _ => by simp [List.getD_eq_getElem?_getD, List.getElem?_replicate]; split <;> rfl⟩, HX5, HF5, HT5, HB5⟩
  case round =>
    clear HX5 HF5 HT5 HB5
    obtain ⟨j, l, fo, fsj, hjg, rfl, HA, HFs, HFo, HX, HF, HT, HB⟩ := hrel
    cases gk with
    | zero =>
      have hnl : ¬ (l ≤ N) := by have := HN.out; have := HA.out; omega
      obtain rfl : j = M := by omega
      have HFx := Aside0.mk (show FX gf fo fs wr by
        have h1 := HFs.out
        rw [HF0.out] at h1
        injection h1 with h1
        rw [h1]
        exact HF.out)
      have HFl := Aside0.mk (show fs.length = j from HLen.out HF0.out)
      clear HFs HF HF0 HCV HStep HLen HFb
      have hnl2 := HFo.out.1
      go_wp2
      go_loopg [13] j (fun gk v13 w' => ∃ (ja : Nat) (a : Int) (u : List Int), ja + gk = j ∧ v13 = .int .i64 a ∧ Aside0 (a + N = (ja : Int)) ∧ Aside0 (pairs1 fs N 20 gk a u = some up) ∧ Aside0 (u.length = j) ∧ Aside0 (LX g gu N u j w') ∧ Aside0 (FX gf fo fs w') ∧ Aside0 (Below W.heap.size W w'))
      case atStart => exact ⟨0, -N, upI j j, by omega, rfl, ⟨by omega⟩, HP, ⟨upI_len j j⟩, HX, HFx, HB⟩
      case round =>
        clear HX HFx HB HT HP hnl hnl2
        obtain ⟨ja, a, u, hjg2, rfl, HA, HP, HU, HX, HF, HB⟩ := hrel
        cases gk with
        | zero =>
          have hna : ¬ (a ≤ N) := by have := HN.out; have := HA.out; omega
          obtain rfl : u = up := by have h1 := HP.out; rw [pairs1] at h1; injection h1
          have HSt := Aside0.mk (leasts_step HLs.out)
          have HLn := Aside0.mk (@leasts_len u 20 N)
          obtain ⟨B0, hB0⟩ : ∃ B0, wr.heap.size = B0 := ⟨_, rfl⟩
          have HGB := Aside0.mk (show gu < B0 ∧ W.heap.size ≤ B0 from ⟨by rw [← hB0]; exact blk_lt HX.out.ru, by rw [← hB0]; exact HB.out.size⟩)
          have HBs := Aside0.mk (show B0 ≤ wr.heap.size by omega)
          clear HF HP HA hB0
          go_wp2
          go_loopg [15, 16] m (fun gk v15 v16 w' => ∃ (i : Nat) (A15 : Option Addr) (c15 : Nat) (li : List Int), i + gk = m ∧ v15 = .slice A15 i c15 ∧ v16 = .int .i64 ((i : Int) + 1) ∧ Aside0 (leasts u 20 N i = some li) ∧ Aside0 (w'.ownsRow B0 3 1 (.slice A15 i c15) i (nums .i64 li)) ∧ Aside0 (LX g gu N u j w') ∧ Aside0 (Below W.heap.size W w') ∧ Aside0 (B0 ≤ w'.heap.size))
          case atStart => exact ⟨0, none, 0, [], by omega, rfl, by go_num, ⟨by rw [leasts]⟩, ⟨own_nil _ _ _ _⟩, HX, HB, HBs⟩
          case round =>
            clear HX HB hna HBs
            obtain ⟨i, A15, c15, li, hig, rfl, rfl, HLi, HO, HX, HB, HBs⟩ := hrel
            cases gk with
            | zero =>
              have hni : ¬ ((i : Int) + 1 ≤ N) := by have := HN.out; omega
              obtain rfl : i = m := by omega
              obtain rfl : li = out := by have h1 := HLi.out; rw [HLs.out] at h1; injection h1 with h1; exact h1.symm
              have HOl := Aside0.mk (HLn.out HLi.out)
              go_wp2
              go_ret2
              exact ⟨⟨A15, c15, by rw [HOl.out]; rfl, by rw [HOl.out]; exact own_less HO.out HGB.out.2⟩, HB.out⟩
            | succ gk =>
              have hii : ((i : Int) + 1 ≤ N) := by have := HN.out; omega
              have hi2 : (i : Int) ≤ 20 := by omega
              obtain ⟨li', x, h1, h2, h3⟩ := HSt.out i (by omega)
              obtain rfl : li = li' := by have h4 := HLi.out; rw [h1] at h4; injection h4 with h4; exact h4.symm
              have HLl := Aside0.mk (HLn.out h1)
              have HCl := Aside0.mk (show Calls Try.prog 83 #[.pointer (some ⟨g, 0, none⟩), .int .i64 ((i : Int) + 1)] wr fun e w' => e = .returned (.int .i64 x) ∧ Below wr.heap.size wr w' from leastL_calls HX.out 20 (i + 1) h2 (by have := HU.out; omega) hN0 (by omega) (by omega) (by omega))
              have HL3 := Aside0.mk h3
              clear h1 h2 h3
              go_upto_region 32 with fail
              go_wp2_with (first
                | (go_at_call 83; refine (HCl.out).mono ?_; rintro e w3 ⟨rfl, hb3⟩; have HX3 := Aside0.mk (HX.out.below hb3); have HB3 := Aside0.mk (below_step HB.out hb3); have HO3 := Aside0.mk (show w3.ownsRow B0 3 1 (.slice A15 i c15) li.length (nums .i64 li) by rw [HLl.out]; exact pw_own_below HO.out hb3); have HBs3 := Aside0.mk (Nat.le_trans HBs.out hb3.size); clear hb3)
                | (at_builtin; refine app_int B0 HO3.out x (by rw [HLl.out]; omega) HBs3.out rfl (.tmp 124) (.tmp 128) rfl rfl rfl ?_; intro v5 w5 ho5 hg5; rw [List.length_append, List.length_singleton, HLl.out] at ho5; obtain ⟨A5, c5, rfl, _, _, _, _⟩ := own_C ho5; have HX5 := Aside0.mk (show LX g gu N u j w5 from ⟨blk_grown HX3.out.bx hg5 (own_ne HO3.out HX3.out.bx (by decide)), blk_grown HX3.out.ru hg5 (fun he => by have := own_base HO3.out gu he.symm; have := HGB.out.1; omega)⟩); have HB5 := Aside0.mk (Below.grown HB3.out hg5 HB3.out.size (fun k hk => Nat.le_trans HGB.out.2 (own_base HO3.out k hk))); have HO5 := Aside0.mk ho5; have HBs5 := Aside0.mk (Nat.le_trans HBs3.out hg5.size); clear ho5 hg5))
              go_roundg gk
              case measure => omega
              case rel => exact ⟨i + 1, A5, c5, li ++ [x], by omega, rfl, by go_num, HL3, HO5, HX5, HB5, HBs5⟩
        | succ gk =>
          have hia : a ≤ N := by have := HN.out; have := HA.out; omega
          have hA : a + N = (ja : Int) := HA.out
          have hjaM : (ja : Int) < (j : Int) := by omega
          obtain ⟨u2, hp2, hp1⟩ : ∃ u2, pairs2 fs N a 20 ja (-N) u = some u2 ∧ pairs1 fs N 20 gk (a + 1) u2 = some up := by
            have h1 := HP.out
            rw [pairs1, hA, Int.toNat_natCast] at h1
            split at h1
            · cases h1
            · rename_i u2 h2; exact ⟨u2, h2, h1⟩
          have HP2 := Aside0.mk hp2
          have HP1 := Aside0.mk hp1
          have HU2 := Aside0.mk (show u2.length = j by rw [pairs2_len hp2]; exact HU.out)
          clear hp2 hp1 HP
          go_wp2
          go_loopg [14] ja (fun gk v14 w' => ∃ (jb : Nat) (b : Int) (u' : List Int), jb + gk = ja ∧ v14 = .int .i64 b ∧ Aside0 (b + N = (jb : Int)) ∧ Aside0 (pairs2 fs N a 20 gk b u' = some u2) ∧ Aside0 (u'.length = j) ∧ Aside0 (LX g gu N u' j w') ∧ Aside0 (FX gf fo fs w') ∧ Aside0 (Below W.heap.size W w'))
          case atStart => exact ⟨0, -N, u, by omega, rfl, ⟨by omega⟩, HP2, HU, HX, HF, HB⟩
          case round =>
            clear HP2 HU HX HF HB
            obtain ⟨jb, b, u', hjb, rfl, HA2, HP2, HU, HX, HF, HB⟩ := hrel
            cases gk with
            | zero =>
              have hnb : ¬ (b < a) := by have := HA2.out; omega
              obtain rfl : u' = u2 := by have h1 := HP2.out; rw [pairs2] at h1; injection h1
              go_wp2
              go_roundg gk
              case measure => omega
              case rel => exact ⟨ja + 1, a + 1, u', by omega, rfl, ⟨by omega⟩, HP1, HU, HX, HF, HB⟩
            | succ gk2 =>
              have hA2 : b + N = (jb : Int) := HA2.out
              have hib : b < a := by omega
              have hjbM : (jb : Int) < (j : Int) := by omega
              have hcA := HF.out.cell (i := ja) (by rw [HFo.out.1]; omega)
              have hcB := HF.out.cell (i := jb) (by rw [HFo.out.1]; omega)
              have hlA := HF.out.look (i := ja) (by rw [HFl.out]; omega) (v := b) (by omega) (by omega)
              have hlB := HF.out.look (i := jb) (by rw [HFl.out]; omega) (v := a) (by omega) (by omega)
              have hPs : (if folAt fs ja b && folAt fs jb a then (match linkU u' 20 N a b with
                  | none => none
                  | some u => pairs2 fs N a 20 gk2 (b + 1) u) else pairs2 fs N a 20 gk2 (b + 1) u') = some u2 := by
                have h1 := HP2.out
                rw [pairs2, folB_at fs N a b ja hA, folB_at fs N b a jb hA2] at h1
                exact h1
              have HPs := Aside0.mk hPs
              clear hPs HP2
              generalize fo.getD ja none = oa at hcA hlA
              generalize fo.getD jb none = ob at hcB hlB
              generalize folAt fs ja b = r1 at hlA HPs
              generalize folAt fs jb a = r2 at hlB HPs
              cases r1 with
              | false =>
                have HPn := Aside0.mk (show pairs2 fs N a 20 gk2 (b + 1) u' = some u2 from HPs.out)
                go_wp2
                go_roundg gk2
                case measure => omega
                case rel => exact ⟨jb + 1, b + 1, u', by omega, rfl, ⟨by omega⟩, HPn, HU, HX, HF, HB⟩
              | true =>
                cases r2 with
                | false =>
                  have HPn := Aside0.mk (show pairs2 fs N a 20 gk2 (b + 1) u' = some u2 from HPs.out)
                  go_wp2
                  go_roundg gk2
                  case measure => omega
                  case rel => exact ⟨jb + 1, b + 1, u', by omega, rfl, ⟨by omega⟩, HPn, HU, HX, HF, HB⟩
                | true =>
                  obtain ⟨u3, hl3, hp3⟩ : ∃ u3, linkU u' 20 N a b = some u3 ∧ pairs2 fs N a 20 gk2 (b + 1) u3 = some u2 := by
                    have h1 := HPs.out
                    simp only [Bool.and_self, if_true] at h1
                    split at h1
                    · cases h1
                    · rename_i u3 h2; exact ⟨u3, h2, h1⟩
                  have HPn := Aside0.mk hp3
                  have HU3 := Aside0.mk (show u3.length = j by rw [linkU_len hl3]; exact HU.out)
                  have HLk := Aside0.mk (link_calls HX.out HB.out HG.out.1 20 a b (by omega) (by omega) hl3 (by rw [HU.out]; omega))
                  clear hl3 hp3 HPs
                  go_upto_region 27 with fail
                  clear hcA hcB hlA hlB
                  go_wp2_with (go_at_call 82; refine (HLk.out).mono ?_; rintro e w3 ⟨rfl, hx3, hb3, hk3⟩; have HX3 := Aside0.mk hx3; have HB3 := Aside0.mk hb3; have HF3 := Aside0.mk (HF.out.kept HX.out.ru (by decide) hk3); clear hx3 hb3 hk3)
                  go_roundg gk2
                  case measure => omega
                  case rel => exact ⟨jb + 1, b + 1, u3, by omega, rfl, ⟨by omega⟩, HPn, HU3, HX3, HF3, HB3⟩
    | succ gk =>
      have hA : l + N = (j : Int) := HA.out
      have hi : l ≤ N := by have := HN.out; omega
      have hjM : (j : Int) < (M : Int) := by omega
      have hlr : -100 ≤ l ∧ l ≤ 100 := by have := HN.out; omega
      have hl0 := hlr.1
      have hl1 := hlr.2
      have hs1 : wr.cell? ⟨g, 1, none⟩ = some (.slice (some ⟨gu, 0, none⟩) M M) := by
        have := (blk_cell HX.out.bx 1)
        rw [upI_len] at this
        exact this.trans rfl
      have hcu := HX.out.cell (i := j) (by rw [upI_len]; omega)
      generalize (upI M j).getD j 0 = y at hcu
      have hfu := blk_frozen HX.out.ru j
      obtain ⟨fsj', f, hf1, hf2, hf3, hf4⟩ := HStep.out j (by omega)
      obtain rfl : fsj = fsj' := by have := HFs.out; rw [hf1] at this; injection this with this; exact this.symm
      rw [show (j : Int) - N = l by omega] at hf2
      have HFn := Aside0.mk hf3
      have HFa := Aside0.mk hf2
      have HFm := Aside0.mk hf4
      have HLj := Aside0.mk (HLen.out hf1)
      have HX2 := Aside0.mk (show LX g gu N (upI M (j + 1)) M (wr.setCell ⟨gu, j, none⟩ (.int .i64 (j : Int))) by rw [← upI_set]; exact HX.out.put j (j : Int))
      have HF2 := Aside0.mk (HF.out.far HX.out.ru (blk_ne HF.out.bx HX.out.ru (by decide)) j (.int .i64 (j : Int)))
      have HT2 := Aside0.mk (blk_far (p := ⟨gu, j, none⟩) HT.out (blk_ne HT.out HX.out.ru (by decide)) (.int .i64 (j : Int)))
      have HB2 := Aside0.mk (below_set (j := j) (v := .int .i64 (j : Int)) HB.out HG.out.1)
      clear hf1 hf2 hf3 hf4 hlr
      go_upto_region 11 with fail
      clear hs1 hcu hfu HX HF HT HB HFs
      generalize wr.setCell ⟨gu, j, none⟩ (.int .i64 (j : Int)) = w3 at HX2 HF2 HT2 HB2 ⊢
      by_cases hlz : l = 0
      · have hlb : (l == 0) = true := by simpa using hlz
        have HFz := Aside0.mk (show f = none by have h1 := HFa.out; unfold followsAt at h1; rw [if_pos hlz] at h1; injection h1 with h1; exact h1.symm)
        clear hlz
        go_wp2
        go_roundg gk
        case measure => omega
        case rel => exact ⟨j + 1, l + 1, fo, fsj ++ [f], by omega, rfl, ⟨by omega⟩, HFn, ⟨HFo.out.1, fun i hi => HFo.out.2 i (by omega)⟩, HX2, ⟨HF2.out.snoc (by rw [HLj.out, HFo.out.2 j (Nat.le_refl _), HFz.out]; trivial)⟩, HT2, HB2⟩
      · have hlb : (l == 0) = false := by simpa using hlz
        have HCl := Aside0.mk (HCV.out l f (by have h1 := HFa.out; unfold followsAt at h1; rwa [if_neg hlz] at h1) w3 HB2.out)
        have hc0 : w3.cell? ⟨W.heap.size, 0, none⟩ = some (.int .i64 N) := (blk_cell HT2.out 0).trans rfl
        have hc1 : w3.cell? ⟨W.heap.size, 1, none⟩ = some (.slice AL L.length cL) := (blk_cell HT2.out 1).trans rfl
        clear hlz
        cases f with
        | none =>
          go_wp2_with (go_at_call 80; refine (HCl.out).mono ?_; rintro e w4 ⟨⟨v, rfl⟩, hb4⟩; have HX4 := Aside0.mk (HX2.out.below hb4); have HF4 := Aside0.mk (HF2.out.below hb4); have HT4 := Aside0.mk (blk_below HT2.out hb4); have HB4 := Aside0.mk (below_step HB2.out hb4); clear hb4)
          go_roundg gk
          case measure => omega
          case rel => exact ⟨j + 1, l + 1, fo, fsj ++ [none], by omega, rfl, ⟨by omega⟩, HFn, ⟨HFo.out.1, fun i hi => HFo.out.2 i (by omega)⟩, HX4, ⟨HF4.out.snoc (by rw [HLj.out, HFo.out.2 j (Nat.le_refl _)]; trivial)⟩, HT4, HB4⟩
        | some c =>
          go_upto_region 14 with (go_at_call 80; refine (HCl.out).mono ?_; rintro e w4 ⟨⟨A9, c9, rfl, ho4⟩, hb4⟩; have HO4 := Aside0.mk ho4; have HX4 := Aside0.mk (HX2.out.below hb4); have HF4 := Aside0.mk (HF2.out.below hb4); have HT4 := Aside0.mk (blk_below HT2.out hb4); have HB4 := Aside0.mk (below_step HB2.out hb4); clear hb4 ho4)
          clear HX2 HF2 HT2 HB2 hc0 hc1 HCl
          have hcf : (w4.alloc (.map #[] 0)).cell? ⟨gf, j, none⟩ = some (.map none) := by
            have h1 := (HF4.out.below (below_alloc (Below.refl _ _) (.map #[] 0))).cell (i := j) (by rw [HFo.out.1]; omega)
            rwa [HFo.out.2 j (Nat.le_refl _)] at h1
          have hff : (w4.alloc (.map #[] 0)).frozen? ⟨gf, j, none⟩ = false := blk_frozen (blk_alloc HF4.out.bx _) j
          have hmm := @run_makeMap Try.prog
          have hbm := blk_alloc HF4.out.bx (.map #[] 0)
          have HF5 := Aside0.mk (show FX gf (fo.set j (some w4.heap.size)) fsj ((w4.alloc (.map #[] 0)).setCell ⟨gf, j, none⟩ (.map (some w4.heap.size))) by
            have h1 := (HF4.out.below (below_alloc (Below.refl _ _) (.map #[] 0))).put w4.heap.size
            rwa [HLj.out] at h1)
          have HM5 := Aside0.mk (show BMap ((w4.alloc (.map #[] 0)).setCell ⟨gf, j, none⟩ (.map (some w4.heap.size))) w4.heap.size 0 (fun v => (c.take 0).contains v) from
            ((BMap.made w4).keep (Below.heap_setCell _ ⟨gf, j, none⟩ _ _ ((BMap.made w4).not_cells hbm).symm)).cast (fun v => rfl))
          have HX5 := Aside0.mk ((HX4.out.below (below_alloc (Below.refl _ _) (.map #[] 0))).far (i := j) hbm (by decide) (by decide) (.map (some w4.heap.size)))
          have HT5 := Aside0.mk (blk_far (p := ⟨gf, j, none⟩) (blk_alloc HT4.out (.map #[] 0)) (blk_ne (blk_alloc HT4.out (.map #[] 0)) hbm (by decide)) (.map (some w4.heap.size)))
          have HB5 := Aside0.mk (below_set (j := j) (v := .map (some w4.heap.size)) (below_alloc HB4.out (.map #[] 0)) HG.out.2)
          have HO5 := Aside0.mk (own_set (i := j) (u := .map (some w4.heap.size)) (own_alloc HO4.out (.map #[] 0)) hbm (by decide))
          have HNb := Aside0.mk (show ∀ i, i < fsj.length → (fo.set j (some w4.heap.size)).getD i none ≠ some w4.heap.size from fun i hi he => by
            rw [List.getD_eq_getElem?_getD, List.getElem?_set_ne (by have := HLj.out; omega), ← List.getD_eq_getElem?_getD] at he
            have h1 := HF4.out.ok i hi
            rw [he] at h1
            have := h1.lt
            omega)
          have HFo2 := Aside0.mk (show (fo.set j (some w4.heap.size)).length = M ∧ (fo.set j (some w4.heap.size)).getD j none = some w4.heap.size ∧ ∀ i, j + 1 ≤ i → (fo.set j (some w4.heap.size)).getD i none = none from
            ⟨by rw [List.length_set]; exact HFo.out.1, by rw [List.getD_eq_getElem?_getD, List.getElem?_set_self (by rw [HFo.out.1]; omega)]; rfl, fun i hi => by rw [List.getD_eq_getElem?_getD, List.getElem?_set_ne (by omega), ← List.getD_eq_getElem?_getD]; exact HFo.out.2 i (by omega)⟩)
          have HGb := Aside0.mk (show W.heap.size ≤ w4.heap.size from HB4.out.size)
          have HCb := Aside0.mk (HFb.out c HFm.out).2
          have HCm := Aside0.mk (HFb.out c HFm.out).1
          clear hbm HX4 HF4 HT4 HB4 HO4 HFo
          go_wp2
          clear hcf hff hmm
          generalize (w4.alloc (.map #[] 0)).setCell ⟨gf, j, none⟩ (.map (some w4.heap.size)) = w5 at HF5 HM5 HX5 HT5 HB5 HO5 ⊢
          generalize fo.set j (some w4.heap.size) = fo2 at HF5 HNb HFo2
          generalize w4.heap.size = b at HM5 HNb HFo2 HGb ⊢
          go_loopg [71] c.length (fun gk v71 w' => ∃ (i : Nat), i + gk = c.length ∧ v71 = .int .i64 (i : Int) ∧ Aside0 (BMap w' b i (fun v => (c.take i).contains v)) ∧ Aside0 (LX g gu N (upI M (j + 1)) M w') ∧ Aside0 (FX gf fo2 fsj w') ∧ Aside0 (w'.heap[W.heap.size]? = some (.cells #[.int .i64 N, .slice AL L.length cL] 24 (0, 0))) ∧ Aside0 (Below W.heap.size W w') ∧ Aside0 (w'.ownsRow W.heap.size 3 1 (.slice A9 c.length c9) c.length (nums .i64 c)))
          case atStart => exact ⟨0, by omega, rfl, HM5, HX5, HF5, HT5, HB5, HO5⟩
          case round =>
            clear HX5 HT5 HB5 HO5 HF5 HM5
            obtain ⟨i, hig, rfl, HM, HX, HF, HT, HB, HO⟩ := hrel
            cases gk with
            | zero =>
              have hi2 : ¬ ((i : Int) < (c.length : Int)) := by omega
              have HMe := Aside0.mk (show BMap wr b i (fun v => c.contains v) by have h1 := HM.out; rwa [List.take_of_length_le (by omega)] at h1)
              go_wp2
              go_roundg gk
              case measure => omega
              case rel => exact ⟨j + 1, l + 1, fo2, fsj ++ [some c], by omega, rfl, ⟨by omega⟩, HFn, ⟨HFo2.out.1, HFo2.out.2.2⟩, HX, ⟨HF.out.snoc (by rw [HLj.out, HFo2.out.2.1]; exact ⟨i, HMe.out⟩)⟩, HT, HB⟩
            | succ gk2 =>
              have hi2 : ((i : Int) < (c.length : Int)) := by omega
              have hi3 : (c.length : Int) ≤ 1000 := by have := HCm.out; omega
              obtain ⟨x, hx⟩ : ∃ x, c[i]? = some x := ⟨_, List.getElem?_eq_getElem (by omega)⟩
              rcases own_form HO.out with ⟨_, h9, _⟩ | ⟨ga, rfl⟩
              · omega
              have hcx : wr.cell? ⟨ga, i, none⟩ = some (.int .i64 x) := by
                have h1 := (own_at HO.out (i : Int) (by omega) (by omega)).1
                rwa [Int.toNat_natCast, show rd c (i : Int) = x by simp [rd, List.getD_eq_getElem?_getD, hx]] at h1
              have hcf : wr.cell? ⟨gf, j, none⟩ = some (.map (some b)) := by
                have h1 := HF.out.cell (i := j) (by rw [HFo2.out.1]; omega)
                rwa [HFo2.out.2.1] at h1
              have hxb := HCb.out x (List.mem_of_getElem? hx)
              obtain ⟨w6, hup, hm6, hg6⟩ := HM.out.update (v := x) (by omega) (by omega) (show i < maxLen by have := HCm.out; unfold maxLen; omega)
              have HM6 := Aside0.mk (show BMap w6 b (i + 1) (fun v => (c.take (i + 1)).contains v) from hm6.cast (fun v => by rw [List.take_add_one, hx]; exact contains_snoc _ _ _))
              have HX6 := Aside0.mk (HX.out.grow HM.out hg6)
              have HF6 := Aside0.mk (HF.out.other hg6 (HM.out.not_cells HF.out.bx) HNb.out)
              have HT6 := Aside0.mk (blk_grown HT.out hg6 (by simpa using HM.out.not_cells HT.out))
              have HB6 := Aside0.mk (Below.grown HB.out hg6 HB.out.size (fun k hk => by injection hk with hk; rw [← hk]; exact HGb.out))
              have HO6 := Aside0.mk (own_grow HO.out HM.out hg6)
              clear hm6 hg6 hx hxb HM HX HF HT HB HO
              go_wp2
              go_roundg gk2
              case measure => omega
              case rel => exact ⟨i + 1, by omega, by go_num, HM6, HX6, HF6, HT6, HB6, HO6⟩
end
end Go.Proofs.Ytbnjbjcokkcfcaa.Sol
namespace Go.Proofs.Ytbnjbjcokkcfcaa.Sol
open Go.RowKit Go.Proofs.YtbnjbjcokkcfcaaW.PrintWords Go.Proofs.Ytbnjbjcokkcfcaa.PSearchOwn
set_option linter.unusedVariables false
set_option linter.unusedSimpArgs false
theorem rdQ_at {L : List (List Int)} {i : Nat} (hi : i < L.length) : PProbeBones.rd_L1 L (i : Int) = L[i] := by simp [PProbeBones.rd_L1, List.getD_eq_getElem?_getD, hi]
theorem valid05P (x n : Int) (h0 : 0 ≤ n) (h1 : n ≤ 128) : PProbeBones.censusref05_Valid.f x n = some (validB x n) := by
  unfold PProbeBones.censusref05_Valid.f
  rw [wrap_id (by omega) (by omega)]
  by_cases hx : x = 0
  · rw [if_pos hx]; exact congrArg some (decide_eq_false (by rw [hx]; unfold varOf; omega)).symm
  · rw [if_neg hx]
    by_cases h2 : x ≥ -n
    · rw [if_pos h2]
      refine congrArg some (decide_eq_decide.2 ?_)
      unfold varOf
      by_cases h3 : 1 ≤ x ∧ x ≤ 128
      · rw [if_pos h3]; omega
      · rw [if_neg h3]
        by_cases h4 : -128 ≤ x ∧ x ≤ -1
        · rw [if_pos h4]; omega
        · rw [if_neg h4]; omega
    · rw [if_neg h2]
      refine congrArg some (decide_eq_false ?_).symm
      unfold varOf
      by_cases h3 : 1 ≤ x ∧ x ≤ 128
      · rw [if_pos h3]; omega
      · rw [if_neg h3]
        by_cases h4 : -128 ≤ x ∧ x ≤ -1
        · rw [if_pos h4]; omega
        · rw [if_neg h4]; omega
theorem ev_check05P (n : Int) (L : List (List Int)) : Ev (fun k => PProbeBones.censusref05_Check.f k n L) (checkF n L) := by
  unfold PProbeBones.censusref05_Check.f checkF
  by_cases h0 : n < 0
  · simp only [if_pos h0, if_pos (show n < 0 ∨ n > 128 by omega)]
    refine Ev.step (f := fun _ => some 6) (fun k => ?_) (Ev.now _)
    simp only [PProbeBones.censusref05_Check.j0, if_true]
  · simp only [if_neg h0]
    by_cases h1 : n > 128
    · rw [decide_eq_true h1]
      simp only [if_pos (show n < 0 ∨ n > 128 by omega)]
      refine Ev.step (f := fun _ => some 6) (fun k => ?_) (Ev.now _)
      simp only [PProbeBones.censusref05_Check.j0, if_true]
    · rw [decide_eq_false h1]
      simp only [if_neg (show ¬ (n < 0 ∨ n > 128) by omega)]
      by_cases hL : L.length > 4096
      · rw [if_pos hL]
        refine Ev.step (f := fun _ => some 2) (fun k => ?_) (Ev.now _)
        simp only [PProbeBones.censusref05_Check.j0, Bool.false_eq_true, if_false]
        rw [if_pos (by omega)]
      · rw [if_neg hL]
        have key := down (n := L.length) (P := fun i => Ev (fun k => PProbeBones.censusref05_Check.l0 k (i : Int) n L) (clausesF n (L.drop i))) (by
          rw [List.drop_eq_nil_of_le (by omega)]
          refine Ev.step (f := fun _ => some 0) (fun k => ?_) (Ev.now _)
          simp only [PProbeBones.censusref05_Check.l0]
          rw [if_neg (by omega)]) (fun i hi ih => by
          rw [List.drop_eq_getElem_cons hi]
          obtain ⟨c, hc⟩ : ∃ c, L[i] = c := ⟨_, rfl⟩
          rw [hc]
          have hcl := rdQ_at hi
          rw [hc] at hcl
          by_cases h128 : c.length > 128
          · refine Ev.step (f := fun _ => some 2) (fun k => ?_) (Ev.get (Ev.now _) ?_)
            · simp only [PProbeBones.censusref05_Check.l0]
              rw [if_pos (by omega), if_pos (by omega), hcl, if_pos (by omega)]
            · simp only [clausesF]; rw [if_pos h128]
          · have in1 := down (n := c.length) (P := fun j => Ev (fun k => PProbeBones.censusref05_Check.l1 k (i : Int) (j : Int) n L) (if (c.drop j).all (fun l => validB l n) then clausesF n (L.drop (i + 1)) else 1)) (by
              rw [List.drop_eq_nil_of_le (by omega)]
              refine Ev.step (f := fun k => PProbeBones.censusref05_Check.l0 k ((i : Int) + 1) n L) (fun k => ?_) (Ev.get (r := clausesF n (L.drop (i + 1))) (show Ev (fun k => PProbeBones.censusref05_Check.l0 k ((i : Int) + 1) n L) (clausesF n (L.drop (i + 1))) from ih) (by simp))
              simp only [PProbeBones.censusref05_Check.l1]
              rw [if_pos (by omega), if_pos (by omega), hcl, if_neg (by omega), wrap_id (by omega) (by omega)]) (fun j hj ih2 => by
              refine Ev.step (f := fun k => if validB c[j] n = true then PProbeBones.censusref05_Check.l1 k (i : Int) ((j : Int) + 1) n L else some 1) (fun k => ?_) ?_
              · simp only [PProbeBones.censusref05_Check.l1]
                rw [if_pos (by omega), if_pos (by omega), hcl, if_pos (by omega), if_pos (by omega), rd_at hj, valid05P _ _ (by omega) (by omega), wrap_id (by omega) (by omega)]
                rfl
              · rw [List.drop_eq_getElem_cons hj, List.all_cons]
                by_cases hv : validB c[j] n = true
                · simp only [if_pos hv]; rw [hv, Bool.true_and]; exact ih2
                · simp only [if_neg hv]
                  rw [eq_false_of_ne_true hv, Bool.false_and]
                  exact Ev.now _)
            refine Ev.step (f := fun k => PProbeBones.censusref05_Check.l1 k (i : Int) 0 n L) (fun k => ?_) ?_
            · simp only [PProbeBones.censusref05_Check.l0]
              rw [if_pos (by omega), if_pos (by omega), hcl, if_neg (by omega)]
            · rw [List.drop_zero] at in1
              refine Ev.get in1 ?_
              simp only [clausesF]; rw [if_neg h128])
        rw [List.drop_zero] at key
        refine Ev.step (f := fun k => PProbeBones.censusref05_Check.l0 k 0 n L) (fun k => ?_) key
        simp only [PProbeBones.censusref05_Check.j0, Bool.false_eq_true, if_false]
        rw [if_neg (by omega)]
def lightB (L : List (List Int)) : Bool := L.all (fun c => decide (c.length ≤ 140)) && decide (L.length ≤ 60)
theorem ev_light (n : Int) (L : List (List Int)) (hl : L.length ≤ 9223372036854775807) : Ev (fun k => PProbeBones.censuslaw05_Light.f k n L) (lightB L) := by
  have key := down (n := L.length) (P := fun i => Ev (fun k => PProbeBones.censuslaw05_Light.l0 k L (L.length : Int) (i : Int) n L) ((L.drop i).all (fun c => decide (c.length ≤ 140)) && decide (L.length ≤ 60))) (by
    rw [List.drop_eq_nil_of_le (by omega)]
    refine Ev.step (f := fun _ => some (decide ((L.length : Int) ≤ 60))) (fun k => ?_) ?_
    · simp only [PProbeBones.censuslaw05_Light.l0]
      rw [if_neg (by omega)]
    · have : decide ((L.length : Int) ≤ 60) = decide (L.length ≤ 60) := decide_eq_decide.2 (by omega)
      rw [this]
      exact Ev.now _) (fun i hi ih => by
    rw [List.drop_eq_getElem_cons hi, List.all_cons]
    by_cases h : (L[i]).length ≤ 140
    · rw [decide_eq_true h, Bool.true_and]
      refine Ev.step (f := fun k => PProbeBones.censuslaw05_Light.l0 k L (L.length : Int) ((i + 1 : Nat) : Int) n L) (fun k => ?_) ih
      simp only [PProbeBones.censuslaw05_Light.l0]
      rw [if_pos (by omega), if_pos (by omega), if_pos (by omega), rdQ_at hi, if_neg (by omega), wrap_id (by omega) (by omega)]
      rfl
    · rw [decide_eq_false h, Bool.false_and, Bool.false_and]
      refine Ev.step (f := fun _ => some false) (fun k => ?_) (Ev.now _)
      simp only [PProbeBones.censuslaw05_Light.l0]
      rw [if_pos (by omega), if_pos (by omega), if_pos (by omega), rdQ_at hi, if_pos (by omega)])
  rw [List.drop_zero] at key
  exact key
def smallB (n : Int) (L : List (List Int)) : Bool := if lightB L = true then (if checkF n L = 0 then (L.all (fun c => decide (c.length ≤ 12)) && (decide (n ≤ 9) && decide (L.length ≤ 40))) else true) else false
theorem ev_small (n : Int) (L : List (List Int)) (hl : L.length ≤ 9223372036854775807) : Ev (fun k => PProbeBones.censuslaw15_Small.f k n L) (smallB n L) := by
  have key := down (n := L.length) (P := fun i => Ev (fun k => PProbeBones.censuslaw15_Small.l0 k L (L.length : Int) (i : Int) n L) ((L.drop i).all (fun c => decide (c.length ≤ 12)) && (decide (n ≤ 9) && decide (L.length ≤ 40)))) (by
    rw [List.drop_eq_nil_of_le (by omega)]
    refine Ev.step (f := fun _ => if n ≤ 9 then some (decide ((L.length : Int) ≤ 40)) else some false) (fun k => ?_) ?_
    · simp only [PProbeBones.censuslaw15_Small.l0]
      rw [if_neg (by omega)]
    · have h40 : decide ((L.length : Int) ≤ 40) = decide (L.length ≤ 40) := decide_eq_decide.2 (by omega)
      rw [h40]
      by_cases h9 : n ≤ 9
      · simp only [if_pos h9, decide_eq_true h9]
        exact Ev.now _
      · simp only [if_neg h9, decide_eq_false h9]
        exact Ev.now _) (fun i hi ih => by
    rw [List.drop_eq_getElem_cons hi, List.all_cons]
    by_cases h : (L[i]).length ≤ 12
    · rw [decide_eq_true h, Bool.true_and]
      refine Ev.step (f := fun k => PProbeBones.censuslaw15_Small.l0 k L (L.length : Int) ((i + 1 : Nat) : Int) n L) (fun k => ?_) ih
      simp only [PProbeBones.censuslaw15_Small.l0]
      rw [if_pos (by omega), if_pos (by omega), if_pos (by omega), rdQ_at hi, if_neg (by omega), wrap_id (by omega) (by omega)]
      rfl
    · rw [decide_eq_false h, Bool.false_and, Bool.false_and]
      refine Ev.step (f := fun _ => some false) (fun k => ?_) (Ev.now _)
      simp only [PProbeBones.censuslaw15_Small.l0]
      rw [if_pos (by omega), if_pos (by omega), if_pos (by omega), rdQ_at hi, if_pos (by omega)])
  rw [List.drop_zero] at key
  unfold PProbeBones.censuslaw15_Small.f smallB
  refine Ev.bind (f := fun k t110 => (if t110 = true then ((PProbeBones.censusref05_Check.f k n L).bind fun t111 => (if t111 = 0 then (PProbeBones.censuslaw15_Small.l0 k L (L.length : Int) 0 n L) else (some true))) else (some false))) (ev_light n L hl) ?_
  by_cases hL : lightB L = true
  · simp only [if_pos hL]
    refine Ev.bind (f := fun k t111 => (if t111 = 0 then (PProbeBones.censuslaw15_Small.l0 k L (L.length : Int) 0 n L) else (some true))) (ev_check05P n L) ?_
    by_cases h0 : checkF n L = 0
    · simp only [if_pos h0]; exact key
    · simp only [if_neg h0]; exact Ev.now _
  · simp only [if_neg hL]; exact Ev.now _
theorem small_calls {W : World} {AL : Option Addr} {cL : Nat} {N : Int} {L : List (List Int)} (hL : Kd.C (Kd.slice 3 (Kd.int .i64)) W AL L.length L) (hcL : L.length ≤ cL) :
    Calls Try.prog 21 #[.agg #[.int .i64 N, .slice AL L.length cL]] W fun e w' => e = .returned (.bool (smallB N L)) ∧ Below W.heap.size W w' := by
  obtain ⟨k, hk⟩ := (ev_small N L (Kd.C_max hL)).rounds
  exact PProbeBones.censuslaw15_Small.calls k N AL cL L _ W hL hcL hk
end Go.Proofs.Ytbnjbjcokkcfcaa.Sol
namespace Go.Proofs.Ytbnjbjcokkcfcaa.Sol
open Go.RowKit Go.Proofs.YtbnjbjcokkcfcaaW.PrintWords Go.Proofs.Ytbnjbjcokkcfcaa.PSearchOwn
set_option linter.unusedVariables false
set_option linter.unusedSimpArgs false
theorem ev_within1 (x : Int) (l : List Int) (hl : l.length ≤ 9223372036854775807) : Ev (fun k => PProbeBones.censuslaw15_within.f k [x] l) (l.any (fun y => x == y)) := by
  have hend : Ev (fun k => PProbeBones.censuslaw15_within.l0 k l [x] 1 1) true := by
    refine Ev.step (f := fun _ => some true) (fun k => ?_) (Ev.now _)
    simp only [PProbeBones.censuslaw15_within.l0]
    rw [if_neg (by omega)]
  have key := down (n := l.length) (P := fun j => ∀ b : Bool, Ev (fun k => PProbeBones.censuslaw15_within.l1 k l x b [x] 1 0 l (l.length : Int) (j : Int)) (b || (l.drop j).any (fun y => x == y))) (by
    intro b
    rw [List.drop_eq_nil_of_le (by omega)]
    cases b with
    | true =>
      refine Ev.step (f := fun k => PProbeBones.censuslaw15_within.l0 k l [x] 1 1) (fun k => ?_) hend
      simp only [PProbeBones.censuslaw15_within.l1]
      rw [if_neg (by omega), if_pos trivial, wrap_id (by omega) (by omega)]
      rfl
    | false =>
      refine Ev.step (f := fun _ => some false) (fun k => ?_) (Ev.now _)
      simp only [PProbeBones.censuslaw15_within.l1]
      rw [if_neg (by omega), if_neg (by decide)]) (fun j hj ih => by
    intro b
    rw [List.drop_eq_getElem_cons hj, List.any_cons]
    cases b with
    | true =>
      refine Ev.step (f := fun k => PProbeBones.censuslaw15_within.l1 k l x true [x] 1 0 l (l.length : Int) ((j + 1 : Nat) : Int)) (fun k => ?_) (by have := ih true; rw [Bool.true_or] at this ⊢; exact this)
      simp only [PProbeBones.censuslaw15_within.l1]
      rw [if_pos (by omega), if_pos (by omega), if_pos (by omega), if_pos trivial, wrap_id (by omega) (by omega)]
      rfl
    | false =>
      refine Ev.step (f := fun k => PProbeBones.censuslaw15_within.l1 k l x (x == l[j]) [x] 1 0 l (l.length : Int) ((j + 1 : Nat) : Int)) (fun k => ?_) (by have := ih (x == l[j]); rw [Bool.false_or]; exact this)
      simp only [PProbeBones.censuslaw15_within.l1]
      rw [if_pos (by omega), if_pos (by omega), if_pos (by omega), if_neg (by decide), rd_at hj, wrap_id (by omega) (by omega)]
      rfl)
  have k0 := key false
  rw [List.drop_zero, Bool.false_or] at k0
  unfold PProbeBones.censuslaw15_within.f
  refine Ev.step (f := fun k => PProbeBones.censuslaw15_within.l1 k l x false [x] 1 0 l (l.length : Int) 0) (fun k => ?_) k0
  rfl
theorem within1_calls {W : World} {A B : Option Addr} {c c2 : Nat} {x : Int} {l : List Int} (hx : (Kd.int .i64).C W A 1 [x]) (hc : 1 ≤ c) (hl : (Kd.int .i64).C W B l.length l) (hc2 : l.length ≤ c2) :
    Calls Try.prog 29 #[.slice A 1 c, .slice B l.length c2] W fun e w' => e = .returned (.bool (l.any (fun y => x == y))) ∧ Drawn0 W w' := by
  obtain ⟨k, hk⟩ := (ev_within1 x l (Kd.C_max hl)).rounds
  exact PProbeBones.censuslaw15_within.calls k A c [x] B c2 l _ W hx hc hl hc2 hk
end Go.Proofs.Ytbnjbjcokkcfcaa.Sol
namespace Go.Proofs.Ytbnjbjcokkcfcaa.Sol
open Go.RowKit Go.Proofs.YtbnjbjcokkcfcaaW.PrintWords Go.Proofs.Ytbnjbjcokkcfcaa.PSearchOwn
set_option linter.unusedVariables false
set_option linter.unusedSimpArgs false
theorem ev_same03P (a b : List Int) (ha : a.length ≤ 9223372036854775807) : Ev (fun k => PProbeBones.censusref03_Same.f k a b) (decide (a = b)) := by
  have key : a.length = b.length → ∀ d i : Nat, i + d = a.length → Ev (fun k => PProbeBones.censusref03_Same.l0 k a b i) (decide (a.drop i = b.drop i)) := by
    intro hab d
    induction d with
    | zero =>
      intro i hi
      rw [List.drop_eq_nil_of_le (by omega), List.drop_eq_nil_of_le (by omega)]
      refine Ev.step (f := fun _ => some true) (fun k => ?_) (Ev.now _)
      simp only [PProbeBones.censusref03_Same.l0]
      rw [if_neg (by omega)]
    | succ d ih =>
      intro i hi
      have hlt : i < a.length := by omega
      have hlt2 : i < b.length := by omega
      refine Ev.step (f := fun k => if a[i] = b[i] then PProbeBones.censusref03_Same.l0 k a b (wrap64 ((i : Int) + 1)) else some false) (fun k => ?_) ?_
      · simp only [PProbeBones.censusref03_Same.l0]
        rw [if_pos (by omega), if_pos (by omega), if_pos (by omega), rd_at hlt, rd_at hlt2]
      · rw [List.drop_eq_getElem_cons hlt, List.drop_eq_getElem_cons hlt2, wrap_id (by omega) (by omega)]
        by_cases h : a[i] = b[i]
        · simp only [if_pos h, List.cons.injEq, h, true_and]
          exact ih (i + 1) (by omega)
        · simp only [if_neg h, List.cons.injEq, h, false_and, decide_false]
          exact Ev.now _
  unfold PProbeBones.censusref03_Same.f
  by_cases hab : a.length = b.length
  · simp only [if_pos (show (a.length : Int) = (b.length : Int) by omega)]
    have := key hab a.length 0 (by omega)
    rw [List.drop_zero, List.drop_zero] at this
    exact this
  · simp only [if_neg (show ¬ (a.length : Int) = (b.length : Int) by omega)]
    rw [decide_eq_false (fun h => hab (by rw [h]))]
    exact Ev.now _
theorem same03P_calls {W : World} {A B : Option Addr} {c c2 : Nat} {l l2 : List Int} (hl : Kd.C (Kd.int .i64) W A l.length l) (hc : l.length ≤ c) (hl2 : Kd.C (Kd.int .i64) W B l2.length l2) (hc2 : l2.length ≤ c2) :
    Calls Try.prog 59 #[.slice A l.length c, .slice B l2.length c2] W fun e w' => e = .returned (.bool (decide (l = l2))) ∧ Drawn0 W w' := by
  obtain ⟨k, hk⟩ := (ev_same03P l l2 (Kd.C_max hl)).rounds
  exact PProbeBones.censusref03_Same.calls k A c l B c2 l2 _ W hl hc hl2 hc2 hk
end Go.Proofs.Ytbnjbjcokkcfcaa.Sol
namespace Go.Proofs.Ytbnjbjcokkcfcaa.Sol
open Go.RowKit Go.Maps Go.Proofs.YtbnjbjcokkcfcaaW.PrintWords Go.Proofs.YtbnjbjcokkcfcaaW.PrintLast Go.Proofs.YtbnjbjcokkcfcaaW.PrintMore Go.Proofs.Ytbnjbjcokkcfcaa.PSearchOwn
set_option linter.unusedVariables false
set_option linter.unusedSimpArgs false
def folB6 : List (Option (List Int)) := [some [-5, -6], some [-5, -6], some [-4], some [-3], some [1, -2], none, none, some [1], some [1, 2], some [3], some [4], some [5, 6], some [5, 6]]
def upB6 : List Int := [0, 0, 2, 3, 4, 5, 6, 7, 8, 9, 10, 12, 12]
theorem chapB_follows : followsTo 6 chapB 20 13 = some folB6 := by decide +kernel
theorem chapB_pairs : pairs1 folB6 6 20 13 (-6) (upI 13 13) = some upB6 := by decide +kernel
theorem chapB_leasts : leasts upB6 20 6 6 = some [1, 2, 3, 4, 5, 5] := by decide +kernel
theorem chapB_bounds : ∀ c, some c ∈ folB6 → c.length ≤ 1000 ∧ ∀ x ∈ c, -128 ≤ x ∧ x ≤ 128 := by
  have h : (folB6.all fun o => match o with | none => true | some c => decide (c.length ≤ 1000) && c.all (fun x => decide (-128 ≤ x ∧ x ≤ 128))) = true := by decide +kernel
  intro c hc
  have h1 := List.all_eq_true.1 h _ hc
  simp only [Bool.and_eq_true, decide_eq_true_eq] at h1
  exact ⟨h1.1, fun x hx => of_decide_eq_true (List.all_eq_true.1 h1.2 x hx)⟩
theorem chapterB_calls (W : World) : Calls Try.prog 57 #[] W fun e w' => ∃ A c, e = .returned (.agg #[.int .i64 6, .slice A 6 c]) ∧ Kd.C (Kd.slice 3 (Kd.int .i64)) w' A 6 chapB ∧ 6 ≤ c ∧ Below W.heap.size W w' := by
  refine (PProbeBones.censuslaw15_chapter.calls 6 chapB W rfl).mono ?_
  rintro e w' ⟨v, rfl, hS, hb⟩
  obtain ⟨A, c, rfl, hc, hC⟩ := Kd.N_reads hS
  exact ⟨A, c, rfl, hC, hc, hb⟩
theorem litL_C (W : World) (xs : List Int) (h0 : xs.length ≤ 1000) : (Kd.int .i64).C (W.alloc (.cells (nums .i64 xs).toArray 3)) (some ⟨W.heap.size, 0, none⟩) xs.length xs := by
  obtain ⟨A, c, e, h, _⟩ := own_C (own_lit W W.heap.size 3 .i64 xs (Nat.le_refl _) (by omega))
  cases e
  exact h
section
variable {w : World} {A : Option Addr} {c : Nat} (h : Kd.C (Kd.slice 3 (Kd.int .i64)) w A 6 chapB) (hc : 6 ≤ c)
include h hc
theorem works15a : Calls Try.prog 56 #[.agg #[.int .i64 6, .slice A 6 c], .slice none 0 0] w fun e w' => ∃ A c, e = .returned (.tuple #[.slice A 2 c, .bool true]) ∧ w'.ownsRow w.heap.size 3 1 (.slice A 2 c) 2 (nums .i64 [1, 3]) ∧ Below w.heap.size w w' := by
  have := probe_calls (N := 6) (L := chapB) (A := none) (c := 0) (ds := []) h hc (Kd.C_nil _ _) (Nat.le_refl _) (fun _ => rfl) chapB_check 20 5 (by decide) (by decide) (by decide) (by decide) (by decide) chapB_probe
  refine Calls.mono this ?_
  rintro e w' ⟨⟨A', c', e1, ho⟩, hb⟩
  exact ⟨A', c', e1, ho, hb⟩
theorem works15b : Calls Try.prog 25 #[.agg #[.int .i64 6, .slice A 6 c]] w fun e w' => ∃ A c, e = .returned (.tuple #[.slice A 2 c, .bool true, .int .i64 0]) ∧ w'.ownsRow w.heap.size 3 1 (.slice A 2 c) 2 (nums .i64 [1, 3]) ∧ Below w.heap.size w w' := by
  have := bones_some (m := 6) (L := chapB) h hc chapB_check chapB_sat
  rw [chapB_bones] at this
  refine Calls.mono this ?_
  rintro e w' ⟨v, e1, ho, hb⟩
  obtain ⟨A', c', hv⟩ := own_slice ho
  subst hv
  exact ⟨A', c', e1, ho, hb⟩
theorem works15c : Calls Try.prog 58 #[.agg #[.int .i64 6, .slice A 6 c]] w fun e w' => ∃ A c, e = .returned (.tuple #[.slice A 6 c, .int .i64 0]) ∧ w'.ownsRow w.heap.size 3 1 (.slice A 6 c) 6 (nums .i64 [1, 2, 3, 4, 5, 5]) ∧ Below w.heap.size w w' := by
  have := equal_calls (N := 6) (L := chapB) h hc chapB_check 20 6 13 (by decide) rfl rfl (by decide) chapB_follows chapB_bounds chapB_pairs chapB_leasts
  refine Calls.mono this ?_
  rintro e w' ⟨⟨A', c', e1, ho⟩, hb⟩
  exact ⟨A', c', e1, ho, hb⟩
end
/-- Two rows are the same. -/
theorem sameRow {w w2 : World} {base : Nat} {A : Option Addr} {c n : Nat} {xs : List Int} (h : w.ownsRow base 3 1 (.slice A n c) n (nums .i64 xs)) (hn : xs.length = n) (hl : n ≤ 1000) (hb : Below w.heap.size w w2) :
    Calls Try.prog 59 #[.slice A n c, .slice (some ⟨w2.heap.size, 0, none⟩) n n] (w2.alloc (.cells (nums .i64 xs).toArray 3)) fun e w' => e = .returned (.bool true) ∧ Below w2.heap.size w2 w' := by
  subst hn
  have hb2 := below_alloc (Below.refl w2.heap.size w2) (.cells (nums .i64 xs).toArray 3)
  have := same03P_calls (l := xs) (l2 := xs) (c := c) (c2 := xs.length) (full_C (pw_own_below h (below_step hb hb2))) (own_cap h) (litL_C w2 xs hl) (Nat.le_refl _)
  refine Calls.mono this ?_
  rintro e w' ⟨e1, hd⟩
  exact ⟨by rw [e1, decide_eq_true rfl], below_step hb2 hd.below⟩
set_option maxHeartbeats 4000000 in
set_option maxRecDepth 100000 in
theorem works15_calls (W : World) : Calls Try.prog 22 #[] W fun e w' => e = .returned (.bool true) ∧ Below W.heap.size W w' := by
  go_enter Try.func22, Try.ntmps22
  go_wp2_with fail
  refine (chapterB_calls _).mono ?_; rintro e w1 ⟨A1, c1, rfl, hC1, hc1, hb1⟩
  have HP1 := Aside0.mk (works15a hC1 hc1)
  have HB1 := Aside0.mk hb1
  clear hC1 hc1 hb1
  go_wp2_with fail
  refine (HP1.out).mono ?_; rintro e w2 ⟨A2, c2, rfl, ho2, hb2⟩
  have HB2 := Aside0.mk (below_step HB1.out hb2)
  have HO2 := Aside0.mk ho2
  clear hb2 ho2
  go_wp2_with fail
  refine (chapterB_calls _).mono ?_; rintro e w3 ⟨A3, c3, rfl, hC3, hc3, hb3⟩
  have HP3 := Aside0.mk (works15b hC3 hc3)
  have HB3 := Aside0.mk (below_step HB2.out hb3)
  have HO3 := Aside0.mk (pw_own_below HO2.out hb3)
  clear hC3 hc3 hb3
  go_wp2_with fail
  refine (HP3.out).mono ?_; rintro e w4 ⟨A4, c4, rfl, ho4, hb4⟩
  have HB4 := Aside0.mk (below_step HB3.out hb4)
  have HO4 := Aside0.mk (pw_own_below HO3.out hb4)
  have HQ4 := Aside0.mk ho4
  clear hb4 ho4
  go_wp2_with fail
  refine (chapterB_calls _).mono ?_; rintro e w5 ⟨A5, c5, rfl, hC5, hc5, hb5⟩
  have HP5 := Aside0.mk (works15c hC5 hc5)
  have HB5 := Aside0.mk (below_step HB4.out hb5)
  have HO5 := Aside0.mk (pw_own_below HO4.out hb5)
  have HQ5 := Aside0.mk (pw_own_below HQ4.out hb5)
  clear hC5 hc5 hb5
  go_wp2_with fail
  refine (HP5.out).mono ?_; rintro e w6 ⟨A6, c6, rfl, ho6, hb6⟩
  have HB6 := Aside0.mk (below_step HB5.out hb6)
  have HO6 := Aside0.mk (pw_own_below HO5.out hb6)
  have HQ6 := Aside0.mk (pw_own_below HQ5.out hb6)
  have HE6 := Aside0.mk ho6
  clear hb6 ho6
  clear HP1 HP3 HP5 HB1 HB2 HB3 HB4 HB5 HO2 HO3 HO4 HO5 HQ4 HQ5
  go_wp2_with fail
  refine (sameRow HO6.out rfl (by decide) (Below.refl _ _)).mono ?_; rintro e w7 ⟨rfl, hb7⟩
  have HB7 := Aside0.mk (below_step HB6.out hb7)
  have HQ7 := Aside0.mk (pw_own_below HQ6.out hb7)
  have HE7 := Aside0.mk (pw_own_below HE6.out hb7)
  clear hb7
  go_wp2_with fail
  refine (sameRow HQ7.out rfl (by decide) (Below.refl _ _)).mono ?_; rintro e w8 ⟨rfl, hb8⟩
  have HB8 := Aside0.mk (below_step HB7.out hb8)
  have HE8 := Aside0.mk (pw_own_below HE7.out hb8)
  clear hb8
  go_wp2_with fail
  refine (sameRow HE8.out rfl (by decide) (Below.refl _ _)).mono ?_; rintro e w9 ⟨rfl, hb9⟩
  have HB9 := Aside0.mk (below_step HB8.out hb9)
  clear hb9
  go_wp2_with fail
  go_ret
  exact ⟨rfl, HB9.out⟩
end Go.Proofs.Ytbnjbjcokkcfcaa.Sol
namespace Go.Proofs.Ytbnjbjcokkcfcaa.Sol
set_option linter.unusedVariables false
set_option linter.unusedSimpArgs false
theorem bones_mem (L : List (List Int)) (m : Nat) (s : Nat × Nat) (x : Int) : ∀ k, x ∈ bonesTo L m s k ↔ ∃ v, 1 ≤ v ∧ v ≤ k ∧ x = boneL s v ∧ (satF L m [-x]).1 = false
  | 0 => ⟨fun h => (by rw [bonesTo] at h; cases h), fun ⟨v, h1, h2, _⟩ => by omega⟩
  | k + 1 => by
    have ih := bones_mem L m s x k
    rw [bonesTo]
    by_cases hs : (satF L m [-boneL s (k + 1)]).1 = true
    · rw [if_pos hs, ih]
      constructor
      · rintro ⟨v, h1, h2, h3⟩; exact ⟨v, h1, by omega, h3⟩
      · rintro ⟨v, h1, h2, h3, h4⟩
        refine ⟨v, h1, ?_, h3, h4⟩
        by_cases hv : v = k + 1
        · subst hv; rw [h3, hs] at h4; cases h4
        · omega
    · rw [if_neg hs, List.mem_append, List.mem_singleton, ih]
      constructor
      · rintro (⟨v, h1, h2, h3⟩ | h)
        · exact ⟨v, h1, by omega, h3⟩
        · exact ⟨k + 1, by omega, Nat.le_refl _, h, by rw [h]; simpa using hs⟩
      · rintro ⟨v, h1, h2, h3, h4⟩
        by_cases hv : v = k + 1
        · subst hv; exact Or.inr h3
        · exact Or.inl ⟨v, h1, by omega, h3, h4⟩
theorem bone_var (s : Nat × Nat) {v : Nat} (h1 : 1 ≤ v) (h2 : v ≤ 128) : varOf (boneL s v) = v := by
  unfold boneL varOf
  split
  · rw [if_pos (by omega)]
  · rw [if_neg (by omega), if_pos (by omega)]; omega
/-- The backbone is in order of variables. -/
theorem bones_sorted (L : List (List Int)) (m : Nat) (s : Nat × Nat) : ∀ k, k ≤ 128 → (bonesTo L m s k).Pairwise (fun x y => varOf x < varOf y)
  | 0, _ => List.Pairwise.nil
  | k + 1, hk => by
    have ih := bones_sorted L m s k (by omega)
    rw [bonesTo]
    split
    · exact ih
    · rw [List.pairwise_append]
      refine ⟨ih, List.pairwise_singleton _ _, fun x hx y hy => ?_⟩
      rw [List.mem_singleton.1 hy, bone_var s (by omega) (by omega)]
      obtain ⟨v, h1, h2, h3, _⟩ := (bones_mem L m s x k).1 hx
      rw [h3, bone_var s h1 (by omega)]
      omega
theorem sat_opp (σ : Nat → Bool) {x : Int} (h : x ≠ 0) : sat1 σ (-x) = !sat1 σ x := by
  unfold sat1
  by_cases hx : x < 0
  · rw [if_neg (by omega), if_pos hx, Bool.not_not]
  · rw [if_pos (by omega), if_neg hx, Int.neg_neg]
theorem bone_lit (s : Nat × Nat) {m v : Nat} (h1 : 1 ≤ v) (h2 : v ≤ m) : LitOk (m + 1) (boneL s v) ∧ LitOk (m + 1) (-boneL s v) := by
  unfold boneL LitOk
  split <;> refine ⟨⟨?_, ?_, ?_⟩, ⟨?_, ?_, ?_⟩⟩ <;> omega
/-- A model makes the backbone true. -/
theorem bones_true {L : List (List Int)} {m : Nat} (hm : m ≤ 128) (hL : AllOk (m + 1) L) (s : Nat × Nat) {σ : Nat → Bool} (hσ : satL σ L = true) {x : Int} (hx : x ∈ bonesTo L m s m) : sat1 σ x = true := by
  obtain ⟨v, h1, h2, h3, h4⟩ := (bones_mem L m s x m).1 hx
  have hl := bone_lit s h1 h2
  rw [← h3] at hl
  have := (sat_spec hm hL (asm := [-x]) (fun l hl2 => by rw [List.mem_singleton.1 hl2]; exact hl.2)).2.2 h4 σ hσ
  cases hs : sat1 σ x with
  | true => rfl
  | false =>
    exact (this fun l hl2 => by rw [List.mem_singleton.1 hl2, sat_opp σ hl.1.1, hs]; rfl).elim
/-- A literal of a variable that is not in the backbone is false in some model, of these variables. -/
theorem bones_else {L : List (List Int)} {m : Nat} (hm : m ≤ 128) (hL : AllOk (m + 1) L) (hs : (satF L m []).1 = true) {x : Int} {v : Nat} (h1 : 1 ≤ v) (h2 : v ≤ m) (hx : x = (v : Int) ∨ x = -(v : Int)) (hn : x ∉ bonesTo L m (satF L m []).2 m) :
    ∃ t : Nat × Nat, SOk t ∧ satL (memS t) L = true ∧ (∀ u, m < u → memS t u = false) ∧ sat1 (memS t) x = false := by
  have h0 := sat_spec hm hL (asm := []) (fun l hl => by cases hl)
  have ht := h0.2.1 hs
  have hb : sat1 (memS (satF L m []).2) (boneL (satF L m []).2 v) = true := by
    unfold boneL
    split
    · rename_i h; rw [sat_pos]; exact h
    · rename_i h; rw [sat_neg _ h1]; simpa using h
  by_cases hxl : x = boneL (satF L m []).2 v
  · have h3 : (satF L m [-x]).1 = true := by
      cases h : (satF L m [-x]).1 with
      | true => rfl
      | false => exact (hn ((bones_mem L m _ x m).2 ⟨v, h1, h2, hxl, h⟩)).elim
    have hl := bone_lit (satF L m []).2 h1 h2
    rw [← hxl] at hl
    have h4 := sat_spec hm hL (asm := [-x]) (fun l hl2 => by rw [List.mem_singleton.1 hl2]; exact hl.2)
    obtain ⟨a1, a2, a3⟩ := h4.2.1 h3
    refine ⟨_, h4.1, a1, a3, ?_⟩
    have := a2 (-x) (List.mem_singleton.2 rfl)
    rw [sat_opp _ hl.1.1] at this
    simpa using this
  · have hxo : x = -boneL (satF L m []).2 v := by
      unfold boneL at hxl ⊢
      split
      · rename_i h; rw [if_pos h] at hxl; rcases hx with h5 | h5
        · exact (hxl h5).elim
        · exact h5
      · rename_i h; rw [if_neg h] at hxl; rcases hx with h5 | h5
        · rw [h5, Int.neg_neg]
        · exact (hxl h5).elim
    refine ⟨_, h0.1, ht.1, ht.2.2, ?_⟩
    rw [hxo, sat_opp _ (bone_lit _ h1 h2).1.1, hb]
    rfl
end Go.Proofs.Ytbnjbjcokkcfcaa.Sol
namespace Go.Proofs.Ytbnjbjcokkcfcaa.Sol
set_option linter.unusedVariables false
set_option linter.unusedSimpArgs false
theorem bit_compl {a i : Nat} (ha : a < 2 ^ 64) : (18446744073709551615 - a).testBit i = (decide (i < 64) && !a.testBit i) := by
  rw [show 18446744073709551615 - a = 2 ^ 64 - (a + 1) by omega]
  exact Nat.testBit_two_pow_sub_succ ha i
theorem mem_minus (s : Nat × Nat) {t : Nat × Nat} (ht : SOk t) {u : Nat} (h1 : 1 ≤ u) (h2 : u ≤ 128) : memS (minusS s t) u = (memS s u && !memS t u) := by
  unfold memS minusS
  by_cases hu : u ≤ 64
  · simp only [if_pos hu, Nat.testBit_and, bit_compl ht.1]
    rw [decide_eq_true (show u - 1 < 64 by omega), Bool.true_and]
  · simp only [if_neg hu, Nat.testBit_and, bit_compl ht.2]
    rw [decide_eq_true (show u - 65 < 64 by omega), Bool.true_and]
theorem bits_zero {a : Nat} (ha : a < 2 ^ 64) (h : ∀ i, i < 64 → a.testBit i = false) : a = 0 := by
  refine Nat.eq_of_testBit_eq fun i => ?_
  rw [Nat.zero_testBit]
  by_cases hi : i < 64
  · exact h i hi
  · exact Nat.testBit_lt_two_pow (Nat.lt_of_lt_of_le ha (Nat.pow_le_pow_right (by decide) (by omega)))
theorem set_zero_of {s : Nat × Nat} (hs : SOk s) (h : ∀ u, 1 ≤ u → u ≤ 128 → memS s u = false) : s = (0, 0) := by
  obtain ⟨a, b⟩ := s
  have ha : a = 0 := bits_zero hs.1 fun i hi => by
    have := h (i + 1) (by omega) (by omega)
    unfold memS at this
    rw [if_pos (by omega)] at this
    simpa using this
  have hb : b = 0 := bits_zero hs.2 fun i hi => by
    have := h (i + 65) (by omega) (by omega)
    unfold memS at this
    rw [if_neg (by omega)] at this
    simpa using this
  rw [ha, hb]
theorem SOk.minus {s t : Nat × Nat} (hs : SOk s) : SOk (minusS s t) := ⟨Nat.lt_of_le_of_lt Nat.and_le_left hs.1, Nat.lt_of_le_of_lt Nat.and_le_left hs.2⟩
theorem sub_all {s : Nat × Nat} {m : Nat} (hm : m ≤ 128) (hs : SOk s) (h : ∀ u, m < u → memS s u = false) : subS s (allS m) = true := by
  unfold subS
  refine decide_eq_true (set_zero_of hs.minus fun u h1 h2 => ?_)
  rw [mem_minus s (SOk.all m hm) h1 h2, mem_all m u h1]
  by_cases hu : u ≤ m
  · rw [decide_eq_true hu]; simp
  · rw [h u (by omega)]; rfl
theorem evalB_of {L : List (List Int)} {m : Nat} (hm : m ≤ 9) (h0 : checkF (m : Int) L = 0) {t : Nat × Nat} (ht : SOk t) (hs : satL (memS t) L = true) (hz : ∀ u, m < u → memS t u = false) : ∃ k, k < 2 ^ m ∧ t = (k, 0) ∧ evalB (m : Int) L t = true := by
  obtain ⟨a, b⟩ := t
  have hb : b = 0 := bits_zero ht.2 fun i hi => by
    have := hz (i + 65) (by omega)
    unfold memS at this
    rw [if_neg (by omega)] at this
    simpa using this
  have ha : a < 2 ^ m := Nat.lt_pow_two_of_testBit a fun i hi => by
    by_cases h64 : i < 64
    · have := hz (i + 1) (by omega)
      unfold memS at this
      rw [if_pos (by omega)] at this
      simpa using this
    · exact Nat.testBit_lt_two_pow (Nat.lt_of_lt_of_le ht.1 (Nat.pow_le_pow_right (by decide) (by omega)))
  refine ⟨a, ha, by rw [hb], ?_⟩
  unfold evalB
  rw [decide_eq_true h0, Int.toNat_natCast, sub_all (by omega) ht hz, hs]
  rfl
theorem evalB_sat {L : List (List Int)} {N : Int} {t : Nat × Nat} (h : evalB N L t = true) : satL (memS t) L = true := by
  unfold evalB at h
  rw [Bool.and_eq_true, Bool.and_eq_true] at h
  exact h.2.2
/-- Each literal is in the backbone, or false in some model. -/
theorem bones_opposed {L : List (List Int)} {m : Nat} (hm : m ≤ 9) (h0 : checkF (m : Int) L = 0) (hs : (satF L m []).1 = true) {x : Int} {v : Nat} (h1 : 1 ≤ v) (h2 : v ≤ m) (hx : x = (v : Int) ∨ x = -(v : Int)) (hn : x ∉ bonesTo L m (satF L m []).2 m) : opposeF m L x = true := by
  obtain ⟨m', hm', _, _, hok, _⟩ := checkF_ok h0
  obtain rfl : m = m' := by omega
  obtain ⟨t, ht, hsat, hz, hf⟩ := bones_else (by omega) hok hs h1 h2 hx hn
  obtain ⟨k, hk, rfl, hev⟩ := evalB_of hm h0 ht hsat hz
  unfold opposeF
  refine List.any_eq_true.2 ⟨k, List.mem_range.2 hk, ?_⟩
  rw [hev, hf]
  rfl
/-- A model makes the backbone true. -/
theorem bones_all {L : List (List Int)} {m : Nat} (h0 : checkF (m : Int) L = 0) (s : Nat × Nat) {t : Nat × Nat} (h : evalB (m : Int) L t = true) : (bonesTo L m s m).all (sat1 (memS t)) = true := by
  obtain ⟨m', hm', hm, _, hok, _⟩ := checkF_ok h0
  obtain rfl : m = m' := by omega
  exact List.all_eq_true.2 fun x hx => bones_true hm hok s (evalB_sat h) hx
/-- Without a model, no set is one. -/
theorem none_eval {L : List (List Int)} {m : Nat} (h0 : checkF (m : Int) L = 0) (hs : (satF L m []).1 = false) (t : Nat × Nat) : evalB (m : Int) L t = false := by
  obtain ⟨m', hm', hm, _, hok, _⟩ := checkF_ok h0
  obtain rfl : m = m' := by omega
  cases h : evalB (m : Int) L t with
  | false => rfl
  | true => exact ((sat_spec hm hok (asm := []) (fun l hl => by cases hl)).2.2 hs _ (evalB_sat h) (fun l hl => by cases hl)).elim
end Go.Proofs.Ytbnjbjcokkcfcaa.Sol
