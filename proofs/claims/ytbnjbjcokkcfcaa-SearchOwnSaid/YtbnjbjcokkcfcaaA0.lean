/- Words on the solver's state (package search), and the walks of truth and set. -/
import Derived.Test.YtbnjbjcokkcfcaaPSearchOwnx0
import Derived.Test.YtbnjbjcokkcfcaaPSearchOwnx1
import Derived.Test.YtbnjbjcokkcfcaaWKept
namespace Go.Proofs.Ytbnjbjcokkcfcaa.Sol
open Go.RowKit Go.Proofs.YtbnjbjcokkcfcaaW.PrintWords Go.Proofs.YtbnjbjcokkcfcaaW.PrintLast Go.Proofs.YtbnjbjcokkcfcaaW.PrintMore Go.Proofs.Ytbnjbjcokkcfcaa.PSearchOwn
set_option linter.unusedVariables false
set_option linter.unusedSimpArgs false

/-- The value of a variable. -/
def vat (vs : List Int) (i : Int) : Int := vs.getD i.toNat 0
/-- The truth of a literal. -/
def tru (vs : List Int) (l : Int) : Int := if l < 0 then - vat vs (-l) else vat vs l
/-- The values are 1, -1 and 0. -/
def Small (vs : List Int) : Prop := ∀ x ∈ vs, -1 ≤ x ∧ x ≤ 1
theorem Small.vat {vs : List Int} (h : Small vs) (i : Int) : -1 ≤ vat vs i ∧ vat vs i ≤ 1 := by
  unfold Sol.vat
  rw [List.getD_eq_getElem?_getD]
  cases hx : vs[i.toNat]? with
  | none => simp
  | some x => simpa using h x (List.mem_of_getElem? hx)

/-- The solver's state: the pointer's block g, the values' block gv, the trail tv. -/
structure St (w0 W : World) (g gv : Nat) (N : Int) (AL : Option Addr) (cL : Nat) (L : List (List Int)) (vs ts : List Int) (tv : Value) : Prop where
  blk : W.heap[g]? = some (.cells #[.int .i64 N, .slice AL L.length cL, .slice (some ⟨gv, 0, none⟩) vs.length vs.length, tv] 89 (0, 0))
  val : W.heap[gv]? = some (.cells (vs.map (Value.int .i64)).toArray 3 (0, 0))
  tr : W.ownsRow w0.heap.size 3 1 tv ts.length (nums .i64 ts)
  ne : tv.ownBlock ≠ some gv
  below : Below w0.heap.size w0 W
  geg : w0.heap.size ≤ g
  gev : w0.heap.size ≤ gv
  rdL : Kd.C (Kd.slice 3 (Kd.int .i64)) w0 AL L.length L
  capL : L.length ≤ cL
  small : Small vs
  len : vs.length ≤ 1000

section
variable {w0 W : World} {g gv : Nat} {N : Int} {AL : Option Addr} {cL : Nat} {L : List (List Int)} {vs ts : List Int} {tv : Value}
theorem St.cell (h : St w0 W g gv N AL cL L vs ts tv) (i : Int) (h0 : 0 ≤ i) (h1 : i < vs.length) : W.cell? ⟨gv, i.toNat, none⟩ = some (.int .i64 (vat vs i)) := by
  rw [blk_cell h.val]
  unfold vat
  have : i.toNat < vs.length := by omega
  simp [List.getD_eq_getElem?_getD, List.getElem?_eq_getElem this]
end

set_option maxHeartbeats 1000000 in
theorem truth_calls {w0 W : World} {g gv : Nat} {N : Int} {AL : Option Addr} {cL : Nat} {L : List (List Int)} {vs ts : List Int} {tv : Value} (h : St w0 W g gv N AL cL L vs ts tv) (l : Int) (hl : -(vs.length : Int) < l ∧ l < vs.length) :
    Calls Try.prog 87 #[.pointer (some ⟨g, 0, none⟩), .int .i64 l] W fun e w' => e = .returned (.int .i64 (tru vs l)) ∧ W = w' := by
  obtain ⟨h1, h2⟩ := hl
  have hlen := h.len
  have hc2 : W.cell? ⟨g, 2, none⟩ = some (.slice (some ⟨gv, 0, none⟩) vs.length vs.length) := (blk_cell h.blk 2).trans rfl
  by_cases hn : l < 0
  · have hb := h.small.vat (-l)
    have hi : W.cell? ⟨gv, (-l).toNat, none⟩ = some (.int .i64 (vat vs (-l))) := h.cell (-l) (by omega) (by omega)
    have ht : tru vs l = - vat vs (-l) := by unfold tru; rw [if_pos hn]
    rw [ht]
    have HA := Aside0.mk h
    clear h ht
    generalize vat vs (-l) = x at hb hi ⊢
    obtain ⟨hb0, hb1⟩ := hb
    go_enter Try.func87, Try.ntmps87
    go_wp2
    go_ret
    exact ⟨rfl, rfl⟩
  · have hi : W.cell? ⟨gv, l.toNat, none⟩ = some (.int .i64 (vat vs l)) := h.cell l (by omega) (by omega)
    have ht : tru vs l = vat vs l := by unfold tru; rw [if_neg hn]
    rw [ht]
    have HA := Aside0.mk h
    clear h ht
    generalize vat vs l = x at hi ⊢
    go_enter Try.func87, Try.ntmps87
    go_wp2
    go_ret
    exact ⟨rfl, rfl⟩

theorem var_calls (l : Int) (w : World) (hl : l ≠ 0) (h1 : -128 ≤ l) (h2 : l ≤ 128) :
    Calls Try.prog 28 #[.int .i64 l] w fun e w' => e = .returned (.int .i64 (l.natAbs : Int)) ∧ Drawn0 w w' := by
  refine lit_Var.calls 2 l (l.natAbs : Int) w ?_
  unfold lit_Var.f
  by_cases h : l ≥ 1
  · rw [if_pos h]
    simp only [lit_Var.j0]
    rw [if_pos (by simpa using h2)]
    congr 1; omega
  · rw [if_neg h]
    simp only [lit_Var.j0]
    rw [if_neg (by simp), if_pos (by omega), if_pos (by omega)]
    congr 1; unfold wrap64; omega

/-- What a call on the state may have turned: the state's blocks, and what is new. -/
structure Moved (W W' : World) (g gv : Nat) (tv tv' : Value) : Prop where
  kept : Kept W W' (fun k => k = g ∨ k = gv ∨ tv.ownBlock = some k)
  tail : tv'.ownBlock = tv.ownBlock ∨ ∃ b, tv'.ownBlock = some b ∧ W.heap.size ≤ b
theorem Moved.refl (W : World) (g gv : Nat) (tv : Value) : Moved W W g gv tv tv := ⟨Kept.refl _ _, .inl rfl⟩
theorem Moved.trans {W W' W'' : World} {g gv : Nat} {tv tv' tv'' : Value} (h : Moved W W' g gv tv tv') (k : Moved W' W'' g gv tv' tv'') : Moved W W'' g gv tv tv'' := by
  refine ⟨h.kept.then_ k.kept ?_, ?_⟩
  · rintro b (rfl | rfl | hb)
    · exact .inl (.inl rfl)
    · exact .inl (.inr (.inl rfl))
    · rcases h.tail with e | ⟨b', e, hle⟩
      · exact .inl (.inr (.inr (by rw [← e]; exact hb)))
      · rw [e] at hb; injection hb with hb; subst hb; exact .inr hle
  · rcases k.tail with e | ⟨b', e, hle⟩
    · rw [e]; exact h.tail
    · exact .inr ⟨b', e, Nat.le_trans h.kept.1 hle⟩

def setB (vs : List Int) (l : Int) : Bool := decide (tru vs l ≠ -1)
def setV (vs : List Int) (l : Int) : List Int := if tru vs l = 0 then (if l > 0 then vs.set l.toNat 1 else vs.set (-l).toNat (-1)) else vs
def setT (vs ts : List Int) (l : Int) : List Int := if tru vs l = 0 then ts ++ [(l.natAbs : Int)] else ts

def SetPost (w0 W : World) (g gv : Nat) (N : Int) (AL : Option Addr) (cL : Nat) (L : List (List Int)) (vs ts : List Int) (tv : Value) (b : Bool) (vs' ts' : List Int) (e : Ending) (W' : World) : Prop :=
  ∃ tv', e = .returned (.bool b) ∧ St w0 W' g gv N AL cL L vs' ts' tv' ∧ Moved W W' g gv tv tv'

theorem set_same {w0 W : World} {g gv : Nat} {N : Int} {AL : Option Addr} {cL : Nat} {L : List (List Int)} {vs ts : List Int} {tv : Value} (h : St w0 W g gv N AL cL L vs ts tv) (l : Int) (hl : -(vs.length : Int) < l ∧ l < vs.length) (hb : tru vs l = 1 ∨ tru vs l = -1) :
    Calls Try.prog 66 #[.pointer (some ⟨g, 0, none⟩), .int .i64 l] W (SetPost w0 W g gv N AL cL L vs ts tv (setB vs l) (setV vs l) (setT vs ts l)) := by
  have ht := truth_calls h l hl
  have hv : setV vs l = vs := by unfold setV; rw [if_neg (by omega)]
  have hts : setT vs ts l = ts := by unfold setT; rw [if_neg (by omega)]
  rw [hv, hts]
  have HA := Aside0.mk h
  clear h hv hts
  have HT := Aside0.mk ht
  clear ht
  have hbb : setB vs l = decide (tru vs l ≠ -1) := rfl
  rw [hbb]
  clear hbb
  generalize tru vs l = t at hb HT ⊢
  rcases hb with rfl | rfl
  · go_enter Try.func66, Try.ntmps66
    go_wp2_with (go_at_call 87; refine HT.out.mono ?_; rintro e w' ⟨rfl, rfl⟩)
    go_ret
    exact ⟨tv, rfl, HA.out, Moved.refl _ _ _ _⟩
  · go_enter Try.func66, Try.ntmps66
    go_wp2_with (go_at_call 87; refine HT.out.mono ?_; rintro e w' ⟨rfl, rfl⟩)
    go_ret
    exact ⟨tv, rfl, HA.out, Moved.refl _ _ _ _⟩
end Go.Proofs.Ytbnjbjcokkcfcaa.Sol
