/- The walk of back. -/
import Derived.Test.YtbnjbjcokkcfcaaA3
namespace Go.Proofs.Ytbnjbjcokkcfcaa.Sol
open Go.RowKit Go.Proofs.YtbnjbjcokkcfcaaW.PrintWords Go.Proofs.YtbnjbjcokkcfcaaW.PrintLast Go.Proofs.YtbnjbjcokkcfcaaW.PrintMore Go.Proofs.Ytbnjbjcokkcfcaa.PSearchOwn
set_option linter.unusedVariables false
set_option linter.unusedSimpArgs false

def backV (vs : List Int) (l : List Int) : List Int := l.foldl (fun a v => a.set v.toNat 0) vs
def TrOk (n : Nat) (ts : List Int) : Prop := ∀ v ∈ ts, 0 ≤ v ∧ v < n
def BackPost (w0 W : World) (g gv : Nat) (N : Int) (AL : Option Addr) (cL : Nat) (L : List (List Int)) (tv : Value) (vs' ts' : List Int) (e : Ending) (W' : World) : Prop :=
  ∃ tv', e = .returned (.tuple #[]) ∧ St w0 W' g gv N AL cL L vs' ts' tv' ∧ Moved W W' g gv tv tv'

theorem backV_length (vs l : List Int) : (backV vs l).length = vs.length := by
  unfold backV
  induction l generalizing vs with
  | nil => rfl
  | cons a l ih => rw [List.foldl_cons, ih, List.length_set]
section
variable {w0 W : World} {g gv : Nat} {N : Int} {AL : Option Addr} {cL : Nat} {L : List (List Int)} {vs ts : List Int} {tv : Value}
theorem St.trCell {gt n cap : Nat} (h : St w0 W g gv N AL cL L vs ts (.slice (some ⟨gt, 0, none⟩) n cap)) (j : Nat) (v : Int) (hj : ts[j]? = some v) : W.cell? ⟨gt, j, none⟩ = some (.int .i64 v) := by
  have := h.tr.cells (g := gt) rfl j (.int .i64 v) (by simp [nums, hj])
  rwa [add_plain] at this
theorem St.cutTrail {A : Option Addr} {n cap : Nat} (h : St w0 W g gv N AL cL L vs ts (.slice A n cap)) (m : Nat) (hm : m ≤ ts.length) :
    St w0 (W.setCell ⟨g, 3, none⟩ (.slice A m cap)) g gv N AL cL L vs (ts.take m) (.slice A m cap) := by
  have hne : gv ≠ g := Ne.symm (blk_ne h.blk h.val (by decide))
  obtain rfl : n = ts.length := by
    rcases h.tr.2 with ⟨h1, h2⟩ | ⟨g', cap', cur, h1, _⟩
    · injection h1 with _ h1 _; omega
    · injection h1 with _ h1 _
  have ho := own_take h.tr hm
  have hl : (ts.take m).length = m := by simp; omega
  have hob : ∀ x y, Value.ownBlock (.slice A x cap) = Value.ownBlock (.slice A y cap) := fun x y => by cases A <;> rfl
  refine ⟨blk_put h.blk 3 _ rfl, blk_far h.val hne _, ?_, ?_, below_set h.below h.geg, h.geg, h.gev, h.rdL, h.capL, h.small, h.len⟩
  · rw [hl]
    have h2 := own_move (w1 := W.setCell ⟨g, 3, none⟩ (.slice A m cap)) ho (fun k hk => Below.heap_setCell W ⟨g, 3, none⟩ _ k (fun e => by
      have := own_neG h.tr h.blk (by decide)
      exact this (by rw [hob _ m, hk, e])))
    simpa [nums, List.map_take] using h2
  · rw [hob m ts.length]; exact h.ne
theorem Moved.setCell {W W' : World} {A : Option Addr} {n m cap : Nat} (h : Moved W W' g gv tv (.slice A n cap)) (u : Value) : Moved W (W'.setCell ⟨g, 3, none⟩ u) g gv tv (.slice A m cap) :=
  ⟨h.kept.setCell (.inl (.inl rfl)) u, by
    have hob : ∀ x y, Value.ownBlock (.slice A x cap) = Value.ownBlock (.slice A y cap) := fun x y => by cases A <;> rfl
    rw [hob m n]; exact h.tail⟩
theorem Moved.setCell2 {W W' : World} {tv' : Value} (h : Moved W W' g gv tv tv') (u : Value) {i : Nat} : Moved W (W'.setCell ⟨gv, i, none⟩ u) g gv tv tv' :=
  ⟨h.kept.setCell (.inl (.inr (.inl rfl))) u, h.tail⟩
end

set_option maxHeartbeats 2000000 in
set_option maxRecDepth 100000 in
theorem back_some {w0 W : World} {g gv gt cap : Nat} {N : Int} {AL : Option Addr} {cL : Nat} {L : List (List Int)} {vs ts : List Int} (m : Nat) (hm : m < ts.length) (h : St w0 W g gv N AL cL L vs ts (.slice (some ⟨gt, 0, none⟩) ts.length cap)) (hcap : ts.length ≤ cap) (hcm : cap ≤ 9223372036854775807) (ho : TrOk vs.length ts) :
    Calls Try.prog 69 #[.pointer (some ⟨g, 0, none⟩), .int .i64 (m : Int)] W (BackPost w0 W g gv N AL cL L (.slice (some ⟨gt, 0, none⟩) ts.length cap) (backV vs (ts.drop m)) (ts.take m)) := by
  have hc3 : W.cell? ⟨g, 3, none⟩ = some (.slice (some ⟨gt, 0, none⟩) ts.length cap) := (blk_cell h.blk 3).trans rfl
  have hne : ¬ (cap = m) := by omega
  have H1 := Aside0.mk h
  have H2 := Aside0.mk ho
  clear h ho
  go_enter Try.func69, Try.ntmps69
  go_wp2_with fail
  clear hc3 hne
  go_loopg [13] (ts.length - m) (fun gk v13 w' => ∃ i : Nat, i + gk = ts.length - m ∧ v13 = .int .i64 i ∧ Aside0 (St w0 w' g gv N AL cL L (backV vs ((ts.drop m).take i)) ts (.slice (some ⟨gt, 0, none⟩) ts.length cap)) ∧ Aside0 (Moved W w' g gv (.slice (some ⟨gt, 0, none⟩) ts.length cap) (.slice (some ⟨gt, 0, none⟩) ts.length cap)))
  case atStart => exact ⟨0, by omega, rfl, H1, ⟨Moved.refl _ _ _ _⟩⟩
  case round =>
    clear H1
    obtain ⟨i, hig, rfl, H1, HM⟩ := hrel
    have hc3 : wr.cell? ⟨g, 3, none⟩ = some (.slice (some ⟨gt, 0, none⟩) ts.length cap) := (blk_cell H1.out.blk 3).trans rfl
    have hc2 : wr.cell? ⟨g, 2, none⟩ = some (.slice (some ⟨gv, 0, none⟩) (backV vs ((ts.drop m).take i)).length (backV vs ((ts.drop m).take i)).length) := (blk_cell H1.out.blk 2).trans rfl
    cases gk with
    | zero =>
      have hi : ¬ ((i : Int) < ((ts.length - m : Nat) : Int)) := by omega
      have hf3 := blk_frozen H1.out.blk 3
      have HE : Aside0 (backV vs ((ts.drop m).take i) = backV vs (ts.drop m)) := ⟨by rw [List.take_of_length_le (by simp; omega)]⟩
      clear hc2
      go_wp2
      go_end0
      rw [← HE.out]
      exact ⟨_, rfl, H1.out.cutTrail m (by omega), HM.out.setCell _⟩
    | succ gk =>
      have hi : (i : Int) < ((ts.length - m : Nat) : Int) := by omega
      obtain ⟨v, hv⟩ : ∃ v, ts.getD (m + i) 0 = v := ⟨_, rfl⟩
      have hge : ts[m + i]? = some v := by
        rw [← hv]; simp [List.getD_eq_getElem?_getD, List.getElem?_eq_getElem (show m + i < ts.length by omega)]
      have hx : wr.cell? ⟨gt, m + i, none⟩ = some (.int .i64 v) := H1.out.trCell (m + i) v hge
      have hlen : (backV vs ((ts.drop m).take i)).length = vs.length := backV_length _ _
      rw [hlen] at hc2
      have hvo := H2.out v (List.mem_of_getElem? hge)
      have hvv : wr.cell? ⟨gv, v.toNat, none⟩ = some (.int .i64 (vat (backV vs ((ts.drop m).take i)) v)) := H1.out.cell v hvo.1 (by rw [hlen]; exact hvo.2)
      have hfv := blk_frozen H1.out.val v.toNat
      have HS := Aside0.mk (H1.out.put v.toNat 0 (by omega))
      have HT : Aside0 ((ts.drop m).take (i + 1) = (ts.drop m).take i ++ [v]) := ⟨by rw [List.take_add_one, List.getElem?_drop, hge]; rfl⟩
      obtain ⟨hvo1, hvo2⟩ := hvo
      have hlm := H1.out.len
      rw [hlen] at hlm
      clear hv hge hlen
      generalize vat (backV vs ((ts.drop m).take i)) v = y at hvv
      go_wp2
      go_roundg gk
      case measure => omega
      case rel =>
        refine ⟨i + 1, by omega, by go_num, ⟨?_⟩, ⟨HM.out.setCell2 _⟩⟩
        rw [HT.out]
        have e : backV vs ((ts.drop m).take i ++ [v]) = (backV vs ((ts.drop m).take i)).set v.toNat 0 := by unfold backV; rw [List.foldl_append]; rfl
        rw [e]
        exact HS.out

set_option maxHeartbeats 2000000 in
set_option maxRecDepth 100000 in
theorem back_none {w0 W : World} {g gv cap n : Nat} {A : Option Addr} {N : Int} {AL : Option Addr} {cL : Nat} {L : List (List Int)} {vs ts : List Int} (hn : n = ts.length) (h : St w0 W g gv N AL cL L vs ts (.slice A n cap)) (hcap : n ≤ cap) (hcm : cap ≤ 9223372036854775807) (hA : A = none → n = 0 ∧ cap = 0) :
    Calls Try.prog 69 #[.pointer (some ⟨g, 0, none⟩), .int .i64 (n : Int)] W (BackPost w0 W g gv N AL cL L (.slice A n cap) vs ts) := by
  have hc3 : W.cell? ⟨g, 3, none⟩ = some (.slice A n cap) := (blk_cell h.blk 3).trans rfl
  have hf3 := blk_frozen h.blk 3
  have HF := Aside0.mk (h.cutTrail n (by omega))
  have HN := Aside0.mk hn
  clear h hn
  cases A with
  | none =>
    obtain ⟨rfl, rfl⟩ := hA rfl
    go_enter Try.func69, Try.ntmps69
    go_wp2_with fail
    refine wp_loop_once ?_
    go_wp2
    go_end0
    exact ⟨_, rfl, by have := HF.out; rw [HN.out, List.take_length] at this; first | exact this | (rw [← HN.out] at this; exact this), (Moved.refl W g gv _).setCell _⟩
  | some a =>
    clear hA
    by_cases hc : cap = n
    · subst hc
      go_enter Try.func69, Try.ntmps69
      go_wp2_with fail
      refine wp_loop_once ?_
      go_wp2
      go_end0
      exact ⟨_, rfl, by have := HF.out; rw [HN.out, List.take_length] at this; first | exact this | (rw [← HN.out] at this; exact this), (Moved.refl W g gv _).setCell _⟩
    · go_enter Try.func69, Try.ntmps69
      go_wp2_with fail
      refine wp_loop_once ?_
      go_wp2
      go_end0
      exact ⟨_, rfl, by have := HF.out; rw [HN.out, List.take_length] at this; first | exact this | (rw [← HN.out] at this; exact this), (Moved.refl W g gv _).setCell _⟩

theorem back_calls {w0 W : World} {g gv : Nat} {N : Int} {AL : Option Addr} {cL : Nat} {L : List (List Int)} {vs ts : List Int} {tv : Value} (h : St w0 W g gv N AL cL L vs ts tv) (m : Nat) (hm : m ≤ ts.length) (ho : TrOk vs.length ts) :
    Calls Try.prog 69 #[.pointer (some ⟨g, 0, none⟩), .int .i64 (m : Int)] W (BackPost w0 W g gv N AL cL L tv (backV vs (ts.drop m)) (ts.take m)) := by
  have h2 : (tv = .slice none 0 0 ∧ ts.length = 0) ∨ ∃ gt cap, tv = .slice (some ⟨gt, 0, none⟩) ts.length cap ∧ ts.length ≤ cap ∧ cap ≤ 9223372036854775807 := by
    rcases h.tr.2 with ⟨h1, h2⟩ | ⟨g', cap, cur, h1, _, _, h2, h3, _⟩
    · exact .inl ⟨h1, h2⟩
    · exact .inr ⟨g', cap, h1, h2, h3⟩
  rcases h2 with ⟨rfl, h0⟩ | ⟨gt, cap, rfl, hc, hcm⟩
  · obtain rfl : ts = [] := List.eq_nil_of_length_eq_zero h0
    obtain rfl : m = 0 := by simpa using hm
    exact back_none (n := 0) (cap := 0) (A := none) rfl h (by omega) (by omega) (fun _ => ⟨rfl, rfl⟩)
  · by_cases hlt : m < ts.length
    · exact back_some m hlt h hc hcm ho
    · obtain rfl : m = ts.length := by omega
      rw [List.drop_length, List.take_length]
      exact back_none (A := some ⟨gt, 0, none⟩) rfl h hc hcm (fun h => by cases h)
end Go.Proofs.Ytbnjbjcokkcfcaa.Sol
