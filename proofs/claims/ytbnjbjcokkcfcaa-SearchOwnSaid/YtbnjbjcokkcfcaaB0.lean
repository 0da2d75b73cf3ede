/- slices.Clone and slices.Delete at []int. -/
import Derived.Test.YtbnjbjcokkcfcaaA7
import Derived.WalkSpells
import Derived.Test.YtbnjbjcokkcfcaaSh1
namespace Go.Proofs.Ytbnjbjcokkcfcaa.Sol
open Go.RowKit Go.Proofs.YtbnjbjcokkcfcaaW.PrintWords Go.Proofs.YtbnjbjcokkcfcaaW.PrintLast Go.Proofs.YtbnjbjcokkcfcaaW.PrintMore Go.Proofs.Ytbnjbjcokkcfcaa.PSearchOwn
set_option linter.unusedVariables false
set_option linter.unusedSimpArgs false

/-- What Clone leaves. -/
def Cloned (W : World) (xs : List Int) (e : Ending) (w' : World) : Prop :=
  ∃ v', e = .returned v' ∧ w'.ownsRow W.heap.size 3 1 v' xs.length (nums .i64 xs) ∧ Below W.heap.size W w'

set_option maxHeartbeats 2000000 in
set_option maxRecDepth 100000 in
theorem clone_calls (W : World) {A : Option Addr} {c : Nat} {xs : List Int} (hA : (Kd.int .i64).C W A xs.length xs) (hc : xs.length ≤ c) (hbig : xs.length * 8 ≤ 140737488355328) (hnil : A = none → c = 0) :
    Calls Try.prog 36 #[.slice A xs.length c] W (Cloned W xs) := by
  have q25 : ∀ (w : World) (a : Option Addr) (n c n' c' : Nat), (binOp .eql 25 (.slice a n c) (.slice none n' c')).run Try.prog w = .ok (.bool a.isNone) w := fun w a n c n' c' => Lib.run_eql_slice_nil w _ _ a n c n' c' Try.underlying25
  obtain ⟨i0, hi, hx⟩ := Option.map_eq_some_iff.1 info3
  simp only [Prod.mk.injEq] at hx
  obtain ⟨hz0, hz1, hz2⟩ := hx
  have HA := Aside0.mk hA
  clear hA
  cases A with
  | none =>
    have h0 : xs = [] := by
      rcases xs with _ | ⟨x, r⟩
      · rfl
      · obtain ⟨ad, h, _⟩ := rd_int HA.out 0 (by simp)
        cases h
    subst h0
    go_enter Try.func36, Try.ntmps36
    go_wp2
    go_ret
    exact ⟨_, rfl, own_nil _ _ _ _, Below.refl _ _⟩
  | some ad =>
    clear hnil
    go_enter Try.func36, Try.ntmps36
    go_wp2_with (at_builtin; refine wpList_append_own _ rfl _ _ 25 rfl W.heap.size 3 i0 (.int .i64 0) 1 8 Try.underlying25 hi hz0 hz1 hz2 rfl (by decide) _ _ _ rfl (World.ownsRow_made W #[] 0 (Nat.le_refl _) (Nat.zero_le _) rfl) ad xs.length c (nums .i64 xs) rfl ?qc1 ?qc2 ?qc3 ?qc4 ?qc5 ?qc6 ?_)
    case qc1 => simp [nums]
    case qc2 =>
      intro j u hj
      have hjn : j < xs.length := by
        have := (List.getElem?_eq_some_iff.1 hj).1
        simpa [nums] using this
      obtain ⟨ad2, h, hcell⟩ := rd_int HA.out j hjn
      cases h
      refine Lib.cell?_alloc_some _ ?_
      rw [hcell]
      simp [nums, List.getElem?_eq_getElem hjn] at hj
      rw [← hj]
      simp [List.getD_eq_getElem?_getD, List.getElem?_eq_getElem hjn]
    case qc3 => intro u hu; obtain ⟨x, _, rfl⟩ := List.mem_map.1 hu; rfl
    case qc4 => unfold maxLen; omega
    case qc5 => omega
    case qc6 => simp
    intro v' w1 hown hgrow hnil
    go_wp2
    go_ret
    refine ⟨v', rfl, by simpa using hown, ?_⟩
    exact ((Below.refl _ W).alloc (Nat.le_refl _) _).grown hgrow (by simp) (by intro k hk; simp [Value.ownBlock] at hk; omega)

/-- What Delete leaves. -/
def Deleted (W : World) (base : Nat) (v : Value) (ys : List Int) (e : Ending) (w' : World) : Prop :=
  ∃ v', e = .returned v' ∧ w'.ownsRow base 3 1 v' ys.length (nums .i64 ys) ∧ (∀ w0 B, Below B w0 W → B ≤ base → Below B w0 w')

theorem delete_calls (W : World) (base : Nat) {v : Value} {xs : List Int} (h : W.ownsRow base 3 1 v xs.length (nums .i64 xs)) (i : Nat) (hi : i < xs.length) :
    Calls Try.prog 37 #[v, .int .i64 (i : Int), .int .i64 ((i : Int) + 1)] W (Deleted W base v (xs.eraseIdx i)) := by
  have hv : v ≠ .slice none 0 0 := by
    rintro rfl
    rcases h.2 with ⟨_, h0⟩ | ⟨g, cap, cur, h1, _⟩
    · omega
    · cases h1
  obtain ⟨g, cap, rfl, hb, hlt, hn, hm, hl, hH⟩ := Lib.holds_of_ownsRow (enc := Value.int .i64) h hv
  have hd := Any.slices_Delete_int delLays g 0 cap i (i + 1) xs W hH hn hm (by omega) (by omega)
  rw [show ((i + 1 : Nat) : Int) = (i : Int) + 1 by omega] at hd
  refine hd.mono ?_
  rintro e w' ⟨rfl, q, rfl⟩
  have he : (xs.eraseIdx i).length = xs.length - 1 := List.length_eraseIdx_of_lt hi
  have hee : xs.take i ++ xs.drop (i + 1) = xs.eraseIdx i := (List.eraseIdx_eq_take_drop_succ xs i).symm
  refine ⟨_, rfl, ?_, fun w0 B hB hle => ?_⟩
  · have := Lib.ownsRow_putRow (enc := Value.int .i64) (q := q) (k := xs.length - (i + 1 - i)) (ys := xs.take i ++ xs.drop (i + 1) ++ List.replicate (i + 1 - i) 0) h (by simp; omega) (by omega)
    rw [he, show xs.length - 1 = xs.length - (i + 1 - i) by omega]
    have e2 : (xs.take i ++ xs.drop (i + 1) ++ List.replicate (i + 1 - i) (0 : Int)).take (xs.length - (i + 1 - i)) = xs.eraseIdx i := by
      rw [← hee, List.take_append_of_le_length (by simp; omega), List.take_of_length_le (by simp; omega)]
    rw [e2] at this
    exact this
  · exact Lib.below_putRow hB (by omega)
end Go.Proofs.Ytbnjbjcokkcfcaa.Sol
