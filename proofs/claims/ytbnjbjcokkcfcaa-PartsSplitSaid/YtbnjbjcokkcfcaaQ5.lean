/- The plain law: Split and the reference answer alike; the walk of the reference s grow. -/
import Derived.Test.YtbnjbjcokkcfcaaQ4
import Derived.ChangeKeysEq
import Derived.Laws.StructEq
namespace Go.Proofs.Ytbnjbjcokkcfcaa.Sol
set_option linter.unusedVariables false
set_option linter.unusedSimpArgs false
section
/-- A map to roots. -/
structure Cls (R : Nat → Nat) : Prop where
  idem : ∀ v, R (R v) = R v
  le : ∀ v, R v ≤ v
  pos : ∀ v, 1 ≤ v → 1 ≤ R v
theorem Cls.id : Cls id := ⟨fun _ => rfl, fun _ => Nat.le_refl _, fun _ h => h⟩
theorem Cls.uni {R : Nat → Nat} (h : Cls R) {x y : Nat} (hx : 1 ≤ x) (hy : 1 ≤ y) : Cls (uni R x y) := by
  have i1 := h.idem x
  have i2 := h.idem y
  have hm : R (min (R x) (R y)) = min (R x) (R y) := by
    rcases Nat.le_total (R x) (R y) with h | h
    · rw [Nat.min_eq_left h]; exact i1
    · rw [Nat.min_eq_right h]; exact i2
  refine ⟨fun v => ?_, fun v => ?_, fun v hv => ?_⟩
  · unfold Sol.uni
    by_cases e : R v = max (R x) (R y)
    · rw [if_pos e, hm]; split <;> rfl
    · rw [if_neg e, h.idem, if_neg e]
  · unfold Sol.uni
    have := h.le v
    split <;> omega
  · unfold Sol.uni
    have h1 := h.pos x hx
    have h2 := h.pos y hy
    have h3 := h.pos v hv
    split <;> omega
/-- What is constant on the classes. -/
def Resp (R : Nat → Nat) (S : Nat → Bool) : Prop := ∀ a b, R a = R b → S a = S b
theorem Cls.resp {R : Nat → Nat} (h : Cls R) {S : Nat → Bool} (hS : Resp R S) {x y : Nat} (hxy : S x = S y) : Resp (Sol.uni R x y) S := by
  have key : ∀ a, S a = S (Sol.uni R x y a) := by
    intro a
    have ex : S (R x) = S x := hS _ _ (h.idem x)
    have ey : S (R y) = S y := hS _ _ (h.idem y)
    unfold Sol.uni
    by_cases e : R a = max (R x) (R y)
    · rw [if_pos e]
      have ea : S a = S (R a) := (hS _ _ (h.idem a)).symm
      rw [ea, e]
      rcases Nat.le_total (R x) (R y) with h | h
      · rw [Nat.max_eq_right h, Nat.min_eq_left h, ex, ey, hxy]
      · rw [Nat.max_eq_left h, Nat.min_eq_right h, ex, ey, hxy]
    · rw [if_neg e]; exact (hS _ _ (h.idem a)).symm
  intro a b hab
  rw [key a, key b, hab]
theorem uni_keep {R : Nat → Nat} {x y a b : Nat} (h : R a = R b) : uni R x y a = uni R x y b := by unfold uni; rw [h]
theorem uni_joins (R : Nat → Nat) (x y : Nat) : uni R x y x = uni R x y y := by
  unfold uni
  rcases Nat.le_total (R x) (R y) with h | h
  · rw [Nat.max_eq_right h, Nat.min_eq_left h, if_pos rfl]; split <;> rfl
  · rw [Nat.max_eq_left h, Nat.min_eq_right h, if_pos rfl]; split <;> rename_i e <;> first | rfl | exact e.symm
theorem vn_pos {x : Int} (h : varOf x ≠ 0) : 1 ≤ vn x ∧ vn x ≤ 128 := by
  have := varOf_le x
  unfold vn; omega
theorem uniAll_facts (x0 : Int) (h0 : varOf x0 ≠ 0) : ∀ (xs : List Int), Lits xs → ∀ R, Cls R →
    Cls (uniAll x0 xs R) ∧ (∀ a b, R a = R b → uniAll x0 xs R a = uniAll x0 xs R b) ∧ (∀ x ∈ xs, uniAll x0 xs R (vn x) = uniAll x0 xs R (vn x0)) ∧ ∀ S, Resp R S → (∀ x ∈ xs, S (vn x) = S (vn x0)) → Resp (uniAll x0 xs R) S := by
  intro xs
  induction xs with
  | nil => intro _ R hR; exact ⟨hR, fun _ _ h => h, fun x hx => by simp at hx, fun S hS _ => hS⟩
  | cons x r ih =>
    intro hl R hR
    have hx := hl x (by simp)
    obtain ⟨h1, h2, h3, h4⟩ := ih (fun y hy => hl y (by simp [hy])) _ (hR.uni (vn_pos h0).1 (vn_pos hx).1)
    have e : uniAll x0 (x :: r) R = uniAll x0 r (uni R (vn x0) (vn x)) := rfl
    rw [e]
    refine ⟨h1, fun a b hab => h2 a b (uni_keep hab), fun y hy => ?_, fun S hS hc => h4 S (hR.resp hS (hc x (by simp)).symm) (fun y hy => hc y (by simp [hy]))⟩
    rcases List.mem_cons.1 hy with rfl | hy
    · exact (h2 _ _ (uni_joins R (vn x0) (vn y))).symm
    · exact h3 y hy
theorem lessAll_facts : ∀ (xs : List Int), Lits xs → ∀ s, SOk s → SOk (lessAll xs s) ∧ ∀ u, 1 ≤ u → u ≤ 128 → memS (lessAll xs s) u = (memS s u && !xs.any (fun x => decide (vn x = u))) := by
  intro xs
  induction xs with
  | nil => intro _ s hs; exact ⟨hs, fun u _ _ => by simp [lessAll]⟩
  | cons x r ih =>
    intro hl s hs
    have hx := vn_pos (hl x (by simp))
    obtain ⟨h1, h2⟩ := ih (fun y hy => hl y (by simp [hy])) (withoutS s (vn x)) (hs.without _)
    refine ⟨h1, fun u hu hu2 => ?_⟩
    show memS (lessAll r (withoutS s (vn x))) u = _
    rw [h2 u hu hu2, mem_without s hx.1 hx.2 hu hu2, List.any_cons, Bool.not_or, Bool.and_assoc]
    rw [show decide (u = vn x) = decide (vn x = u) from decide_eq_decide.2 ⟨Eq.symm, Eq.symm⟩]
theorem moreAll_facts : ∀ (xs : List Int), Lits xs → ∀ s, SOk s → SOk (moreAll xs s) ∧ ∀ u, 1 ≤ u → memS (moreAll xs s) u = (memS s u || xs.any (fun x => decide (vn x = u))) := by
  intro xs
  induction xs with
  | nil => intro _ s hs; exact ⟨hs, fun u _ => by simp [moreAll]⟩
  | cons x r ih =>
    intro hl s hs
    have hx := vn_pos (hl x (by simp))
    obtain ⟨h1, h2⟩ := ih (fun y hy => hl y (by simp [hy])) (withS s (vn x)) (hs.with hx.1 hx.2)
    refine ⟨h1, fun u hu => ?_⟩
    show memS (moreAll r (withS s (vn x))) u = _
    rw [h2 u hu, mem_with _ hx.1 hu, List.any_cons, Bool.or_assoc]
    rw [show decide (u = vn x) = decide (vn x = u) from decide_eq_decide.2 ⟨Eq.symm, Eq.symm⟩]
section
variable (L : List (List Int)) (ys : List Int)
def cl (i : Nat) : List Int := restF (L.getD i []) ys
def lf (i : Nat) : Bool := leftB (L.getD i []) ys
/-- A clause that is left, with literals. -/
def full (i : Nat) : Bool := lf L ys i && !(cl L ys i).isEmpty
def bare (i : Nat) : Bool := lf L ys i && (cl L ys i).isEmpty
def fstN (n : Nat) : Nat → Nat := (fold1 n ys L L.length).R
def root (n i : Nat) : Nat := fstN L ys n (vn (head0 (cl L ys i)))
end
variable {L : List (List Int)} {ys : List Int} {n : Nat}
/-- A theory of n variables. -/
def OkL (n : Nat) (L : List (List Int)) : Prop := ∀ c ∈ L, ∀ x ∈ c, varOf x ≠ 0 ∧ varOf x ≤ n
theorem cl_lits (hL : OkL n L) (i : Nat) : Lits (cl L ys i) ∧ ∀ x ∈ cl L ys i, vn x ≤ n := by
  have key : ∀ x ∈ cl L ys i, varOf x ≠ 0 ∧ varOf x ≤ n := by
    intro x hx
    have h1 : x ∈ L.getD i [] := (List.mem_filter.1 hx).1
    rw [List.getD_eq_getElem?_getD] at h1
    cases h : L[i]? with
    | none => rw [h] at h1; simp at h1
    | some c => rw [h] at h1; exact hL c (List.mem_of_getElem? h) x h1
  refine ⟨fun x hx => (key x hx).1, fun x hx => ?_⟩
  have := (key x hx).2
  unfold vn; omega
theorem cl_ne {i : Nat} (h : full L ys i = true) : cl L ys i ≠ [] := by
  intro e
  unfold full at h
  rw [e] at h
  simp at h
theorem full_lf {i : Nat} (h : full L ys i = true) : lf L ys i = true := by
  unfold full at h
  exact (Bool.and_eq_true _ _ ▸ h).1
theorem full_of {i : Nat} (h1 : lf L ys i = true) (h2 : cl L ys i ≠ []) : full L ys i = true := by
  unfold full
  rw [h1]
  cases h : cl L ys i with
  | nil => exact absurd h h2
  | cons => rfl
theorem bare_of {i : Nat} (h1 : lf L ys i = true) (h2 : cl L ys i = []) : bare L ys i = true := by
  unfold bare
  rw [h1, h2]; rfl
theorem head_mem {l : List Int} (h : l ≠ []) : head0 l ∈ l := by
  cases l with
  | nil => exact absurd rfl h
  | cons a r => exact List.mem_cons_self
theorem range_filter_snoc (p : Nat → Bool) (i : Nat) : (List.range (i + 1)).filter p = (List.range i).filter p ++ (if p i then [i] else []) := by
  rw [List.range_succ, List.filter_append]
  congr 1
  cases h : p i <;> simp [List.filter_cons, h]
/-- What the first loop finds. -/
theorem fold1_facts (hL : OkL n L) (hn : n ≤ 128) (hy : Lits ys) (i : Nat) :
    Cls (fold1 n ys L i).R ∧ (∀ j, j < i → full L ys j = true → ∀ x ∈ cl L ys j, (fold1 n ys L i).R (vn x) = (fold1 n ys L i).R (vn (head0 (cl L ys j)))) ∧
    (∀ S : Nat → Bool, (∀ j, j < i → full L ys j = true → ∀ x ∈ cl L ys j, S (vn x) = S (vn (head0 (cl L ys j)))) → Resp (fold1 n ys L i).R S) ∧
    (fold1 n ys L i).es = ((List.range i).filter (bare L ys)).map (fun j : Nat => (j : Int)) ∧
    (fold1 n ys L i).first = ((List.range i).filter (full L ys)).map (fun j : Nat => (j : Int)) ∧
    SOk (fold1 n ys L i).free ∧
    (∀ u, 1 ≤ u → u ≤ 128 → memS (fold1 n ys L i).free u = (decide (u ≤ n) && !ys.any (fun x => decide (vn x = u)) && !(List.range i).any (fun j => full L ys j && (cl L ys j).any (fun x => decide (vn x = u))))) := by
  induction i with
  | zero =>
    obtain ⟨h1, h2⟩ := lessAll_facts ys hy (allS n) (SOk.all n hn)
    refine ⟨Cls.id, fun j hj => absurd hj (Nat.not_lt_zero _), fun S _ a b h => congrArg S h, rfl, rfl, h1, fun u hu hu2 => ?_⟩
    show memS (lessAll ys (allS n)) u = _
    rw [h2 u hu hu2, mem_all n u hu]
    simp
  | succ i ih =>
    obtain ⟨h1, h2, h3, h4, h5, h6, h7⟩ := ih
    have es : fold1 n ys L (i + 1) = step1 ys (fold1 n ys L i) i (L.getD i []) := rfl
    rw [range_filter_snoc, range_filter_snoc, List.range_succ, es]
    unfold step1
    rw [show leftB (L.getD i []) ys = lf L ys i from rfl, show restF (L.getD i []) ys = cl L ys i from rfl]
    by_cases hl : lf L ys i = true
    · rw [if_pos hl]
      by_cases hc : cl L ys i = []
      · rw [if_pos hc]
        have e1 : bare L ys i = true := bare_of hl hc
        have e2 : full L ys i = false := by unfold full; rw [hc]; simp
        have hlt : ∀ j, j < i + 1 → full L ys j = true → j < i := fun j hj hf => by
          rcases Nat.lt_or_eq_of_le (Nat.le_of_lt_succ hj) with h | rfl
          · exact h
          · rw [e2] at hf; cases hf
        refine ⟨h1, fun j hj hf => h2 j (hlt j hj hf) hf, fun S hS => h3 S (fun j hj hf => hS j (by omega) hf), ?_, ?_, h6, fun u hu hu2 => ?_⟩
        · rw [e1]; simp [h4]
        · rw [e2]; simp [h5]
        · rw [List.any_append, h7 u hu hu2]; simp [e2]
      · rw [if_neg hc]
        have e1 : bare L ys i = false := by unfold bare; cases h : cl L ys i with
          | nil => exact absurd h hc
          | cons => simp
        have e2 : full L ys i = true := full_of hl hc
        obtain ⟨k1, k2, k3, k4⟩ := uniAll_facts (head0 (cl L ys i)) ((cl_lits hL i).1 _ (head_mem hc)) (cl L ys i) (cl_lits hL i).1 _ h1
        obtain ⟨m1, m2⟩ := lessAll_facts (cl L ys i) (cl_lits hL i).1 _ h6
        refine ⟨k1, fun j hj hf x hx => ?_, fun S hS => ?_, ?_, ?_, m1, fun u hu hu2 => ?_⟩
        · rcases Nat.lt_or_eq_of_le (Nat.le_of_lt_succ hj) with h | rfl
          · exact k2 _ _ (h2 j h hf x hx)
          · exact k3 x hx
        · exact k4 S (h3 S (fun j hj hf => hS j (by omega) hf)) (fun x hx => hS i (by omega) e2 x hx)
        · rw [e1]; simp [h4]
        · rw [e2]; simp [h5]
        · rw [List.any_append]
          show memS (lessAll (cl L ys i) (fold1 n ys L i).free) u = _
          rw [m2 u hu hu2, h7 u hu hu2]
          simp [e2, Bool.and_assoc]
    · have hl2 : lf L ys i = false := by cases h : lf L ys i; rfl; exact absurd h hl
      rw [if_neg hl]
      have e1 : bare L ys i = false := by unfold bare; rw [hl2]; rfl
      have e2 : full L ys i = false := by unfold full; rw [hl2]; rfl
      have hlt : ∀ j, j < i + 1 → full L ys j = true → j < i := fun j hj hf => by
        rcases Nat.lt_or_eq_of_le (Nat.le_of_lt_succ hj) with h | rfl
        · exact h
        · rw [e2] at hf; cases hf
      refine ⟨h1, fun j hj hf => h2 j (hlt j hj hf) hf, fun S hS => h3 S (fun j hj hf => hS j (by omega) hf), ?_, ?_, h6, fun u hu hu2 => ?_⟩
      · rw [e1]; simp [h4]
      · rw [e2]; simp [h5]
      · rw [List.any_append, h7 u hu hu2]; simp [e2]
section
variable (L : List (List Int)) (ys : List Int)
def VS (i : Nat) : Nat × Nat := varsS (cl L ys i)
def passStep (s : Nat × Nat) (k : Nat) : Nat × Nat := if lf L ys k then (if meetS (VS L ys k) s then joinS s (VS L ys k) else s) else s
/-- One round of grow, over the first clauses. -/
def passF (s : Nat × Nat) (i : Nat) : Nat × Nat := (List.range i).foldl (passStep L ys) s
def growF : Nat → Nat × Nat → Nat × Nat
  | 0, s => s
  | k + 1, s => if passF L ys s L.length = s then s else growF k (passF L ys s L.length)
def grown (i : Nat) : Nat × Nat := growF L ys 129 (VS L ys i)
def inC (i k : Nat) : Bool := lf L ys k && (decide (k = i) || meetS (VS L ys k) (grown L ys i))
def growC (i m : Nat) : List Int := ((List.range m).filter (inC L ys i)).map (fun j : Nat => (j : Int))
end
theorem passF_succ (s : Nat × Nat) (i : Nat) : passF L ys s (i + 1) = passStep L ys (passF L ys s i) i := by unfold passF; rw [List.range_succ, List.foldl_append]; rfl
theorem growC_succ (i m : Nat) : growC L ys i (m + 1) = growC L ys i m ++ (if inC L ys i m then [(m : Int)] else []) := by
  unfold growC
  rw [range_filter_snoc, List.map_append]
  cases inC L ys i m <;> rfl
theorem VS_facts (hL : OkL n L) (i : Nat) : SOk (VS L ys i) ∧ ∀ u, 1 ≤ u → (memS (VS L ys i) u = true ↔ ∃ x ∈ cl L ys i, vn x = u) := by
  obtain ⟨h1, h2⟩ := vars_all (cl L ys i) (cl_lits hL i).1
  refine ⟨h1, fun u hu => ?_⟩
  show memS (varsS (cl L ys i)) u = true ↔ _
  rw [h2 u hu, List.any_eq_true]
  exact ⟨fun ⟨x, a, b⟩ => ⟨x, a, of_decide_eq_true b⟩, fun ⟨x, a, b⟩ => ⟨x, a, decide_eq_true b⟩⟩
theorem passStep_facts (hL : OkL n L) {s : Nat × Nat} (hs : SOk s) (k : Nat) : SOk (passStep L ys s k) ∧ ∀ u, memS s u = true → memS (passStep L ys s k) u = true := by
  unfold passStep
  split
  · split
    · exact ⟨hs.join (VS_facts hL k).1, fun u hu => by rw [mem_join, hu]; rfl⟩
    · exact ⟨hs, fun _ h => h⟩
  · exact ⟨hs, fun _ h => h⟩
theorem passF_facts (hL : OkL n L) {s : Nat × Nat} (hs : SOk s) (i : Nat) : SOk (passF L ys s i) ∧ ∀ u, memS s u = true → memS (passF L ys s i) u = true := by
  induction i with
  | zero => exact ⟨hs, fun _ h => h⟩
  | succ i ih =>
    rw [passF_succ]
    obtain ⟨h1, h2⟩ := passStep_facts (ys := ys) hL ih.1 i
    exact ⟨h1, fun u hu => h2 u (ih.2 u hu)⟩
/-- Sets that grow. -/
theorem sub_antisymm {s t : Nat × Nat} (hs : SOk s) (ht : SOk t) (h1 : ∀ u, memS s u = true → memS t u = true) (h2 : ∀ u, memS t u = true → memS s u = true) : s = t := by
  refine setS_ext hs ht fun v _ _ => ?_
  cases h : memS s v with
  | true => exact (h1 v h).symm
  | false =>
    cases k : memS t v with
    | true => rw [h2 v k] at h; cases h
    | false => rfl
theorem passF_mono_i (hL : OkL n L) {s : Nat × Nat} (hs : SOk s) (i j : Nat) (hij : i ≤ j) : ∀ u, memS (passF L ys s i) u = true → memS (passF L ys s j) u = true := by
  induction j with
  | zero => intro u h; rw [show i = 0 by omega] at h; exact h
  | succ j ih =>
    intro u h
    rcases Nat.lt_or_eq_of_le hij with h1 | rfl
    · rw [passF_succ]
      exact (passStep_facts (ys := ys) hL (passF_facts hL hs j).1 j).2 u (ih (by omega) u h)
    · exact h
/-- A set at rest: a clause that meets it lies in it. -/
theorem rest_closed (hL : OkL n L) {s : Nat × Nat} (hs : SOk s) (hr : passF L ys s L.length = s) {k : Nat} (hk : k < L.length) (hlf : lf L ys k = true) {u : Nat} (hu1 : 1 ≤ u) (hu2 : u ≤ 128) (hu : memS s u = true) (hv : memS (VS L ys k) u = true) : ∀ v, memS (VS L ys k) v = true → memS s v = true := by
  intro v hm
  have e1 : passF L ys s k = s := by
    refine sub_antisymm (passF_facts hL hs k).1 hs (fun u h => ?_) (passF_facts hL hs k).2
    have := passF_mono_i hL hs k L.length (by omega) u h
    rwa [hr] at this
  have e2 : memS (passF L ys s (k + 1)) v = true := by
    rw [passF_succ, e1]
    unfold passStep
    rw [if_pos hlf, if_pos ((meet_iff (VS_facts hL k).1).2 ⟨u, hu1, hu2, hv, hu⟩), mem_join, hm, Bool.or_true]
  have := passF_mono_i hL hs (k + 1) L.length (by omega) v e2
  rwa [hr] at this
/-- How many are in a set. -/
def cardS (s : Nat × Nat) : Nat := (List.range 128).countP (fun i => memS s (i + 1))
theorem cardS_le (s : Nat × Nat) : cardS s ≤ 128 := by
  have := List.countP_le_length (p := fun i => memS s (i + 1)) (l := List.range 128)
  rwa [List.length_range] at this
theorem countP_lt {α : Type} (p q : α → Bool) : ∀ (l : List α), (∀ a ∈ l, p a = true → q a = true) → (∃ a ∈ l, p a = false ∧ q a = true) → l.countP p < l.countP q
  | [], _, ⟨a, h, _⟩ => by cases h
  | b :: r, h1, ⟨a, h, k⟩ => by
    have hle : r.countP p ≤ r.countP q := List.countP_mono_left (fun a ha => h1 a (List.mem_cons_of_mem _ ha))
    rw [List.countP_cons, List.countP_cons]
    rcases List.mem_cons.1 h with rfl | h
    · rw [k.1, k.2]; simp; omega
    · have ih := countP_lt p q r (fun a ha => h1 a (List.mem_cons_of_mem _ ha)) ⟨a, h, k⟩
      by_cases hb : p b = true
      · rw [hb, h1 b (by simp) hb]; omega
      · rw [if_neg hb]; split <;> omega
theorem cardS_lt {s t : Nat × Nat} (hs : SOk s) (ht : SOk t) (h : ∀ u, memS s u = true → memS t u = true) (hne : t ≠ s) : cardS s < cardS t := by
  refine countP_lt _ _ _ (fun a _ ha => h _ ha) ?_
  refine Classical.byContradiction fun hno => hne ?_
  refine sub_antisymm ht hs (fun u hu => ?_) h |>.trans rfl
  refine Classical.byContradiction fun hn => ?_
  have hf : memS s u = false := by cases k : memS s u; rfl; exact absurd k hn
  by_cases h1 : 1 ≤ u ∧ u ≤ 128
  · refine hno ⟨u - 1, List.mem_range.2 (by omega), ?_, ?_⟩
    · show memS s (u - 1 + 1) = false; rw [Nat.sub_add_cancel h1.1]; exact hf
    · show memS t (u - 1 + 1) = true; rw [Nat.sub_add_cancel h1.1]; exact hu
  · by_cases h0 : u = 0
    · subst h0
      have a1 := h 1
      have e1 : memS t 0 = memS t 1 := rfl
      have e2 : memS s 0 = memS s 1 := rfl
      rw [e1] at hu
      rw [e2] at hf
      exact hno ⟨0, List.mem_range.2 (by omega), hf, hu⟩
    · have hp : 2 ^ 64 ≤ 2 ^ (u - 65) := Nat.pow_le_pow_right (by decide) (by omega)
      unfold memS at hu
      rw [if_neg (by omega), Nat.testBit_lt_two_pow (Nat.lt_of_lt_of_le ht.2 hp)] at hu
      cases hu
theorem growF_step (hL : OkL n L) {s : Nat × Nat} (hs : SOk s) (hne : passF L ys s L.length ≠ s) : cardS s < cardS (passF L ys s L.length) :=
  cardS_lt hs (passF_facts hL hs _).1 (passF_facts hL hs _).2 hne
theorem growF_facts (hL : OkL n L) (I : Nat × Nat → Prop) (hI : ∀ s, SOk s → I s → I (passF L ys s L.length)) : ∀ k s, SOk s → I s → 129 ≤ cardS s + k → SOk (growF L ys k s) ∧ I (growF L ys k s) ∧ passF L ys (growF L ys k s) L.length = growF L ys k s ∧ ∀ u, memS s u = true → memS (growF L ys k s) u = true := by
  intro k
  induction k with
  | zero => intro s hs _ hk; have := cardS_le s; omega
  | succ k ih =>
    intro s hs hi hk
    unfold growF
    by_cases h : passF L ys s L.length = s
    · rw [if_pos h]; exact ⟨hs, hi, h, fun _ h => h⟩
    · rw [if_neg h]
      have := growF_step hL hs h
      obtain ⟨a, b, c, d⟩ := ih _ (passF_facts hL hs _).1 (hI s hs hi) (by omega)
      exact ⟨a, b, c, fun u hu => d u ((passF_facts hL hs _).2 u hu)⟩
/-- The variables of the clauses of a root. -/
def occ (L : List (List Int)) (ys : List Int) (n r u : Nat) : Prop := ∃ j, j < L.length ∧ full L ys j = true ∧ root L ys n j = r ∧ ∃ x ∈ cl L ys j, vn x = u
theorem fst_facts (hL : OkL n L) (hn : n ≤ 128) (hy : Lits ys) : Cls (fstN L ys n) ∧ (∀ j, j < L.length → full L ys j = true → ∀ x ∈ cl L ys j, fstN L ys n (vn x) = root L ys n j) ∧
    (∀ S : Nat → Bool, (∀ j, j < L.length → full L ys j = true → ∀ x ∈ cl L ys j, S (vn x) = S (vn (head0 (cl L ys j)))) → Resp (fstN L ys n) S) := by
  obtain ⟨h1, h2, h3, _⟩ := fold1_facts hL hn hy L.length
  exact ⟨h1, h2, h3⟩
theorem VS_bare (i : Nat) (h : cl L ys i = []) : VS L ys i = (0, 0) := by unfold VS; rw [h]; rfl
theorem meet_zero (s : Nat × Nat) (hs : SOk s) : meetS s (0, 0) = false := by
  cases h : meetS s (0, 0) with
  | false => rfl
  | true =>
    obtain ⟨v, _, _, _, h4⟩ := (meet_iff hs).1 h
    rw [mem_zero] at h4; cases h4
theorem pass_zero (hL : OkL n L) (i : Nat) : passF L ys (0, 0) i = (0, 0) := by
  induction i with
  | zero => rfl
  | succ i ih =>
    rw [passF_succ, ih]
    unfold passStep
    rw [meet_zero _ (VS_facts hL i).1]
    split <;> rfl
theorem grown_bare (hL : OkL n L) (i : Nat) (h : cl L ys i = []) : grown L ys i = (0, 0) := by
  unfold grown
  rw [VS_bare i h]
  unfold growF
  rw [if_pos (pass_zero hL _)]
theorem grown_facts (hL : OkL n L) (hn : n ≤ 128) (hy : Lits ys) {i : Nat} (hi : i < L.length) (hf : full L ys i = true) :
    SOk (grown L ys i) ∧ ∀ u, 1 ≤ u → u ≤ 128 → (memS (grown L ys i) u = true ↔ occ L ys n (root L ys n i) u) := by
  obtain ⟨f1, f2, f3⟩ := fst_facts hL hn hy
  have hV := VS_facts (ys := ys) hL i
  have start : ∀ u, 1 ≤ u → u ≤ 128 → memS (VS L ys i) u = true → occ L ys n (root L ys n i) u := fun u h1 _ hu => ⟨i, hi, hf, rfl, (hV.2 u h1).1 hu⟩
  have step : ∀ s, SOk s → (∀ u, 1 ≤ u → u ≤ 128 → memS s u = true → occ L ys n (root L ys n i) u) → ∀ m, m ≤ L.length → ∀ u, 1 ≤ u → u ≤ 128 → memS (passF L ys s m) u = true → occ L ys n (root L ys n i) u := by
    intro s hs hI m
    induction m with
    | zero => intro _; exact hI
    | succ m ih =>
      intro hm u h1 h2 hu
      rw [passF_succ] at hu
      unfold passStep at hu
      split at hu
      · rename_i hl
        split at hu
        · rename_i hmeet
          rw [mem_join, Bool.or_eq_true] at hu
          rcases hu with hu | hu
          · exact ih (by omega) u h1 h2 hu
          · obtain ⟨v, v1, v2, v3, v4⟩ := (meet_iff (VS_facts hL m).1).1 hmeet
            obtain ⟨j, j1, j2, j3, x, j4, j5⟩ := ih (by omega) v v1 v2 v4
            obtain ⟨y, y1, y2⟩ := ((VS_facts hL m).2 v v1).1 v3
            have hfm : full L ys m = true := full_of hl (List.ne_nil_of_mem y1)
            refine ⟨m, by omega, hfm, ?_, ((VS_facts hL m).2 u h1).1 hu⟩
            rw [← f2 m (by omega) hfm y y1, y2, ← j5, f2 j j1 j2 x j4, j3]
        · exact ih (by omega) u h1 h2 hu
      · exact ih (by omega) u h1 h2 hu
  obtain ⟨a, b, c, d⟩ := growF_facts (ys := ys) hL (fun s => ∀ u, 1 ≤ u → u ≤ 128 → memS s u = true → occ L ys n (root L ys n i) u) (fun s hs hI => step s hs hI _ (Nat.le_refl _)) 129 (VS L ys i) hV.1 start (by omega)
  refine ⟨a, fun u h1 h2 => ⟨b u h1 h2, ?_⟩⟩
  rintro ⟨j, j1, j2, j3, x, j4, j5⟩
  have hS := f3 (fun v => memS (grown L ys i) v) (fun k hk hkf z hz => by
    have z1 := vn_pos ((cl_lits hL k).1 z hz)
    have w1 := vn_pos ((cl_lits hL k).1 _ (head_mem (cl_ne hkf)))
    have mz : memS (VS L ys k) (vn z) = true := ((VS_facts hL k).2 _ z1.1).2 ⟨z, hz, rfl⟩
    have mw : memS (VS L ys k) (vn (head0 (cl L ys k))) = true := ((VS_facts hL k).2 _ w1.1).2 ⟨_, head_mem (cl_ne hkf), rfl⟩
    show memS (grown L ys i) (vn z) = memS (grown L ys i) (vn (head0 (cl L ys k)))
    cases e1 : memS (grown L ys i) (vn z) with
    | true => exact (rest_closed hL a c hk (full_lf hkf) z1.1 z1.2 e1 mz _ mw).symm
    | false =>
      cases e2 : memS (grown L ys i) (vn (head0 (cl L ys k))) with
      | true => have := rest_closed hL a c hk (full_lf hkf) w1.1 w1.2 e2 mw _ mz; rw [show growF L ys 129 (VS L ys i) = grown L ys i from rfl, e1] at this; cases this
      | false => rfl)
  have e := hS u (vn (head0 (cl L ys i))) (by rw [← j5, f2 j j1 j2 x j4, j3]; rfl)
  have w1 := vn_pos ((cl_lits hL i).1 _ (head_mem (cl_ne hf)))
  have : memS (grown L ys i) (vn (head0 (cl L ys i))) = true := d _ ((hV.2 _ w1.1).2 ⟨_, head_mem (cl_ne hf), rfl⟩)
  rw [← this]; exact e
/-- The place of a component in the order. -/
def keyP (p : Part) : Nat := leastS p.1
def insR : List Part → Part → List Part
  | [], p => [p]
  | q :: r, p => if keyP p < keyP q then q :: insR r p else p :: q :: r
/-- A component is put in from behind. -/
def insF (l : List Part) (p : Part) : List Part := (insR l.reverse p).reverse
theorem insF_eq (a b : List Part) (p : Part) (ha : ∀ q, a.getLast? = some q → ¬ keyP p < keyP q) (hb : ∀ q ∈ b, keyP p < keyP q) : insF (a ++ b) p = a ++ p :: b := by
  have key : ∀ (b' a' : List Part), (∀ q ∈ b', keyP p < keyP q) → (∀ q, a'.head? = some q → ¬ keyP p < keyP q) → insR (b' ++ a') p = b' ++ p :: a' := by
    intro b'
    induction b' with
    | nil =>
      intro a' _ ha'
      cases a' with
      | nil => rfl
      | cons q r => show insR (q :: r) p = p :: q :: r; rw [insR, if_neg (ha' q rfl)]
    | cons q r ih =>
      intro a' hb' ha'
      show insR (q :: (r ++ a')) p = q :: (r ++ p :: a')
      rw [insR, if_pos (hb' q (by simp)), ih a' (fun q hq => hb' q (by simp [hq])) ha']
  unfold insF
  rw [List.reverse_append, key b.reverse a.reverse (fun q hq => hb q (List.mem_reverse.1 hq)) (fun q hq => ha q (by rw [← hq, List.head?_reverse])), List.reverse_append, List.reverse_cons, List.reverse_reverse, List.reverse_reverse]
  simp
section
variable (L : List (List Int)) (ys : List Int)
def firstB (i : Nat) : Bool := decide ((growC L ys i L.length).head? = some (i : Int))
/-- The first clauses, in the reference: what is used, and the components. -/
def refF : Nat → (Nat × Nat) × List Part
  | 0 => (varsS ys, [])
  | i + 1 => if lf L ys i then (if firstB L ys i then (joinS (refF i).1 (grown L ys i), insF (refF i).2 (grown L ys i, growC L ys i L.length)) else refF i) else refF i
end
def freeF (used : Nat × Nat) : Nat → Nat × Nat
  | 0 => (0, 0)
  | v + 1 => if memS used (v + 1) then freeF used v else withS (freeF used v) (v + 1)
def refSplit (n : Nat) (L : List (List Int)) (ys : List Int) : List Part × (Nat × Nat) := ((refF L ys L.length).2, freeF (refF L ys L.length).1 n)
/-- The clauses of a root. -/
def rs (L : List (List Int)) (ys : List Int) (n r m : Nat) : List Nat := (List.range m).filter (fun j => full L ys j && decide (root L ys n j = r))
theorem rs_succ (r m : Nat) : rs L ys n r (m + 1) = rs L ys n r m ++ (if full L ys m && decide (root L ys n m = r) then [m] else []) := range_filter_snoc _ _
theorem mem_rs {r m j : Nat} : j ∈ rs L ys n r m ↔ j < m ∧ full L ys j = true ∧ root L ys n j = r := by
  unfold rs
  rw [List.mem_filter, List.mem_range, Bool.and_eq_true, decide_eq_true_iff]
def Comp2 (L : List (List Int)) (ys : List Int) (n m v : Nat) (o : Option (List Int × (Nat × Nat))) : Prop :=
  match o with
  | none => rs L ys n v m = []
  | some q => rs L ys n v m ≠ [] ∧ q.1 = (rs L ys n v m).map (fun j : Nat => (j : Int)) ∧ SOk q.2 ∧ ∀ u, 1 ≤ u → (memS q.2 u = true ↔ ∃ j ∈ rs L ys n v m, ∃ x ∈ cl L ys j, vn x = u)
theorem fold2_snoc' (R : Nat → Nat) (l : List Int) (x : Int) : fold2 ys L R (l ++ [x]) = step2 ys L R (fold2 ys L R l) x := by unfold fold2; rw [List.foldl_append]; rfl
theorem fold2_facts (hL : OkL n L) (v m : Nat) : Comp2 L ys n m v (fold2 ys L (fstN L ys n) (((List.range m).filter (full L ys)).map (fun j : Nat => (j : Int))) v) := by
  induction m with
  | zero => exact rfl
  | succ m ih =>
    rw [range_filter_snoc, List.map_append]
    unfold Comp2
    rw [rs_succ]
    cases hf : full L ys m with
    | false =>
      rw [Bool.false_and, if_neg (by decide), List.append_nil]
      show Comp2 L ys n m v (fold2 ys L (fstN L ys n) (_ ++ []) v)
      rw [List.append_nil]
      exact ih
    | true =>
      rw [if_pos rfl, List.map_cons, List.map_nil, fold2_snoc', Bool.true_and]
      unfold step2
      rw [show restF (L.getD (Int.toNat (m : Int)) []) ys = cl L ys m from rfl, show fstN L ys n (vn (head0 (cl L ys m))) = root L ys n m from rfl]
      by_cases hv : v = root L ys n m
      · rw [if_pos hv, decide_eq_true hv.symm, if_pos rfl]
        have hpos : ∀ x ∈ cl L ys m, varOf x ≠ 0 := (cl_lits hL m).1
        cases ho : fold2 ys L (fstN L ys n) (((List.range m).filter (full L ys)).map (fun j : Nat => (j : Int))) v with
        | none =>
          rw [ho] at ih
          have e0 : rs L ys n v m = [] := ih
          obtain ⟨a, b⟩ := moreAll_facts (cl L ys m) hpos (0, 0) SOk.zero
          rw [e0]
          refine ⟨by simp, rfl, a, fun u hu => ?_⟩
          show memS (moreAll (cl L ys m) (0, 0)) u = true ↔ _
          rw [b u hu, mem_zero, Bool.false_or, List.any_eq_true]
          constructor
          · rintro ⟨x, h1, h2⟩; exact ⟨m, by simp, x, h1, of_decide_eq_true h2⟩
          · rintro ⟨j, h0, x, h1, h2⟩
            have : j = m := by simpa using h0
            subst this
            exact ⟨x, h1, decide_eq_true h2⟩
        | some q =>
          rw [ho] at ih
          obtain ⟨i1, i2, i3, i4⟩ := ih
          obtain ⟨a, b⟩ := moreAll_facts (cl L ys m) hpos q.2 i3
          refine ⟨by simp, ?_, a, fun u hu => ?_⟩
          · show q.1 ++ [(m : Int)] = _
            rw [i2, List.map_append]; rfl
          · show memS (moreAll (cl L ys m) q.2) u = true ↔ _
            rw [b u hu, Bool.or_eq_true, i4 u hu, List.any_eq_true]
            constructor
            · rintro (⟨j, h1, h2⟩ | ⟨x, h1, h2⟩)
              · exact ⟨j, List.mem_append_left _ h1, h2⟩
              · exact ⟨m, by simp, x, h1, of_decide_eq_true h2⟩
            · rintro ⟨j, h0, x, h1, h2⟩
              rcases List.mem_append.1 h0 with h0 | h0
              · exact Or.inl ⟨j, h0, x, h1, h2⟩
              · have : j = m := by simpa using h0
                subst this
                exact Or.inr ⟨x, h1, decide_eq_true h2⟩
      · rw [if_neg hv, decide_eq_false (fun e => hv e.symm), if_neg (by decide), List.append_nil]
        exact ih
theorem root_bounds (hL : OkL n L) (hn : n ≤ 128) (hy : Lits ys) {i : Nat} (hf : full L ys i = true) : 1 ≤ root L ys n i ∧ root L ys n i ≤ n := by
  obtain ⟨f1, _, _⟩ := fst_facts hL hn hy
  have h1 := cl_lits (ys := ys) hL i
  have h2 := vn_pos (h1.1 _ (head_mem (cl_ne hf)))
  have h3 := h1.2 _ (head_mem (cl_ne hf))
  have h4 := f1.le (vn (head0 (cl L ys i)))
  have h5 := f1.pos _ h2.1
  unfold root
  omega
theorem inC_full (hL : OkL n L) (hn : n ≤ 128) (hy : Lits ys) {i k : Nat} (hi : i < L.length) (hk : k < L.length) (hf : full L ys i = true) : inC L ys i k = (full L ys k && decide (root L ys n k = root L ys n i)) := by
  obtain ⟨f1, f2, f3⟩ := fst_facts hL hn hy
  obtain ⟨g1, g2⟩ := grown_facts hL hn hy hi hf
  rw [Bool.eq_iff_iff, Bool.and_eq_true, decide_eq_true_iff]
  unfold inC
  rw [Bool.and_eq_true, Bool.or_eq_true, decide_eq_true_iff]
  constructor
  · rintro ⟨h1, h2 | h2⟩
    · subst h2; exact ⟨hf, rfl⟩
    · obtain ⟨v, v1, v2, v3, v4⟩ := (meet_iff (VS_facts hL k).1).1 h2
      obtain ⟨j, j1, j2, j3, x, j4, j5⟩ := (g2 v v1 v2).1 v4
      obtain ⟨y, y1, y2⟩ := ((VS_facts hL k).2 v v1).1 v3
      have hfk : full L ys k = true := full_of h1 (List.ne_nil_of_mem y1)
      exact ⟨hfk, by rw [← f2 k hk hfk y y1, y2, ← j5, f2 j j1 j2 x j4, j3]⟩
  · rintro ⟨h1, h2⟩
    refine ⟨full_lf h1, Or.inr ?_⟩
    have hm := head_mem (cl_ne h1)
    have hp := vn_pos ((cl_lits hL k).1 _ hm)
    exact (meet_iff (VS_facts hL k).1).2 ⟨_, hp.1, hp.2, ((VS_facts hL k).2 _ hp.1).2 ⟨_, hm, rfl⟩, (g2 _ hp.1 hp.2).2 ⟨k, hk, h1, h2, _, hm, rfl⟩⟩
theorem filter_range_congr {p q : Nat → Bool} {m : Nat} (h : ∀ k, k < m → p k = q k) : (List.range m).filter p = (List.range m).filter q := List.filter_congr (fun k hk => h k (List.mem_range.1 hk))
theorem growC_full (hL : OkL n L) (hn : n ≤ 128) (hy : Lits ys) {i : Nat} (hi : i < L.length) (hf : full L ys i = true) : growC L ys i L.length = (rs L ys n (root L ys n i) L.length).map (fun j : Nat => (j : Int)) := by
  unfold growC rs
  rw [filter_range_congr (fun k hk => inC_full hL hn hy hi hk hf)]
/-- The component of a root. -/
def compN (L : List (List Int)) (ys : List Int) (n r : Nat) : Option Part := (fold2 ys L (fold1 n ys L L.length).R (fold1 n ys L L.length).first r).map swp
theorem compN_full (hL : OkL n L) (hn : n ≤ 128) (hy : Lits ys) {i : Nat} (hi : i < L.length) (hf : full L ys i = true) : compN L ys n (root L ys n i) = some (grown L ys i, growC L ys i L.length) := by
  obtain ⟨g1, g2⟩ := grown_facts hL hn hy hi hf
  have h := fold2_facts (ys := ys) hL (root L ys n i) L.length
  unfold compN
  rw [(fold1_facts hL hn hy L.length).2.2.2.2.1]
  rw [show (fold1 n ys L L.length).R = fstN L ys n from rfl]
  have hmem : i ∈ rs L ys n (root L ys n i) L.length := mem_rs.2 ⟨hi, hf, rfl⟩
  cases ho : fold2 ys L (fstN L ys n) (((List.range L.length).filter (full L ys)).map (fun j : Nat => (j : Int))) (root L ys n i) with
  | none =>
    rw [ho] at h
    have h : rs L ys n (root L ys n i) L.length = [] := h
    rw [h] at hmem; cases hmem
  | some q =>
    rw [ho] at h
    obtain ⟨_, h2, h3, h4⟩ := h
    have e1 : q.2 = grown L ys i := by
      refine setS_ext h3 g1 fun v v1 v2 => ?_
      rw [Bool.eq_iff_iff, h4 v v1, g2 v v1 v2]
      constructor
      · rintro ⟨j, a, b⟩
        obtain ⟨a1, a2, a3⟩ := mem_rs.1 a
        exact ⟨j, a1, a2, a3, b⟩
      · rintro ⟨j, a1, a2, a3, b⟩
        exact ⟨j, mem_rs.2 ⟨a1, a2, a3⟩, b⟩
    show some (swp q) = _
    unfold swp
    rw [e1, h2, growC_full hL hn hy hi hf]
theorem least_of {s : Nat × Nat} {r : Nat} (h1 : 1 ≤ r) (h2 : r ≤ 128) (hm : memS s r = true) (hl : ∀ u, 1 ≤ u → u < r → memS s u = false) : leastS s = r := by
  unfold leastS
  have : (List.range 128).find? (fun i => memS s (i + 1)) = some (r - 1) := by
    rw [List.find?_range_eq_some]
    refine ⟨by rw [Nat.sub_add_cancel h1]; exact hm, List.mem_range.2 (by omega), fun j hj => ?_⟩
    rw [hl (j + 1) (by omega) (by omega)]; rfl
  rw [this]
  show r - 1 + 1 = r
  omega
theorem key_full (hL : OkL n L) (hn : n ≤ 128) (hy : Lits ys) {i : Nat} (hi : i < L.length) (hf : full L ys i = true) : leastS (grown L ys i) = root L ys n i := by
  obtain ⟨g1, g2⟩ := grown_facts hL hn hy hi hf
  obtain ⟨f1, f2, f3⟩ := fst_facts hL hn hy
  have hb := root_bounds hL hn hy hf
  have hh := head_mem (cl_ne hf)
  have hp := vn_pos ((cl_lits hL i).1 _ hh)
  refine least_of hb.1 (by omega) ?_ (fun u u1 u2 => ?_)
  · have hS := f3 (fun v => decide (∃ j, j < L.length ∧ full L ys j = true ∧ ∃ x ∈ cl L ys j, vn x = v)) (fun k hk hkf z hz => by
      show decide _ = decide _
      rw [decide_eq_true ⟨k, hk, hkf, z, hz, rfl⟩, decide_eq_true ⟨k, hk, hkf, _, head_mem (cl_ne hkf), rfl⟩])
    have e := hS (root L ys n i) (vn (head0 (cl L ys i))) (f1.idem _)
    have e2 : decide (∃ j, j < L.length ∧ full L ys j = true ∧ ∃ x ∈ cl L ys j, vn x = root L ys n i) = true := by
      refine Eq.trans e ?_
      exact decide_eq_true ⟨i, hi, hf, _, hh, rfl⟩
    obtain ⟨j, j1, j2, x, j3, j4⟩ := of_decide_eq_true e2
    refine (g2 _ hb.1 (by omega)).2 ⟨j, j1, j2, ?_, x, j3, j4⟩
    rw [← f2 j j1 j2 x j3, j4]
    exact f1.idem _
  · cases hm : memS (grown L ys i) u with
    | false => rfl
    | true =>
      obtain ⟨j, j1, j2, j3, x, j4, j5⟩ := (g2 u u1 (by omega)).1 hm
      have := f1.le u
      rw [← j5, f2 j j1 j2 x j4, j3] at this
      omega
theorem filterMap_congr' {α β : Type} {f g : α → Option β} : ∀ {l : List α}, (∀ x ∈ l, f x = g x) → l.filterMap f = l.filterMap g
  | [], _ => rfl
  | a :: r, h => by
    rw [List.filterMap_cons, List.filterMap_cons, h a (by simp), filterMap_congr' (fun x hx => h x (List.mem_cons_of_mem _ hx))]
theorem filterMap_ins {f g : Nat → Option Part} {r : Nat} {p : Part} (hr : r ≤ n) (hf : f r = none) (hg : g r = some p) (he : ∀ x, x ≠ r → g x = f x) :
    ∃ a b, (List.range (n + 1)).filterMap f = a ++ b ∧ (List.range (n + 1)).filterMap g = a ++ p :: b ∧ (∀ q ∈ a, ∃ x, x < r ∧ f x = some q) ∧ (∀ q ∈ b, ∃ x, r < x ∧ f x = some q) := by
  have e : List.range (n + 1) = (List.range r ++ [r]) ++ (List.range (n - r)).map (fun x => r + 1 + x) := by
    rw [← List.range_succ, ← List.range_add]; congr 1; omega
  refine ⟨(List.range r).filterMap f, ((List.range (n - r)).map (fun x => r + 1 + x)).filterMap f, ?_, ?_, ?_, ?_⟩
  · rw [e, List.filterMap_append, List.filterMap_append]
    simp [hf]
  · rw [e, List.filterMap_append, List.filterMap_append]
    have e1 : (List.range r).filterMap g = (List.range r).filterMap f := filterMap_congr' (fun x hx => he x (by have := List.mem_range.1 hx; omega))
    have e2 : ((List.range (n - r)).map (fun x => r + 1 + x)).filterMap g = ((List.range (n - r)).map (fun x => r + 1 + x)).filterMap f := filterMap_congr' (fun x hx => by
      obtain ⟨y, _, rfl⟩ := List.mem_map.1 hx
      exact he _ (by omega))
    rw [e1, e2]
    simp [hg]
  · intro q hq
    obtain ⟨x, h1, h2⟩ := List.mem_filterMap.1 hq
    exact ⟨x, List.mem_range.1 h1, h2⟩
  · intro q hq
    obtain ⟨x, h1, h2⟩ := List.mem_filterMap.1 hq
    obtain ⟨y, _, rfl⟩ := List.mem_map.1 h1
    exact ⟨_, by omega, h2⟩
def seen (L : List (List Int)) (ys : List Int) (n i r : Nat) : Bool := (List.range i).any (fun j => full L ys j && decide (root L ys n j = r))
theorem seen_iff {i r : Nat} : seen L ys n i r = true ↔ ∃ j, j < i ∧ full L ys j = true ∧ root L ys n j = r := by
  unfold seen
  rw [List.any_eq_true]
  constructor
  · rintro ⟨j, h1, h2⟩
    rw [Bool.and_eq_true, decide_eq_true_iff] at h2
    exact ⟨j, List.mem_range.1 h1, h2⟩
  · rintro ⟨j, h1, h2⟩
    exact ⟨j, List.mem_range.2 h1, by rw [Bool.and_eq_true, decide_eq_true_iff]; exact h2⟩
def esP (L : List (List Int)) (ys : List Int) (i : Nat) : List Part := ((List.range i).filter (bare L ys)).map (fun j : Nat => ((0, 0), [(j : Int)]))
def gOut (L : List (List Int)) (ys : List Int) (n i r : Nat) : Option Part := if seen L ys n i r then compN L ys n r else none
theorem gOut_some (hL : OkL n L) (hn : n ≤ 128) (hy : Lits ys) {i r : Nat} (hi : i ≤ L.length) {q : Part} (h : gOut L ys n i r = some q) : keyP q = r := by
  unfold gOut at h
  split at h
  · rename_i hs
    obtain ⟨j, j1, j2, j3⟩ := seen_iff.1 hs
    rw [← j3, compN_full hL hn hy (by omega) j2] at h
    cases h
    exact (key_full hL hn hy (by omega) j2).trans j3
  · cases h
theorem map_head {l : List Nat} {i : Nat} : (l.map (fun j : Nat => (j : Int))).head? = some (i : Int) ↔ l.head? = some i := by
  cases l with
  | nil => simp
  | cons a r => simp only [List.map_cons, List.head?_cons, Option.some.injEq]; omega
theorem firstB_iff {i : Nat} : firstB L ys i = true ↔ (inC L ys i i = true ∧ i < L.length ∧ ∀ j, j < i → inC L ys i j = false) := by
  unfold firstB growC
  rw [decide_eq_true_iff, map_head, List.head?_filter, List.find?_range_eq_some, List.mem_range]
  simp
theorem refOut (hL : OkL n L) (hn : n ≤ 128) (hy : Lits ys) (i : Nat) (hi : i ≤ L.length) : (refF L ys i).2 = esP L ys i ++ (List.range (n + 1)).filterMap (gOut L ys n i) := by
  induction i with
  | zero =>
    have : (List.range (n + 1)).filterMap (gOut L ys n 0) = [] := by
      rw [List.filterMap_eq_nil_iff]; intro x _; rfl
    rw [this]; rfl
  | succ i ih =>
    have ih := ih (by omega)
    have hlt : i < L.length := by omega
    have ee : esP L ys (i + 1) = esP L ys i ++ (if bare L ys i then [((0, 0), [(i : Int)])] else []) := by
      unfold esP
      rw [range_filter_snoc, List.map_append]
      cases bare L ys i <;> rfl
    have hs : ∀ r, seen L ys n (i + 1) r = (seen L ys n i r || (full L ys i && decide (root L ys n i = r))) := by
      intro r; unfold seen; rw [List.range_succ, List.any_append]; simp
    have hkeep : full L ys i = false → gOut L ys n (i + 1) = gOut L ys n i := by
      intro h; funext r; unfold gOut; rw [hs, h, Bool.false_and, Bool.or_false]
    unfold refF
    by_cases hl : lf L ys i = true
    · rw [if_pos hl]
      by_cases hc : cl L ys i = []
      · have e1 : bare L ys i = true := bare_of hl hc
        have e2 : full L ys i = false := by unfold full; rw [hc]; simp
        have e3 : inC L ys i = fun k => lf L ys k && decide (k = i) := by
          funext k
          unfold inC
          rw [grown_bare hL i hc, meet_zero _ (VS_facts hL k).1, Bool.or_false]
        have e4 : firstB L ys i = true := by
          rw [firstB_iff, e3]
          refine ⟨by simp [hl], hlt, fun j hj => ?_⟩
          simp only [decide_eq_false (show ¬ j = i by omega), Bool.and_false]
        have e5 : growC L ys i L.length = [(i : Int)] := by
          unfold growC
          rw [e3]
          have hx : (fun k => lf L ys k && decide (k = i)) = fun k => decide (k = i) := by
            funext k
            by_cases h : k = i
            · subst h; simp [hl]
            · simp [h]
          rw [hx]
          have key : ∀ m, (List.range m).filter (fun k => decide (k = i)) = if i < m then [i] else [] := by
            intro m
            induction m with
            | zero => rfl
            | succ m ih2 =>
              rw [range_filter_snoc, ih2]
              by_cases h1 : m = i
              · subst h1; simp
              · by_cases h2 : i < m
                · simp [h1, h2]; omega
                · simp [h1, h2]; omega
          rw [key, if_pos hlt]; rfl
        rw [if_pos e4, hkeep e2, ee, e1, if_pos rfl, ih, grown_bare hL i hc, e5]
        show insF _ _ = _
        rw [insF_eq _ _ _ (fun q hq => ?_) (fun q hq => ?_)]
        · simp
        · have hq := List.mem_of_getLast? hq
          obtain ⟨j, _, rfl⟩ := List.mem_map.1 hq
          exact Nat.lt_irrefl _
        · obtain ⟨x, _, hx⟩ := List.mem_filterMap.1 hq
          have hk := gOut_some hL hn hy (by omega) hx
          have hs2 : seen L ys n i x = true := by
            unfold gOut at hx
            split at hx
            · assumption
            · cases hx
          obtain ⟨j, _, j2, j3⟩ := seen_iff.1 hs2
          have := root_bounds hL hn hy j2
          rw [hk]
          have h0 : keyP ((0, 0), [(i : Int)]) = 0 := by show leastS (0, 0) = 0; decide
          rw [h0]; omega
      · have e1 : bare L ys i = false := by unfold bare; cases h : cl L ys i with
          | nil => exact absurd h hc
          | cons => simp
        have e2 : full L ys i = true := full_of hl hc
        rw [ee, e1, if_neg (show ¬ (false = true) by decide), List.append_nil]
        by_cases hsn : seen L ys n i (root L ys n i) = true
        · have e4 : firstB L ys i = false := by
            cases h : firstB L ys i with
            | false => rfl
            | true =>
              obtain ⟨_, _, h3⟩ := firstB_iff.1 h
              obtain ⟨j, j1, j2, j3⟩ := seen_iff.1 hsn
              have := h3 j j1
              rw [inC_full hL hn hy hlt (by omega) e2, j2, decide_eq_true j3] at this
              cases this
          rw [if_neg (by rw [e4]; decide), ih]
          congr 1
          refine filterMap_congr' fun x _ => ?_
          unfold gOut
          rw [hs]
          by_cases hx : root L ys n i = x
          · subst hx; rw [hsn]; rfl
          · rw [decide_eq_false hx, Bool.and_false, Bool.or_false]
        · have hsn2 : seen L ys n i (root L ys n i) = false := by cases h : seen L ys n i (root L ys n i); rfl; exact absurd h hsn
          have e4 : firstB L ys i = true := by
            rw [firstB_iff]
            refine ⟨?_, hlt, fun j hj => ?_⟩
            · rw [inC_full hL hn hy hlt hlt e2, e2, decide_eq_true rfl]; rfl
            · rw [inC_full hL hn hy hlt (by omega) e2]
              cases h1 : full L ys j with
              | false => rfl
              | true =>
                by_cases h2 : root L ys n j = root L ys n i
                · exact absurd (seen_iff.2 ⟨j, hj, h1, h2⟩) hsn
                · rw [decide_eq_false h2]; rfl
          rw [if_pos e4, ih]
          obtain ⟨a, b, h1, h2, h3, h4⟩ := filterMap_ins (n := n) (f := gOut L ys n i) (g := gOut L ys n (i + 1)) (r := root L ys n i) (p := (grown L ys i, growC L ys i L.length)) (root_bounds hL hn hy e2).2
            (by unfold gOut; rw [hsn2]; rfl) (by unfold gOut; rw [hs, e2, decide_eq_true rfl, hsn2]; exact compN_full hL hn hy hlt e2)
            (fun x hx => by unfold gOut; rw [hs, decide_eq_false (fun e => hx e.symm), Bool.and_false, Bool.or_false])
          rw [h1, h2]
          show insF _ _ = _
          have hkp : keyP (grown L ys i, growC L ys i L.length) = root L ys n i := key_full hL hn hy hlt e2
          rw [← List.append_assoc, insF_eq _ _ _ (fun q hq => ?_) (fun q hq => ?_)]
          · simp
          · rw [hkp]
            have hq := List.mem_of_getLast? hq
            rcases List.mem_append.1 hq with hq | hq
            · obtain ⟨j, _, rfl⟩ := List.mem_map.1 hq
              have h0 : keyP ((0, 0), [(j : Int)]) = 0 := by show leastS (0, 0) = 0; decide
              rw [h0]; omega
            · obtain ⟨x, x1, x2⟩ := h3 q hq
              rw [gOut_some hL hn hy (by omega) x2]; omega
          · obtain ⟨x, x1, x2⟩ := h4 q hq
            rw [hkp, gOut_some hL hn hy (by omega) x2]; omega
    · have hl2 : lf L ys i = false := by cases h : lf L ys i; rfl; exact absurd h hl
      have e1 : bare L ys i = false := by unfold bare; rw [hl2]; rfl
      have e2 : full L ys i = false := by unfold full; rw [hl2]; rfl
      rw [if_neg hl, hkeep e2, ee, e1, ih]
      simp
theorem refUsed (hL : OkL n L) (hn : n ≤ 128) (hy : Lits ys) (i : Nat) (hi : i ≤ L.length) : SOk (refF L ys i).1 ∧ ∀ u, 1 ≤ u → u ≤ 128 → (memS (refF L ys i).1 u = true ↔ (∃ x ∈ ys, vn x = u) ∨ ∃ j, j < i ∧ full L ys j = true ∧ memS (grown L ys j) u = true) := by
  induction i with
  | zero =>
    obtain ⟨h1, h2⟩ := vars_all ys hy
    refine ⟨h1, fun u hu _ => ?_⟩
    show memS (varsS ys) u = true ↔ _
    rw [h2 u hu, List.any_eq_true]
    constructor
    · rintro ⟨x, a, b⟩; exact Or.inl ⟨x, a, of_decide_eq_true b⟩
    · rintro (⟨x, a, b⟩ | ⟨j, h, _⟩)
      · exact ⟨x, a, decide_eq_true b⟩
      · exact absurd h (Nat.not_lt_zero _)
  | succ i ih =>
    obtain ⟨i1, i2⟩ := ih (by omega)
    have hlt : i < L.length := by omega
    have skip : (∀ u, 1 ≤ u → u ≤ 128 → full L ys i = true → memS (grown L ys i) u = true → ∃ j, j < i ∧ full L ys j = true ∧ memS (grown L ys j) u = true) → ∀ u, 1 ≤ u → u ≤ 128 → (memS (refF L ys i).1 u = true ↔ (∃ x ∈ ys, vn x = u) ∨ ∃ j, j < i + 1 ∧ full L ys j = true ∧ memS (grown L ys j) u = true) := by
      intro h u u1 u2
      rw [i2 u u1 u2]
      constructor
      · rintro (a | ⟨j, j1, j2⟩)
        · exact Or.inl a
        · exact Or.inr ⟨j, by omega, j2⟩
      · rintro (a | ⟨j, j1, j2, j3⟩)
        · exact Or.inl a
        · rcases Nat.lt_or_eq_of_le (Nat.le_of_lt_succ j1) with h1 | rfl
          · exact Or.inr ⟨j, h1, j2, j3⟩
          · exact Or.inr (h u u1 u2 j2 j3)
    unfold refF
    by_cases hl : lf L ys i = true
    · rw [if_pos hl]
      by_cases hfb : firstB L ys i = true
      · rw [if_pos hfb]
        show SOk (joinS _ _) ∧ ∀ u, _ → _ → (memS (joinS _ _) u = true ↔ _)
        by_cases hc : cl L ys i = []
        · rw [grown_bare hL i hc]
          refine ⟨i1.join SOk.zero, fun u u1 u2 => ?_⟩
          rw [mem_join, mem_zero, Bool.or_false]
          exact skip (fun u _ _ hf _ => absurd hc (cl_ne hf)) u u1 u2
        · have e2 : full L ys i = true := full_of hl hc
          refine ⟨i1.join (grown_facts hL hn hy hlt e2).1, fun u u1 u2 => ?_⟩
          rw [mem_join, Bool.or_eq_true, i2 u u1 u2]
          constructor
          · rintro ((a | ⟨j, j1, j2⟩) | a)
            · exact Or.inl a
            · exact Or.inr ⟨j, by omega, j2⟩
            · exact Or.inr ⟨i, by omega, e2, a⟩
          · rintro (a | ⟨j, j1, j2, j3⟩)
            · exact Or.inl (Or.inl a)
            · rcases Nat.lt_or_eq_of_le (Nat.le_of_lt_succ j1) with h1 | rfl
              · exact Or.inl (Or.inr ⟨j, h1, j2, j3⟩)
              · exact Or.inr j3
      · rw [if_neg hfb]
        refine ⟨i1, skip (fun u u1 u2 hf hm => ?_)⟩
        have : ∃ j, j < i ∧ inC L ys i j = true := by
          refine Classical.byContradiction fun hno => hfb (firstB_iff.2 ⟨?_, hlt, fun j hj => ?_⟩)
          · rw [inC_full hL hn hy hlt hlt hf, hf, decide_eq_true rfl]; rfl
          · cases h : inC L ys i j with
            | false => rfl
            | true => exact absurd ⟨j, hj, h⟩ hno
        obtain ⟨j, j1, j2⟩ := this
        rw [inC_full hL hn hy hlt (by omega) hf, Bool.and_eq_true, decide_eq_true_iff] at j2
        refine ⟨j, j1, j2.1, ?_⟩
        rw [(grown_facts hL hn hy (by omega) j2.1).2 u u1 u2, j2.2]
        exact ((grown_facts hL hn hy hlt hf).2 u u1 u2).1 hm
    · rw [if_neg hl]
      exact ⟨i1, skip (fun u _ _ hf _ => absurd (full_lf hf) hl)⟩
theorem freeF_facts (used : Nat × Nat) (m : Nat) (hm : m ≤ 128) : SOk (freeF used m) ∧ ∀ u, 1 ≤ u → memS (freeF used m) u = (decide (u ≤ m) && !memS used u) := by
  induction m with
  | zero => exact ⟨SOk.zero, fun u hu => by rw [show freeF used 0 = (0, 0) from rfl, mem_zero, decide_eq_false (by omega)]; rfl⟩
  | succ m ih =>
    obtain ⟨h1, h2⟩ := ih (by omega)
    unfold freeF
    by_cases hu : memS used (m + 1) = true
    · rw [if_pos hu]
      refine ⟨h1, fun u u1 => ?_⟩
      rw [h2 u u1]
      by_cases e : u = m + 1
      · subst e; rw [hu]; simp
      · rw [decide_eq_decide.2 (show u ≤ m ↔ u ≤ m + 1 by omega)]
    · rw [if_neg hu]
      refine ⟨h1.with (by omega) hm, fun u u1 => ?_⟩
      rw [mem_with _ (by omega) u1, h2 u u1]
      by_cases e : u = m + 1
      · subst e
        have : memS used (m + 1) = false := by cases h : memS used (m + 1); rfl; exact absurd h hu
        rw [this]; simp
      · rw [decide_eq_false e, Bool.or_false, decide_eq_decide.2 (show u ≤ m ↔ u ≤ m + 1 by omega)]
/-- The reference and the program, for one term. -/
theorem ref_split (hL : OkL n L) (hn : n ≤ 128) (hy : Lits ys) : refSplit n L ys = splitF n L ys := by
  unfold refSplit splitF
  obtain ⟨f1, f2, f3, f4, f5, f6, f7⟩ := fold1_facts hL hn hy L.length
  obtain ⟨u1, u2⟩ := refUsed hL hn hy L.length (Nat.le_refl _)
  obtain ⟨r1, r2⟩ := freeF_facts (refF L ys L.length).1 n hn
  refine Prod.ext ?_ ?_
  · show (refF L ys L.length).2 = _ ++ _
    rw [refOut hL hn hy L.length (Nat.le_refl _)]
    congr 1
    · show esP L ys L.length = (fold1 n ys L L.length).es.map _
      rw [f4, List.map_map]; rfl
    · refine filterMap_congr' fun r _ => ?_
      unfold gOut
      by_cases hs : seen L ys n L.length r = true
      · rw [if_pos hs]; rfl
      · rw [if_neg hs]
        have h := fold2_facts (ys := ys) hL r L.length
        show _ = Option.map swp (fold2 ys L (fold1 n ys L L.length).R (fold1 n ys L L.length).first r)
        rw [f5, show (fold1 n ys L L.length).R = fstN L ys n from rfl]
        cases ho : fold2 ys L (fstN L ys n) (((List.range L.length).filter (full L ys)).map (fun j : Nat => (j : Int))) r with
        | none => rfl
        | some q =>
          rw [ho] at h
          obtain ⟨h1, _⟩ := h
          obtain ⟨j, hj⟩ := List.exists_mem_of_ne_nil _ h1
          exact absurd (seen_iff.2 ⟨j, mem_rs.1 hj⟩) hs
  · show freeF _ n = (fold1 n ys L L.length).free
    refine setS_ext r1 f6 fun u v1 v2 => ?_
    rw [r2 u v1, f7 u v1 v2, Bool.and_assoc]
    congr 1
    rw [← Bool.not_or]
    congr 1
    rw [Bool.eq_iff_iff, u2 u v1 v2, Bool.or_eq_true, List.any_eq_true, List.any_eq_true]
    constructor
    · rintro (⟨x, a, b⟩ | ⟨j, a, b, c⟩)
      · exact Or.inl ⟨x, a, decide_eq_true b⟩
      · obtain ⟨k, k1, k2, _, x, k3, k4⟩ := ((grown_facts hL hn hy a b).2 u v1 v2).1 c
        exact Or.inr ⟨k, List.mem_range.2 k1, by rw [k2, Bool.true_and, List.any_eq_true]; exact ⟨x, k3, decide_eq_true k4⟩⟩
    · rintro (⟨x, a, b⟩ | ⟨j, a, b⟩)
      · exact Or.inl ⟨x, a, of_decide_eq_true b⟩
      · rw [Bool.and_eq_true, List.any_eq_true] at b
        obtain ⟨b1, x, b2, b3⟩ := b
        exact Or.inr ⟨j, List.mem_range.1 a, b1, ((grown_facts hL hn hy (List.mem_range.1 a) b1).2 u v1 v2).2 ⟨j, List.mem_range.1 a, b1, rfl, x, b2, of_decide_eq_true b3⟩⟩
theorem leftB_mem {a b : List Int} (h : ∀ x, x ∈ a ↔ x ∈ b) (c : List Int) : leftB c a = leftB c b := by
  unfold leftB
  congr 1
  funext x
  rw [decide_eq_decide.2 (h x)]
theorem restF_mem {a b : List Int} (h : ∀ x, x ∈ a ↔ x ∈ b) (c : List Int) : restF c a = restF c b := by
  unfold restF
  congr 1
  funext x
  rw [decide_eq_decide.2 (h (-x))]
theorem splitF_mem {a b : List Int} (h : ∀ x, x ∈ a ↔ x ∈ b) (ha : Lits a) (hn : n ≤ 128) : splitF n L a = splitF n L b := by
  have hb : Lits b := fun x hx => ha x ((h x).2 hx)
  have e0 : lessAll a (allS n) = lessAll b (allS n) := by
    obtain ⟨a1, a2⟩ := lessAll_facts a ha (allS n) (SOk.all n hn)
    obtain ⟨b1, b2⟩ := lessAll_facts b hb (allS n) (SOk.all n hn)
    refine setS_ext a1 b1 fun u u1 u2 => ?_
    rw [a2 u u1 u2, b2 u u1 u2]
    congr 2
    rw [Bool.eq_iff_iff, List.any_eq_true, List.any_eq_true]
    exact ⟨fun ⟨x, p, q⟩ => ⟨x, (h x).1 p, q⟩, fun ⟨x, p, q⟩ => ⟨x, (h x).2 p, q⟩⟩
  have e1 : ∀ i, fold1 n a L i = fold1 n b L i := by
    intro i
    induction i with
    | zero => unfold fold1; rw [e0]
    | succ i ih =>
      show step1 a (fold1 n a L i) i _ = step1 b (fold1 n b L i) i _
      rw [ih]
      unfold step1
      rw [leftB_mem h, restF_mem h]
  have e2 : step2 a L = step2 b L := by
    funext R m i v
    unfold step2
    rw [restF_mem h]
  unfold splitF fold2
  rw [e1, e2]
/-- What a valid theory is. -/
theorem okL_of {N : Int} {L : List (List Int)} (h : checkF N L = 0) : ∃ m : Nat, N = m ∧ m ≤ 128 ∧ OkL m L := by
  unfold checkF at h
  split at h
  · cases h
  · rename_i h1
    split at h
    · cases h
    · obtain ⟨m, rfl⟩ : ∃ m : Nat, N = m := ⟨N.toNat, by omega⟩
      refine ⟨m, rfl, by omega, ?_⟩
      clear h1
      rename_i h2
      clear h2
      induction L with
      | nil => intro c hc; cases hc
      | cons d r ih =>
        unfold clausesF at h
        split at h
        · cases h
        · split at h
          · rename_i h3
            intro c hc
            rcases List.mem_cons.1 hc with rfl | hc
            · intro x hx
              exact of_decide_eq_true (List.all_eq_true.1 h3 x hx)
            · exact ih h c hc
          · cases h
end
end Go.Proofs.Ytbnjbjcokkcfcaa.Sol
namespace Go.Proofs.Ytbnjbjcokkcfcaa.Sol
open Go.RowKit Go.Proofs.YtbnjbjcokkcfcaaW.PrintWords Go.Proofs.YtbnjbjcokkcfcaaW.PrintLast Go.Proofs.YtbnjbjcokkcfcaaW.PrintMore Go.Proofs.Ytbnjbjcokkcfcaa.PSearchOwn
set_option linter.unusedVariables false
set_option linter.unusedSimpArgs false
abbrev cS (s : Nat × Nat) : Array Value := #[.int .u64 (s.1 : Int), .int .u64 (s.2 : Int)]
/-- What stays in grow. -/
structure GW (W : World) (N : Int) (AL : Option Addr) (cL : Nat) (L : List (List Int)) (w : World) : Prop where
  th : w.heap[W.heap.size]? = some (.cells #[.int .i64 N, .slice AL L.length cL] 24 (0, 0))
  rz : w.heap[W.heap.size + 1]? = some (.cells #[.int .u64 0, .int .u64 0, .slice none 0 0] 69 (0, 0))
  be : Below W.heap.size W w
theorem GW.bg {W w w2 : World} {N : Int} {AL : Option Addr} {cL : Nat} {L : List (List Int)} (h : GW W N AL cL L w) (hb : Below w.heap.size w w2) : GW W N AL cL L w2 := ⟨blk_below h.th hb, blk_below h.rz hb, below_step h.be hb⟩
theorem GW.set {W w : World} {N : Int} {AL : Option Addr} {cL : Nat} {L : List (List Int)} (h : GW W N AL cL L w) {g j : Nat} (hg : W.heap.size + 1 < g) (u : Value) : GW W N AL cL L (w.setCell ⟨g, j, none⟩ u) :=
  ⟨blk_far h.th (by show _ ≠ g; omega) _, blk_far h.rz (by show _ ≠ g; omega) _, below_set h.be (by omega)⟩
theorem GW.grown {W w w2 : World} {N : Int} {AL : Option Addr} {cL : Nat} {L : List (List Int)} (h : GW W N AL cL L w) {v : Value} {k : Nat} {xs : List Value} (ho : w.ownsRow W.heap.size 3 1 v k xs) (hg : w.grownBy w2 v.ownBlock) : GW W N AL cL L w2 :=
  ⟨blk_grown h.th hg (own_ne ho h.th (by decide)), blk_grown h.rz hg (own_ne ho h.rz (by decide)), Below.grown h.be hg h.be.size (fun k hk => own_base ho k hk)⟩
theorem GW.lt {W w : World} {N : Int} {AL : Option Addr} {cL : Nat} {L : List (List Int)} (h : GW W N AL cL L w) : W.heap.size + 1 < w.heap.size := blk_lt h.rz
theorem blk_size (w : World) (o : Obj) : (w.alloc o).heap.size = w.heap.size + 1 := by simp
theorem set_blk {w : World} {g : Nat} {s : Nat × Nat} (h : w.heap[g]? = some (.cells (cS s) 34 (0, 0))) (t : Nat × Nat) : ((w.setCell ⟨g, 0, none⟩ (.int .u64 (t.1 : Int))).setCell ⟨g, 1, none⟩ (.int .u64 (t.2 : Int))).heap[g]? = some (.cells (cS t) 34 (0, 0)) := blk_put (blk_put h 0 _ rfl) 1 _ rfl
section
variable {ops : Array Oper} {rest : List Oper} {o : Oper} {a : Act} {Q : Exit → Act → World → Prop}
/-- A number is appended to a row of the call's own. -/
theorem app_int {w : World} (base : Nat) {v : Value} {zs : List Int} (hz : w.ownsRow base 3 1 v zs.length (nums .i64 zs)) (i : Int) (hlen : zs.length ≤ 4096) (hbase : base ≤ w.heap.size) (hgd : o.guard = none) (s x : Operand) (ho : o.op = .call { callee := .builtin .append, args := #[s, x], argTypes := #[25, 25] }) (hs : a.eval s = v) (hx : a.eval x = .slice (some ⟨w.heap.size, 0, none⟩) 1 1)
    (K : ∀ v2 w2, w2.ownsRow base 3 1 v2 (zs ++ [i]).length (nums .i64 (zs ++ [i])) → w.grownBy w2 v.ownBlock → wpList Try.prog ops Q rest (a.put o.dst v2) w2) :
    wpList Try.prog ops Q (o :: rest) a (w.alloc (.cells #[.int .i64 i] 3)) := by
  refine Kd.R_append (Kd.int .i64) (w0 := w) base hgd s x 25 3 (.int .i64 0) 8 ho Try.underlying25 PPartsSplit.info3 rfl (by decide) (by decide) v zs i [.int .i64 i] (fun _ => True) (fun _ => False) hs hx rfl (fun k hk => hk.elim) (fun _ _ => trivial) (Kd.R_of_own hz (fun _ _ => trivial)) (Below.refl _ _ |>.mono hbase) hbase (by omega) ?_
  intro v1 w1 hr hb hg hat
  exact K v1 w1 (Kd.own_of_R hr) hg
end
/-- What grow leaves. -/
def GrowPost (W : World) (s : Nat × Nat) (cs : List Int) (e : Ending) (w' : World) : Prop := ∃ v, e = .returned (.agg #[.int .u64 (s.1 : Int), .int .u64 (s.2 : Int), v]) ∧ w'.ownsRow W.heap.size 3 1 v cs.length (nums .i64 cs) ∧ Below W.heap.size W w'
theorem size69 : (Try.prog.info? 69).map (·.size) = some 3 := by kernel_rfl
def q49r15T : Bool × List (List Nat × List Nat) := (true, [([], []), ([0], [0]), ([], []), ([1, 2], [1, 2]), ([3], [3]), ([], []), ([4, 5], [4, 5]), ([6, 6], [6]), ([7], [7]), ([7], [7]), ([8, 9, 7], [7, 8, 9]), ([10, 7, 7], [7, 10]), ([11], [11]), ([12, 11], [11, 12]), ([11], [11]), ([13, 14, 11], [11, 13, 14]), ([15, 11], [11, 15]), ([11], [11]), ([16, 17, 11, 11], [11, 16, 17]), ([18, 18, 11], [11, 18]), ([11], [11]), ([19, 20, 19, 11], [11, 19, 20]), ([11, 21, 7], [7, 11, 21]), ([7, 22], [7, 22])])
def q49r15B : List Nat := [0, 1, 0, 7, 15, 0, 63, 127, 255, 255, 1023, 2047, 4095, 8191, 4095, 32767, 65535, 4095, 262143, 524287, 4095, 2097151, 4194303, 8388607]
theorem q49r15tab : rtab .any (opsOf Try.f49 15) = q49r15T := by kernel_rfl
theorem q49r15bits : waitsOk q49r15T.2 q49r15B = true := by kernel_rfl
theorem lit_big {l : List Int} (h : Lits l) : ∀ x ∈ l, -9223372036854775807 ≤ x ∧ x ≤ 9223372036854775807 := fun x hx => by
  have h1 := h x hx
  unfold varOf at h1
  split at h1
  · omega
  · split at h1 <;> omega
theorem agg34 (a b c d : Int) (w : World) : (Op.equalIn 10000 34 (.agg #[.int .u64 a, .int .u64 b]) (.agg #[.int .u64 c, .int .u64 d])).run Try.prog w = .ok (a == c && b == d) w := by
  obtain ⟨i, hi⟩ : ∃ i, Try.prog.info? 32 = some i := Option.isSome_iff_exists.1 (by kernel_rfl)
  have h := run_equalIn_array (P := Try.prog) w 9999 (t := 34) (e := 32) #[.int .u64 a, .int .u64 b] #[.int .u64 c, .int .u64 d] Try.underlying34 hi
  rw [h, show Try.prog.cellsOf 32 = 1 by kernel_rfl, show List.range 2 = [0, 1] from rfl]
  have p1 : ∀ (x y : Int), (part 32 #[.int .u64 x, .int .u64 y] (0 * 1)).run Try.prog w = .ok (.int .u64 x) w := fun x y => by kernel_rfl
  have p2 : ∀ (x y : Int), (part 32 #[.int .u64 x, .int .u64 y] 1).run Try.prog w = .ok (.int .u64 y) w := fun x y => by kernel_rfl
  have e1 : ∀ x y : Int, (Op.equalIn 9999 32 (.int .u64 x) (.int .u64 y)).run Try.prog w = .ok (x == y) w := fun x y => run_equalIn_int w 9998 32 .u64 .u64 x y Try.underlying32
  simp only [Op.eqItems, Sem.run_bind, p1, e1, Result.andThen_ok]
  cases (a == c)
  · simp
  · by_cases h2 : b = d <;> simp [p2, e1, h2]
theorem cS_eq (p q : Nat × Nat) : ((p.1 : Int) == (q.1 : Int) && (p.2 : Int) == (q.2 : Int)) = decide (p = q) := by
  obtain ⟨a, b⟩ := p
  obtain ⟨c, d⟩ := q
  rw [Bool.eq_iff_iff, Bool.and_eq_true, decide_eq_true_iff, beq_iff_eq, beq_iff_eq, Prod.mk.injEq]
  show (a : Int) = (c : Int) ∧ (b : Int) = (d : Int) ↔ _
  omega
theorem eql34 (p q : Nat × Nat) (w : World) : (binOp .eql 34 (.agg (cS p)) (.agg (cS q))).run Try.prog w = .ok (.bool (decide (p = q))) w := by
  rw [run_eql_struct, agg34, Result.andThen_ok, cS_eq]
theorem neq34 (p q : Nat × Nat) (w : World) : (binOp .neq 34 (.agg (cS p)) (.agg (cS q))).run Try.prog w = .ok (.bool (!decide (p = q))) w := by
  rw [run_neq_struct, agg34, Result.andThen_ok, cS_eq]
section
variable {N : Int} {W : World} {AL : Option Addr} {cL : Nat} {L : List (List Int)} {A : Option Addr} {c : Nat} {ys : List Int} {n : Nat}
set_option maxHeartbeats 4000000 in
set_option maxRecDepth 100000 in
theorem grow_calls (hL : Kd.C (Kd.slice 3 (Kd.int .i64)) W AL L.length L) (hcL : L.length ≤ cL) (hA : (Kd.int .i64).C W A ys.length ys) (hc : ys.length ≤ c) (hOk : OkL n L) (hLc : ∀ c ∈ L, c.length ≤ 4096) (hLen : L.length ≤ 4096) (i : Nat) (hi : i < L.length) :
    Calls Try.prog 49 #[.agg #[.int .i64 N, .slice AL L.length cL], .slice A ys.length c, .int .i64 (i : Int)] W (GrowPost W (grown L ys i) (growC L ys i L.length)) := by
  have HL := Aside0.mk hL
  have HA := Aside0.mk hA
  have HOk := Aside0.mk hOk
  have HLc := Aside0.mk (fun (j : Nat) (hj : j < L.length) => (show (L.getD j []).length ≤ 4096 ∧ Lits (L.getD j []) from by
    have e : L.getD j [] = L[j] := by rw [List.getD_eq_getElem?_getD, List.getElem?_eq_getElem hj]; rfl
    rw [e]
    exact ⟨hLc _ (List.getElem_mem hj), fun x hx => (hOk _ (List.getElem_mem hj) x hx).1⟩))
  have HVs := Aside0.mk (fun j => (VS_facts (ys := ys) hOk j).1)
  have hg0 : GW W N AL cL L ((W.alloc (.cells #[.int .i64 N, .slice AL L.length cL] 24)).alloc (.cells #[.int .u64 0, .int .u64 0, .slice none 0 0] 69)) :=
    ⟨blk_alloc (blk_new W _) _, by have := blk_new (W.alloc (.cells #[.int .i64 N, .slice AL L.length cL] 24)) (.cells #[.int .u64 0, .int .u64 0, .slice none 0 0] 69); rwa [blk_size] at this, below_alloc (below_alloc (Below.refl _ _) _) _⟩
  have HG0 := Aside0.mk hg0
  obtain ⟨aL, A0, c0, hAL, hcell, hc0, hC0⟩ := rd_row (Kd.C_below hL hg0.be) i hi
  subst hAL
  have hcl := HLc.out i hi
  have hVi : varsS (restF (L.getD i []) ys) = VS L ys i := rfl
  obtain ⟨ci, hci⟩ : ∃ ci, L.getD i [] = ci := ⟨_, rfl⟩
  rw [hci] at hcell hc0 hC0 hcl hVi
  clear hci
  have HRest := Aside0.mk (rest16_calls hC0 hc0 (Kd.C_below hA hg0.be) hc hcl.1 (lit_big hcl.2))
  have HLit := Aside0.mk (show Lits (restF ci ys) from fun x hx => hcl.2 x (List.mem_filter.1 hx).1)
  have hiI : (i : Int) < (L.length : Int) := by omega
  have HVi := Aside0.mk hVi
  clear hL hA hOk hLc hg0 hc0 hC0 hcl hVi
  go_enter Try.func49, Try.ntmps49
  go_wp2_with (first
    | (go_at_call 77; refine (HRest.out).mono ?_; rintro e w1 ⟨v, rfl, hv, hb1⟩; obtain ⟨A2, c2, rfl, _, hC2⟩ := Kd.R_reads hv; replace HG0 := Aside0.mk (HG0.out.bg hb1); have HC2 := Aside0.mk hC2; clear hv hC2 hb1)
    | (go_at_call 47; refine (vars_calls HC2.out HLit.out).mono ?_; rintro e w2 ⟨rfl, hb2⟩; replace HG0 := Aside0.mk (HG0.out.bg hb2); rw [HVi.out]; clear hb2))
  have HS0 := Aside0.mk (blk_new w2 (.cells (cS (VS L ys i)) 34))
  have HGe7 := Aside0.mk HG0.out.lt
  replace HG0 := Aside0.mk (HG0.out.bg (below_alloc (Below.refl _ _) (.cells (cS (VS L ys i)) 34)))
  clear HRest HLit HVi hiI hcell HC2
  generalize w2.alloc (.cells (cS (VS L ys i)) 34) = w3 at HS0 HG0 ⊢
  generalize w2.heap.size = b7 at HS0 HGe7 ⊢
  go_loopg [8] 129 (fun gk v8 w' => ∃ (s : Nat × Nat), Aside0 (129 ≤ cardS s + gk ∧ SOk s ∧ growF L ys gk s = grown L ys i) ∧ Aside0 (w'.heap[b7]? = some (.cells (cS s) 34 (0, 0))) ∧ Aside0 (GW W N (some aL) cL L w'))
  case atStart => exact ⟨VS L ys i, ⟨by omega, HVs.out i, rfl⟩, HS0, HG0⟩
  case round =>
    clear HS0 HG0
    obtain ⟨s, HI, HS, HG⟩ := hrel
    cases gk with
    | zero => exact absurd HI.out.1 (by have := cardS_le s; omega)
    | succ gk =>
      have hc0 : wr.cell? ⟨b7, 0, none⟩ = some (.int .u64 (s.1 : Int)) := (blk_cell HS.out 0).trans rfl
      have hc1 : wr.cell? ⟨b7, 1, none⟩ = some (.int .u64 (s.2 : Int)) := (blk_cell HS.out 1).trans rfl
      have HN0 := Aside0.mk (blk_new wr (.cells (cS s) 34))
      have HGe8 := Aside0.mk (blk_lt HS.out)
      have HNe78 := Aside0.mk (Nat.ne_of_lt (blk_lt HS.out))
      have HS1 := Aside0.mk (blk_alloc HS.out (.cells (cS s) 34))
      have HG1 := Aside0.mk (HG.out.bg (below_alloc (Below.refl _ _) (.cells (cS s) 34)))
      clear HS HG
      go_wp2
      clear hc0 hc1
      generalize wr.alloc (.cells (cS s) 34) = w4 at HN0 HS1 HG1 ⊢
      generalize wr.heap.size = b8 at HN0 HGe8 HNe78 ⊢
      go_loopg [9] L.length (fun gj v9 w' => ∃ (j : Nat), j + gj = L.length ∧ v9 = .int .i64 (j : Int) ∧ Aside0 (w'.heap[b8]? = some (.cells (cS (passF L ys s j)) 34 (0, 0))) ∧ Aside0 (w'.heap[b7]? = some (.cells (cS s) 34 (0, 0))) ∧ Aside0 (GW W N (some aL) cL L w'))
      case atStart => exact ⟨0, by omega, rfl, HN0, HS1, HG1⟩
      case round =>
        clear HN0 HS1 HG1
        obtain ⟨j, hjg, rfl, HN, HS, HG⟩ := hrel
        have ht1 : wr.cell? ⟨W.heap.size, 1, none⟩ = some (.slice (some aL) L.length cL) := (blk_cell HG.out.th 1).trans rfl
        have hk0 : wr.cell? ⟨b7, 0, none⟩ = some (.int .u64 (s.1 : Int)) := (blk_cell HS.out 0).trans rfl
        have hk1 : wr.cell? ⟨b7, 1, none⟩ = some (.int .u64 (s.2 : Int)) := (blk_cell HS.out 1).trans rfl
        have hd0 : wr.cell? ⟨b8, 0, none⟩ = some (.int .u64 ((passF L ys s j).1 : Int)) := (blk_cell HN.out 0).trans rfl
        have hd1 : wr.cell? ⟨b8, 1, none⟩ = some (.int .u64 ((passF L ys s j).2 : Int)) := (blk_cell HN.out 1).trans rfl
        cases gk with
        | zero =>
          have hj : j = L.length := by omega
          subst hj
          have hj : ¬ ((L.length : Int) < (L.length : Int)) := by omega
          have heq := eql34 (passF L ys s L.length) s
          by_cases hps : passF L ys s L.length = s
          · have HFin := Aside0.mk (show s = grown L ys i from by have h := HI.out.2.2; unfold growF at h; rwa [if_pos hps] at h)
            have HSk := Aside0.mk HI.out.2.1
            rw [decide_eq_true hps] at heq
            have HX0 := Aside0.mk (blk_new wr (.cells #[.int .u64 (s.1 : Int), .int .u64 (s.2 : Int), .slice none 0 0] 69))
            have HS2 := Aside0.mk (blk_alloc HS.out (.cells #[.int .u64 (s.1 : Int), .int .u64 (s.2 : Int), .slice none 0 0] 69))
            have HG2 := Aside0.mk (HG.out.bg (below_alloc (Below.refl _ _) (.cells #[.int .u64 (s.1 : Int), .int .u64 (s.2 : Int), .slice none 0 0] 69)))
            have HNe := Aside0.mk (show b7 ≠ wr.heap.size from Nat.ne_of_lt (blk_lt HS.out))
            have HGe := Aside0.mk HG.out.lt
            clear hps HI HN HS HG
            go_wp2
            clear heq hk0 hk1 hd0 hd1 ht1 hj
            generalize wr.alloc (.cells #[.int .u64 (s.1 : Int), .int .u64 (s.2 : Int), .slice none 0 0] 69) = w5 at HX0 HS2 HG2 ⊢
            generalize wr.heap.size = b11 at HX0 HNe HGe ⊢
            go_loopg [12] L.length (fun gj v12 w' => ∃ (j : Nat) (v : Value), j + gj = L.length ∧ v12 = .int .i64 (j : Int) ∧ Aside0 (w'.heap[b11]? = some (.cells #[.int .u64 (s.1 : Int), .int .u64 (s.2 : Int), v] 69 (0, 0))) ∧ Aside0 (w'.ownsRow W.heap.size 3 1 v (growC L ys i j).length (nums .i64 (growC L ys i j))) ∧ Aside0 (w'.heap[b7]? = some (.cells (cS s) 34 (0, 0))) ∧ Aside0 (GW W N (some aL) cL L w'))
            case atStart => exact ⟨0, .slice none 0 0, by omega, rfl, HX0, ⟨own_nil _ _ _ _⟩, HS2, HG2⟩
            case round =>
              clear HX0 HS2 HG2
              obtain ⟨j, v, hjg, rfl, HX, HO, HS, HG⟩ := hrel
              obtain ⟨Av, cv, rfl, _, _, _, _⟩ := own_C HO.out
              cases gk with
              | zero =>
                have hj : j = L.length := by omega
                subst hj
                have ht1 : wr.cell? ⟨W.heap.size, 1, none⟩ = some (.slice (some aL) L.length cL) := (blk_cell HG.out.th 1).trans rfl
                have hj : ¬ ((L.length : Int) < (L.length : Int)) := by omega
                have hx0 : wr.cell? ⟨b11, 0, none⟩ = some (.int .u64 (s.1 : Int)) := (blk_cell HX.out 0).trans rfl
                have hx1 : wr.cell? ⟨b11, 1, none⟩ = some (.int .u64 (s.2 : Int)) := (blk_cell HX.out 1).trans rfl
                have hx2 : wr.cell? ⟨b11, 2, none⟩ = some (.slice Av (growC L ys i L.length).length cv) := (blk_cell HX.out 2).trans rfl
                have hr0 : wr.cell? ⟨W.heap.size + 1, 0, none⟩ = some (.int .u64 0) := (blk_cell HG.out.rz 0).trans rfl
                have hr1 : wr.cell? ⟨W.heap.size + 1, 1, none⟩ = some (.int .u64 0) := (blk_cell HG.out.rz 1).trans rfl
                have hr2 : wr.cell? ⟨W.heap.size + 1, 2, none⟩ = some (.slice none 0 0) := (blk_cell HG.out.rz 2).trans rfl
                have hf0 := blk_frozen HG.out.rz 0
                have hf1 := blk_frozen HG.out.rz 1
                have hf2 := blk_frozen HG.out.rz 2
                go_wp2
                refine bodyPost_ret (results_cell_row rfl _ _ (W.heap.size + 1) 69 #[.int .u64 (s.1 : Int), .int .u64 (s.2 : Int), .slice Av (growC L ys i L.length).length cv] (0, 0) _ rfl (blk_put (blk_put (blk_put HG.out.rz 0 _ rfl) 1 _ rfl) 2 _ rfl) Try.underlying69 rfl size69) rfl ⟨_, by rw [← HFin.out], ?_, below_set (below_set (below_set HG.out.be (Nat.le_succ _)) (Nat.le_succ _)) (Nat.le_succ _)⟩
                exact own_setCell (own_setCell (own_setCell HO.out (own_ne HO.out HG.out.rz (by decide)) _) (own_ne HO.out HG.out.rz (by decide)) _) (own_ne HO.out HG.out.rz (by decide)) _
              | succ gj =>
                have hjL : j < L.length := by omega
                have hjI : (j : Int) < (L.length : Int) := by omega
                have ht1 : wr.cell? ⟨W.heap.size, 1, none⟩ = some (.slice (some aL) L.length cL) := (blk_cell HG.out.th 1).trans rfl
                obtain ⟨aL2, A0, c0, hAL, hcell, hc0, hC0⟩ := rd_row (Kd.C_below HL.out HG.out.be) j hjL
                injection hAL with hAL
                subst hAL
                have hcl := HLc.out j hjL
                have hVj : varsS (restF (L.getD j []) ys) = VS L ys j := rfl
                have hlfe : lf L ys j = leftB (L.getD j []) ys := rfl
                obtain ⟨cj, hcj⟩ : ∃ cj, L.getD j [] = cj := ⟨_, rfl⟩
                rw [hcj] at hcell hc0 hC0 hcl hVj hlfe
                clear hcj
                have HVj := Aside0.mk hVj
                clear hVj
                have hCys := Kd.C_below HA.out HG.out.be
                have HVk := Aside0.mk (HVs.out j)
                have hnx := growC_succ (L := L) (ys := ys) i j
                have hlen5 : (growC L ys i j).length ≤ 4096 := by
                  have h1 : (growC L ys i j).length ≤ j := by unfold growC; rw [List.length_map]; exact Nat.le_trans (List.length_filter_le _ _) (by rw [List.length_range]; exact Nat.le_refl _)
                  omega
                unfold inC at hnx
                rw [← HFin.out] at hnx
                rw [hlfe] at hnx
                cases hlf : leftB cj ys with
                | false =>
                  rw [hlf, Bool.false_and, if_neg (by decide), List.append_nil] at hnx
                  have HNx := Aside0.mk hnx
                  clear hnx hlfe
                  go_wp2_with fail
                  try go_step3
                  refine start_ (n := 24) (S := fun w' => w'.cell? ⟨W.heap.size, 1, none⟩ = some (.slice (some aL) L.length cL) ∧ w'.cell? (aL.add j) = some (.slice A0 cj.length c0) ∧ w'.cell? ⟨b7, 0, none⟩ = some (.int .u64 (s.1 : Int)) ∧ w'.cell? ⟨b7, 1, none⟩ = some (.int .u64 (s.2 : Int))) (ds := []) #[false, false, false, false, false, false, false, false, false, false, false, false, false, false, false, false, false, false, false, false, false, false, false, false] (by kernel_rfl) rfl rfl (⟨(blk_cell HG.out.th 1).trans rfl, hcell, (blk_cell HS.out 0).trans rfl, (blk_cell HS.out 1).trans rfl⟩) (fun hHeld => ?_)
                  refine with_tabW q49r15tab q49r15bits (fun HT_ HW_ => ?_)
                  refine pure_ (i := 0) (N := some 65) (v := ?_) (a' := ?_) #[true, false, false, false, false, false, false, false, false, false, false, false, false, false, false, false, false, false, false, false, false, false, false, false] rfl rfl (any_of HT_.out (by kernel_rfl)) (fun _ _ _ h => h) (Or.inl ⟨by rfl, ?_⟩) ?_ ?_
                  rotate_left
                  · intro w'
                    go_simp
                    with_reducible rfl
                  rotate_left
                  · simp only [Act.put, List.setIfInBounds_toArray, List.set_cons_zero, List.set_cons_succ, i64_w, i32_w]
                    rfl
                  refine take_ (i := 1) (N := some 66) (v := ?_) (a' := ?_) #[true, true, false, false, false, false, false, false, false, false, false, false, false, false, false, false, false, false, false, false, false, false, false, false] rfl rfl (take_ofW HT_.out HW_.out (by kernel_rfl)) (fun _ _ _ h => h) (Or.inl ⟨by rfl, ?_⟩) hHeld ?_ ?_
                  rotate_left
                  · rintro w' ⟨s0, s1, s2, s3⟩
                    go_simp
                    with_reducible rfl
                  rotate_left
                  · simp only [Act.put, List.setIfInBounds_toArray, List.set_cons_zero, List.set_cons_succ, i64_w, i32_w]
                    rfl
                  refine pure_ (i := 2) (N := some 67) (v := ?_) (a' := ?_) #[true, true, true, false, false, false, false, false, false, false, false, false, false, false, false, false, false, false, false, false, false, false, false, false] rfl rfl (any_of HT_.out (by kernel_rfl)) (fun _ _ _ h => h) (Or.inl ⟨by rfl, ?_⟩) ?_ ?_
                  rotate_left
                  · intro w'
                    go_simp
                    with_reducible rfl
                  rotate_left
                  · simp only [Act.put, List.setIfInBounds_toArray, List.set_cons_zero, List.set_cons_succ, i64_w, i32_w]
                    rfl
                  refine pure_ (i := 3) (N := some 68) (v := ?_) (a' := ?_) #[true, true, true, true, false, false, false, false, false, false, false, false, false, false, false, false, false, false, false, false, false, false, false, false] rfl rfl (any_of HT_.out (by kernel_rfl)) (fun _ _ _ h => h) (Or.inl ⟨by rfl, ?_⟩) ?_ ?_
                  rotate_left
                  · intro w'
                    go_simp
                    with_reducible rfl
                  rotate_left
                  · simp only [Act.put, List.setIfInBounds_toArray, List.set_cons_zero, List.set_cons_succ, i64_w, i32_w]
                    rfl
                  refine take_ (i := 4) (N := some 69) (v := ?_) (a' := ?_) #[true, true, true, true, true, false, false, false, false, false, false, false, false, false, false, false, false, false, false, false, false, false, false, false] rfl rfl (take_ofW HT_.out HW_.out (by kernel_rfl)) (fun _ _ _ h => h) (Or.inl ⟨by rfl, ?_⟩) hHeld ?_ ?_
                  rotate_left
                  · rintro w' ⟨s0, s1, s2, s3⟩
                    go_simp
                    with_reducible rfl
                  rotate_left
                  · simp only [Act.put, List.setIfInBounds_toArray, List.set_cons_zero, List.set_cons_succ, i64_w, i32_w]
                    rfl
                  refine pure_ (i := 5) (N := some 70) (v := ?_) (a' := ?_) #[true, true, true, true, true, true, false, false, false, false, false, false, false, false, false, false, false, false, false, false, false, false, false, false] rfl rfl (any_of HT_.out (by kernel_rfl)) (fun _ _ _ h => h) (Or.inl ⟨by rfl, ?_⟩) ?_ ?_
                  rotate_left
                  · intro w'
                    go_simp
                    with_reducible rfl
                  rotate_left
                  · simp only [Act.put, List.setIfInBounds_toArray, List.set_cons_zero, List.set_cons_succ, i64_w, i32_w]
                    rfl
                  refine one_ (i := 6) (N := some 71) #[true, true, true, true, true, true, true, false, false, false, false, false, false, false, false, false, false, false, false, false, false, false, false, false] rfl rfl (one_of HT_.out (by kernel_rfl)) (by decide) (fun K hK => ?_)
                  refine goes_ Try.func48 (by kernel_rfl) rfl #[.slice A0 cj.length c0, .slice A ys.length c] (by rfl) rfl rfl (by simp only [List.map_toArray, List.map_cons, List.map_nil]; rfl) ?_
                  refine (left_calls (Kd.C_below hC0 (below_drew (Below.refl _ _))) hc0 (Kd.C_below hCys (below_drew (Below.refl _ _))) hc).mono ?_
                  rintro e_ w_ ⟨rfl, hd3⟩
                  rw [hlf]
                  obtain ⟨nd, rfl⟩ := hd3
                  have hb3 := pw_below_drewN (below_drew (Below.refl wr.heap.size wr)) nd
                  refine ⟨_, rfl, ?_⟩
                  replace HG := Aside0.mk (HG.out.bg hb3)
                  replace HS := Aside0.mk (blk_below HS.out hb3)
                  replace HX := Aside0.mk (blk_below HX.out hb3)
                  replace HO := Aside0.mk (pw_own_below HO.out hb3)
                  replace hC0 := Kd.C_below hC0 hb3
                  replace hCys := Kd.C_below hCys hb3
                  replace hcell := (hb3.cell (World.block_lt_of_cell? _ _ hcell)).trans hcell
                  clear hb3
                  generalize (wr.drew).drewN nd = w4 at HG HS HX HO hC0 hCys hcell ⊢
                  refine hK.out _ _ (⟨(blk_cell HG.out.th 1).trans rfl, hcell, (blk_cell HS.out 0).trans rfl, (blk_cell HS.out 1).trans rfl⟩) (fun hHeld => ?_)
                  clear hK K
                  refine norm_ (a' := ?_) ?_ ?_
                  rotate_left
                  · show Act.put _ (some 71) _ = _
                    simp only [Act.put, List.setIfInBounds_toArray, List.set_cons_zero, List.set_cons_succ, i64_w, i32_w]
                    rfl
                  refine pure_ (i := 7) (N := some 72) (v := ?_) (a' := ?_) #[true, true, true, true, true, true, true, true, false, false, false, false, false, false, false, false, false, false, false, false, false, false, false, false] rfl rfl (any_of HT_.out (by kernel_rfl)) (fun _ _ _ h => h) (Or.inl ⟨by rfl, ?_⟩) ?_ ?_
                  rotate_left
                  · intro w'
                    go_simp
                    with_reducible rfl
                  rotate_left
                  · simp only [Act.put, List.setIfInBounds_toArray, List.set_cons_zero, List.set_cons_succ, i64_w, i32_w]
                    rfl
                  refine pure_ (i := 8) (N := some 73) (v := undef) (a' := ?_) #[true, true, true, true, true, true, true, true, true, false, false, false, false, false, false, false, false, false, false, false, false, false, false, false] rfl rfl (any_of HT_.out (by kernel_rfl)) (fun _ _ _ h => h) (Or.inr ⟨by rfl, rfl⟩) ?_ ?_
                  rotate_left
                  · simp only [Act.put, List.setIfInBounds_toArray, List.set_cons_zero, List.set_cons_succ, i64_w, i32_w]
                    rfl
                  refine pure_ (i := 9) (N := some 74) (v := undef) (a' := ?_) #[true, true, true, true, true, true, true, true, true, true, false, false, false, false, false, false, false, false, false, false, false, false, false, false] rfl rfl (any_of HT_.out (by kernel_rfl)) (fun _ _ _ h => h) (Or.inr ⟨by rfl, rfl⟩) ?_ ?_
                  rotate_left
                  · simp only [Act.put, List.setIfInBounds_toArray, List.set_cons_zero, List.set_cons_succ, i64_w, i32_w]
                    rfl
                  refine pure_ (i := 10) (N := some 75) (v := undef) (a' := ?_) #[true, true, true, true, true, true, true, true, true, true, true, false, false, false, false, false, false, false, false, false, false, false, false, false] rfl rfl (any_of HT_.out (by kernel_rfl)) (fun _ _ _ h => h) (Or.inr ⟨by rfl, rfl⟩) ?_ ?_
                  rotate_left
                  · simp only [Act.put, List.setIfInBounds_toArray, List.set_cons_zero, List.set_cons_succ, i64_w, i32_w]
                    rfl
                  refine pure_ (i := 11) (N := some 76) (v := undef) (a' := ?_) #[true, true, true, true, true, true, true, true, true, true, true, true, false, false, false, false, false, false, false, false, false, false, false, false] rfl rfl (any_of HT_.out (by kernel_rfl)) (fun _ _ _ h => h) (Or.inr ⟨by rfl, rfl⟩) ?_ ?_
                  rotate_left
                  · simp only [Act.put, List.setIfInBounds_toArray, List.set_cons_zero, List.set_cons_succ, i64_w, i32_w]
                    rfl
                  refine pure_ (i := 12) (N := some 77) (v := undef) (a' := ?_) #[true, true, true, true, true, true, true, true, true, true, true, true, true, false, false, false, false, false, false, false, false, false, false, false] rfl rfl (any_of HT_.out (by kernel_rfl)) (fun _ _ _ h => h) (Or.inr ⟨by rfl, rfl⟩) ?_ ?_
                  rotate_left
                  · simp only [Act.put, List.setIfInBounds_toArray, List.set_cons_zero, List.set_cons_succ, i64_w, i32_w]
                    rfl
                  refine pure_ (i := 14) (N := some 79) (v := undef) (a' := ?_) #[true, true, true, true, true, true, true, true, true, true, true, true, true, false, true, false, false, false, false, false, false, false, false, false] rfl rfl (any_of HT_.out (by kernel_rfl)) (fun _ _ _ h => h) (Or.inr ⟨by rfl, rfl⟩) ?_ ?_
                  rotate_left
                  · simp only [Act.put, List.setIfInBounds_toArray, List.set_cons_zero, List.set_cons_succ, i64_w, i32_w]
                    rfl
                  refine pure_ (i := 17) (N := some 82) (v := undef) (a' := ?_) #[true, true, true, true, true, true, true, true, true, true, true, true, true, false, true, false, false, true, false, false, false, false, false, false] rfl rfl (any_of HT_.out (by kernel_rfl)) (fun _ _ _ h => h) (Or.inr ⟨by rfl, rfl⟩) ?_ ?_
                  rotate_left
                  · simp only [Act.put, List.setIfInBounds_toArray, List.set_cons_zero, List.set_cons_succ, i64_w, i32_w]
                    rfl
                  refine take_ (i := 13) (N := some 78) (v := undef) (a' := ?_) #[true, true, true, true, true, true, true, true, true, true, true, true, true, true, true, false, false, true, false, false, false, false, false, false] rfl rfl (take_ofW HT_.out HW_.out (by kernel_rfl)) (fun _ _ _ h => h) (Or.inr ⟨by rfl, rfl⟩) hHeld ?_ ?_
                  rotate_left
                  · simp only [Act.put, List.setIfInBounds_toArray, List.set_cons_zero, List.set_cons_succ, i64_w, i32_w]
                    rfl
                  refine pure_ (i := 15) (N := some 80) (v := undef) (a' := ?_) #[true, true, true, true, true, true, true, true, true, true, true, true, true, true, true, true, false, true, false, false, false, false, false, false] rfl rfl (any_of HT_.out (by kernel_rfl)) (fun _ _ _ h => h) (Or.inr ⟨by rfl, rfl⟩) ?_ ?_
                  rotate_left
                  · simp only [Act.put, List.setIfInBounds_toArray, List.set_cons_zero, List.set_cons_succ, i64_w, i32_w]
                    rfl
                  refine take_ (i := 16) (N := some 81) (v := undef) (a' := ?_) #[true, true, true, true, true, true, true, true, true, true, true, true, true, true, true, true, true, true, false, false, false, false, false, false] rfl rfl (take_ofW HT_.out HW_.out (by kernel_rfl)) (fun _ _ _ h => h) (Or.inr ⟨by rfl, rfl⟩) hHeld ?_ ?_
                  rotate_left
                  · simp only [Act.put, List.setIfInBounds_toArray, List.set_cons_zero, List.set_cons_succ, i64_w, i32_w]
                    rfl
                  refine take_ (i := 20) (N := some 85) (v := undef) (a' := ?_) #[true, true, true, true, true, true, true, true, true, true, true, true, true, true, true, true, true, true, false, false, true, false, false, false] rfl rfl (take_ofW HT_.out HW_.out (by kernel_rfl)) (fun _ _ _ h => h) (Or.inr ⟨by rfl, rfl⟩) hHeld ?_ ?_
                  rotate_left
                  · simp only [Act.put, List.setIfInBounds_toArray, List.set_cons_zero, List.set_cons_succ, i64_w, i32_w]
                    rfl
                  refine one_ (i := 18) (N := some 83) #[true, true, true, true, true, true, true, true, true, true, true, true, true, true, true, true, true, true, true, false, true, false, false, false] rfl rfl (one_of HT_.out (by kernel_rfl)) (by decide) (fun K hK => ?_)
                  refine off_ (by rfl) ?_
                  refine hK.out _ _ (⟨(blk_cell HG.out.th 1).trans rfl, hcell, (blk_cell HS.out 0).trans rfl, (blk_cell HS.out 1).trans rfl⟩) (fun hHeld => ?_)
                  clear hK K
                  refine norm_ (a' := ?_) ?_ ?_
                  rotate_left
                  · show Act.put _ (some 83) _ = _
                    simp only [Act.put, List.setIfInBounds_toArray, List.set_cons_zero, List.set_cons_succ, i64_w, i32_w]
                    rfl
                  refine one_ (i := 19) (N := some 84) #[true, true, true, true, true, true, true, true, true, true, true, true, true, true, true, true, true, true, true, true, true, false, false, false] rfl rfl (one_of HT_.out (by kernel_rfl)) (by decide) (fun K hK => ?_)
                  refine off_ (by rfl) ?_
                  refine hK.out _ _ (⟨(blk_cell HG.out.th 1).trans rfl, hcell, (blk_cell HS.out 0).trans rfl, (blk_cell HS.out 1).trans rfl⟩) (fun hHeld => ?_)
                  clear hK K
                  refine norm_ (a' := ?_) ?_ ?_
                  rotate_left
                  · show Act.put _ (some 84) _ = _
                    simp only [Act.put, List.setIfInBounds_toArray, List.set_cons_zero, List.set_cons_succ, i64_w, i32_w]
                    rfl
                  refine one_ (i := 21) (N := some 86) #[true, true, true, true, true, true, true, true, true, true, true, true, true, true, true, true, true, true, true, true, true, true, false, false] rfl rfl (one_of HT_.out (by kernel_rfl)) (by decide) (fun K hK => ?_)
                  refine off_ (by rfl) ?_
                  refine hK.out _ _ (⟨(blk_cell HG.out.th 1).trans rfl, hcell, (blk_cell HS.out 0).trans rfl, (blk_cell HS.out 1).trans rfl⟩) (fun hHeld => ?_)
                  clear hK K
                  refine norm_ (a' := ?_) ?_ ?_
                  rotate_left
                  · show Act.put _ (some 86) _ = _
                    simp only [Act.put, List.setIfInBounds_toArray, List.set_cons_zero, List.set_cons_succ, i64_w, i32_w]
                    rfl
                  refine pure_ (i := 22) (N := some 87) (v := undef) (a' := ?_) #[true, true, true, true, true, true, true, true, true, true, true, true, true, true, true, true, true, true, true, true, true, true, true, false] rfl rfl (any_of HT_.out (by kernel_rfl)) (fun _ _ _ h => h) (Or.inr ⟨by rfl, rfl⟩) ?_ ?_
                  rotate_left
                  · simp only [Act.put, List.setIfInBounds_toArray, List.set_cons_zero, List.set_cons_succ, i64_w, i32_w]
                    rfl
                  refine pure_ (i := 23) (N := some 88) (v := ?_) (a' := ?_) #[true, true, true, true, true, true, true, true, true, true, true, true, true, true, true, true, true, true, true, true, true, true, true, true] rfl rfl (any_of HT_.out (by kernel_rfl)) (fun _ _ _ h => h) (Or.inl ⟨by rfl, ?_⟩) ?_ ?_
                  rotate_left
                  · intro w'
                    go_simp
                    with_reducible rfl
                  rotate_left
                  · simp only [Act.put, List.setIfInBounds_toArray, List.set_cons_zero, List.set_cons_succ, i64_w, i32_w]
                    rfl
                  refine done_ (done_of HT_.out (by kernel_rfl)) ?_
                  go_wp2
                  go_roundg gj
                  case measure => omega
                  case rel => exact ⟨j + 1, _, by omega, by go_num, HX, ⟨by rw [HNx.out]; exact HO.out⟩, HS, HG⟩
                | true =>
                  rw [hlf, Bool.true_and] at hnx
                  by_cases hji : j = i
                  · subst hji
                    rw [decide_eq_true rfl, Bool.true_or, if_pos rfl] at hnx
                    have HNx := Aside0.mk hnx
                    clear hnx hlfe
                    go_wp2_with fail
                    try go_step3
                    refine start_ (n := 24) (S := fun w' => w'.cell? ⟨W.heap.size, 1, none⟩ = some (.slice (some aL) L.length cL) ∧ w'.cell? (aL.add j) = some (.slice A0 cj.length c0) ∧ w'.cell? ⟨b7, 0, none⟩ = some (.int .u64 (s.1 : Int)) ∧ w'.cell? ⟨b7, 1, none⟩ = some (.int .u64 (s.2 : Int))) (ds := []) #[false, false, false, false, false, false, false, false, false, false, false, false, false, false, false, false, false, false, false, false, false, false, false, false] (by kernel_rfl) rfl rfl (⟨(blk_cell HG.out.th 1).trans rfl, hcell, (blk_cell HS.out 0).trans rfl, (blk_cell HS.out 1).trans rfl⟩) (fun hHeld => ?_)
                    refine with_tabW q49r15tab q49r15bits (fun HT_ HW_ => ?_)
                    refine pure_ (i := 0) (N := some 65) (v := ?_) (a' := ?_) #[true, false, false, false, false, false, false, false, false, false, false, false, false, false, false, false, false, false, false, false, false, false, false, false] rfl rfl (any_of HT_.out (by kernel_rfl)) (fun _ _ _ h => h) (Or.inl ⟨by rfl, ?_⟩) ?_ ?_
                    rotate_left
                    · intro w'
                      go_simp
                      with_reducible rfl
                    rotate_left
                    · simp only [Act.put, List.setIfInBounds_toArray, List.set_cons_zero, List.set_cons_succ, i64_w, i32_w]
                      rfl
                    refine take_ (i := 1) (N := some 66) (v := ?_) (a' := ?_) #[true, true, false, false, false, false, false, false, false, false, false, false, false, false, false, false, false, false, false, false, false, false, false, false] rfl rfl (take_ofW HT_.out HW_.out (by kernel_rfl)) (fun _ _ _ h => h) (Or.inl ⟨by rfl, ?_⟩) hHeld ?_ ?_
                    rotate_left
                    · rintro w' ⟨s0, s1, s2, s3⟩
                      go_simp
                      with_reducible rfl
                    rotate_left
                    · simp only [Act.put, List.setIfInBounds_toArray, List.set_cons_zero, List.set_cons_succ, i64_w, i32_w]
                      rfl
                    refine pure_ (i := 2) (N := some 67) (v := ?_) (a' := ?_) #[true, true, true, false, false, false, false, false, false, false, false, false, false, false, false, false, false, false, false, false, false, false, false, false] rfl rfl (any_of HT_.out (by kernel_rfl)) (fun _ _ _ h => h) (Or.inl ⟨by rfl, ?_⟩) ?_ ?_
                    rotate_left
                    · intro w'
                      go_simp
                      with_reducible rfl
                    rotate_left
                    · simp only [Act.put, List.setIfInBounds_toArray, List.set_cons_zero, List.set_cons_succ, i64_w, i32_w]
                      rfl
                    refine pure_ (i := 3) (N := some 68) (v := ?_) (a' := ?_) #[true, true, true, true, false, false, false, false, false, false, false, false, false, false, false, false, false, false, false, false, false, false, false, false] rfl rfl (any_of HT_.out (by kernel_rfl)) (fun _ _ _ h => h) (Or.inl ⟨by rfl, ?_⟩) ?_ ?_
                    rotate_left
                    · intro w'
                      go_simp
                      with_reducible rfl
                    rotate_left
                    · simp only [Act.put, List.setIfInBounds_toArray, List.set_cons_zero, List.set_cons_succ, i64_w, i32_w]
                      rfl
                    refine take_ (i := 4) (N := some 69) (v := ?_) (a' := ?_) #[true, true, true, true, true, false, false, false, false, false, false, false, false, false, false, false, false, false, false, false, false, false, false, false] rfl rfl (take_ofW HT_.out HW_.out (by kernel_rfl)) (fun _ _ _ h => h) (Or.inl ⟨by rfl, ?_⟩) hHeld ?_ ?_
                    rotate_left
                    · rintro w' ⟨s0, s1, s2, s3⟩
                      go_simp
                      with_reducible rfl
                    rotate_left
                    · simp only [Act.put, List.setIfInBounds_toArray, List.set_cons_zero, List.set_cons_succ, i64_w, i32_w]
                      rfl
                    refine pure_ (i := 5) (N := some 70) (v := ?_) (a' := ?_) #[true, true, true, true, true, true, false, false, false, false, false, false, false, false, false, false, false, false, false, false, false, false, false, false] rfl rfl (any_of HT_.out (by kernel_rfl)) (fun _ _ _ h => h) (Or.inl ⟨by rfl, ?_⟩) ?_ ?_
                    rotate_left
                    · intro w'
                      go_simp
                      with_reducible rfl
                    rotate_left
                    · simp only [Act.put, List.setIfInBounds_toArray, List.set_cons_zero, List.set_cons_succ, i64_w, i32_w]
                      rfl
                    refine one_ (i := 6) (N := some 71) #[true, true, true, true, true, true, true, false, false, false, false, false, false, false, false, false, false, false, false, false, false, false, false, false] rfl rfl (one_of HT_.out (by kernel_rfl)) (by decide) (fun K hK => ?_)
                    refine goes_ Try.func48 (by kernel_rfl) rfl #[.slice A0 cj.length c0, .slice A ys.length c] (by rfl) rfl rfl (by simp only [List.map_toArray, List.map_cons, List.map_nil]; rfl) ?_
                    refine (left_calls (Kd.C_below hC0 (below_drew (Below.refl _ _))) hc0 (Kd.C_below hCys (below_drew (Below.refl _ _))) hc).mono ?_
                    rintro e_ w_ ⟨rfl, hd3⟩
                    rw [hlf]
                    obtain ⟨nd, rfl⟩ := hd3
                    have hb3 := pw_below_drewN (below_drew (Below.refl wr.heap.size wr)) nd
                    refine ⟨_, rfl, ?_⟩
                    replace HG := Aside0.mk (HG.out.bg hb3)
                    replace HS := Aside0.mk (blk_below HS.out hb3)
                    replace HX := Aside0.mk (blk_below HX.out hb3)
                    replace HO := Aside0.mk (pw_own_below HO.out hb3)
                    replace hC0 := Kd.C_below hC0 hb3
                    replace hCys := Kd.C_below hCys hb3
                    replace hcell := (hb3.cell (World.block_lt_of_cell? _ _ hcell)).trans hcell
                    clear hb3
                    generalize (wr.drew).drewN nd = w4 at HG HS HX HO hC0 hCys hcell ⊢
                    refine hK.out _ _ (⟨(blk_cell HG.out.th 1).trans rfl, hcell, (blk_cell HS.out 0).trans rfl, (blk_cell HS.out 1).trans rfl⟩) (fun hHeld => ?_)
                    clear hK K
                    refine norm_ (a' := ?_) ?_ ?_
                    rotate_left
                    · show Act.put _ (some 71) _ = _
                      simp only [Act.put, List.setIfInBounds_toArray, List.set_cons_zero, List.set_cons_succ, i64_w, i32_w]
                      rfl
                    refine pure_ (i := 7) (N := some 72) (v := ?_) (a' := ?_) #[true, true, true, true, true, true, true, true, false, false, false, false, false, false, false, false, false, false, false, false, false, false, false, false] rfl rfl (any_of HT_.out (by kernel_rfl)) (fun _ _ _ h => h) (Or.inl ⟨by rfl, ?_⟩) ?_ ?_
                    rotate_left
                    · intro w'
                      go_simp
                      with_reducible rfl
                    rotate_left
                    · simp only [Act.put, List.setIfInBounds_toArray, List.set_cons_zero, List.set_cons_succ, i64_w, i32_w]
                      rfl
                    refine pure_ (i := 8) (N := some 73) (v := ?_) (a' := ?_) #[true, true, true, true, true, true, true, true, true, false, false, false, false, false, false, false, false, false, false, false, false, false, false, false] rfl rfl (any_of HT_.out (by kernel_rfl)) (fun _ _ _ h => h) (Or.inl ⟨by rfl, ?_⟩) ?_ ?_
                    rotate_left
                    · intro w'
                      go_simp
                      with_reducible rfl
                    rotate_left
                    · simp only [Act.put, List.setIfInBounds_toArray, List.set_cons_zero, List.set_cons_succ, i64_w, i32_w]
                      rfl
                    refine pure_ (i := 9) (N := some 74) (v := ?_) (a' := ?_) #[true, true, true, true, true, true, true, true, true, true, false, false, false, false, false, false, false, false, false, false, false, false, false, false] rfl rfl (any_of HT_.out (by kernel_rfl)) (fun _ _ _ h => h) (Or.inl ⟨by rfl, ?_⟩) ?_ ?_
                    rotate_left
                    · intro w'
                      go_simp
                      with_reducible rfl
                    rotate_left
                    · simp only [Act.put, List.setIfInBounds_toArray, List.set_cons_zero, List.set_cons_succ, i64_w, i32_w]
                      rfl
                    refine pure_ (i := 10) (N := some 75) (v := ?_) (a' := ?_) #[true, true, true, true, true, true, true, true, true, true, true, false, false, false, false, false, false, false, false, false, false, false, false, false] rfl rfl (any_of HT_.out (by kernel_rfl)) (fun _ _ _ h => h) (Or.inl ⟨by rfl, ?_⟩) ?_ ?_
                    rotate_left
                    · intro w'
                      go_simp
                      with_reducible rfl
                    rotate_left
                    · simp only [Act.put, List.setIfInBounds_toArray, List.set_cons_zero, List.set_cons_succ, i64_w, i32_w]
                      rfl
                    refine pure_ (i := 11) (N := some 76) (v := ?_) (a' := ?_) #[true, true, true, true, true, true, true, true, true, true, true, true, false, false, false, false, false, false, false, false, false, false, false, false] rfl rfl (any_of HT_.out (by kernel_rfl)) (fun _ _ _ h => h) (Or.inl ⟨by rfl, ?_⟩) ?_ ?_
                    rotate_left
                    · intro w'
                      go_simp
                      with_reducible rfl
                    rotate_left
                    · simp only [Act.put, List.setIfInBounds_toArray, List.set_cons_zero, List.set_cons_succ, i64_w, i32_w]
                      rfl
                    refine pure_ (i := 12) (N := some 77) (v := undef) (a' := ?_) #[true, true, true, true, true, true, true, true, true, true, true, true, true, false, false, false, false, false, false, false, false, false, false, false] rfl rfl (any_of HT_.out (by kernel_rfl)) (fun _ _ _ h => h) (Or.inr ⟨by rfl, rfl⟩) ?_ ?_
                    rotate_left
                    · simp only [Act.put, List.setIfInBounds_toArray, List.set_cons_zero, List.set_cons_succ, i64_w, i32_w]
                      rfl
                    refine pure_ (i := 14) (N := some 79) (v := undef) (a' := ?_) #[true, true, true, true, true, true, true, true, true, true, true, true, true, false, true, false, false, false, false, false, false, false, false, false] rfl rfl (any_of HT_.out (by kernel_rfl)) (fun _ _ _ h => h) (Or.inr ⟨by rfl, rfl⟩) ?_ ?_
                    rotate_left
                    · simp only [Act.put, List.setIfInBounds_toArray, List.set_cons_zero, List.set_cons_succ, i64_w, i32_w]
                      rfl
                    refine pure_ (i := 17) (N := some 82) (v := undef) (a' := ?_) #[true, true, true, true, true, true, true, true, true, true, true, true, true, false, true, false, false, true, false, false, false, false, false, false] rfl rfl (any_of HT_.out (by kernel_rfl)) (fun _ _ _ h => h) (Or.inr ⟨by rfl, rfl⟩) ?_ ?_
                    rotate_left
                    · simp only [Act.put, List.setIfInBounds_toArray, List.set_cons_zero, List.set_cons_succ, i64_w, i32_w]
                      rfl
                    refine take_ (i := 13) (N := some 78) (v := undef) (a' := ?_) #[true, true, true, true, true, true, true, true, true, true, true, true, true, true, true, false, false, true, false, false, false, false, false, false] rfl rfl (take_ofW HT_.out HW_.out (by kernel_rfl)) (fun _ _ _ h => h) (Or.inr ⟨by rfl, rfl⟩) hHeld ?_ ?_
                    rotate_left
                    · simp only [Act.put, List.setIfInBounds_toArray, List.set_cons_zero, List.set_cons_succ, i64_w, i32_w]
                      rfl
                    refine pure_ (i := 15) (N := some 80) (v := undef) (a' := ?_) #[true, true, true, true, true, true, true, true, true, true, true, true, true, true, true, true, false, true, false, false, false, false, false, false] rfl rfl (any_of HT_.out (by kernel_rfl)) (fun _ _ _ h => h) (Or.inr ⟨by rfl, rfl⟩) ?_ ?_
                    rotate_left
                    · simp only [Act.put, List.setIfInBounds_toArray, List.set_cons_zero, List.set_cons_succ, i64_w, i32_w]
                      rfl
                    refine take_ (i := 16) (N := some 81) (v := undef) (a' := ?_) #[true, true, true, true, true, true, true, true, true, true, true, true, true, true, true, true, true, true, false, false, false, false, false, false] rfl rfl (take_ofW HT_.out HW_.out (by kernel_rfl)) (fun _ _ _ h => h) (Or.inr ⟨by rfl, rfl⟩) hHeld ?_ ?_
                    rotate_left
                    · simp only [Act.put, List.setIfInBounds_toArray, List.set_cons_zero, List.set_cons_succ, i64_w, i32_w]
                      rfl
                    refine take_ (i := 20) (N := some 85) (v := undef) (a' := ?_) #[true, true, true, true, true, true, true, true, true, true, true, true, true, true, true, true, true, true, false, false, true, false, false, false] rfl rfl (take_ofW HT_.out HW_.out (by kernel_rfl)) (fun _ _ _ h => h) (Or.inr ⟨by rfl, rfl⟩) hHeld ?_ ?_
                    rotate_left
                    · simp only [Act.put, List.setIfInBounds_toArray, List.set_cons_zero, List.set_cons_succ, i64_w, i32_w]
                      rfl
                    refine one_ (i := 18) (N := some 83) #[true, true, true, true, true, true, true, true, true, true, true, true, true, true, true, true, true, true, true, false, true, false, false, false] rfl rfl (one_of HT_.out (by kernel_rfl)) (by decide) (fun K hK => ?_)
                    refine off_ (by rfl) ?_
                    refine hK.out _ _ (⟨(blk_cell HG.out.th 1).trans rfl, hcell, (blk_cell HS.out 0).trans rfl, (blk_cell HS.out 1).trans rfl⟩) (fun hHeld => ?_)
                    clear hK K
                    refine norm_ (a' := ?_) ?_ ?_
                    rotate_left
                    · show Act.put _ (some 83) _ = _
                      simp only [Act.put, List.setIfInBounds_toArray, List.set_cons_zero, List.set_cons_succ, i64_w, i32_w]
                      rfl
                    refine one_ (i := 19) (N := some 84) #[true, true, true, true, true, true, true, true, true, true, true, true, true, true, true, true, true, true, true, true, true, false, false, false] rfl rfl (one_of HT_.out (by kernel_rfl)) (by decide) (fun K hK => ?_)
                    refine off_ (by rfl) ?_
                    refine hK.out _ _ (⟨(blk_cell HG.out.th 1).trans rfl, hcell, (blk_cell HS.out 0).trans rfl, (blk_cell HS.out 1).trans rfl⟩) (fun hHeld => ?_)
                    clear hK K
                    refine norm_ (a' := ?_) ?_ ?_
                    rotate_left
                    · show Act.put _ (some 84) _ = _
                      simp only [Act.put, List.setIfInBounds_toArray, List.set_cons_zero, List.set_cons_succ, i64_w, i32_w]
                      rfl
                    refine one_ (i := 21) (N := some 86) #[true, true, true, true, true, true, true, true, true, true, true, true, true, true, true, true, true, true, true, true, true, true, false, false] rfl rfl (one_of HT_.out (by kernel_rfl)) (by decide) (fun K hK => ?_)
                    refine off_ (by rfl) ?_
                    refine hK.out _ _ (⟨(blk_cell HG.out.th 1).trans rfl, hcell, (blk_cell HS.out 0).trans rfl, (blk_cell HS.out 1).trans rfl⟩) (fun hHeld => ?_)
                    clear hK K
                    refine norm_ (a' := ?_) ?_ ?_
                    rotate_left
                    · show Act.put _ (some 86) _ = _
                      simp only [Act.put, List.setIfInBounds_toArray, List.set_cons_zero, List.set_cons_succ, i64_w, i32_w]
                      rfl
                    refine pure_ (i := 22) (N := some 87) (v := ?_) (a' := ?_) #[true, true, true, true, true, true, true, true, true, true, true, true, true, true, true, true, true, true, true, true, true, true, true, false] rfl rfl (any_of HT_.out (by kernel_rfl)) (fun _ _ _ h => h) (Or.inl ⟨by rfl, ?_⟩) ?_ ?_
                    rotate_left
                    · intro w'
                      go_simp
                      with_reducible rfl
                    rotate_left
                    · simp only [Act.put, List.setIfInBounds_toArray, List.set_cons_zero, List.set_cons_succ, i64_w, i32_w]
                      rfl
                    refine pure_ (i := 23) (N := some 88) (v := ?_) (a' := ?_) #[true, true, true, true, true, true, true, true, true, true, true, true, true, true, true, true, true, true, true, true, true, true, true, true] rfl rfl (any_of HT_.out (by kernel_rfl)) (fun _ _ _ h => h) (Or.inl ⟨by rfl, ?_⟩) ?_ ?_
                    rotate_left
                    · intro w'
                      go_simp
                      with_reducible rfl
                    rotate_left
                    · simp only [Act.put, List.setIfInBounds_toArray, List.set_cons_zero, List.set_cons_succ, i64_w, i32_w]
                      rfl
                    refine done_ (done_of HT_.out (by kernel_rfl)) ?_
                    have hx0 : w4.cell? ⟨b11, 2, none⟩ = some (.slice Av (growC L ys j j).length cv) := (blk_cell HX.out 2).trans rfl
                    have hb11 := HX.out
                    have hf2 := blk_frozen HX.out 2
                    go_wp2_with (at_builtin; refine app_int W.heap.size HO.out (j : Int) hlen5 (Nat.le_of_lt (Nat.lt_of_succ_lt HG.out.lt)) rfl (.tmp 90) (.tmp 92) rfl rfl rfl ?_; intro v5 w5 ho5 hg5; rw [List.length_append, List.length_singleton] at ho5; obtain ⟨A5, c5, rfl, _, _, _, _⟩ := own_C ho5; have hX5 := blk_grown HX.out hg5 (own_ne HO.out HX.out (by decide)); have hS5 := blk_grown HS.out hg5 (own_ne HO.out HS.out (by decide)); have HG5 := Aside0.mk (HG.out.grown HO.out hg5); have HX5 := Aside0.mk hX5; have HS5 := Aside0.mk hS5; have HO5 := Aside0.mk ho5; have hf5 := blk_frozen hX5 2; have hq5 : w5.cell? ⟨b11, 2, none⟩ = some (.slice Av (growC L ys j j).length cv) := (blk_cell hX5 2).trans rfl; clear hX5 hS5 ho5 hg5)
                    go_roundg gj
                    case measure => omega
                    case rel => exact ⟨j + 1, _, by omega, by go_num, ⟨blk_put HX5.out 2 _ rfl⟩, ⟨by rw [HNx.out, List.length_append, List.length_singleton]; exact own_setCell (p := ⟨b11, 2, none⟩) HO5.out (own_ne HO5.out HX5.out (by decide)) _⟩, ⟨blk_far HS5.out HNe.out _⟩, ⟨HG5.out.set HGe.out _⟩⟩
                  · rw [decide_eq_false hji, Bool.false_or] at hnx
                    have hjiI : ((j : Int) == (i : Int)) = false := by
                      have : (j : Int) ≠ (i : Int) := by omega
                      simpa using this
                    cases hmt : meetS (VS L ys j) s with
                    | true =>
                      rw [hmt, if_pos rfl] at hnx
                      have HNx := Aside0.mk hnx
                      clear hnx hlfe hji
                      go_wp2_with fail
                      try go_step3
                      refine start_ (n := 24) (S := fun w' => w'.cell? ⟨W.heap.size, 1, none⟩ = some (.slice (some aL) L.length cL) ∧ w'.cell? (aL.add j) = some (.slice A0 cj.length c0) ∧ w'.cell? ⟨b7, 0, none⟩ = some (.int .u64 (s.1 : Int)) ∧ w'.cell? ⟨b7, 1, none⟩ = some (.int .u64 (s.2 : Int))) (ds := []) #[false, false, false, false, false, false, false, false, false, false, false, false, false, false, false, false, false, false, false, false, false, false, false, false] (by kernel_rfl) rfl rfl (⟨(blk_cell HG.out.th 1).trans rfl, hcell, (blk_cell HS.out 0).trans rfl, (blk_cell HS.out 1).trans rfl⟩) (fun hHeld => ?_)
                      refine with_tabW q49r15tab q49r15bits (fun HT_ HW_ => ?_)
                      refine pure_ (i := 0) (N := some 65) (v := ?_) (a' := ?_) #[true, false, false, false, false, false, false, false, false, false, false, false, false, false, false, false, false, false, false, false, false, false, false, false] rfl rfl (any_of HT_.out (by kernel_rfl)) (fun _ _ _ h => h) (Or.inl ⟨by rfl, ?_⟩) ?_ ?_
                      rotate_left
                      · intro w'
                        go_simp
                        with_reducible rfl
                      rotate_left
                      · simp only [Act.put, List.setIfInBounds_toArray, List.set_cons_zero, List.set_cons_succ, i64_w, i32_w]
                        rfl
                      refine take_ (i := 1) (N := some 66) (v := ?_) (a' := ?_) #[true, true, false, false, false, false, false, false, false, false, false, false, false, false, false, false, false, false, false, false, false, false, false, false] rfl rfl (take_ofW HT_.out HW_.out (by kernel_rfl)) (fun _ _ _ h => h) (Or.inl ⟨by rfl, ?_⟩) hHeld ?_ ?_
                      rotate_left
                      · rintro w' ⟨s0, s1, s2, s3⟩
                        go_simp
                        with_reducible rfl
                      rotate_left
                      · simp only [Act.put, List.setIfInBounds_toArray, List.set_cons_zero, List.set_cons_succ, i64_w, i32_w]
                        rfl
                      refine pure_ (i := 2) (N := some 67) (v := ?_) (a' := ?_) #[true, true, true, false, false, false, false, false, false, false, false, false, false, false, false, false, false, false, false, false, false, false, false, false] rfl rfl (any_of HT_.out (by kernel_rfl)) (fun _ _ _ h => h) (Or.inl ⟨by rfl, ?_⟩) ?_ ?_
                      rotate_left
                      · intro w'
                        go_simp
                        with_reducible rfl
                      rotate_left
                      · simp only [Act.put, List.setIfInBounds_toArray, List.set_cons_zero, List.set_cons_succ, i64_w, i32_w]
                        rfl
                      refine pure_ (i := 3) (N := some 68) (v := ?_) (a' := ?_) #[true, true, true, true, false, false, false, false, false, false, false, false, false, false, false, false, false, false, false, false, false, false, false, false] rfl rfl (any_of HT_.out (by kernel_rfl)) (fun _ _ _ h => h) (Or.inl ⟨by rfl, ?_⟩) ?_ ?_
                      rotate_left
                      · intro w'
                        go_simp
                        with_reducible rfl
                      rotate_left
                      · simp only [Act.put, List.setIfInBounds_toArray, List.set_cons_zero, List.set_cons_succ, i64_w, i32_w]
                        rfl
                      refine take_ (i := 4) (N := some 69) (v := ?_) (a' := ?_) #[true, true, true, true, true, false, false, false, false, false, false, false, false, false, false, false, false, false, false, false, false, false, false, false] rfl rfl (take_ofW HT_.out HW_.out (by kernel_rfl)) (fun _ _ _ h => h) (Or.inl ⟨by rfl, ?_⟩) hHeld ?_ ?_
                      rotate_left
                      · rintro w' ⟨s0, s1, s2, s3⟩
                        go_simp
                        with_reducible rfl
                      rotate_left
                      · simp only [Act.put, List.setIfInBounds_toArray, List.set_cons_zero, List.set_cons_succ, i64_w, i32_w]
                        rfl
                      refine pure_ (i := 5) (N := some 70) (v := ?_) (a' := ?_) #[true, true, true, true, true, true, false, false, false, false, false, false, false, false, false, false, false, false, false, false, false, false, false, false] rfl rfl (any_of HT_.out (by kernel_rfl)) (fun _ _ _ h => h) (Or.inl ⟨by rfl, ?_⟩) ?_ ?_
                      rotate_left
                      · intro w'
                        go_simp
                        with_reducible rfl
                      rotate_left
                      · simp only [Act.put, List.setIfInBounds_toArray, List.set_cons_zero, List.set_cons_succ, i64_w, i32_w]
                        rfl
                      refine one_ (i := 6) (N := some 71) #[true, true, true, true, true, true, true, false, false, false, false, false, false, false, false, false, false, false, false, false, false, false, false, false] rfl rfl (one_of HT_.out (by kernel_rfl)) (by decide) (fun K hK => ?_)
                      refine goes_ Try.func48 (by kernel_rfl) rfl #[.slice A0 cj.length c0, .slice A ys.length c] (by rfl) rfl rfl (by simp only [List.map_toArray, List.map_cons, List.map_nil]; rfl) ?_
                      refine (left_calls (Kd.C_below hC0 (below_drew (Below.refl _ _))) hc0 (Kd.C_below hCys (below_drew (Below.refl _ _))) hc).mono ?_
                      rintro e_ w_ ⟨rfl, hd3⟩
                      rw [hlf]
                      obtain ⟨nd, rfl⟩ := hd3
                      have hb3 := pw_below_drewN (below_drew (Below.refl wr.heap.size wr)) nd
                      refine ⟨_, rfl, ?_⟩
                      replace HG := Aside0.mk (HG.out.bg hb3)
                      replace HS := Aside0.mk (blk_below HS.out hb3)
                      replace HX := Aside0.mk (blk_below HX.out hb3)
                      replace HO := Aside0.mk (pw_own_below HO.out hb3)
                      replace hC0 := Kd.C_below hC0 hb3
                      replace hCys := Kd.C_below hCys hb3
                      replace hcell := (hb3.cell (World.block_lt_of_cell? _ _ hcell)).trans hcell
                      clear hb3
                      generalize (wr.drew).drewN nd = w4 at HG HS HX HO hC0 hCys hcell ⊢
                      refine hK.out _ _ (⟨(blk_cell HG.out.th 1).trans rfl, hcell, (blk_cell HS.out 0).trans rfl, (blk_cell HS.out 1).trans rfl⟩) (fun hHeld => ?_)
                      clear hK K
                      refine norm_ (a' := ?_) ?_ ?_
                      rotate_left
                      · show Act.put _ (some 71) _ = _
                        simp only [Act.put, List.setIfInBounds_toArray, List.set_cons_zero, List.set_cons_succ, i64_w, i32_w]
                        rfl
                      refine pure_ (i := 7) (N := some 72) (v := ?_) (a' := ?_) #[true, true, true, true, true, true, true, true, false, false, false, false, false, false, false, false, false, false, false, false, false, false, false, false] rfl rfl (any_of HT_.out (by kernel_rfl)) (fun _ _ _ h => h) (Or.inl ⟨by rfl, ?_⟩) ?_ ?_
                      rotate_left
                      · intro w'
                        go_simp
                        with_reducible rfl
                      rotate_left
                      · simp only [Act.put, List.setIfInBounds_toArray, List.set_cons_zero, List.set_cons_succ, i64_w, i32_w]
                        rfl
                      refine pure_ (i := 8) (N := some 73) (v := ?_) (a' := ?_) #[true, true, true, true, true, true, true, true, true, false, false, false, false, false, false, false, false, false, false, false, false, false, false, false] rfl rfl (any_of HT_.out (by kernel_rfl)) (fun _ _ _ h => h) (Or.inl ⟨by rfl, ?_⟩) ?_ ?_
                      rotate_left
                      · intro w'
                        go_simp
                        with_reducible rfl
                      rotate_left
                      · simp only [Act.put, List.setIfInBounds_toArray, List.set_cons_zero, List.set_cons_succ, i64_w, i32_w]
                        rfl
                      refine pure_ (i := 9) (N := some 74) (v := ?_) (a' := ?_) #[true, true, true, true, true, true, true, true, true, true, false, false, false, false, false, false, false, false, false, false, false, false, false, false] rfl rfl (any_of HT_.out (by kernel_rfl)) (fun _ _ _ h => h) (Or.inl ⟨by rfl, ?_⟩) ?_ ?_
                      rotate_left
                      · intro w'
                        go_simp
                        with_reducible rfl
                      rotate_left
                      · simp only [Act.put, List.setIfInBounds_toArray, List.set_cons_zero, List.set_cons_succ, i64_w, i32_w]
                        rfl
                      refine pure_ (i := 10) (N := some 75) (v := ?_) (a' := ?_) #[true, true, true, true, true, true, true, true, true, true, true, false, false, false, false, false, false, false, false, false, false, false, false, false] rfl rfl (any_of HT_.out (by kernel_rfl)) (fun _ _ _ h => h) (Or.inl ⟨by rfl, ?_⟩) ?_ ?_
                      rotate_left
                      · intro w'
                        go_simp
                        with_reducible rfl
                      rotate_left
                      · simp only [Act.put, List.setIfInBounds_toArray, List.set_cons_zero, List.set_cons_succ, i64_w, i32_w]
                        rfl
                      refine pure_ (i := 11) (N := some 76) (v := ?_) (a' := ?_) #[true, true, true, true, true, true, true, true, true, true, true, true, false, false, false, false, false, false, false, false, false, false, false, false] rfl rfl (any_of HT_.out (by kernel_rfl)) (fun _ _ _ h => h) (Or.inl ⟨by rfl, ?_⟩) ?_ ?_
                      rotate_left
                      · intro w'
                        go_simp
                        with_reducible rfl
                      rotate_left
                      · simp only [Act.put, List.setIfInBounds_toArray, List.set_cons_zero, List.set_cons_succ, i64_w, i32_w]
                        rfl
                      refine pure_ (i := 12) (N := some 77) (v := ?_) (a' := ?_) #[true, true, true, true, true, true, true, true, true, true, true, true, true, false, false, false, false, false, false, false, false, false, false, false] rfl rfl (any_of HT_.out (by kernel_rfl)) (fun _ _ _ h => h) (Or.inl ⟨by rfl, ?_⟩) ?_ ?_
                      rotate_left
                      · intro w'
                        go_simp
                        with_reducible rfl
                      rotate_left
                      · simp only [Act.put, List.setIfInBounds_toArray, List.set_cons_zero, List.set_cons_succ, i64_w, i32_w]
                        rfl
                      refine take_ (i := 13) (N := some 78) (v := ?_) (a' := ?_) #[true, true, true, true, true, true, true, true, true, true, true, true, true, true, false, false, false, false, false, false, false, false, false, false] rfl rfl (take_ofW HT_.out HW_.out (by kernel_rfl)) (fun _ _ _ h => h) (Or.inl ⟨by rfl, ?_⟩) hHeld ?_ ?_
                      rotate_left
                      · rintro w' ⟨s0, s1, s2, s3⟩
                        go_simp
                        with_reducible rfl
                      rotate_left
                      · simp only [Act.put, List.setIfInBounds_toArray, List.set_cons_zero, List.set_cons_succ, i64_w, i32_w]
                        rfl
                      refine pure_ (i := 14) (N := some 79) (v := ?_) (a' := ?_) #[true, true, true, true, true, true, true, true, true, true, true, true, true, true, true, false, false, false, false, false, false, false, false, false] rfl rfl (any_of HT_.out (by kernel_rfl)) (fun _ _ _ h => h) (Or.inl ⟨by rfl, ?_⟩) ?_ ?_
                      rotate_left
                      · intro w'
                        go_simp
                        with_reducible rfl
                      rotate_left
                      · simp only [Act.put, List.setIfInBounds_toArray, List.set_cons_zero, List.set_cons_succ, i64_w, i32_w]
                        rfl
                      refine pure_ (i := 15) (N := some 80) (v := ?_) (a' := ?_) #[true, true, true, true, true, true, true, true, true, true, true, true, true, true, true, true, false, false, false, false, false, false, false, false] rfl rfl (any_of HT_.out (by kernel_rfl)) (fun _ _ _ h => h) (Or.inl ⟨by rfl, ?_⟩) ?_ ?_
                      rotate_left
                      · intro w'
                        go_simp
                        with_reducible rfl
                      rotate_left
                      · simp only [Act.put, List.setIfInBounds_toArray, List.set_cons_zero, List.set_cons_succ, i64_w, i32_w]
                        rfl
                      refine take_ (i := 16) (N := some 81) (v := ?_) (a' := ?_) #[true, true, true, true, true, true, true, true, true, true, true, true, true, true, true, true, true, false, false, false, false, false, false, false] rfl rfl (take_ofW HT_.out HW_.out (by kernel_rfl)) (fun _ _ _ h => h) (Or.inl ⟨by rfl, ?_⟩) hHeld ?_ ?_
                      rotate_left
                      · rintro w' ⟨s0, s1, s2, s3⟩
                        go_simp
                        with_reducible rfl
                      rotate_left
                      · simp only [Act.put, List.setIfInBounds_toArray, List.set_cons_zero, List.set_cons_succ, i64_w, i32_w]
                        rfl
                      refine pure_ (i := 17) (N := some 82) (v := ?_) (a' := ?_) #[true, true, true, true, true, true, true, true, true, true, true, true, true, true, true, true, true, true, false, false, false, false, false, false] rfl rfl (any_of HT_.out (by kernel_rfl)) (fun _ _ _ h => h) (Or.inl ⟨by rfl, ?_⟩) ?_ ?_
                      rotate_left
                      · intro w'
                        go_simp
                        with_reducible rfl
                      rotate_left
                      · simp only [Act.put, List.setIfInBounds_toArray, List.set_cons_zero, List.set_cons_succ, i64_w, i32_w]
                        rfl
                      refine take_ (i := 20) (N := some 85) (v := ?_) (a' := ?_) #[true, true, true, true, true, true, true, true, true, true, true, true, true, true, true, true, true, true, false, false, true, false, false, false] rfl rfl (take_ofW HT_.out HW_.out (by kernel_rfl)) (fun _ _ _ h => h) (Or.inl ⟨by rfl, ?_⟩) hHeld ?_ ?_
                      rotate_left
                      · rintro w' ⟨s0, s1, s2, s3⟩
                        go_simp
                        with_reducible rfl
                      rotate_left
                      · simp only [Act.put, List.setIfInBounds_toArray, List.set_cons_zero, List.set_cons_succ, i64_w, i32_w]
                        rfl
                      refine one_ (i := 18) (N := some 83) #[true, true, true, true, true, true, true, true, true, true, true, true, true, true, true, true, true, true, true, false, true, false, false, false] rfl rfl (one_of HT_.out (by kernel_rfl)) (by decide) (fun K hK => ?_)
                      refine goes_ Try.func77 (by kernel_rfl) rfl #[.slice A0 cj.length c0, .slice A ys.length c] (by rfl) rfl rfl (by simp only [List.map_toArray, List.map_cons, List.map_nil]; rfl) ?_
                      refine (rest16_calls hC0 hc0 hCys hc hcl.1 (lit_big hcl.2)).mono ?_
                      rintro e_ w_ ⟨v3, rfl, hv3, hb3⟩
                      obtain ⟨A3, c3, rfl, _, hC3⟩ := Kd.R_reads hv3
                      refine ⟨_, rfl, ?_⟩
                      replace HG := Aside0.mk (HG.out.bg hb3)
                      replace HS := Aside0.mk (blk_below HS.out hb3)
                      replace HX := Aside0.mk (blk_below HX.out hb3)
                      replace HO := Aside0.mk (pw_own_below HO.out hb3)
                      replace hC0 := Kd.C_below hC0 hb3
                      replace hCys := Kd.C_below hCys hb3
                      replace hcell := (hb3.cell (World.block_lt_of_cell? _ _ hcell)).trans hcell
                      clear hb3
                      clear hv3
                      refine hK.out _ _ (⟨(blk_cell HG.out.th 1).trans rfl, hcell, (blk_cell HS.out 0).trans rfl, (blk_cell HS.out 1).trans rfl⟩) (fun hHeld => ?_)
                      clear hK K
                      refine norm_ (a' := ?_) ?_ ?_
                      rotate_left
                      · show Act.put _ (some 83) _ = _
                        simp only [Act.put, List.setIfInBounds_toArray, List.set_cons_zero, List.set_cons_succ, i64_w, i32_w]
                        rfl
                      refine one_ (i := 19) (N := some 84) #[true, true, true, true, true, true, true, true, true, true, true, true, true, true, true, true, true, true, true, true, true, false, false, false] rfl rfl (one_of HT_.out (by kernel_rfl)) (by decide) (fun K hK => ?_)
                      refine goes_ Try.func47 (by kernel_rfl) rfl #[.slice A3 (restF cj ys).length c3] (by rfl) rfl rfl (by simp only [List.map_toArray, List.map_cons, List.map_nil]; rfl) ?_
                      refine (vars_calls hC3 (fun x hx => hcl.2 x (List.mem_filter.1 hx).1)).mono ?_
                      rintro e_ w_ ⟨rfl, hb3⟩
                      refine ⟨_, rfl, ?_⟩
                      replace HG := Aside0.mk (HG.out.bg hb3)
                      replace HS := Aside0.mk (blk_below HS.out hb3)
                      replace HX := Aside0.mk (blk_below HX.out hb3)
                      replace HO := Aside0.mk (pw_own_below HO.out hb3)
                      replace hC0 := Kd.C_below hC0 hb3
                      replace hCys := Kd.C_below hCys hb3
                      replace hcell := (hb3.cell (World.block_lt_of_cell? _ _ hcell)).trans hcell
                      clear hb3
                      clear hC3
                      rw [HVj.out]
                      refine hK.out _ _ (⟨(blk_cell HG.out.th 1).trans rfl, hcell, (blk_cell HS.out 0).trans rfl, (blk_cell HS.out 1).trans rfl⟩) (fun hHeld => ?_)
                      clear hK K
                      refine norm_ (a' := ?_) ?_ ?_
                      rotate_left
                      · show Act.put _ (some 84) _ = _
                        simp only [Act.put, List.setIfInBounds_toArray, List.set_cons_zero, List.set_cons_succ, i64_w, i32_w]
                        rfl
                      refine one_ (i := 21) (N := some 86) #[true, true, true, true, true, true, true, true, true, true, true, true, true, true, true, true, true, true, true, true, true, true, false, false] rfl rfl (one_of HT_.out (by kernel_rfl)) (by decide) (fun K hK => ?_)
                      refine goes_ Try.func78 (by kernel_rfl) rfl #[setV2 (VS L ys j), setV2 s] (by rfl) rfl rfl (by simp only [List.map_toArray, List.map_cons, List.map_nil]; rfl) ?_
                      refine (meet_calls (VS L ys j) s _ HVk.out HSk.out).mono ?_
                      rintro e_ w_ ⟨rfl, hb3⟩
                      rw [hmt]
                      refine ⟨_, rfl, ?_⟩
                      replace HG := Aside0.mk (HG.out.bg hb3)
                      replace HS := Aside0.mk (blk_below HS.out hb3)
                      replace HX := Aside0.mk (blk_below HX.out hb3)
                      replace HO := Aside0.mk (pw_own_below HO.out hb3)
                      replace hC0 := Kd.C_below hC0 hb3
                      replace hCys := Kd.C_below hCys hb3
                      replace hcell := (hb3.cell (World.block_lt_of_cell? _ _ hcell)).trans hcell
                      clear hb3
                      refine hK.out _ _ (⟨(blk_cell HG.out.th 1).trans rfl, hcell, (blk_cell HS.out 0).trans rfl, (blk_cell HS.out 1).trans rfl⟩) (fun hHeld => ?_)
                      clear hK K
                      refine norm_ (a' := ?_) ?_ ?_
                      rotate_left
                      · show Act.put _ (some 86) _ = _
                        simp only [Act.put, List.setIfInBounds_toArray, List.set_cons_zero, List.set_cons_succ, i64_w, i32_w]
                        rfl
                      refine pure_ (i := 22) (N := some 87) (v := ?_) (a' := ?_) #[true, true, true, true, true, true, true, true, true, true, true, true, true, true, true, true, true, true, true, true, true, true, true, false] rfl rfl (any_of HT_.out (by kernel_rfl)) (fun _ _ _ h => h) (Or.inl ⟨by rfl, ?_⟩) ?_ ?_
                      rotate_left
                      · intro w'
                        go_simp
                        with_reducible rfl
                      rotate_left
                      · simp only [Act.put, List.setIfInBounds_toArray, List.set_cons_zero, List.set_cons_succ, i64_w, i32_w]
                        rfl
                      refine pure_ (i := 23) (N := some 88) (v := ?_) (a' := ?_) #[true, true, true, true, true, true, true, true, true, true, true, true, true, true, true, true, true, true, true, true, true, true, true, true] rfl rfl (any_of HT_.out (by kernel_rfl)) (fun _ _ _ h => h) (Or.inl ⟨by rfl, ?_⟩) ?_ ?_
                      rotate_left
                      · intro w'
                        go_simp
                        with_reducible rfl
                      rotate_left
                      · simp only [Act.put, List.setIfInBounds_toArray, List.set_cons_zero, List.set_cons_succ, i64_w, i32_w]
                        rfl
                      refine done_ (done_of HT_.out (by kernel_rfl)) ?_
                      have hx0 : w_.cell? ⟨b11, 2, none⟩ = some (.slice Av (growC L ys i j).length cv) := (blk_cell HX.out 2).trans rfl
                      have hb11 := HX.out
                      have hf2 := blk_frozen HX.out 2
                      go_wp2_with (at_builtin; refine app_int W.heap.size HO.out (j : Int) hlen5 (Nat.le_of_lt (Nat.lt_of_succ_lt HG.out.lt)) rfl (.tmp 90) (.tmp 92) rfl rfl rfl ?_; intro v5 w5 ho5 hg5; rw [List.length_append, List.length_singleton] at ho5; obtain ⟨A5, c5, rfl, _, _, _, _⟩ := own_C ho5; have hX5 := blk_grown HX.out hg5 (own_ne HO.out HX.out (by decide)); have hS5 := blk_grown HS.out hg5 (own_ne HO.out HS.out (by decide)); have HG5 := Aside0.mk (HG.out.grown HO.out hg5); have HX5 := Aside0.mk hX5; have HS5 := Aside0.mk hS5; have HO5 := Aside0.mk ho5; have hf5 := blk_frozen hX5 2; have hq5 : w5.cell? ⟨b11, 2, none⟩ = some (.slice Av (growC L ys i j).length cv) := (blk_cell hX5 2).trans rfl; clear hX5 hS5 ho5 hg5)
                      go_roundg gj
                      case measure => omega
                      case rel => exact ⟨j + 1, _, by omega, by go_num, ⟨blk_put HX5.out 2 _ rfl⟩, ⟨by rw [HNx.out, List.length_append, List.length_singleton]; exact own_setCell (p := ⟨b11, 2, none⟩) HO5.out (own_ne HO5.out HX5.out (by decide)) _⟩, ⟨blk_far HS5.out HNe.out _⟩, ⟨HG5.out.set HGe.out _⟩⟩
                    | false =>
                      rw [hmt, if_neg (by decide), List.append_nil] at hnx
                      have HNx := Aside0.mk hnx
                      clear hnx hlfe hji
                      go_wp2_with fail
                      try go_step3
                      refine start_ (n := 24) (S := fun w' => w'.cell? ⟨W.heap.size, 1, none⟩ = some (.slice (some aL) L.length cL) ∧ w'.cell? (aL.add j) = some (.slice A0 cj.length c0) ∧ w'.cell? ⟨b7, 0, none⟩ = some (.int .u64 (s.1 : Int)) ∧ w'.cell? ⟨b7, 1, none⟩ = some (.int .u64 (s.2 : Int))) (ds := []) #[false, false, false, false, false, false, false, false, false, false, false, false, false, false, false, false, false, false, false, false, false, false, false, false] (by kernel_rfl) rfl rfl (⟨(blk_cell HG.out.th 1).trans rfl, hcell, (blk_cell HS.out 0).trans rfl, (blk_cell HS.out 1).trans rfl⟩) (fun hHeld => ?_)
                      refine with_tabW q49r15tab q49r15bits (fun HT_ HW_ => ?_)
                      refine pure_ (i := 0) (N := some 65) (v := ?_) (a' := ?_) #[true, false, false, false, false, false, false, false, false, false, false, false, false, false, false, false, false, false, false, false, false, false, false, false] rfl rfl (any_of HT_.out (by kernel_rfl)) (fun _ _ _ h => h) (Or.inl ⟨by rfl, ?_⟩) ?_ ?_
                      rotate_left
                      · intro w'
                        go_simp
                        with_reducible rfl
                      rotate_left
                      · simp only [Act.put, List.setIfInBounds_toArray, List.set_cons_zero, List.set_cons_succ, i64_w, i32_w]
                        rfl
                      refine take_ (i := 1) (N := some 66) (v := ?_) (a' := ?_) #[true, true, false, false, false, false, false, false, false, false, false, false, false, false, false, false, false, false, false, false, false, false, false, false] rfl rfl (take_ofW HT_.out HW_.out (by kernel_rfl)) (fun _ _ _ h => h) (Or.inl ⟨by rfl, ?_⟩) hHeld ?_ ?_
                      rotate_left
                      · rintro w' ⟨s0, s1, s2, s3⟩
                        go_simp
                        with_reducible rfl
                      rotate_left
                      · simp only [Act.put, List.setIfInBounds_toArray, List.set_cons_zero, List.set_cons_succ, i64_w, i32_w]
                        rfl
                      refine pure_ (i := 2) (N := some 67) (v := ?_) (a' := ?_) #[true, true, true, false, false, false, false, false, false, false, false, false, false, false, false, false, false, false, false, false, false, false, false, false] rfl rfl (any_of HT_.out (by kernel_rfl)) (fun _ _ _ h => h) (Or.inl ⟨by rfl, ?_⟩) ?_ ?_
                      rotate_left
                      · intro w'
                        go_simp
                        with_reducible rfl
                      rotate_left
                      · simp only [Act.put, List.setIfInBounds_toArray, List.set_cons_zero, List.set_cons_succ, i64_w, i32_w]
                        rfl
                      refine pure_ (i := 3) (N := some 68) (v := ?_) (a' := ?_) #[true, true, true, true, false, false, false, false, false, false, false, false, false, false, false, false, false, false, false, false, false, false, false, false] rfl rfl (any_of HT_.out (by kernel_rfl)) (fun _ _ _ h => h) (Or.inl ⟨by rfl, ?_⟩) ?_ ?_
                      rotate_left
                      · intro w'
                        go_simp
                        with_reducible rfl
                      rotate_left
                      · simp only [Act.put, List.setIfInBounds_toArray, List.set_cons_zero, List.set_cons_succ, i64_w, i32_w]
                        rfl
                      refine take_ (i := 4) (N := some 69) (v := ?_) (a' := ?_) #[true, true, true, true, true, false, false, false, false, false, false, false, false, false, false, false, false, false, false, false, false, false, false, false] rfl rfl (take_ofW HT_.out HW_.out (by kernel_rfl)) (fun _ _ _ h => h) (Or.inl ⟨by rfl, ?_⟩) hHeld ?_ ?_
                      rotate_left
                      · rintro w' ⟨s0, s1, s2, s3⟩
                        go_simp
                        with_reducible rfl
                      rotate_left
                      · simp only [Act.put, List.setIfInBounds_toArray, List.set_cons_zero, List.set_cons_succ, i64_w, i32_w]
                        rfl
                      refine pure_ (i := 5) (N := some 70) (v := ?_) (a' := ?_) #[true, true, true, true, true, true, false, false, false, false, false, false, false, false, false, false, false, false, false, false, false, false, false, false] rfl rfl (any_of HT_.out (by kernel_rfl)) (fun _ _ _ h => h) (Or.inl ⟨by rfl, ?_⟩) ?_ ?_
                      rotate_left
                      · intro w'
                        go_simp
                        with_reducible rfl
                      rotate_left
                      · simp only [Act.put, List.setIfInBounds_toArray, List.set_cons_zero, List.set_cons_succ, i64_w, i32_w]
                        rfl
                      refine one_ (i := 6) (N := some 71) #[true, true, true, true, true, true, true, false, false, false, false, false, false, false, false, false, false, false, false, false, false, false, false, false] rfl rfl (one_of HT_.out (by kernel_rfl)) (by decide) (fun K hK => ?_)
                      refine goes_ Try.func48 (by kernel_rfl) rfl #[.slice A0 cj.length c0, .slice A ys.length c] (by rfl) rfl rfl (by simp only [List.map_toArray, List.map_cons, List.map_nil]; rfl) ?_
                      refine (left_calls (Kd.C_below hC0 (below_drew (Below.refl _ _))) hc0 (Kd.C_below hCys (below_drew (Below.refl _ _))) hc).mono ?_
                      rintro e_ w_ ⟨rfl, hd3⟩
                      rw [hlf]
                      obtain ⟨nd, rfl⟩ := hd3
                      have hb3 := pw_below_drewN (below_drew (Below.refl wr.heap.size wr)) nd
                      refine ⟨_, rfl, ?_⟩
                      replace HG := Aside0.mk (HG.out.bg hb3)
                      replace HS := Aside0.mk (blk_below HS.out hb3)
                      replace HX := Aside0.mk (blk_below HX.out hb3)
                      replace HO := Aside0.mk (pw_own_below HO.out hb3)
                      replace hC0 := Kd.C_below hC0 hb3
                      replace hCys := Kd.C_below hCys hb3
                      replace hcell := (hb3.cell (World.block_lt_of_cell? _ _ hcell)).trans hcell
                      clear hb3
                      generalize (wr.drew).drewN nd = w4 at HG HS HX HO hC0 hCys hcell ⊢
                      refine hK.out _ _ (⟨(blk_cell HG.out.th 1).trans rfl, hcell, (blk_cell HS.out 0).trans rfl, (blk_cell HS.out 1).trans rfl⟩) (fun hHeld => ?_)
                      clear hK K
                      refine norm_ (a' := ?_) ?_ ?_
                      rotate_left
                      · show Act.put _ (some 71) _ = _
                        simp only [Act.put, List.setIfInBounds_toArray, List.set_cons_zero, List.set_cons_succ, i64_w, i32_w]
                        rfl
                      refine pure_ (i := 7) (N := some 72) (v := ?_) (a' := ?_) #[true, true, true, true, true, true, true, true, false, false, false, false, false, false, false, false, false, false, false, false, false, false, false, false] rfl rfl (any_of HT_.out (by kernel_rfl)) (fun _ _ _ h => h) (Or.inl ⟨by rfl, ?_⟩) ?_ ?_
                      rotate_left
                      · intro w'
                        go_simp
                        with_reducible rfl
                      rotate_left
                      · simp only [Act.put, List.setIfInBounds_toArray, List.set_cons_zero, List.set_cons_succ, i64_w, i32_w]
                        rfl
                      refine pure_ (i := 8) (N := some 73) (v := ?_) (a' := ?_) #[true, true, true, true, true, true, true, true, true, false, false, false, false, false, false, false, false, false, false, false, false, false, false, false] rfl rfl (any_of HT_.out (by kernel_rfl)) (fun _ _ _ h => h) (Or.inl ⟨by rfl, ?_⟩) ?_ ?_
                      rotate_left
                      · intro w'
                        go_simp
                        with_reducible rfl
                      rotate_left
                      · simp only [Act.put, List.setIfInBounds_toArray, List.set_cons_zero, List.set_cons_succ, i64_w, i32_w]
                        rfl
                      refine pure_ (i := 9) (N := some 74) (v := ?_) (a' := ?_) #[true, true, true, true, true, true, true, true, true, true, false, false, false, false, false, false, false, false, false, false, false, false, false, false] rfl rfl (any_of HT_.out (by kernel_rfl)) (fun _ _ _ h => h) (Or.inl ⟨by rfl, ?_⟩) ?_ ?_
                      rotate_left
                      · intro w'
                        go_simp
                        with_reducible rfl
                      rotate_left
                      · simp only [Act.put, List.setIfInBounds_toArray, List.set_cons_zero, List.set_cons_succ, i64_w, i32_w]
                        rfl
                      refine pure_ (i := 10) (N := some 75) (v := ?_) (a' := ?_) #[true, true, true, true, true, true, true, true, true, true, true, false, false, false, false, false, false, false, false, false, false, false, false, false] rfl rfl (any_of HT_.out (by kernel_rfl)) (fun _ _ _ h => h) (Or.inl ⟨by rfl, ?_⟩) ?_ ?_
                      rotate_left
                      · intro w'
                        go_simp
                        with_reducible rfl
                      rotate_left
                      · simp only [Act.put, List.setIfInBounds_toArray, List.set_cons_zero, List.set_cons_succ, i64_w, i32_w]
                        rfl
                      refine pure_ (i := 11) (N := some 76) (v := ?_) (a' := ?_) #[true, true, true, true, true, true, true, true, true, true, true, true, false, false, false, false, false, false, false, false, false, false, false, false] rfl rfl (any_of HT_.out (by kernel_rfl)) (fun _ _ _ h => h) (Or.inl ⟨by rfl, ?_⟩) ?_ ?_
                      rotate_left
                      · intro w'
                        go_simp
                        with_reducible rfl
                      rotate_left
                      · simp only [Act.put, List.setIfInBounds_toArray, List.set_cons_zero, List.set_cons_succ, i64_w, i32_w]
                        rfl
                      refine pure_ (i := 12) (N := some 77) (v := ?_) (a' := ?_) #[true, true, true, true, true, true, true, true, true, true, true, true, true, false, false, false, false, false, false, false, false, false, false, false] rfl rfl (any_of HT_.out (by kernel_rfl)) (fun _ _ _ h => h) (Or.inl ⟨by rfl, ?_⟩) ?_ ?_
                      rotate_left
                      · intro w'
                        go_simp
                        with_reducible rfl
                      rotate_left
                      · simp only [Act.put, List.setIfInBounds_toArray, List.set_cons_zero, List.set_cons_succ, i64_w, i32_w]
                        rfl
                      refine take_ (i := 13) (N := some 78) (v := ?_) (a' := ?_) #[true, true, true, true, true, true, true, true, true, true, true, true, true, true, false, false, false, false, false, false, false, false, false, false] rfl rfl (take_ofW HT_.out HW_.out (by kernel_rfl)) (fun _ _ _ h => h) (Or.inl ⟨by rfl, ?_⟩) hHeld ?_ ?_
                      rotate_left
                      · rintro w' ⟨s0, s1, s2, s3⟩
                        go_simp
                        with_reducible rfl
                      rotate_left
                      · simp only [Act.put, List.setIfInBounds_toArray, List.set_cons_zero, List.set_cons_succ, i64_w, i32_w]
                        rfl
                      refine pure_ (i := 14) (N := some 79) (v := ?_) (a' := ?_) #[true, true, true, true, true, true, true, true, true, true, true, true, true, true, true, false, false, false, false, false, false, false, false, false] rfl rfl (any_of HT_.out (by kernel_rfl)) (fun _ _ _ h => h) (Or.inl ⟨by rfl, ?_⟩) ?_ ?_
                      rotate_left
                      · intro w'
                        go_simp
                        with_reducible rfl
                      rotate_left
                      · simp only [Act.put, List.setIfInBounds_toArray, List.set_cons_zero, List.set_cons_succ, i64_w, i32_w]
                        rfl
                      refine pure_ (i := 15) (N := some 80) (v := ?_) (a' := ?_) #[true, true, true, true, true, true, true, true, true, true, true, true, true, true, true, true, false, false, false, false, false, false, false, false] rfl rfl (any_of HT_.out (by kernel_rfl)) (fun _ _ _ h => h) (Or.inl ⟨by rfl, ?_⟩) ?_ ?_
                      rotate_left
                      · intro w'
                        go_simp
                        with_reducible rfl
                      rotate_left
                      · simp only [Act.put, List.setIfInBounds_toArray, List.set_cons_zero, List.set_cons_succ, i64_w, i32_w]
                        rfl
                      refine take_ (i := 16) (N := some 81) (v := ?_) (a' := ?_) #[true, true, true, true, true, true, true, true, true, true, true, true, true, true, true, true, true, false, false, false, false, false, false, false] rfl rfl (take_ofW HT_.out HW_.out (by kernel_rfl)) (fun _ _ _ h => h) (Or.inl ⟨by rfl, ?_⟩) hHeld ?_ ?_
                      rotate_left
                      · rintro w' ⟨s0, s1, s2, s3⟩
                        go_simp
                        with_reducible rfl
                      rotate_left
                      · simp only [Act.put, List.setIfInBounds_toArray, List.set_cons_zero, List.set_cons_succ, i64_w, i32_w]
                        rfl
                      refine pure_ (i := 17) (N := some 82) (v := ?_) (a' := ?_) #[true, true, true, true, true, true, true, true, true, true, true, true, true, true, true, true, true, true, false, false, false, false, false, false] rfl rfl (any_of HT_.out (by kernel_rfl)) (fun _ _ _ h => h) (Or.inl ⟨by rfl, ?_⟩) ?_ ?_
                      rotate_left
                      · intro w'
                        go_simp
                        with_reducible rfl
                      rotate_left
                      · simp only [Act.put, List.setIfInBounds_toArray, List.set_cons_zero, List.set_cons_succ, i64_w, i32_w]
                        rfl
                      refine take_ (i := 20) (N := some 85) (v := ?_) (a' := ?_) #[true, true, true, true, true, true, true, true, true, true, true, true, true, true, true, true, true, true, false, false, true, false, false, false] rfl rfl (take_ofW HT_.out HW_.out (by kernel_rfl)) (fun _ _ _ h => h) (Or.inl ⟨by rfl, ?_⟩) hHeld ?_ ?_
                      rotate_left
                      · rintro w' ⟨s0, s1, s2, s3⟩
                        go_simp
                        with_reducible rfl
                      rotate_left
                      · simp only [Act.put, List.setIfInBounds_toArray, List.set_cons_zero, List.set_cons_succ, i64_w, i32_w]
                        rfl
                      refine one_ (i := 18) (N := some 83) #[true, true, true, true, true, true, true, true, true, true, true, true, true, true, true, true, true, true, true, false, true, false, false, false] rfl rfl (one_of HT_.out (by kernel_rfl)) (by decide) (fun K hK => ?_)
                      refine goes_ Try.func77 (by kernel_rfl) rfl #[.slice A0 cj.length c0, .slice A ys.length c] (by rfl) rfl rfl (by simp only [List.map_toArray, List.map_cons, List.map_nil]; rfl) ?_
                      refine (rest16_calls hC0 hc0 hCys hc hcl.1 (lit_big hcl.2)).mono ?_
                      rintro e_ w_ ⟨v3, rfl, hv3, hb3⟩
                      obtain ⟨A3, c3, rfl, _, hC3⟩ := Kd.R_reads hv3
                      refine ⟨_, rfl, ?_⟩
                      replace HG := Aside0.mk (HG.out.bg hb3)
                      replace HS := Aside0.mk (blk_below HS.out hb3)
                      replace HX := Aside0.mk (blk_below HX.out hb3)
                      replace HO := Aside0.mk (pw_own_below HO.out hb3)
                      replace hC0 := Kd.C_below hC0 hb3
                      replace hCys := Kd.C_below hCys hb3
                      replace hcell := (hb3.cell (World.block_lt_of_cell? _ _ hcell)).trans hcell
                      clear hb3
                      clear hv3
                      refine hK.out _ _ (⟨(blk_cell HG.out.th 1).trans rfl, hcell, (blk_cell HS.out 0).trans rfl, (blk_cell HS.out 1).trans rfl⟩) (fun hHeld => ?_)
                      clear hK K
                      refine norm_ (a' := ?_) ?_ ?_
                      rotate_left
                      · show Act.put _ (some 83) _ = _
                        simp only [Act.put, List.setIfInBounds_toArray, List.set_cons_zero, List.set_cons_succ, i64_w, i32_w]
                        rfl
                      refine one_ (i := 19) (N := some 84) #[true, true, true, true, true, true, true, true, true, true, true, true, true, true, true, true, true, true, true, true, true, false, false, false] rfl rfl (one_of HT_.out (by kernel_rfl)) (by decide) (fun K hK => ?_)
                      refine goes_ Try.func47 (by kernel_rfl) rfl #[.slice A3 (restF cj ys).length c3] (by rfl) rfl rfl (by simp only [List.map_toArray, List.map_cons, List.map_nil]; rfl) ?_
                      refine (vars_calls hC3 (fun x hx => hcl.2 x (List.mem_filter.1 hx).1)).mono ?_
                      rintro e_ w_ ⟨rfl, hb3⟩
                      refine ⟨_, rfl, ?_⟩
                      replace HG := Aside0.mk (HG.out.bg hb3)
                      replace HS := Aside0.mk (blk_below HS.out hb3)
                      replace HX := Aside0.mk (blk_below HX.out hb3)
                      replace HO := Aside0.mk (pw_own_below HO.out hb3)
                      replace hC0 := Kd.C_below hC0 hb3
                      replace hCys := Kd.C_below hCys hb3
                      replace hcell := (hb3.cell (World.block_lt_of_cell? _ _ hcell)).trans hcell
                      clear hb3
                      clear hC3
                      rw [HVj.out]
                      refine hK.out _ _ (⟨(blk_cell HG.out.th 1).trans rfl, hcell, (blk_cell HS.out 0).trans rfl, (blk_cell HS.out 1).trans rfl⟩) (fun hHeld => ?_)
                      clear hK K
                      refine norm_ (a' := ?_) ?_ ?_
                      rotate_left
                      · show Act.put _ (some 84) _ = _
                        simp only [Act.put, List.setIfInBounds_toArray, List.set_cons_zero, List.set_cons_succ, i64_w, i32_w]
                        rfl
                      refine one_ (i := 21) (N := some 86) #[true, true, true, true, true, true, true, true, true, true, true, true, true, true, true, true, true, true, true, true, true, true, false, false] rfl rfl (one_of HT_.out (by kernel_rfl)) (by decide) (fun K hK => ?_)
                      refine goes_ Try.func78 (by kernel_rfl) rfl #[setV2 (VS L ys j), setV2 s] (by rfl) rfl rfl (by simp only [List.map_toArray, List.map_cons, List.map_nil]; rfl) ?_
                      refine (meet_calls (VS L ys j) s _ HVk.out HSk.out).mono ?_
                      rintro e_ w_ ⟨rfl, hb3⟩
                      rw [hmt]
                      refine ⟨_, rfl, ?_⟩
                      replace HG := Aside0.mk (HG.out.bg hb3)
                      replace HS := Aside0.mk (blk_below HS.out hb3)
                      replace HX := Aside0.mk (blk_below HX.out hb3)
                      replace HO := Aside0.mk (pw_own_below HO.out hb3)
                      replace hC0 := Kd.C_below hC0 hb3
                      replace hCys := Kd.C_below hCys hb3
                      replace hcell := (hb3.cell (World.block_lt_of_cell? _ _ hcell)).trans hcell
                      clear hb3
                      refine hK.out _ _ (⟨(blk_cell HG.out.th 1).trans rfl, hcell, (blk_cell HS.out 0).trans rfl, (blk_cell HS.out 1).trans rfl⟩) (fun hHeld => ?_)
                      clear hK K
                      refine norm_ (a' := ?_) ?_ ?_
                      rotate_left
                      · show Act.put _ (some 86) _ = _
                        simp only [Act.put, List.setIfInBounds_toArray, List.set_cons_zero, List.set_cons_succ, i64_w, i32_w]
                        rfl
                      refine pure_ (i := 22) (N := some 87) (v := ?_) (a' := ?_) #[true, true, true, true, true, true, true, true, true, true, true, true, true, true, true, true, true, true, true, true, true, true, true, false] rfl rfl (any_of HT_.out (by kernel_rfl)) (fun _ _ _ h => h) (Or.inl ⟨by rfl, ?_⟩) ?_ ?_
                      rotate_left
                      · intro w'
                        go_simp
                        with_reducible rfl
                      rotate_left
                      · simp only [Act.put, List.setIfInBounds_toArray, List.set_cons_zero, List.set_cons_succ, i64_w, i32_w]
                        rfl
                      refine pure_ (i := 23) (N := some 88) (v := ?_) (a' := ?_) #[true, true, true, true, true, true, true, true, true, true, true, true, true, true, true, true, true, true, true, true, true, true, true, true] rfl rfl (any_of HT_.out (by kernel_rfl)) (fun _ _ _ h => h) (Or.inl ⟨by rfl, ?_⟩) ?_ ?_
                      rotate_left
                      · intro w'
                        go_simp
                        with_reducible rfl
                      rotate_left
                      · simp only [Act.put, List.setIfInBounds_toArray, List.set_cons_zero, List.set_cons_succ, i64_w, i32_w]
                        rfl
                      refine done_ (done_of HT_.out (by kernel_rfl)) ?_
                      go_wp2
                      go_roundg gj
                      case measure => omega
                      case rel => exact ⟨j + 1, _, by omega, by go_num, HX, ⟨by rw [HNx.out]; exact HO.out⟩, HS, HG⟩
          · have HI2 := Aside0.mk (show 129 ≤ cardS (passF L ys s L.length) + gk ∧ SOk (passF L ys s L.length) ∧ growF L ys gk (passF L ys s L.length) = grown L ys i from by
              obtain ⟨h1, h2, h3⟩ := HI.out
              have := growF_step HOk.out h2 hps
              unfold growF at h3
              rw [if_neg hps] at h3
              exact ⟨by omega, (passF_facts HOk.out h2 _).1, h3⟩)
            rw [decide_eq_false hps] at heq
            have hf0 := blk_frozen HS.out 0
            have hf1 := blk_frozen HS.out 1
            clear hps HI
            go_wp2
            go_roundg gk
            case measure => omega
            case rel => exact ⟨_, HI2, ⟨set_blk HS.out _⟩, ⟨(HG.out.set HGe7.out _).set HGe7.out _⟩⟩
        | succ gj =>
          have hjL : j < L.length := by omega
          have hjI : (j : Int) < (L.length : Int) := by omega
          obtain ⟨aL2, A0, c0, hAL, hcell, hc0, hC0⟩ := rd_row (Kd.C_below HL.out HG.out.be) j hjL
          injection hAL with hAL
          subst hAL
          have hcl := HLc.out j hjL
          have hVj : varsS (restF (L.getD j []) ys) = VS L ys j := rfl
          have hlfe : lf L ys j = leftB (L.getD j []) ys := rfl
          obtain ⟨cj, hcj⟩ : ∃ cj, L.getD j [] = cj := ⟨_, rfl⟩
          rw [hcj] at hcell hc0 hC0 hcl hVj hlfe
          clear hcj
          have hCys := Kd.C_below HA.out HG.out.be
          have HRest := Aside0.mk (rest16_calls hC0 hc0 hCys hc hcl.1 (lit_big hcl.2))
          have HLit := Aside0.mk (show Lits (restF cj ys) from fun x hx => hcl.2 x (List.mem_filter.1 hx).1)
          have HVj := Aside0.mk hVj
          have HPs := Aside0.mk ((passF_facts (ys := ys) HOk.out HI.out.2.1 j).1)
          have HVk := Aside0.mk (HVs.out j)
          have hst := passF_succ (L := L) (ys := ys) s j
          unfold passStep at hst
          rw [hlfe] at hst
          have HC0 := Aside0.mk hC0
          have HCy := Aside0.mk hCys
          clear hC0 hCys hcl hlfe hVj
          go_upto_region 7 with (first
            | (go_at_call 77; refine (HRest.out).mono ?_; rintro e w5 ⟨v, rfl, hv, hb1⟩; obtain ⟨A2, c2, rfl, _, hC2⟩ := Kd.R_reads hv; replace HN := Aside0.mk (blk_below HN.out hb1); replace HS := Aside0.mk (blk_below HS.out hb1); replace HG := Aside0.mk (HG.out.bg hb1); replace HC0 := Aside0.mk (Kd.C_below HC0.out hb1); replace HCy := Aside0.mk (Kd.C_below HCy.out hb1); have HCell := Aside0.mk ((hb1.cell (World.block_lt_of_cell? _ _ hcell)).trans hcell); have HC2 := Aside0.mk hC2; clear hv hC2 hb1 hcell ht1 hk0 hk1 hd0 hd1)
            | (go_at_call 47; refine (vars_calls HC2.out HLit.out).mono ?_; rintro e w6 ⟨rfl, hb1⟩; rw [HVj.out]; replace HN := Aside0.mk (blk_below HN.out hb1); replace HS := Aside0.mk (blk_below HS.out hb1); replace HG := Aside0.mk (HG.out.bg hb1); replace HC0 := Aside0.mk (Kd.C_below HC0.out hb1); replace HCy := Aside0.mk (Kd.C_below HCy.out hb1); replace HCell := Aside0.mk ((hb1.cell (World.block_lt_of_cell? _ _ HCell.out)).trans HCell.out); clear hb1))
          have hb6 := below_alloc (Below.refl w6.heap.size w6) (.cells (cS (VS L ys j)) 34)
          have HX := Aside0.mk (blk_new w6 (.cells (cS (VS L ys j)) 34))
          have HNe8 := Aside0.mk (show b8 ≠ w6.heap.size from Nat.ne_of_lt (blk_lt HN.out))
          replace HN := Aside0.mk (blk_below HN.out hb6)
          replace HS := Aside0.mk (blk_below HS.out hb6)
          replace HG := Aside0.mk (HG.out.bg hb6)
          replace HC0 := Aside0.mk (Kd.C_below HC0.out hb6)
          replace HCy := Aside0.mk (Kd.C_below HCy.out hb6)
          replace HCell := Aside0.mk ((hb6.cell (World.block_lt_of_cell? _ _ HCell.out)).trans HCell.out)
          clear hb6 HC2 HRest HLit HVj
          generalize w6.alloc (.cells (cS (VS L ys j)) 34) = w7 at HX HN HS HG HC0 HCy HCell ⊢
          generalize w6.heap.size = b10 at HX HNe8 ⊢
          have ht1 : w7.cell? ⟨W.heap.size, 1, none⟩ = some (.slice (some aL) L.length cL) := (blk_cell HG.out.th 1).trans rfl
          have hcell := HCell.out
          have HLeft := Aside0.mk (left_calls HC0.out hc0 HCy.out hc)
          cases hlf : leftB cj ys with
          | false =>
            rw [hlf, if_neg (by decide)] at hst
            rw [hlf] at HLeft
            have HSt := Aside0.mk hst
            clear hst hlf
            go_wp2_with (go_at_call 48; refine (HLeft.out).mono ?_; rintro e w8 ⟨rfl, nd, rfl⟩; clear HLeft)
            go_roundg gj
            case measure => omega
            case rel => exact ⟨j + 1, by omega, by go_num, ⟨by rw [HSt.out]; exact blk_drewN HN.out nd⟩, ⟨blk_drewN HS.out nd⟩, ⟨HG.out.bg (pw_below_drewN (Below.refl _ _) nd)⟩⟩
          | true =>
            rw [hlf, if_pos rfl] at hst
            rw [hlf] at HLeft
            have hd0 : w7.cell? ⟨b8, 0, none⟩ = some (.int .u64 ((passF L ys s j).1 : Int)) := (blk_cell HN.out 0).trans rfl
            have hd1 : w7.cell? ⟨b8, 1, none⟩ = some (.int .u64 ((passF L ys s j).2 : Int)) := (blk_cell HN.out 1).trans rfl
            have hx0 : w7.cell? ⟨b10, 0, none⟩ = some (.int .u64 ((VS L ys j).1 : Int)) := (blk_cell HX.out 0).trans rfl
            have hx1 : w7.cell? ⟨b10, 1, none⟩ = some (.int .u64 ((VS L ys j).2 : Int)) := (blk_cell HX.out 1).trans rfl
            have HMeet := Aside0.mk (fun w => meet_calls (VS L ys j) (passF L ys s j) w HVk.out HPs.out)
            cases hmt : meetS (VS L ys j) (passF L ys s j) with
            | false =>
              rw [hmt, if_neg (by decide)] at hst
              have HSt := Aside0.mk hst
              rw [hmt] at HMeet
              clear hst hlf hmt
              go_wp2_with (first
                | (go_at_call 48; refine (HLeft.out).mono ?_; rintro e w8 ⟨rfl, nd, rfl⟩; clear HLeft)
                | (go_at_call 78; refine (HMeet.out _).mono ?_; rintro e w9 ⟨rfl, hb9⟩; have HB9 := Aside0.mk hb9; clear hb9 HMeet))
              have hbz := below_step (pw_below_drewN (Below.refl w7.heap.size w7) nd) HB9.out
              go_roundg gj
              case measure => omega
              case rel => exact ⟨j + 1, by omega, by go_num, ⟨by rw [HSt.out]; exact blk_below HN.out hbz⟩, ⟨blk_below HS.out hbz⟩, ⟨HG.out.bg hbz⟩⟩
            | true =>
              rw [hmt, if_pos rfl] at hst
              have HSt := Aside0.mk hst
              rw [hmt] at HMeet
              have HJoin := Aside0.mk (fun w => join_calls (passF L ys s j) (VS L ys j) w HPs.out HVk.out)
              clear hst hlf hmt
              go_wp2_with (first
                | (go_at_call 48; refine (HLeft.out).mono ?_; rintro e w8 ⟨rfl, nd, rfl⟩; clear HLeft)
                | (go_at_call 78; refine (HMeet.out _).mono ?_; rintro e w9 ⟨rfl, hb9⟩; have HB9 := Aside0.mk (below_step (pw_below_drewN (Below.refl w7.heap.size w7) nd) hb9); have hy0 : w9.cell? ⟨b8, 0, none⟩ = some (.int .u64 ((passF L ys s j).1 : Int)) := (blk_cell (blk_below HN.out HB9.out) 0).trans rfl; have hy1 : w9.cell? ⟨b8, 1, none⟩ = some (.int .u64 ((passF L ys s j).2 : Int)) := (blk_cell (blk_below HN.out HB9.out) 1).trans rfl; have hz0 : w9.cell? ⟨b10, 0, none⟩ = some (.int .u64 ((VS L ys j).1 : Int)) := (blk_cell (blk_below HX.out HB9.out) 0).trans rfl; have hz1 : w9.cell? ⟨b10, 1, none⟩ = some (.int .u64 ((VS L ys j).2 : Int)) := (blk_cell (blk_below HX.out HB9.out) 1).trans rfl; clear hb9 HMeet)
                | (go_at_call 50; refine (HJoin.out _).mono ?_; rintro e w10 ⟨rfl, hb9⟩; have HB10 := Aside0.mk (below_step HB9.out hb9); have hf0 := blk_frozen (blk_below HN.out HB10.out) 0; have hf1 := blk_frozen (blk_below HN.out HB10.out) 1; have hp0 : w10.cell? ⟨b8, 0, none⟩ = some (.int .u64 ((passF L ys s j).1 : Int)) := (blk_cell (blk_below HN.out HB10.out) 0).trans rfl; have hp1 : w10.cell? ⟨b8, 1, none⟩ = some (.int .u64 ((passF L ys s j).2 : Int)) := (blk_cell (blk_below HN.out HB10.out) 1).trans rfl; clear hb9 HJoin))
              go_roundg gj
              case measure => omega
              case rel => exact ⟨j + 1, by omega, by go_num, ⟨by rw [HSt.out]; exact set_blk (blk_below HN.out HB10.out) _⟩, ⟨blk_far (blk_far (blk_below HS.out HB10.out) HNe78.out _) HNe78.out _⟩, ⟨((HG.out.bg HB10.out).set (Nat.lt_trans HGe7.out HGe8.out) _).set (Nat.lt_trans HGe7.out HGe8.out) _⟩⟩
end
end Go.Proofs.Ytbnjbjcokkcfcaa.Sol
namespace Go.Proofs.Ytbnjbjcokkcfcaa.Sol
open Go.RowKit Go.Proofs.YtbnjbjcokkcfcaaW.PrintWords Go.Proofs.YtbnjbjcokkcfcaaW.PrintLast Go.Proofs.YtbnjbjcokkcfcaaW.PrintMore Go.Proofs.Ytbnjbjcokkcfcaa.PSearchOwn
set_option linter.unusedVariables false
set_option linter.unusedSimpArgs false
theorem grown_ok {L : List (List Int)} {ys : List Int} {n : Nat} (hL : OkL n L) (i : Nat) : SOk (grown L ys i) :=
  (growF_facts (ys := ys) hL (fun _ => True) (fun _ _ _ => trivial) 129 (VS L ys i) (VS_facts hL i).1 trivial (by omega)).1
theorem mem_insR (p q : Part) : ∀ l, q ∈ insR l p → q = p ∨ q ∈ l
  | [], h => by simpa [insR] using h
  | x :: r, h => by
    unfold insR at h
    split at h
    · rcases List.mem_cons.1 h with h | h
      · exact Or.inr (by rw [h]; exact List.mem_cons_self)
      · exact (mem_insR p q r h).imp id (List.mem_cons_of_mem _)
    · exact List.mem_cons.1 h
theorem mem_insF {l : List Part} {p q : Part} (h : q ∈ insF l p) : q = p ∨ q ∈ l := by
  unfold insF at h
  rw [List.mem_reverse] at h
  exact (mem_insR p q _ h).imp id List.mem_reverse.1
theorem insR_length (p : Part) : ∀ l, (insR l p).length = l.length + 1
  | [] => rfl
  | x :: r => by
    unfold insR
    split
    · rw [List.length_cons, insR_length p r]; rfl
    · rfl
theorem insF_length (l : List Part) (p : Part) : (insF l p).length = l.length + 1 := by
  unfold insF
  rw [List.length_reverse, insR_length, List.length_reverse]
theorem refF_ok {L : List (List Int)} {ys : List Int} {n : Nat} (hL : OkL n L) (i : Nat) : (∀ q ∈ (refF L ys i).2, SOk q.1) ∧ (refF L ys i).2.length ≤ i := by
  induction i with
  | zero => exact ⟨fun q hq => (by cases hq), Nat.le_refl _⟩
  | succ i ih =>
    unfold refF
    split
    · split
      · refine ⟨fun q hq => ?_, ?_⟩
        · rcases mem_insF hq with rfl | hq
          · exact grown_ok hL i
          · exact ih.1 q hq
        · show (insF _ _).length ≤ i + 1
          rw [insF_length]; omega
      · exact ⟨ih.1, by omega⟩
    · exact ⟨ih.1, by omega⟩
theorem refUsed_ok {L : List (List Int)} {ys : List Int} {n : Nat} (hL : OkL n L) (hy : Lits ys) (i : Nat) : SOk (refF L ys i).1 := by
  induction i with
  | zero => exact (vars_all ys hy).1
  | succ i ih =>
    unfold refF
    split
    · split
      · exact ih.join (grown_ok hL i)
      · exact ih
    · exact ih
/-- What stays in Split. -/
structure SW (W : World) (N : Int) (AL : Option Addr) (cL : Nat) (L : List (List Int)) (w : World) : Prop where
  th : w.heap[W.heap.size]? = some (.cells #[.int .i64 N, .slice AL L.length cL] 24 (0, 0))
  rz : w.heap[W.heap.size + 1]? = some (.cells #[.int .u64 0, .int .u64 0] 34 (0, 0))
  be : Below W.heap.size W w
section
variable {W w w2 : World} {N : Int} {AL : Option Addr} {cL : Nat} {L : List (List Int)}
theorem SW.bg (h : SW W N AL cL L w) (hb : Below w.heap.size w w2) : SW W N AL cL L w2 := ⟨blk_below h.th hb, blk_below h.rz hb, below_step h.be hb⟩
theorem SW.set (h : SW W N AL cL L w) {g j : Nat} (hg : W.heap.size + 1 < g) (u : Value) : SW W N AL cL L (w.setCell ⟨g, j, none⟩ u) :=
  ⟨blk_far h.th (by show _ ≠ g; omega) _, blk_far h.rz (by show _ ≠ g; omega) _, below_set h.be (by omega)⟩
theorem SW.lt (h : SW W N AL cL L w) : W.heap.size + 1 < w.heap.size := blk_lt h.rz
theorem SW.grown (h : SW W N AL cL L w) {e : TypeId} (h1 : e ≠ 24) (h2 : e ≠ 34) {s : Nat} {v : Value} {k : Nat} {xs : List Value} (ho : w.ownsRow W.heap.size e s v k xs) (hg : w.grownBy w2 v.ownBlock) : SW W N AL cL L w2 :=
  ⟨blk_grown h.th hg (own_ne ho h.th h1), blk_grown h.rz hg (own_ne ho h.rz h2), Below.grown h.be hg h.be.size (fun k hk => own_base ho k hk)⟩
end
section
variable {w : World} {base g n cap : Nat} {ok : Nat → Prop} {xs : List Part}
theorem KP_elem {e : TypeId} (h : KP.R e w base ok (.slice (some ⟨g, 0, none⟩) n cap) xs) (i : Nat) (hi : i < n) {p : Part} (hp : xs[i]? = some p) :
    ∃ A c, (Kd.int .i64).R 3 w base (fun k => ok k ∧ k ≠ g) (.slice A p.2.length c) p.2 ∧ (w.cell? ⟨g, i * 3, none⟩ = some (.int .u64 (p.1.1 : Int)) ∧ w.cell? ⟨g, i * 3 + 1, none⟩ = some (.int .u64 (p.1.2 : Int)) ∧ w.cell? ⟨g, i * 3 + 2, none⟩ = some (.slice A p.2.length c)) ∧ ∀ j, w.frozen? ⟨g, i * 3 + j, none⟩ = false := by
  obtain ⟨cs, hl, hM, hc, hf⟩ := Kd.R_elem h ((0, 0), []) (i : Int) (by omega) (by omega)
  have e0 : xs.getD ((i : Int)).toNat ((0, 0), []) = p := by rw [List.getD_eq_getElem?_getD, Int.toNat_natCast, hp]; rfl
  rw [e0] at hM
  obtain ⟨c0, c1, rfl, ⟨d0, d1, rfl, rfl, rfl⟩, ⟨v, rfl, hv⟩⟩ := hM
  obtain ⟨A, c, rfl⟩ := Kd.R_slice hv
  have e3 : ((i : Int)).toNat * KP.sz = i * 3 := by rw [Int.toNat_natCast, KP_sz]
  rw [e3] at hc hf
  exact ⟨A, c, hv, ⟨hc 0 _ rfl, hc 1 _ rfl, hc 2 _ rfl⟩, hf⟩
/-- Two neighbours are exchanged. -/
theorem KP_swap {e : TypeId} {a b : List Part} {p q : Part} (h : KP.R e w base ok (.slice (some ⟨g, 0, none⟩) n cap) (a ++ q :: p :: b)) {Ap Aq : Option Addr} {cp cq : Nat}
    (hp : (Kd.int .i64).R 3 w base (fun k => ok k ∧ k ≠ g) (.slice Ap p.2.length cp) p.2) (hq : (Kd.int .i64).R 3 w base (fun k => ok k ∧ k ≠ g) (.slice Aq q.2.length cq) q.2) :
    KP.R e ((w.setCells g ((a.length + 1) * 3) [.int .u64 (q.1.1 : Int), .int .u64 (q.1.2 : Int), .slice Aq q.2.length cq]).setCells g (a.length * 3) [.int .u64 (p.1.1 : Int), .int .u64 (p.1.2 : Int), .slice Ap p.2.length cp]) base ok (.slice (some ⟨g, 0, none⟩) n cap) (a ++ p :: q :: b) ∧
      w.grownBy ((w.setCells g ((a.length + 1) * 3) [.int .u64 (q.1.1 : Int), .int .u64 (q.1.2 : Int), .slice Aq q.2.length cq]).setCells g (a.length * 3) [.int .u64 (p.1.1 : Int), .int .u64 (p.1.2 : Int), .slice Ap p.2.length cp]) (some g) := by
  have hn : n = (a ++ q :: p :: b).length := (Kd.R_reads' h).1
  rw [List.length_append, List.length_cons, List.length_cons] at hn
  obtain ⟨c1, hl1, _, hc1, _⟩ := Kd.R_elem h ((0, 0), []) ((a.length + 1 : Nat) : Int) (by omega) (by omega)
  have e3 : ∀ m : Nat, ((m : Int)).toNat * KP.sz + 0 = m * 3 := fun m => by rw [Int.toNat_natCast, KP_sz, Nat.add_zero]
  obtain ⟨s1, s2⟩ := Kd.R_seg h ((a.length + 1 : Nat) : Int) (by omega) (by omega) (c := c1) (seg := [.int .u64 (q.1.1 : Int), .int .u64 (q.1.2 : Int), .slice Aq q.2.length cq]) (j := 0) (okp := fun k => ok k ∧ k ≠ g) (x' := q) hl1 hc1 (Nat.le_refl 3)
    (by rw [List.take_zero, List.nil_append, List.drop_eq_nil_of_le (by rw [hl1, KP_sz]; exact Nat.le_refl 3), List.append_nil]; exact KP_M hq) (fun _ hk => hk)
  rw [e3] at s1 s2
  rw [show (a ++ q :: p :: b).set (((a.length + 1 : Nat) : Int)).toNat q = a ++ q :: q :: b by
    rw [Int.toNat_natCast, List.set_append_right _ _ (by omega), show a.length + 1 - a.length = 1 by omega]; rfl] at s1
  obtain ⟨c2, hl2, _, hc2, _⟩ := Kd.R_elem s1 ((0, 0), []) (a.length : Int) (by omega) (by omega)
  have hp2 : (Kd.int .i64).R 3 (w.setCells g ((a.length + 1) * 3) [.int .u64 (q.1.1 : Int), .int .u64 (q.1.2 : Int), .slice Aq q.2.length cq]) base (fun k => ok k ∧ k ≠ g) (.slice Ap p.2.length cp) p.2 := Kd.R_grown hp s2 (fun k hk he => hk.2 (by injection he))
  obtain ⟨t1, t2⟩ := Kd.R_seg s1 (a.length : Int) (by omega) (by omega) (c := c2) (seg := [.int .u64 (p.1.1 : Int), .int .u64 (p.1.2 : Int), .slice Ap p.2.length cp]) (j := 0) (okp := fun k => ok k ∧ k ≠ g) (x' := p) hl2 hc2 (Nat.le_refl 3)
    (by rw [List.take_zero, List.nil_append, List.drop_eq_nil_of_le (by rw [hl2, KP_sz]; exact Nat.le_refl 3), List.append_nil]; exact KP_M hp2) (fun _ hk => hk)
  rw [e3] at t1 t2
  rw [show (a ++ q :: q :: b).set ((a.length : Int)).toNat p = a ++ p :: q :: b by
    rw [Int.toNat_natCast, List.set_append_right _ _ (by omega), Nat.sub_self]; rfl] at t1
  exact ⟨t1, s2.trans t2⟩
end
section
variable {P : Program} {ops : Array Oper} {oi : Oper} {a : Act} {w : World} {K : Act → World → Prop} {Q : Exit → Act → World → Prop}
/-- A component is stored in a row. -/
theorem store69_ {g o : Nat} {cur : Array Value} (hw : Region.wanted oi (yielded ops a.tmps) = true) (hN : oi.dst = none) (p x : Operand) (ho : oi.op = .store 69 p x) (haddr : a.eval p = .pointer (some ⟨g, o, none⟩)) {s : Nat × Nat} {A : Option Addr} {m c : Nat} (hx : a.eval x = .agg #[.int .u64 (s.1 : Int), .int .u64 (s.2 : Int), .slice A m c])
    (hh : w.heap[g]? = some (.cells cur 69 (0, 0))) (hfit : o + 3 ≤ cur.size) (h : K a (w.setCells g o [.int .u64 (s.1 : Int), .int .u64 (s.2 : Int), .slice A m c])) :
    if Region.wanted oi (yielded ops a.tmps) = true then Oper.wp Try.prog oi a w K Q else K (a.put none undef) w := by
  refine skip_ hw hN ?_ h
  have hrun : (Instr.storeAt 69 (.pointer (some ⟨g, o, none⟩)) (.agg #[.int .u64 (s.1 : Int), .int .u64 (s.2 : Int), .slice A m c])).run Try.prog w = .ok () (w.setCells g o [.int .u64 (s.1 : Int), .int .u64 (s.2 : Int), .slice A m c]) :=
    run_store_run 69 _ _ hh rfl size69 hfit (fun q hq => by simp at hq; rcases hq with rfl | rfl | rfl <;> rfl)
  unfold execOp
  simp only [ho, haddr, hx, Sem.run_bind, Sem.run_pure, Result.andThen_ok, hrun]
end
end Go.Proofs.Ytbnjbjcokkcfcaa.Sol
