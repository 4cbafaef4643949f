/- The plain law: both searches through two graphs ask whether all that is reached goes together. Conditions: none. -/
import Derived.Test.YtnjaedaofjkbnaaC6
import Derived.Test.YtnjaedaofjkbnaaC4
set_option linter.unusedVariables false
set_option linter.unusedSimpArgs false
namespace Go.Abs
open Go
theorem Alike.symm {a b : Ba} (h : Alike a b) : Alike b a := let ⟨h1, h2, h3, h4, h5, h6, h7⟩ := h; ⟨h1.symm, h2.symm, h3.symm, h4.symm, h5.symm, h6.symm, h7.symm⟩
theorem Alike.refl (a : Ba) : Alike a a := ⟨rfl, rfl, rfl, rfl, rfl, rfl, rfl⟩
def AlikeAt (a b : List Nd) (i k : Nat) : Prop := ∃ x y, a[i]? = some x ∧ b[k]? = some y ∧ Alike x.s.b y.s.b
def lenAt (l : List Nd) (i : Nat) : Nat := match l[i]? with | some x => x.next.length | none => 0
theorem lenAt_eq {l : List Nd} {i : Nat} {x : Nd} (h : l[i]? = some x) : lenAt l i = x.next.length := by unfold lenAt; rw [h]
def GoodR (a b : List Nd) : Option (Nat × Int) → Option (Nat × Int) → Prop
  | none, none => True
  | some (i, n), some (k, m) => n = m ∧ AlikeAt a b i k
  | _, _ => False
def Good (a b : List Nd) (p q : Nat) : Prop := GoodR a b (behindL a p) (behindL b q)
inductive Reach (a b : List Nd) : Nat → Nat → Prop
  | zero : Reach a b 0 0
  | step {p q i k c : Nat} {n m : Int} : Reach a b p q → behindL a p = some (i, n) → behindL b q = some (k, m) → c < max (lenAt a i) (lenAt b k) → Reach a b (nextAt a i c) (nextAt b k c)
def AllGood (a b : List Nd) : Prop := ∀ p q, Reach a b p q → Good a b p q
theorem AlikeAt.symm {a b : List Nd} {i k : Nat} : AlikeAt a b i k → AlikeAt b a k i := fun ⟨x, y, h1, h2, h3⟩ => ⟨y, x, h2, h1, h3.symm⟩
theorem Reach.symm {a b : List Nd} {p q : Nat} (h : Reach a b p q) : Reach b a q p := by
  induction h with
  | zero => exact .zero
  | step _ h1 h2 h3 ih => exact .step ih h2 h1 (by rw [Nat.max_comm]; exact h3)
theorem GoodR.symm {a b : List Nd} {x y : Option (Nat × Int)} (h : GoodR a b x y) : GoodR b a y x := by
  cases x with
  | none => cases y with
    | none => trivial
    | some y => exact h.elim
  | some x => cases y with
    | none => exact h.elim
    | some y => exact ⟨h.1.symm, h.2.symm⟩
theorem AllGood.symm {a b : List Nd} (h : AllGood a b) : AllGood b a := fun p q hr => (h q p hr.symm).symm
theorem Reach.same {a : List Nd} {p q : Nat} (h : Reach a a p q) : p = q := by
  induction h with
  | zero => rfl
  | step _ h1 h2 _ ih =>
    subst ih
    rw [h1] at h2
    injection h2 with h2
    injection h2 with h2 _
    rw [h2]
theorem behind_in {l : List Nd} (h : Fine l) {p : Nat} (hp : p < l.length) {i : Nat} {n : Int} (he : behindL l p = some (i, n)) : i < l.length ∧ kindAt l i ≠ 0 := walkB_cost h _ _ 0 (by omega) hp i n he
theorem Fine.pos {l : List Nd} (h : Fine l) : 0 < l.length := by
  have := h.right
  simp [rightB] at this
  have h2 := this.2
  cases l with
  | nil => simp at h2
  | cons x l => simp
theorem next_in {l : List Nd} (h : Fine l) (i c : Nat) : nextAt l i c < l.length := by
  unfold nextAt
  split
  · rename_i x hx
    by_cases hn : 0 < x.next.length
    · have := nx_in h (List.mem_of_getElem? hx) hn c
      omega
    · have h0 : x.next = [] := List.eq_nil_of_length_eq_zero (by omega)
      have := h.pos
      simp [nx, h0]
      omega
  · exact h.pos
theorem Reach.in {a b : List Nd} (ha : Fine a) (hb : Fine b) {p q : Nat} (h : Reach a b p q) : p < a.length ∧ q < b.length := by
  cases h with
  | zero => exact ⟨ha.pos, hb.pos⟩
  | step _ _ _ _ => exact ⟨next_in ha _ _, next_in hb _ _⟩
theorem allGood_refl {a : List Nd} (ha : Fine a) : AllGood a a := by
  intro p q h
  have hi := h.in ha ha
  obtain rfl := h.same
  unfold Good
  cases e : behindL a p with
  | none => trivial
  | some r =>
    obtain ⟨i, n⟩ := r
    have := behind_in ha hi.1 e
    exact ⟨rfl, a[i], a[i], by simp [this.1], by simp [this.1], Alike.refl _⟩
/-- Both have as many behind them: none, or both some. -/
theorem lens_of {a b : List Nd} (ha : Fine a) (hb : Fine b) {i k : Nat} (h : AlikeAt a b i k) : (lenAt a i = 0 ∧ lenAt b k = 0) ∨ (0 < lenAt a i ∧ 0 < lenAt b k) := by
  obtain ⟨x, y, h1, h2, h3⟩ := h
  rw [lenAt_eq h1, lenAt_eq h2]
  have g1 := ha.kind (List.mem_of_getElem? h1)
  have g2 := hb.kind (List.mem_of_getElem? h2)
  rw [h3.1] at g1
  omega

/-! ### The search with a list of what waits -/
abbrev PL := List (Nat × Nat)
def succs (a b : List Nd) (i k n : Nat) : PL := (List.range n).map fun c => (nextAt a i c, nextAt b k c)
def DoneM (a b : List Nd) (M : PL) (p q : Nat) : Prop := Good a b p q ∧ ∀ i n k m, behindL a p = some (i, n) → behindL b q = some (k, m) → (i, k) ∈ M
structure Law (a b : List Nd) (M W : PL) : Prop where
  w : ∀ x ∈ W, Reach a b x.1 x.2
  nd : M.Nodup
  m : ∀ x ∈ M, x.1 < a.length ∧ x.2 < b.length ∧ AlikeAt a b x.1 x.2
  s : ∀ x ∈ M, ∀ c, c < max (lenAt a x.1) (lenAt b x.2) → DoneM a b M (nextAt a x.1 c) (nextAt b x.2 c) ∨ (nextAt a x.1 c, nextAt b x.2 c) ∈ W
  z : DoneM a b M 0 0 ∨ (0, 0) ∈ W
section
variable {a b : List Nd} {M W : PL} {p q i k : Nat} {n m : Int}
theorem law_init : Law a b [] [(0, 0)] := ⟨by simp; exact .zero, List.nodup_nil, by simp, by simp, by simp⟩
theorem law_bad (h : Law a b M (W ++ [(p, q)])) (hb : ¬ Good a b p q) : ¬ AllGood a b := fun hg => hb (hg p q (h.w (p, q) (by simp)))
/-- One that waited is done. -/
theorem law_pop (h : Law a b M (W ++ [(p, q)])) (hd : DoneM a b M p q) : Law a b M W := by
  have key : ∀ u v, DoneM a b M u v ∨ (u, v) ∈ W ++ [(p, q)] → DoneM a b M u v ∨ (u, v) ∈ W := by
    rintro u v (g | g)
    · exact Or.inl g
    · rcases List.mem_append.1 g with g | g
      · exact Or.inr g
      · have := List.mem_singleton.1 g
        injection this with e1 e2
        subst e1
        subst e2
        exact Or.inl hd
  exact ⟨fun x hx => h.w x (by simp [hx]), h.nd, h.m, fun x hx c hc => key _ _ (h.s x hx c hc), key _ _ h.z⟩
theorem law_none (h : Law a b M (W ++ [(p, q)])) (h1 : behindL a p = none) (h2 : behindL b q = none) : Law a b M W :=
  law_pop h ⟨by unfold Good; rw [h1, h2]; trivial, fun i n k m e => by rw [h1] at e; cases e⟩
theorem law_met (h : Law a b M (W ++ [(p, q)])) (h1 : behindL a p = some (i, n)) (h2 : behindL b q = some (k, n)) (hm : (i, k) ∈ M) : Law a b M W :=
  law_pop h ⟨by unfold Good; rw [h1, h2]; exact ⟨rfl, (h.m _ hm).2.2⟩, fun i' n' k' m' e1 e2 => by
    rw [h1] at e1
    rw [h2] at e2
    injection e1 with e1
    injection e2 with e2
    injection e1 with e1 _
    injection e2 with e2 _
    rw [← e1, ← e2]
    exact hm⟩
theorem law_push (ha : Fine a) (hb : Fine b) (h : Law a b M (W ++ [(p, q)])) (h1 : behindL a p = some (i, n)) (h2 : behindL b q = some (k, n)) (hm : (i, k) ∉ M) (hl : AlikeAt a b i k) : Law a b ((i, k) :: M) (W ++ succs a b i k (max (lenAt a i) (lenAt b k))) := by
  have hr := h.w (p, q) (by simp)
  have hin := hr.in ha hb
  have hd : DoneM a b ((i, k) :: M) p q := ⟨by unfold Good; rw [h1, h2]; exact ⟨rfl, hl⟩, fun i' n' k' m' e1 e2 => by
    rw [h1] at e1
    rw [h2] at e2
    injection e1 with e1
    injection e2 with e2
    injection e1 with e1 _
    injection e2 with e2 _
    rw [← e1, ← e2]
    exact List.mem_cons_self ..⟩
  have up : ∀ u v, DoneM a b M u v → DoneM a b ((i, k) :: M) u v := fun u v g => ⟨g.1, fun i n k m e1 e2 => List.mem_cons_of_mem _ (g.2 i n k m e1 e2)⟩
  have key : ∀ u v, DoneM a b M u v ∨ (u, v) ∈ W ++ [(p, q)] → DoneM a b ((i, k) :: M) u v ∨ (u, v) ∈ W ++ succs a b i k (max (lenAt a i) (lenAt b k)) := by
    rintro u v (g | g)
    · exact Or.inl (up u v g)
    · rcases List.mem_append.1 g with g | g
      · exact Or.inr (List.mem_append.2 (Or.inl g))
      · have := List.mem_singleton.1 g
        injection this with e1 e2
        subst e1
        subst e2
        exact Or.inl hd
  refine ⟨?_, List.nodup_cons.2 ⟨hm, h.nd⟩, ?_, ?_, key _ _ h.z⟩
  · intro x hx
    rcases List.mem_append.1 hx with hx | hx
    · exact h.w x (by simp [hx])
    · obtain ⟨c, hc, rfl⟩ := List.mem_map.1 hx
      exact .step hr h1 h2 (List.mem_range.1 hc)
  · intro x hx
    rcases List.mem_cons.1 hx with rfl | hx
    · exact ⟨(behind_in ha hin.1 h1).1, (behind_in hb hin.2 h2).1, hl⟩
    · exact h.m x hx
  · intro x hx c hc
    rcases List.mem_cons.1 hx with rfl | hx
    · exact Or.inr (List.mem_append.2 (Or.inr (List.mem_map.2 ⟨c, List.mem_range.2 hc, rfl⟩)))
    · exact key _ _ (h.s x hx c hc)
theorem law_end (h : Law a b M []) : AllGood a b := by
  intro p q hr
  have : DoneM a b M p q := by
    induction hr with
    | zero => exact h.z.resolve_right (by simp)
    | step _ h1 h2 h3 ih => exact (h.s _ (ih.2 _ _ _ _ h1 h2) _ h3).resolve_right (by simp)
  exact this.1
def grid : PL := (List.range 24).flatMap fun i => (List.range 24).map fun k => (i, k)
theorem grid_len : grid.length = 576 := by kernel_rfl
theorem law_few (ha : Fine a) (hb : Fine b) (h : Law a b M W) : M.length ≤ 576 := by
  have := h.nd.length_le_of_subset (l₂ := grid) fun x hx => by
    have := h.m x hx
    have g1 := ha.len
    have g2 := hb.len
    simp only [grid, List.mem_flatMap, List.mem_map, List.mem_range]
    exact ⟨x.1, by omega, x.2, by omega, rfl⟩
  rwa [grid_len] at this
end

/-! ### The search turn by turn -/
section
variable {a b : List Nd}
def isT (t : List Bool) (j : Nat) : Prop := t[j]? = some true
def toAt (a b : List Nd) (i k c : Nat) : Nat := nextAt a i c * b.length + nextAt b k c
def DoneT (a b : List Nd) (t : List Bool) (j : Nat) : Prop := Good a b (j / b.length) (j % b.length) ∧ ∀ i n k m, behindL a (j / b.length) = some (i, n) → behindL b (j % b.length) = some (k, m) → ∀ c, c < max (lenAt a i) (lenAt b k) → isT t (toAt a b i k c)
structure Met (a b : List Nd) (t : List Bool) : Prop where
  len : t.length = a.length * b.length
  zero : isT t 0
  reach : ∀ j, isT t j → Reach a b (j / b.length) (j % b.length)
theorem toAt_lt (ha : Fine a) (hb : Fine b) (i k c : Nat) : toAt a b i k c < a.length * b.length := by
  have h1 := next_in ha i c
  have h2 := next_in hb k c
  unfold toAt
  have : (nextAt a i c + 1) * b.length ≤ a.length * b.length := Nat.mul_le_mul_right _ (by omega)
  rw [Nat.succ_mul] at this
  omega
theorem toAt_div (hb : Fine b) (i k c : Nat) : toAt a b i k c / b.length = nextAt a i c := by
  have h2 := next_in hb k c
  unfold toAt
  rw [Nat.mul_comm, Nat.mul_add_div hb.pos, Nat.div_eq_of_lt h2]
  omega
theorem toAt_mod (hb : Fine b) (i k c : Nat) : toAt a b i k c % b.length = nextAt b k c := by
  have h2 := next_in hb k c
  unfold toAt
  rw [Nat.mul_comm, Nat.mul_add_mod, Nat.mod_eq_of_lt h2]
theorem met_end (ha : Fine a) (hb : Fine b) {t : List Bool} (h : Met a b t) (hd : ∀ j, j < a.length * b.length → isT t j → DoneT a b t j) : AllGood a b := by
  intro p q hr
  have : isT t (p * b.length + q) := by
    induction hr with
    | zero => simpa using h.zero
    | @step p q i k c n m hr h1 h2 h3 ih =>
      have hin := hr.in ha hb
      have e1 : (p * b.length + q) / b.length = p := by rw [Nat.mul_comm, Nat.mul_add_div hb.pos, Nat.div_eq_of_lt hin.2]; omega
      have e2 : (p * b.length + q) % b.length = q := by rw [Nat.mul_comm, Nat.mul_add_mod, Nat.mod_eq_of_lt hin.2]
      have hlt : p * b.length + q < a.length * b.length := by rw [← h.len]; exact (List.getElem?_eq_some_iff.1 ih).1
      have := (hd _ hlt ih).2 i n k m (by rw [e1]; exact h1) (by rw [e2]; exact h2) c h3
      exact this
  have hin := hr.in ha hb
  have e1 : (p * b.length + q) / b.length = p := by rw [Nat.mul_comm, Nat.mul_add_div hb.pos, Nat.div_eq_of_lt hin.2]; omega
  have e2 : (p * b.length + q) % b.length = q := by rw [Nat.mul_comm, Nat.mul_add_mod, Nat.mod_eq_of_lt hin.2]
  have hlt : p * b.length + q < a.length * b.length := by rw [← h.len]; exact (List.getElem?_eq_some_iff.1 this).1
  have h2 := (hd _ hlt this).1
  rwa [e1, e2] at h2
theorem met_bad {t : List Bool} {j : Nat} (h : Met a b t) (hj : isT t j) (hb : ¬ Good a b (j / b.length) (j % b.length)) : ¬ AllGood a b := fun hg => hb (hg _ _ (h.reach j hj))
def lack (t : List Bool) : Nat := (t.filter fun x => !x).length
theorem lack_set : ∀ {t : List Bool} {j : Nat}, t[j]? = some false → lack (t.set j true) + 1 = lack t
  | [], j, h => by simp at h
  | x :: t, 0, h => by
    simp at h
    subst h
    simp [lack]
  | x :: t, j + 1, h => by
    have := lack_set (t := t) (j := j) (by simpa using h)
    unfold lack at *
    rw [List.set_cons_succ]
    cases x <;> simp [List.filter_cons] at * <;> omega
theorem lack_true : ∀ {t : List Bool} {j : Nat}, isT t j → lack t + 1 ≤ t.length
  | [], j, h => by simp [isT] at h
  | x :: t, 0, h => by
    simp [isT] at h
    subst h
    have : (t.filter fun x => !x).length ≤ t.length := List.length_filter_le _ _
    simp [lack]
    omega
  | x :: t, j + 1, h => by
    have := lack_true (t := t) (j := j) (by simpa [isT] using h)
    unfold lack at *
    cases x <;> simp [List.filter_cons] at * <;> omega
theorem met_set (ha : Fine a) (hb : Fine b) {t : List Bool} {j i k c : Nat} {n m : Int} (h : Met a b t) (hj : isT t j) (h1 : behindL a (j / b.length) = some (i, n)) (h2 : behindL b (j % b.length) = some (k, m)) (hc : c < max (lenAt a i) (lenAt b k)) : Met a b (t.set (toAt a b i k c) true) := by
  refine ⟨by simp [h.len], ?_, ?_⟩
  · unfold isT
    rw [List.getElem?_set]
    split
    · rename_i e
      have := toAt_lt ha hb i k c
      rw [if_pos (by rw [h.len]; exact this)]
    · exact h.zero
  · intro j' hj'
    unfold isT at hj'
    rw [List.getElem?_set] at hj'
    split at hj'
    · rename_i e
      subst e
      rw [toAt_div hb, toAt_mod hb]
      exact .step (h.reach j hj) h1 h2 hc
    · exact h.reach j' hj'
end
noncomputable def goB (a b : List Nd) : Bool := @decide (AllGood a b) (Classical.propDecidable _)
theorem goB_t {a b : List Nd} (h : AllGood a b) : goB a b = true := by simp [goB, h]
theorem goB_f {a b : List Nd} (h : ¬ AllGood a b) : goB a b = false := by simp [goB, h]
theorem goB_symm (a b : List Nd) : goB a b = goB b a := by
  rw [Bool.eq_iff_iff]
  simp only [goB, decide_eq_true_eq]
  exact ⟨AllGood.symm, AllGood.symm⟩
end Go.Abs

