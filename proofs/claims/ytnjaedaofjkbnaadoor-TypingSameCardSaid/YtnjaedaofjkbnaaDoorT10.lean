/- Plain law: what holds of places that are reached, and wait. Conditions: none. -/
import Derived.Test.YtnjaedaofjkbnaaDoorT9
set_option linter.unusedVariables false
set_option linter.unusedSimpArgs false
namespace Go.Abs
open Go
noncomputable def stepF (p : Pr) (u : Int) (i : I3) (st : List Int) : List Int × Int :=
  open Classical in if h : ∃ o : List Int × Int, PFn E 35 [prA p, I u, i3A i, intsA st] (.tup [intsA o.1, I o.2]) ∧ o.1.length ≤ 32 then Classical.choose h else ([], 0)
theorem step_spec {p : Pr} {u : Int} {i : I3} {st : List Int} (hp : p.Fit) (hi : In64 i.op) (hst : st.length ≤ 32) :
    PFn E 35 [prA p, I u, i3A i, intsA st] (.tup [intsA (stepF p u i st).1, I (stepF p u i st).2]) ∧ (stepF p u i st).1.length ≤ 32 := by
  obtain ⟨r, k, x, st', e, rfl, h1, h2⟩ := c35 p u i st hp hi hst
  have hex : ∃ o : List Int × Int, PFn E 35 [prA p, I u, i3A i, intsA st] (.tup [intsA o.1, I o.2]) ∧ o.1.length ≤ 32 := ⟨(st', e), k.wk (.refl _) (.tup (.cons h1.wk (.refl _))), h2⟩
  unfold stepF
  rw [dif_pos hex]
  exact Classical.choose_spec hex
theorem d36 {l : List I3} {pc : Nat} (hl : l.length ≤ 300) {i : I3} (hi : l[pc]? = some i) (ha : In64 i.a) : PFn E 36 [codeA l, I pc] (intsA (behindB l pc i)) := by
  obtain ⟨r, k, h⟩ := c36 l pc hl i hi ha
  exact k.wk (.refl _) h.wk
def toDo (rs : List Bool) : Nat := rs.count false
/-- The stack is the same behind a place, whichever way one comes. -/
def GoodAt (p : Pr) (u : Int) (l : List I3) (ss : List (List Int)) (rs : List Bool) (i : Nat) : Prop :=
  ∃ x s, l[i]? = some x ∧ ss[i]? = some s ∧ (stepF p u x s).2 = 0 ∧ ∀ t ∈ behindB l i x, 0 ≤ t ∧ t < l.length ∧ rs[t.toNat]? = some true ∧ ss[t.toNat]? = some (stepF p u x s).1
structure FlowInv (p : Pr) (u : Int) (l : List I3) (ss : List (List Int)) (rs : List Bool) (ws : List Int) (but : Option Nat) : Prop where
  small : ∀ (i : Nat) s, ss[i]? = some s → s.length ≤ 32
  wait : ∀ w ∈ ws, 0 ≤ w ∧ w < l.length ∧ rs[w.toNat]? = some true
  good : ∀ i : Nat, rs[i]? = some true → (i : Int) ∉ ws → some i ≠ but → GoodAt p u l ss rs i
  room : ws.length + toDo rs ≤ l.length
theorem mem_putIn {ws : List Int} {k : Nat} {x w : Int} : w ∈ putIn ws k x ↔ w ∈ ws ∨ w = x := by
  unfold putIn
  rw [List.mem_append, List.mem_cons]
  have h : w ∈ ws ↔ w ∈ ws.take k ∨ w ∈ ws.drop k := by
    conv => lhs; rw [← List.take_append_drop k ws]
    rw [List.mem_append]
  rw [h]
  constructor
  · rintro (h | h | h)
    · exact .inl (.inl h)
    · exact .inr h
    · exact .inl (.inr h)
  · rintro ((h | h) | h)
    · exact .inl h
    · exact .inr (.inr h)
    · exact .inr (.inl h)
theorem toDo_set : ∀ {rs : List Bool} {t : Nat}, rs[t]? = some false → toDo (rs.set t true) + 1 = toDo rs
  | [], t, h => by simp at h
  | r :: rs, 0, h => by
    simp at h
    subst h
    simp [toDo]
  | r :: rs, t + 1, h => by
    have := @toDo_set rs t (by simpa using h)
    unfold toDo at *
    rw [List.set_cons_succ, List.count_cons, List.count_cons]
    omega
theorem GoodAt.set {p : Pr} {u : Int} {l : List I3} {ss : List (List Int)} {rs : List Bool} {i t : Nat} {s : List Int} (h : GoodAt p u l ss rs i) (hi : rs[i]? = some true) (ht : rs[t]? = some false) : GoodAt p u l (ss.set t s) (rs.set t true) i := by
  obtain ⟨x, s0, h1, h2, h3, h4⟩ := h
  have hne : t ≠ i := by rintro rfl; rw [hi] at ht; cases ht
  refine ⟨x, s0, h1, by rw [List.getElem?_set_ne hne]; exact h2, h3, fun w hw => ?_⟩
  obtain ⟨g1, g2, g3, g4⟩ := h4 w hw
  have hnw : t ≠ w.toNat := by rintro rfl; rw [g3] at ht; cases ht
  exact ⟨g1, g2, by rw [List.getElem?_set_ne hnw]; exact g3, by rw [List.getElem?_set_ne hnw]; exact g4⟩
theorem FlowInv.put {p : Pr} {u : Int} {l : List I3} {ss : List (List Int)} {rs : List Bool} {ws : List Int} {but : Option Nat} (h : FlowInv p u l ss rs ws but) {t k : Nat} {s : List Int} (ht : rs[t]? = some false) (htl : t < l.length) (hs : s.length ≤ 32) :
    FlowInv p u l (ss.set t s) (rs.set t true) (putIn ws k (t : Int)) but := by
  have hlt : t < rs.length := (List.getElem?_eq_some_iff.1 ht).1
  refine ⟨fun i a ha => ?_, fun w hw => ?_, fun i hi hn hb => ?_, ?_⟩
  · rw [List.getElem?_set] at ha
    split at ha
    · split at ha
      · injection ha with ha; subst ha; exact hs
      · cases ha
    · exact h.small i a ha
  · rcases mem_putIn.1 hw with hw | rfl
    · obtain ⟨g1, g2, g3⟩ := h.wait w hw
      have hnw : t ≠ w.toNat := by rintro rfl; rw [g3] at ht; cases ht
      exact ⟨g1, g2, by rw [List.getElem?_set_ne hnw]; exact g3⟩
    · exact ⟨by omega, by omega, by simp [hlt]⟩
  · rw [mem_putIn] at hn
    have hni : i ≠ t := fun e => hn (.inr (by rw [e]))
    rw [List.getElem?_set_ne (Ne.symm hni)] at hi
    exact (h.good i hi (fun hw => hn (.inl hw)) hb).set hi ht
  · have h1 := toDo_set ht
    have h2 := h.room
    rw [putIn_len]
    omega
/-- All that is known when nothing waits any more. -/
theorem FlowInv.done {p : Pr} {u : Int} {l : List I3} {ss : List (List Int)} {rs : List Bool} (h : FlowInv p u l ss rs [] none) : ∀ i : Nat, rs[i]? = some true → GoodAt p u l ss rs i := fun i hi => h.good i hi (by simp) (by simp)
end Go.Abs

