/- Functions of the library on slices of numbers that are told elsewhere: what they make of the abstract heap; and what a world is like behind a function that writes to one block. Conditions: none; a text of definitions and laws. -/
import Derived.Test.YtnjaedaofjkbnaaDoorAbs9
import Derived.Lib.SlicesCompact
import Derived.Shelf.Spec.SlicesInsertGrow
set_option linter.unusedVariables false
set_option linter.unusedSimpArgs false
namespace Go.Abs
open Go Go.RowKit
abbrev intA (z : Int) : AV := .lit (.int .i64 z)
def sortZ (zs : List Int) : List Int := zs.mergeSort fun x y => decide (x ≤ y)
def packZ (zs : List Int) : List Int := Lib.compact zs
/-- A list, with one more ahead of place i. -/
def putIn {α : Type} (l : List α) (i : Nat) (x : α) : List α := l.take i ++ x :: l.drop i
inductive InsP : List AV → AHeap → AV → AHeap → Prop
  | new {h : AHeap} {b' v' : Nat} {x : AV} : getCells h b' v' = some [x] → InsP [.lit (.slice none 0 0), .lit (.int .i64 0), .ms b' v' 0 1 1] h (.ms h.length 0 0 1 1) (h ++ [.cells 0 [x]])
  | put {h : AHeap} {b ver off n i b' v' : Nat} {x : AV} {xs : List AV} : b ≠ b' → getCells h b ver = some xs → getCells h b' v' = some [x] → off + n ≤ xs.length → i ≤ n → (n + 1) * 8 ≤ 140737488355328 →
      InsP [.ms b ver off n 1, .lit (.int .i64 (i : Int)), .ms b' v' 0 1 1] h (.ms b (ver + 1) 0 (n + 1) 1) (h.set b (.cells (ver + 1) (putIn ((xs.drop off).take n) i x)))
inductive SortP : List AV → AHeap → AV → AHeap → Prop
  | none {h : AHeap} : SortP [.lit (.slice none 0 0)] h (.tup []) h
  | some {h : AHeap} {b ver off : Nat} {xs : List AV} {zs : List Int} : getCells h b ver = some xs → (xs.drop off).take zs.length = zs.map intA → zs ≠ [] → zs.length < 4611686018427387904 →
      SortP [.ms b ver off zs.length 1] h (.tup []) (h.set b (.cells ver (xs.take off ++ (sortZ zs).map intA ++ xs.drop (off + zs.length))))
inductive PackP : List AV → AHeap → AV → AHeap → Prop
  | none {h : AHeap} : PackP [.lit (.slice none 0 0)] h (.lit (.slice none 0 0)) h
  | some {h : AHeap} {b ver off : Nat} {xs : List AV} {zs : List Int} : getCells h b ver = some xs → (xs.drop off).take zs.length = zs.map intA → zs ≠ [] → zs.length < 4611686018427387904 →
      PackP [.ms b ver off zs.length 1] h (.ms b ver off (packZ zs).length 1) (h.set b (.cells ver (xs.take off ++ (packZ zs ++ List.replicate (zs.length - (packZ zs).length) 0).map intA ++ xs.drop (off + zs.length))))
/-- slices.Insert, Sort, Compact on slices of numbers. -/
def slP (fI fS fC : FuncId) : FuncId → List AV → AHeap → AV → AHeap → Prop := fun f args h v h' => (f = fI ∧ InsP args h v h') ∨ (f = fS ∧ SortP args h v h') ∨ (f = fC ∧ PackP args h v h')

section
variable {P : Program} {E : Env}
/-- A slice in the abstract heap, and the real one. -/
theorem ms_at {s : St} {h : AHeap} (hR : R E s h) {b ver off n sz : Nat} {xs : List AV} {u : Value} (hg : getCells h b ver = some xs) (hv : V s (.ms b ver off n sz) u) :
    ∃ ad cap g c e us, u = .slice (some ad) n cap ∧ n ≤ cap ∧ s.ρ b = some g ∧ s.w.heap[g]? = some (.cells c e (0, 0)) ∧ VL s xs us ∧ (∀ y ∈ us, y.oneCell' = true) ∧ (c.toList.drop (s.bs b)).take us.length = us ∧ ¬ s.imm g ∧
      (cap = 0 ∨ (ad = ⟨g, s.bs b + off, none⟩ ∧ s.bs b + off + cap * sz ≤ c.size ∧ cap ≤ 9223372036854775807)) := by
  simp only [V] at hv
  obtain ⟨ad, cap, cur, rfl, hn, hcur, hle, hk⟩ := hv
  obtain ⟨g, c, e, us, h1, h2, h3, h4, h5, h6, h7⟩ := blk_cells hR (getCells_eq hg)
  rw [hcur] at h2
  injection h2 with h2
  refine ⟨ad, cap, g, c, e, us, rfl, hn, h1, h3, h4, h5, h6, h7, ?_⟩
  rcases hk h2 with h0 | ⟨g', c', e', k1, k2, k3, k4, k5⟩
  · exact .inl h0
  · rw [h1] at k1
    injection k1 with k1
    subst k1
    rw [h3] at k2
    injection k2 with k2
    injection k2 with q1 q2 _
    subst q1
    exact .inr ⟨k3, k4, k5⟩
/-- Behind a function that wrote to one block alone. -/
theorem world_write {s : St} {h : AHeap} (hR : R E s h) {b ver ver' g k : Nat} {xs xs' : List AV} {us' : List Value} {c c' : Array Value} {e : TypeId} {w' : World} (hb : getCells h b ver = some xs) (hρ : s.ρ b = some g) (hg : s.w.heap[g]? = some (.cells c e (0, 0)))
    (hw : w'.heap[g]? = some (.cells c' e (0, 0))) (hs : c'.size = c.size) (hold : ∀ j, j < s.w.heap.size → j ≠ g → w'.heap[j]? = s.w.heap[j]?) (hsz : s.w.heap.size ≤ w'.heap.size) (ho : w'.os = s.w.os) (ht : w'.tape = s.w.tape) (hout : w'.output = s.w.output)
    (hv : ver ≤ ver') (hl : VL s xs' us') (h1 : ∀ y ∈ us', y.oneCell' = true) (hc : (c'.toList.drop k).take us'.length = us') (hkk : ver' = ver → k = s.bs b) :
    ∃ s' : St, s'.w = w' ∧ Step s s' ∧ R E s' (h.set b (.cells ver' xs')) ∧ s'.ρ = s.ρ ∧ s'.bs b = k ∧ s'.vr b = some ver' := by
  have hbb := getCells_eq hb
  obtain ⟨k1, k2⟩ := writeK_ok (k := k) hR hbb hρ hg hs hv hl h1 hc hkk
  have hq : Quiet (s.writeK h b (.cells ver' xs') g c' k) { s.writeK h b (.cells ver' xs') g c' k with w := w' } := by
    refine ⟨rfl, rfl, rfl, fun _ h => h, fun _ h => .inl h, fun j hj => ?_, by simpa [St.writeK] using hsz, ho, ht, hout⟩
    have hj' : j < s.w.heap.size := by simpa [St.writeK] using hj
    by_cases hjg : j = g
    · subst hjg
      exact hw.trans (setRow_heap s.w j c c' e (0, 0) hg).symm
    · exact (hold j hj' hjg).trans (setRow_other s.w g j c' hjg).symm
  refine ⟨_, rfl, k1.trans (hq.step k2.immlt), k2.quiet hq, rfl, if_pos rfl, ?_⟩
  have hblt := (List.getElem?_eq_some_iff.1 hbb).1
  simp [St.writeK, AHeap.vr, hblt, vrOf]
/-- Behind a function that moved a block to a new place. -/
theorem world_move {s : St} {h : AHeap} (hR : R E s h) {b ver : Nat} {xs xs' : List AV} {us' : List Value} {c' : Array Value} {e : TypeId} {w' : World} (hb : getCells h b ver = some xs)
    (hw : w'.heap[s.w.heap.size]? = some (.cells c' e (0, 0))) (hold : ∀ j, j < s.w.heap.size → w'.heap[j]? = s.w.heap[j]?) (ho : w'.os = s.w.os) (ht : w'.tape = s.w.tape) (hout : w'.output = s.w.output)
    (hl : VL s xs' us') (h1 : ∀ y ∈ us', y.oneCell' = true) (hc : c'.toList.take us'.length = us') :
    ∃ s' : St, s'.w = w' ∧ Step s s' ∧ R E s' (h.set b (.cells (ver + 1) xs')) ∧ s'.ρ b = some s.w.heap.size ∧ s'.bs b = 0 ∧ s'.vr b = some (ver + 1) := by
  have hbb := getCells_eq hb
  obtain ⟨k1, k2⟩ := moveM_ok (e := e) hR hbb hl h1 hc
  have hlt := lt_of_heap hw
  have hq : Quiet (s.moveM h b (.cells (ver + 1) xs') (.cells c' e)) { s.moveM h b (.cells (ver + 1) xs') (.cells c' e) with w := w' } := by
    refine ⟨rfl, rfl, rfl, fun _ h => h, fun _ h => .inl h, fun j hj => ?_, by simp [St.moveM]; omega, ho, ht, hout⟩
    have hj' : j < s.w.heap.size + 1 := by simpa [St.moveM] using hj
    by_cases hjg : j = s.w.heap.size
    · subst hjg
      exact hw.trans (heap_alloc_new s.w.drew _).symm
    · exact (hold j (by omega)).trans (heap_alloc_old s.w.drew _ (by show j < s.w.heap.size; omega)).symm
  refine ⟨_, rfl, k1.trans (hq.step k2.immlt), k2.quiet hq, if_pos rfl, if_pos rfl, ?_⟩
  have hblt := (List.getElem?_eq_some_iff.1 hbb).1
  simp [St.moveM, AHeap.vr, hblt, vrOf]

/-! ### Cells that are set one by one -/
theorem setCells_size (g : Nat) : ∀ (vs : List Value) (o : Nat) (w : World), (w.setCells g o vs).heap.size = w.heap.size
  | [], _, _ => rfl
  | v :: vs, o, w => by rw [World.setCells, setCells_size g vs]; simp
theorem setCells_rest (g : Nat) : ∀ (vs : List Value) (o : Nat) (w : World), (w.setCells g o vs).os = w.os ∧ (w.setCells g o vs).tape = w.tape ∧ (w.setCells g o vs).output = w.output
  | [], _, _ => ⟨rfl, rfl, rfl⟩
  | v :: vs, o, w => by rw [World.setCells]; exact setCells_rest g vs (o + 1) _
theorem setCell_at {w : World} {g o : Nat} {v : Value} {c : Array Value} {e : TypeId} (hg : w.heap[g]? = some (.cells c e (0, 0))) : (w.setCell ⟨g, o, none⟩ v).heap[g]? = some (.cells (c.setIfInBounds o v) e (0, 0)) := by
  simp [World.setCell, Array.getElem?_modify, hg]
theorem setCell_off {w : World} {g o : Nat} {v : Value} {j : Nat} (h : j ≠ g) : (w.setCell ⟨g, o, none⟩ v).heap[j]? = w.heap[j]? := by
  simp [World.setCell, Array.getElem?_modify, Ne.symm h]
theorem setCells_off {g : Nat} : ∀ (vs : List Value) (o : Nat) (w : World) {j : Nat}, j ≠ g → (w.setCells g o vs).heap[j]? = w.heap[j]?
  | [], _, _, _, _ => rfl
  | v :: vs, o, w, j, h => by rw [World.setCells, setCells_off vs _ _ h, setCell_off h]
theorem setCells_at {g : Nat} {e : TypeId} : ∀ (vs : List Value) (o : Nat) (w : World) (c : Array Value), w.heap[g]? = some (.cells c e (0, 0)) → o + vs.length ≤ c.size →
    ∃ c' : Array Value, (w.setCells g o vs).heap[g]? = some (.cells c' e (0, 0)) ∧ c'.size = c.size ∧ c'.toList = c.toList.take o ++ vs ++ c.toList.drop (o + vs.length)
  | [], o, w, c, hg, h => ⟨c, hg, rfl, by simp⟩
  | v :: vs, o, w, c, hg, h => by
    simp only [List.length_cons] at h
    obtain ⟨c', h1, h2, h3⟩ := setCells_at vs (o + 1) _ _ (setCell_at (o := o) (v := v) hg) (by simp; omega)
    refine ⟨c', h1, by simpa using h2, ?_⟩
    rw [h3]
    simp only [Array.toList_setIfInBounds, List.length_cons]
    have hlt : o < c.toList.length := by simp; omega
    rw [List.take_set, List.drop_set_of_lt (by omega)]
    have : (c.toList.take (o + 1)).set o v = c.toList.take o ++ [v] := by
      rw [List.take_succ_eq_append_getElem hlt, List.set_append_right _ _ (by simp; omega)]
      congr 1
      have : o - (c.toList.take o).length = 0 := by simp; omega
      rw [this]; rfl
    rw [this]
    have e2 : o + 1 + vs.length = o + (vs.length + 1) := by omega
    rw [e2]
    simp
end
end Go.Abs
