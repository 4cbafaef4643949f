/- What is read of given data, in abstract values. Conditions: none. -/
import Derived.ChangeArms
import Derived.DataReads
import Derived.Test.YtnjaedaofjkbnaaDoorData3
set_option linter.unusedVariables false
set_option linter.unusedSimpArgs false
namespace Go.Abs
open Go
/-- The state in which all blocks of a world stand, and nobody writes them. -/
def stIn (w : World) : St := ⟨fun _ => none, fun _ => 0, fun g => g < w.heap.size, fun _ => none, w⟩
section
variable {H : Type} {enc : TypeId × Value → H} {P : Program} {w : World} {n : Nat} {t : TypeId}
/-- Whatever is read at a type, in so many steps, is in abstract values as Q says. -/
def Rd (enc : TypeId × Value → H) (P : Program) (w : World) (n : Nat) (t : TypeId) (Q : List AV → Prop) : Prop :=
  ∀ cs x, DataW.trod enc P w 0 (fun _ => true) true n t cs = some x → ∃ xs, VL (stIn w) xs cs ∧ Q xs
theorem Rd.mono {Q Q' : List AV → Prop} (h : Rd enc P w n t Q) (hq : ∀ xs, Q xs → Q' xs) : Rd enc P w n t Q' := fun cs x hx =>
  let ⟨xs, h1, h2⟩ := h cs x hx; ⟨xs, h1, hq xs h2⟩
theorem rd_zero {Q : List AV → Prop} : Rd enc P w 0 t Q := fun cs x hx => by simp [DataW.trod] at hx
theorem rd_int {k : IntKind} (ht : P.underlying t = some (.int k)) : Rd enc P w n t (fun xs => ∃ v, xs = [.lit (.int k v)] ∧ (Lit.int k v).wf = true) := fun cs x h => by
  obtain ⟨v, rfl, _, hw⟩ := DataW.trod_int ht h
  exact ⟨_, VL_cons.2 ⟨_, _, rfl, V_lit.2 rfl, VL_nil.2 rfl⟩, v, rfl, hw⟩
theorem rd_string (ht : P.underlying t = some .string) : Rd enc P w n t (fun xs => ∃ v : ByteArray, xs = [.lit (.string v)] ∧ v.size ≤ maxLen) := fun cs x h => by
  obtain ⟨v, rfl, _, hw⟩ := DataW.trod_string ht h
  exact ⟨_, VL_cons.2 ⟨_, _, rfl, V_lit.2 rfl, VL_nil.2 rfl⟩, v, rfl, hw⟩
structure Fd where
  t : TypeId
  s : Nat
  Q : List AV → Prop
def FieldsAt (P : Program) : Nat → List Field → List Fd → Prop
  | _, [], [] => True
  | off, f :: fs, d :: ds => f.type = d.t ∧ f.offset = off ∧ P.cellsOf d.t = d.s ∧ FieldsAt P (off + d.s) fs ds
  | _, _, _ => False
def AllQ : List Fd → List AV → Prop
  | [], xs => xs = []
  | d :: ds, xs => ∃ a b, xs = a ++ b ∧ d.Q a ∧ AllQ ds b
def total : List Fd → Nat
  | [] => 0
  | d :: ds => d.s + total ds
theorem fields_read {cs : List Value} : ∀ (fs : List Field) (ds : List Fd) (off : Nat), FieldsAt P off fs ds →
    (∀ f ∈ fs, ∃ x, DataW.trod enc P w 0 (fun _ => true) true n f.type ((cs.drop f.offset).take (P.cellsOf f.type)) = some x) →
    (∀ d ∈ ds, Rd enc P w n d.t d.Q) → cs.length = off + total ds → ∃ xs, VL (stIn w) xs (cs.drop off) ∧ AllQ ds xs
  | [], [], off, _, _, _, hl => ⟨[], VL_nil.2 (List.drop_eq_nil_of_le (by simp [total] at hl; omega)), rfl⟩
  | [], d :: ds, off, h, _, _, _ => by simp [FieldsAt] at h
  | f :: fs, [], off, h, _, _, _ => by simp [FieldsAt] at h
  | f :: fs, d :: ds, off, h, hx, hd, hl => by
    obtain ⟨h1, h2, h3, h4⟩ := h
    obtain ⟨x, hx1⟩ := hx f (by simp)
    rw [h1, h2, h3] at hx1
    obtain ⟨a, ha, hqa⟩ := hd d (by simp) _ _ hx1
    obtain ⟨b, hb, hqb⟩ := fields_read fs ds (off + d.s) h4 (fun g hg => hx g (by simp [hg])) (fun e he => hd e (by simp [he])) (by simp only [total] at hl; omega)
    refine ⟨a ++ b, ?_, a, b, rfl, hqa, hqb⟩
    have := ha.append hb
    rwa [← List.drop_drop, List.take_append_drop] at this
theorem rd_struct {fs : Array Field} {ds : List Fd} (ht : P.underlying t = some (.struct fs)) (hf : FieldsAt P 0 fs.toList ds) (hs : P.cellsOf t = total ds) (hd : ∀ d ∈ ds, Rd enc P w n d.t d.Q) : Rd enc P w (n + 1) t (AllQ ds) := fun cs x h => by
  obtain ⟨xs, m, hm, _, hl, hn, hx⟩ := DataW.trod_struct ht h
  obtain rfl : n = m := by omega
  have := fields_read (enc := enc) (P := P) (w := w) (n := n) (cs := cs) fs.toList ds 0 hf (fun f hf => by
    obtain ⟨i, hi⟩ := List.getElem?_of_mem hf
    have h1 := hx i f (by simpa using hi)
    have : i < xs.length := by rw [hn]; simpa using (List.getElem?_eq_some_iff.1 hi).1
    exact ⟨xs[i], by rw [h1, List.getElem?_eq_getElem this]⟩) hd (by rw [hl, hs]; omega)
  simpa using this
theorem lt_of_cell {a : Addr} {v : Value} (h : w.cell? a = some v) : a.block < w.heap.size := by
  unfold World.cell? at h
  split at h
  · rename_i hb; exact (Array.getElem?_eq_some_iff.1 hb).1
  · cases h
theorem block_of_add {a : Addr} {j n : Nat} (h : (a.add j).block < n) : a.block < n := by
  unfold Addr.add at h
  split at h <;> exact h
theorem addr_add_add (a : Addr) (i j : Nat) : (a.add i).add j = a.add (i + j) := by
  unfold Addr.add
  split <;> split <;> (try split) <;> simp_all [Nat.add_assoc]
theorem elems_read {α : Type} {c : α → List AV} {G : α → Prop} {e : TypeId} {sz : Nat} {ad : Addr} {elems : List (DataW H × List MemPlace)} (hs : P.cellsOf e = sz) (hc : ∀ a, (c a).length = sz)
    (hR : Rd enc P w n e (fun xs => ∃ a, xs = c a ∧ G a))
    (hE : ∀ i, i < elems.length → (w.cells? 0 (ad.add (i * P.cellsOf e)) (P.cellsOf e)).bind (DataW.trod enc P w 0 (fun _ => true) true n e) = elems[i]?) :
    ∀ k, k ≤ elems.length → ∃ l : List α, l.length = k ∧ (∀ a ∈ l, G a) ∧ ∃ us, VL (stIn w) (recs c l) us ∧ ∀ j u, us[j]? = some u → w.cell? (ad.add j) = some u
  | 0, _ => ⟨[], rfl, by simp, [], VL_nil.2 rfl, by simp⟩
  | k + 1, hk => by
    obtain ⟨l, hl, hG, us, hu, hcell⟩ := elems_read hs hc hR hE k (by omega)
    have h1 := hE k (by omega)
    rw [List.getElem?_eq_getElem (show k < elems.length by omega)] at h1
    obtain ⟨cs, h2, h3⟩ := Option.bind_eq_some_iff.1 h1
    obtain ⟨xs, hxs, a, rfl, ha⟩ := hR _ _ h3
    have hul : us.length = k * sz := by rw [hu.length, recs_length hc, hl]
    refine ⟨l ++ [a], by simp [hl], ?_, us ++ cs, ?_, ?_⟩
    · intro b hb
      rcases List.mem_append.1 hb with hb | hb
      · exact hG b hb
      · rw [List.mem_singleton.1 hb]; exact ha
    · rw [recs_append]
      refine hu.append ?_
      rw [recs_cons, recs_nil, List.append_nil]
      exact hxs
    · intro j u hj
      rcases Nat.lt_or_ge j us.length with hlt | hge
      · rw [List.getElem?_append_left hlt] at hj
        exact hcell j u hj
      · rw [List.getElem?_append_right hge] at hj
        unfold World.cells? at h2
        rw [if_pos (Nat.zero_le _)] at h2
        have hlen := mapM_some_length h2
        have hjl := (List.getElem?_eq_some_iff.1 hj).1
        have hr : (List.range (P.cellsOf e))[j - us.length]? = some (j - us.length) := List.getElem?_range (by rw [← List.length_range (n := P.cellsOf e), ← hlen]; exact hjl)
        have h4 := mapM_some_get h2 (j - us.length) _ hr
        rw [hj, addr_add_add, hs] at h4
        rw [← h4, hul]
        congr 2
        omega
theorem rd_slice {α : Type} {c : α → List AV} {G : α → Prop} {e : TypeId} {sz : Nat} (ht : P.underlying t = some (.slice e)) (hs : P.cellsOf e = sz) (hc : ∀ a, (c a).length = sz) (h1 : ∀ a, ∀ x ∈ c a, x.one = true)
    (hR : Rd enc P w n e (fun xs => ∃ a, xs = c a ∧ G a)) : Rd enc P w (n + 1) t (fun xs => ∃ l : List α, xs = [.ro l.length (recs c l)] ∧ l.length ≤ maxLen ∧ ∀ a ∈ l, G a) := fun cs x h => by
  rcases DataW.trod_slice ht h with ⟨rfl, _⟩ | ⟨ad, len, cap, elems, rest, m, hm, rfl, _, _, hlc, hcm, hel, hE, _, _⟩
  · refine ⟨_, VL_cons.2 ⟨_, _, rfl, ?_, VL_nil.2 rfl⟩, [], rfl, Nat.zero_le _, by simp⟩
    simp only [V]
    exact ⟨none, 0, [], rfl, Nat.le_refl _, fun h => by simp at h, VL_nil.2 rfl, by simp⟩
  · obtain rfl : n = m := by omega
    obtain ⟨l, hl, hG, us, hu, hcell⟩ := elems_read hs hc hR (by rw [hel]; exact hE) len (by omega)
    refine ⟨_, VL_cons.2 ⟨_, _, rfl, ?_, VL_nil.2 rfl⟩, l, rfl, by omega, hG⟩
    simp only [V]
    refine ⟨some ad, cap, us, by rw [hl], by omega, fun _ => rfl, hu, fun j u hj => ?_⟩
    have hcj := hcell j u hj
    refine ⟨?_, ad, rfl, block_of_add (lt_of_cell hcj), hcj⟩
    obtain ⟨x, hx, hv⟩ := hu.getR j u hj
    refine one_V hv ?_
    obtain ⟨a, _, hxa⟩ := List.mem_flatMap.1 (List.mem_of_getElem? hx)
    exact h1 a x hxa
end
end Go.Abs

