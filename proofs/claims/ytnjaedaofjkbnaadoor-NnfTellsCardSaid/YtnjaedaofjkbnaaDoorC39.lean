/- The plain law: counts and kinds of normal forms are the reference's. No program in sight. Conditions: none. -/
import Derived.Test.YtnjaedaofjkbnaaDoorC38
import Derived.OpenShut
set_option maxRecDepth 100000
set_option linter.unusedVariables false
set_option linter.unusedSimpArgs false
namespace Go.Abs
open Go Go.RowKit
theorem truth_leaf {s : Sc} {e : Ex} (h : nleaf s e = true) : truthN s e = true := by rw [truthN_eq, truthK, h]; rfl
theorem nleaf_no {s : Sc} {e : Ex} (h : e.op = 6 ∨ e.op = 7) : nleaf s e = false := by
  cases hn : nleaf s e with
  | false => rfl
  | true => have := (nleaf_op hn).1; omega
theorem list1 {l : List Ex} {x : Ex} (h : l.length = 1) (hx : l[0]? = some x) : l = [x] := by
  match l, h with
  | [a], _ => simp at hx; rw [hx]
theorem list2 {l : List Ex} {x y : Ex} (h : l.length = 2) (hx : l[0]? = some x) (hy : l[1]? = some y) : l = [x, y] := by
  match l, h with
  | [a, b], _ => simp at hx hy; rw [hx, hy]
theorem truth_one {s : Sc} {e x : Ex} (h : one1 e = true) (hx : e.l[0]? = some x) : truthN s e = truthN s x := by
  have ho := one1_op h
  rw [truthN_eq, truthK, nleaf_no (.inl ho.1), op5, h, list1 ho.2.2.2.2 hx]
  simp
theorem truth_two {s : Sc} {e x y : Ex} (h : two1 e [14, 15, 16, 20, 21] = true) (hx : e.l[0]? = some x) (hy : e.l[1]? = some y) : truthN s e = (truthN s x && truthN s y) := by
  have ho := two5_op h
  rw [truthN_eq, truthK, nleaf_no (.inr ho.1), op5, h, list2 ho.2.2.2.1 hx hy]
  simp
theorem truth_else {s : Sc} {e : Ex} (h : op5 e = false) : truthN s e = nleaf s e := by rw [truthN_eq, truthK, h]; simp
theorem two_of {e : Ex} (h : two1 e [14, 15] = true) : two1 e [14, 15, 16, 20, 21] = true := by
  simp [two1] at h ⊢
  omega
theorem two_of' {e : Ex} (h : two1 e [16, 20, 21] = true) : two1 e [14, 15, 16, 20, 21] = true := by
  simp [two1] at h ⊢
  omega
theorem isR_truth {s : Sc} {e : Ex} (h : isR s e = true) : truthN s e = true := by
  cases h1 : nleaf s e with
  | true => exact truth_leaf h1
  | false =>
    cases h2 : truthN s e with
    | true => rfl
    | false => rw [isR_not h1 h2] at h; exact h
theorem is_same (s : Sc) : ∀ e : Ex, isN s e = isR s e := by
  intro e
  induction e using Ex.ind with
  | _ e ih =>
  cases h1 : one1 e with
  | true =>
    have ho := one1_op h1
    obtain ⟨x, hx⟩ := get0 (l := e.l) (by omega)
    rw [isN_one h1 hx]
    have hn := nleaf_no (s := s) (e := e) (.inl ho.1)
    cases ht : truthN s e with
    | true => rw [isR_one hn ht ho.1 hx]
    | false =>
      rw [isR_not hn ht]
      rw [truth_one h1 hx] at ht
      cases hx1 : nleaf s x with
      | true => rw [truth_leaf hx1] at ht; cases ht
      | false => simp
  | false =>
    cases h2 : two1 e [14, 15] with
    | true =>
      have h5 := two_of h2
      have ho := two5_op h5
      obtain ⟨x, hx⟩ := get0 (l := e.l) (by omega)
      obtain ⟨y, hy⟩ := get1 (l := e.l) (by omega)
      have hm : e.m = 14 ∨ e.m = 15 := by rcases two_split h5 with ⟨_, h⟩ | ⟨h, _, _⟩ <;> first | exact h | (rw [h] at h2; cases h2)
      rw [isN_two h1 h2 hx hy, ih x (List.mem_of_getElem? hx), ih y (List.mem_of_getElem? hy)]
      have hn := nleaf_no (s := s) (e := e) (.inr ho.1)
      cases ht : truthN s e with
      | true =>
        rw [isR_two hn ht (by omega) hx hy]
        have : (e.m == 14 || e.m == 15) = true := by simp; omega
        rw [this, Bool.true_and]
      | false =>
        rw [isR_not hn ht]
        rw [truth_two h5 hx hy] at ht
        cases hx1 : isR s x with
        | false => rfl
        | true =>
          cases hy1 : isR s y with
          | false => rfl
          | true => rw [isR_truth hx1, isR_truth hy1] at ht; cases ht
    | false =>
      rw [isN_leaf h1 h2]
      cases hn : nleaf s e with
      | true => rw [isR_leaf hn]
      | false =>
        cases ht : truthN s e with
        | false => rw [isR_not hn ht]
        | true =>
          rcases (truth_cases hn ht).1 with h | ⟨_, h5⟩
          · rw [h1] at h; cases h
          · have ho := two5_op h5
            obtain ⟨x, hx⟩ := get0 (l := e.l) (by omega)
            obtain ⟨y, hy⟩ := get1 (l := e.l) (by omega)
            rw [isR_two hn ht (by omega) hx hy]
            rcases two_split h5 with ⟨h, _⟩ | ⟨_, _, hm⟩
            · rw [h2] at h; cases h
            · have : (e.m == 14 || e.m == 15) = false := by simp; omega
              rw [this]; rfl
theorem many_leaf {e : Ex} (h : e.l = []) (h7 : e.op ≠ 7) : many e = 1 := by
  rw [many_eq, manyK, h]
  simp [h7]
theorem many_one {e x : Ex} (h : one1 e = true) (hx : e.l[0]? = some x) : many e = many x := by
  have ho := one1_op h
  have hb := many_in x
  rw [many_eq, manyK, list1 ho.2.2.2.2 hx]
  simp [ho.1]
  omega
theorem many_two {e x y : Ex} (h7 : e.op = 7) (hm : e.m = 14 ∨ e.m = 15) (hl : e.l.length = 2) (hx : e.l[0]? = some x) (hy : e.l[1]? = some y) : many e = if many x + many y > 1000 then 1000 else many x + many y := by
  rw [many_eq, manyK, list2 hl hx hy]
  simp only [List.map_cons, List.map_nil, List.sum_cons, List.sum_nil, List.length_cons, List.length_nil]
  rw [if_neg (show ¬ (0 + 1 + 1 = 0) by decide), if_neg (show ¬ (e.op = 7 ∧ e.m ≠ 14 ∧ e.m ≠ 15) by omega), Int.add_zero]
theorem many_x {e x y : Ex} (h7 : e.op = 7) (hm : ¬(e.m = 14 ∨ e.m = 15)) (hl : e.l.length = 2) (hx : e.l[0]? = some x) (hy : e.l[1]? = some y) : many e = if 2 * (many x + many y) > 1000 then 1000 else 2 * (many x + many y) := by
  rw [many_eq, manyK, list2 hl hx hy]
  simp only [List.map_cons, List.map_nil, List.sum_cons, List.sum_nil, List.length_cons, List.length_nil]
  rw [if_neg (show ¬ (0 + 1 + 1 = 0) by decide), if_pos (show e.op = 7 ∧ e.m ≠ 14 ∧ e.m ≠ 15 by omega), Int.add_zero]
theorem cnt_o {s : Sc} {e x : Ex} (h : one1 e = true) (hx : e.l[0]? = some x) : cnt s e = cnt s x := by
  rw [cnt_eq, cntK, h, if_pos rfl]
  simp [hx]
theorem cnt_t {s : Sc} {e x y : Ex} (h7 : e.op = 7) (h : two1 e [14, 15] = true) (hx : e.l[0]? = some x) (hy : e.l[1]? = some y) : cnt s e = min 25 (cnt s x + cnt s y) := by
  rw [cnt_eq, cntK, one_no (by omega), h]
  simp [hx, hy]
theorem cnt_x {s : Sc} {e x y : Ex} (h7 : e.op = 7) (h : two1 e [14, 15] = false) (h' : two1 e [16, 20, 21] = true) (hx : e.l[0]? = some x) (hy : e.l[1]? = some y) : cnt s e = min 25 (2 * (cnt s x + cnt s y)) := by
  rw [cnt_eq, cntK, one_no (by omega), h, h']
  simp [hx, hy]
theorem cnt_l {s : Sc} {e : Ex} (h1 : one1 e = false) (h : two1 e [14, 15] = false) (h' : two1 e [16, 20, 21] = false) : cnt s e = if nleaf s e then 1 else 25 := by
  rw [cnt_eq, cntK, h1, h, h']
  simp
theorem cnt_many (s : Sc) : ∀ e : Ex, cnt s e = if truthN s e = true then min 25 (many e) else 25 := by
  intro e
  induction e using Ex.ind with
  | _ e ih =>
  cases h1 : one1 e with
  | true =>
    have ho := one1_op h1
    obtain ⟨x, hx⟩ := get0 (l := e.l) (by omega)
    rw [cnt_o h1 hx, ih x (List.mem_of_getElem? hx), truth_one h1 hx, many_one h1 hx]
  | false =>
    cases h2 : two1 e [14, 15] with
    | true =>
      have h5 := two_of h2
      have ho := two5_op h5
      obtain ⟨x, hx⟩ := get0 (l := e.l) (by omega)
      obtain ⟨y, hy⟩ := get1 (l := e.l) (by omega)
      have hm : e.m = 14 ∨ e.m = 15 := by
        rcases two_split h5 with ⟨_, h⟩ | ⟨h, _, _⟩
        · exact h
        · rw [h] at h2; cases h2
      have b1 := cnt_in s x
      have b2 := cnt_in s y
      have m1 := many_in x
      have m2 := many_in y
      have i1 := ih x (List.mem_of_getElem? hx)
      have i2 := ih y (List.mem_of_getElem? hy)
      rw [cnt_t ho.1 h2 hx hy, truth_two h5 hx hy, many_two ho.1 hm ho.2.2.2.1 hx hy]
      cases t1 : truthN s x <;> cases t2 : truthN s y <;> rw [t1] at i1 <;> rw [t2] at i2 <;> simp only [if_true, Bool.and_true, Bool.and_false, Bool.false_and, reduceCtorEq, if_false] at * <;> omega
    | false =>
      cases h3 : two1 e [16, 20, 21] with
      | true =>
        have h5 := two_of' h3
        have ho := two5_op h5
        obtain ⟨x, hx⟩ := get0 (l := e.l) (by omega)
        obtain ⟨y, hy⟩ := get1 (l := e.l) (by omega)
        have hm : ¬(e.m = 14 ∨ e.m = 15) := by
          rcases two_split h5 with ⟨h, _⟩ | ⟨_, _, h⟩
          · rw [h] at h2; cases h2
          · omega
        have b1 := cnt_in s x
        have b2 := cnt_in s y
        have m1 := many_in x
        have m2 := many_in y
        have i1 := ih x (List.mem_of_getElem? hx)
        have i2 := ih y (List.mem_of_getElem? hy)
        rw [cnt_x ho.1 h2 h3 hx hy, truth_two h5 hx hy, many_x ho.1 hm ho.2.2.2.1 hx hy]
        cases t1 : truthN s x <;> cases t2 : truthN s y <;> rw [t1] at i1 <;> rw [t2] at i2 <;> simp only [if_true, Bool.and_true, Bool.and_false, Bool.false_and, reduceCtorEq, if_false] at * <;> omega
      | false =>
        have h5 : op5 e = false := by
          cases ho : op5 e with
          | false => rfl
          | true =>
            rw [op5, h1, Bool.false_or] at ho
            rcases two_split ho with ⟨h, _⟩ | ⟨_, h, _⟩
            · rw [h2] at h; cases h
            · rw [h3] at h; cases h
        rw [cnt_l h1 h2 h3, truth_else h5]
        cases hn : nleaf s e with
        | true =>
          have := (nleaf_op hn).1
          rw [many_leaf (nleaf_nil hn).1 (by omega)]
          rfl
        | false => rfl
theorem cnt_same (s : Sc) (e : Ex) : cntR s e = cnt s e := by
  rw [cnt_many, cntR]
  split
  · rename_i h; rw [if_pos h.1]; omega
  · rename_i h
    split
    · rename_i ht
      have : ¬ many e ≤ 24 := fun hm => h ⟨ht, hm⟩
      omega
    · rfl
theorem cnt_truth {s : Sc} {e : Ex} (h : cnt s e ≤ 24) : truthN s e = true := by
  rw [cnt_many] at h
  split at h
  · assumption
  · omega
theorem wrap_in (n : Int) : In64 (IntKind.i64.wrap n) := by
  have := wf_wrap .i64 n
  have := bounds_i64 this
  unfold In64
  omega
theorem in64_s {n : Int} (h : -100 ≤ n ∧ n ≤ 100) : In64 n := by unfold In64; omega
theorem noE_fit {e : Ex} (h : e.Fit) : (noE e).Fit := .mk _ (show 1 < 9223372036854775808 by decide) (in64_s (show -100 ≤ (6 : Int) ∧ (6 : Int) ≤ 100 by decide)) (in64_s (show -100 ≤ (0 : Int) ∧ (0 : Int) ≤ 100 by decide)) (in64_s (show -100 ≤ (0 : Int) ∧ (0 : Int) ≤ 100 by decide)) (in64_s (show -100 ≤ (17 : Int) ∧ (17 : Int) ≤ 100 by decide)) (by
  intro x hx
  have hx : x ∈ [e] := hx
  rw [List.mem_singleton.1 hx]
  exact h)
theorem biE_fit {op : Int} {a b : Ex} (ho : In64 op) (ha : a.Fit) (hb : b.Fit) : (binE op a b).Fit := .mk _ (show 2 < 9223372036854775808 by decide) (in64_s (show -100 ≤ (7 : Int) ∧ (7 : Int) ≤ 100 by decide)) (in64_s (show -100 ≤ (0 : Int) ∧ (0 : Int) ≤ 100 by decide)) (in64_s (show -100 ≤ (0 : Int) ∧ (0 : Int) ≤ 100 by decide)) ho (by
  intro x hx
  have hx : x ∈ [a, b] := hx
  simp at hx
  rcases hx with rfl | rfl
  · exact ha
  · exact hb)
theorem nm_fit (s : Sc) : ∀ e : Ex, e.Fit → truthN s e = true → ∀ t, (nm1 e t).Fit := by
  intro e
  induction e using Ex.ind with
  | _ e ih =>
  intro hf ht t
  cases h1 : nleaf s e with
  | true =>
    obtain ⟨n1, n2⟩ := nm_l h1
    cases t with
    | false => rw [n1]; exact hf
    | true =>
      rw [n2]
      split
      · exact .mk _ (show 0 < 9223372036854775808 by decide) (in64_s (show -100 ≤ (1 : Int) ∧ (1 : Int) ≤ 100 by decide)) hf.nums.2.1 (wrap_in _) (in64_s (show -100 ≤ (0 : Int) ∧ (0 : Int) ≤ 100 by decide)) (by intro x hx; cases hx)
      · exact noE_fit hf
  | false =>
  obtain ⟨hc, hk⟩ := truth_cases h1 ht
  have sub : ∀ x ∈ e.l, ∀ t, (nm1 x t).Fit := fun x hx t => ih x hx (hf.sub x hx) (hk x hx) t
  rcases hc with ho | ⟨ho, h2⟩
  · obtain ⟨h6, _, _, _, hl1⟩ := one1_op ho
    obtain ⟨x, hx⟩ := get0 (l := e.l) (by omega)
    rw [nm_o ho hx]
    exact sub x (List.mem_of_getElem? hx) _
  · obtain ⟨h7, _, _, hl2, hm⟩ := two5_op h2
    obtain ⟨x, hx⟩ := get0 (l := e.l) (by omega)
    obtain ⟨y, hy⟩ := get1 (l := e.l) (by omega)
    have sx := sub x (List.mem_of_getElem? hx)
    have sy := sub y (List.mem_of_getElem? hy)
    rcases two_split h2 with ⟨h3, hm3⟩ | ⟨h3, h4, hm3⟩
    · rw [nm_t h3 h7 hx hy]
      refine biE_fit ?_ (sx _) (sy _)
      split
      · exact wrap_in _
      · exact hf.nums.2.2.2
    · rw [nm_x h3 h4 h7 hx hy]
      have c14 : In64 14 := in64_s (by decide)
      have c15 : In64 15 := in64_s (by decide)
      exact biE_fit c15 (biE_fit c14 (sx _) (sy _)) (biE_fit c14 (sx _) (sy _))
end Go.Abs

