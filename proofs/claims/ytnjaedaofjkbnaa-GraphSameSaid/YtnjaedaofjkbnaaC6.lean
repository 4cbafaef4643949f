/- Contracts: what lies behind an event, and its next ones. Conditions: none. -/
import Derived.Test.YtnjaedaofjkbnaaC3
import Derived.Test.YtnjaedaofjkbnaaC5
set_option maxRecDepth 100000
set_option linter.unusedVariables false
set_option linter.unusedSimpArgs false
namespace Go.Abs
open Go
/-- The next place by a label. -/
def nx (x : Nd) (c : Nat) : Int := x.next.getD (min c (x.next.length - 1)) 0
def kindAt (l : List Nd) (i : Nat) : Int := match l[i]? with | some x => x.s.b.kind | none => 0
def costAt (l : List Nd) (i : Nat) : Int := match l[i]? with | some x => x.s.b.cost | none => 0
def nextAt (l : List Nd) (i c : Nat) : Nat := match l[i]? with | some x => (nx x c).toNat | none => 0
/-- The event behind those that do nothing, and all costs. -/
def walkB (l : List Nd) : Nat → Nat → Int → Option (Nat × Int)
  | 0, _, _ => none
  | f + 1, i, c => if kindAt l i ≠ 0 then some (i, c + costAt l i) else walkB l f (nextAt l i 0) (c + costAt l i)
def behindL (l : List Nd) (i : Nat) : Option (Nat × Int) := walkB l (l.length + 1) i 0
def pairA : Option (Nat × Int) → AV
  | none => .tup [I (-1), I 0]
  | some (i, c) => .tup [I i, I c]
theorem walkB_none {l : List Nd} {S : List Nat} (h : ∀ v ∈ S, kindAt l v = 0 ∧ nextAt l v 0 ∈ S) : ∀ f v c, v ∈ S → walkB l f v c = none
  | 0, _, _, _ => rfl
  | f + 1, v, c, hv => by
    rw [walkB, if_neg (by simp [(h v hv).1])]
    exact walkB_none h f _ _ (h v hv).2
/-- What a right graph of few events gives. -/
structure Fine (l : List Nd) : Prop where
  len : l.length ≤ 24
  fit : ∀ x ∈ l, x.Fit
  few : ∀ x ∈ l, FewX x
  right : rightB l = true
theorem Fine.ok {l : List Nd} (h : Fine l) {x : Nd} (hx : x ∈ l) : okX l.length x = true := by
  have := h.right
  simp [rightB] at this
  exact this.1 x hx
theorem Fine.bare {l : List Nd} (h : Fine l) {x : Nd} (hx : x ∈ l) : x.s.body.length = 0 ∧ x.s.els.length = 0 ∧ x.s.arms.length = 0 := by
  have := h.ok hx
  simp only [okX, Bool.and_eq_true, decide_eq_true_eq] at this
  exact this.1
theorem Fine.kind {l : List Nd} (h : Fine l) {x : Nd} (hx : x ∈ l) : (0 ≤ x.s.b.kind ∧ x.s.b.kind ≤ 6 ∧ x.next.length = 1) ∨ (x.s.b.kind = 7 ∧ x.next.length = 2) ∨ (x.s.b.kind = 11 ∧ 0 < x.next.length) ∨ (x.s.b.kind = 14 ∧ x.next.length = 0) := by
  have := h.ok hx
  simp only [okX, Bool.and_eq_true, decide_eq_true_eq, kindOk] at this
  exact this.2.1
theorem Fine.inr {l : List Nd} (h : Fine l) {x : Nd} (hx : x ∈ l) : ∀ k ∈ x.next, 0 ≤ k ∧ k < (l.length : Int) := by
  have := h.ok hx
  simp only [okX, Bool.and_eq_true, decide_eq_true_eq, inR, List.all_eq_true] at this
  exact this.2.2
theorem nx_in {l : List Nd} (h : Fine l) {x : Nd} (hx : x ∈ l) (hn : 0 < x.next.length) (c : Nat) : 0 ≤ nx x c ∧ nx x c < (l.length : Int) := by
  unfold nx
  rw [List.getD_eq_getElem?_getD, List.getElem?_eq_getElem (show min c (x.next.length - 1) < x.next.length by omega)]
  exact h.inr hx _ (List.getElem_mem _)
theorem nx_at {x : Nd} (hn : 0 < x.next.length) (c : Nat) : x.next[min c (x.next.length - 1)]? = some (nx x c) := by
  unfold nx
  rw [List.getD_eq_getElem?_getD, List.getElem?_eq_getElem (show min c (x.next.length - 1) < x.next.length by omega)]
  rfl
theorem nextAt_eq {l : List Nd} {i : Nat} {x : Nd} (h : l[i]? = some x) (c : Nat) : nextAt l i c = (nx x c).toNat := by unfold nextAt; rw [h]
theorem kindAt_eq {l : List Nd} {i : Nat} {x : Nd} (h : l[i]? = some x) : kindAt l i = x.s.b.kind := by unfold kindAt; rw [h]
theorem costAt_eq {l : List Nd} {i : Nat} {x : Nd} (h : l[i]? = some x) : costAt l i = x.s.b.cost := by unfold costAt; rw [h]
theorem min_a {c n : Nat} (hn : 0 < n) : foldA minA (I c) [I ((n : Int) - 1)] = some (I ((min c (n - 1) : Nat) : Int)) := by
  simp only [foldA, minA]
  by_cases h : (n : Int) - 1 < (c : Int)
  · rw [if_pos h, show min c (n - 1) = n - 1 by omega]
    congr 4
    omega
  · rw [if_neg h, show min c (n - 1) = c by omega]
theorem c14 (x : Nd) (c : Nat) (hn : 0 < x.next.length) (hl : x.next.length ≤ 40) (hc : c < 9223372036854775807) : PFn E 14 [ndA x, I c] (I (nx x c)) := by
  have w1 : IntKind.i64.wrap ((x.next.length : Int) - 1) = (x.next.length : Int) - 1 := wrap64 (by unfold In64; omega)
  have m1 := min_a (c := c) hn
  have hin : 0 ≤ ((min c (x.next.length - 1) : Nat) : Int) ∧ ((min c (x.next.length - 1) : Nat) : Int) < (x.next.length : Int) := by omega
  have hay := intC_at (nx_at hn c)
  refine pfn_F fn14 (by simp) ?_
  simp only [Go.Proofs.Try.f14, Option.getD_some, List.append_eq, List.cons_append, List.nil_append]
  repeat' (first
    | refine If1.split (fun hb => ?_) (fun hb => ?_)
    | simp (config := { maxSteps := 1000000 }) only [W1_skip, W1_ret, W1_label, W1_exit, W1_seq, W1_cond, W1_block, W1_region, W1_draw, W1_loop, O1_nil, O1_n, O1_s, slotD_s, slotD_z, V1_s, U1_b, U1_u, If1_t, If1_f, If1_not, eqB_tt, eqB_tf, eqB_ft, eqB_ff, X1_eq, H1_f, H1_h, H1_c, how, B1_some, B1_none, B1_ite, D1_b, setT_t, setT_c, T1_n, T1_r, T1_x, K1_n, K1_r, K1_x, FinP_n, FinP_r, bindO_some, RetOk_lit, FinX_n, FinX_r, FinK_n, FinK_r, oneOrTup_1, RetX_lit, getCells, List.set_cons_zero, List.set_cons_succ, putAt, fillA, sizesOf, allTyped, List.all_cons, List.all_nil, Bool.and_self, Bool.true_and, Bool.and_true, Nat.reduceMul, Int.reduceLT, Int.reduceGT, Int.reduceGE, Int.cast_ofNat_Int, Int.reduceLE, Int.reduceToNat, Int.reduceAdd, Int.reduceNeg, Int.reduceEq, Int.reduceBNe, Int.reduceBEq, decide_false, zerosA, List.replicate_succ, List.replicate_zero, List.flatten_cons, List.flatten_nil, Option.isSome_some, dstOk, evRes, evRes1, evFree, evHeap, evA, upd_ne, upd_same, initF, updO_some, updO_none, kindOf, AV.storable, AV.cells, AV.one, Value.oneCell', mode, E_pol, pol, binA, unA, litInt, litBool, litStr, eqA, callee, evArgs, evParts, ne_eq, Nat.reduceEqDiff, Nat.reduceLT, not_false_eq_true, decide_true, if_true, reduceIte, List.take_zero, List.take_succ_cons, List.length_cons, List.length_nil, Nat.reduceAdd, Nat.reduceLeDiff, List.getElem?_cons_zero, List.getElem?_cons_succ, List.getD_cons_zero, List.getD_cons_succ, List.drop_zero, List.drop_succ_cons, List.map_cons, List.map_nil, List.cons_append, List.nil_append, List.append_nil, List.head?_cons, Int.toNat_natCast, Nat.zero_le, and_self, true_and, and_true, Bool.not_true, Bool.not_false, Option.map_some, true_implies, Bool.true_eq_false, Bool.false_eq_true, reduceCtorEq, false_implies, List.mem_cons, List.not_mem_nil, Prod.mk.injEq, false_and, and_false, or_false, false_or, or_true, true_or, if_false, ty3, ty3k, ty3s, ty3t, ty3z, ty3o, ty34, ty34k, ty34s, ty34t, ty34z, ty34o, ty35, ty35k, ty35s, ty35t, ty35z, ty35o, ty37, ty37k, ty37s, ty37t, ty37z, ty37o, cz, w1, m1, hin, hay]
    | refine And.intro (a := drawOk _ _ = true) (by kernel_rfl) ?_
    | (refine id (α := drawOk _ _ = true) ?_; kernel_rfl))
theorem c17 (x : Nd) (c : Nat) (hn : 0 < x.next.length) (hl : x.next.length ≤ 40) (hc : c < 9223372036854775807) : PFn E 17 [ndA x, I c] (I (nx x c)) := by
  have w1 : IntKind.i64.wrap ((x.next.length : Int) - 1) = ((x.next.length - 1 : Nat) : Int) := by rw [wrap64 (by unfold In64; omega)]; omega
  have h1 := nx_at hn c
  refine pfn_F fn17 (by simp) ?_
  simp only [Go.Proofs.Try.f17, Option.getD_some, List.append_eq, List.cons_append, List.nil_append]
  by_cases hcl : c < x.next.length
  · rw [show min c (x.next.length - 1) = c by omega] at h1
    have d1 : decide ((c : Int) ≥ (x.next.length : Int)) = false := by simp; omega
    have hin : 0 ≤ (c : Int) ∧ (c : Int) < (x.next.length : Int) := by omega
    have hay := intC_at h1
    repeat' (first
      | refine If1.split (fun hb => ?_) (fun hb => ?_)
      | simp (config := { maxSteps := 1000000 }) only [W1_skip, W1_ret, W1_label, W1_exit, W1_seq, W1_cond, W1_block, W1_region, W1_draw, W1_loop, O1_nil, O1_n, O1_s, slotD_s, slotD_z, V1_s, U1_b, U1_u, If1_t, If1_f, If1_not, eqB_tt, eqB_tf, eqB_ft, eqB_ff, X1_eq, H1_f, H1_h, H1_c, how, B1_some, B1_none, B1_ite, D1_b, setT_t, setT_c, T1_n, T1_r, T1_x, K1_n, K1_r, K1_x, FinP_n, FinP_r, bindO_some, RetOk_lit, FinX_n, FinX_r, FinK_n, FinK_r, oneOrTup_1, RetX_lit, getCells, List.set_cons_zero, List.set_cons_succ, putAt, fillA, sizesOf, allTyped, List.all_cons, List.all_nil, Bool.and_self, Bool.true_and, Bool.and_true, Nat.reduceMul, Int.reduceLT, Int.reduceGT, Int.reduceGE, Int.cast_ofNat_Int, Int.reduceLE, Int.reduceToNat, Int.reduceAdd, Int.reduceNeg, Int.reduceEq, Int.reduceBNe, Int.reduceBEq, decide_false, zerosA, List.replicate_succ, List.replicate_zero, List.flatten_cons, List.flatten_nil, Option.isSome_some, dstOk, evRes, evRes1, evFree, evHeap, evA, upd_ne, upd_same, initF, updO_some, updO_none, kindOf, AV.storable, AV.cells, AV.one, Value.oneCell', mode, E_pol, pol, binA, unA, litInt, litBool, litStr, eqA, callee, evArgs, evParts, ne_eq, Nat.reduceEqDiff, Nat.reduceLT, not_false_eq_true, decide_true, if_true, reduceIte, List.take_zero, List.take_succ_cons, List.length_cons, List.length_nil, Nat.reduceAdd, Nat.reduceLeDiff, List.getElem?_cons_zero, List.getElem?_cons_succ, List.getD_cons_zero, List.getD_cons_succ, List.drop_zero, List.drop_succ_cons, List.map_cons, List.map_nil, List.cons_append, List.nil_append, List.append_nil, List.head?_cons, Int.toNat_natCast, Nat.zero_le, and_self, true_and, and_true, Bool.not_true, Bool.not_false, Option.map_some, true_implies, Bool.true_eq_false, Bool.false_eq_true, reduceCtorEq, false_implies, List.mem_cons, List.not_mem_nil, Prod.mk.injEq, false_and, and_false, or_false, false_or, or_true, true_or, if_false, ty3, ty3k, ty3s, ty3t, ty3z, ty3o, ty34, ty34k, ty34s, ty34t, ty34z, ty34o, ty35, ty35k, ty35s, ty35t, ty35z, ty35o, ty37, ty37k, ty37s, ty37t, ty37z, ty37o, cz, d1, hin, hay]
      | refine And.intro (a := drawOk _ _ = true) (by kernel_rfl) ?_
      | (refine id (α := drawOk _ _ = true) ?_; kernel_rfl))
  · rw [show min c (x.next.length - 1) = x.next.length - 1 by omega] at h1
    have d1 : decide ((c : Int) ≥ (x.next.length : Int)) = true := by simp; omega
    have hin : 0 ≤ ((x.next.length - 1 : Nat) : Int) ∧ ((x.next.length - 1 : Nat) : Int) < (x.next.length : Int) := by omega
    have hay := intC_at h1
    repeat' (first
      | refine If1.split (fun hb => ?_) (fun hb => ?_)
      | simp (config := { maxSteps := 1000000 }) only [W1_skip, W1_ret, W1_label, W1_exit, W1_seq, W1_cond, W1_block, W1_region, W1_draw, W1_loop, O1_nil, O1_n, O1_s, slotD_s, slotD_z, V1_s, U1_b, U1_u, If1_t, If1_f, If1_not, eqB_tt, eqB_tf, eqB_ft, eqB_ff, X1_eq, H1_f, H1_h, H1_c, how, B1_some, B1_none, B1_ite, D1_b, setT_t, setT_c, T1_n, T1_r, T1_x, K1_n, K1_r, K1_x, FinP_n, FinP_r, bindO_some, RetOk_lit, FinX_n, FinX_r, FinK_n, FinK_r, oneOrTup_1, RetX_lit, getCells, List.set_cons_zero, List.set_cons_succ, putAt, fillA, sizesOf, allTyped, List.all_cons, List.all_nil, Bool.and_self, Bool.true_and, Bool.and_true, Nat.reduceMul, Int.reduceLT, Int.reduceGT, Int.reduceGE, Int.cast_ofNat_Int, Int.reduceLE, Int.reduceToNat, Int.reduceAdd, Int.reduceNeg, Int.reduceEq, Int.reduceBNe, Int.reduceBEq, decide_false, zerosA, List.replicate_succ, List.replicate_zero, List.flatten_cons, List.flatten_nil, Option.isSome_some, dstOk, evRes, evRes1, evFree, evHeap, evA, upd_ne, upd_same, initF, updO_some, updO_none, kindOf, AV.storable, AV.cells, AV.one, Value.oneCell', mode, E_pol, pol, binA, unA, litInt, litBool, litStr, eqA, callee, evArgs, evParts, ne_eq, Nat.reduceEqDiff, Nat.reduceLT, not_false_eq_true, decide_true, if_true, reduceIte, List.take_zero, List.take_succ_cons, List.length_cons, List.length_nil, Nat.reduceAdd, Nat.reduceLeDiff, List.getElem?_cons_zero, List.getElem?_cons_succ, List.getD_cons_zero, List.getD_cons_succ, List.drop_zero, List.drop_succ_cons, List.map_cons, List.map_nil, List.cons_append, List.nil_append, List.append_nil, List.head?_cons, Int.toNat_natCast, Nat.zero_le, and_self, true_and, and_true, Bool.not_true, Bool.not_false, Option.map_some, true_implies, Bool.true_eq_false, Bool.false_eq_true, reduceCtorEq, false_implies, List.mem_cons, List.not_mem_nil, Prod.mk.injEq, false_and, and_false, or_false, false_or, or_true, true_or, if_false, ty3, ty3k, ty3s, ty3t, ty3z, ty3o, ty34, ty34k, ty34s, ty34t, ty34z, ty34o, ty35, ty35k, ty35s, ty35t, ty35z, ty35o, ty37, ty37k, ty37s, ty37t, ty37z, ty37o, cz, d1, w1, hin, hay]
      | refine And.intro (a := drawOk _ _ = true) (by kernel_rfl) ?_
      | (refine id (α := drawOk _ _ = true) ?_; kernel_rfl))
theorem walkB_cost {l : List Nd} (h : Fine l) : ∀ f i (c : Int), 0 ≤ c → i < l.length → ∀ p d, walkB l f i c = some (p, d) → p < l.length ∧ kindAt l p ≠ 0
  | 0, _, _, _, _, _, _, he => by simp [walkB] at he
  | f + 1, i, c, hc, hi, p, d, he => by
    have hx : l[i]? = some l[i] := by simp [hi]
    have hm := List.getElem_mem hi
    rw [walkB] at he
    split at he
    · rename_i hk
      simp at he
      obtain ⟨rfl, _⟩ := he
      exact ⟨hi, hk⟩
    · rename_i hk
      have hk0 : l[i].s.b.kind = 0 := by rw [kindAt_eq hx] at hk; simpa using hk
      have hn : 0 < l[i].next.length := by have := h.kind hm; omega
      have := nx_in h hm hn 0
      have h2 := (h.few _ hm).2.1
      rw [nextAt_eq hx] at he
      exact walkB_cost h f _ _ (by rw [costAt_eq hx]; omega) (by omega) p d he
set_option maxHeartbeats 2000000 in
theorem c15 (l : List Nd) (h : Fine l) (i : Nat) (hi : i < l.length) : PFn E 15 [ndsA l, I i] (pairA (behindL l i)) := by
  have hlen := h.len
  refine pfn_F fn15 (by simp) ?_
  simp only [Go.Proofs.Try.f15, Option.getD_some, List.append_eq, List.cons_append, List.nil_append]
  repeat' (first
    | refine If1.split (fun hb => ?_) (fun hb => ?_)
    | simp (config := { maxSteps := 1000000 }) only [W1_skip, W1_ret, W1_label, W1_exit, W1_seq, W1_cond, W1_block, W1_region, W1_draw, W1_loop, O1_nil, O1_n, O1_s, slotD_s, slotD_z, V1_s, U1_b, U1_u, If1_t, If1_f, If1_not, eqB_tt, eqB_tf, eqB_ft, eqB_ff, X1_eq, H1_f, H1_h, H1_c, how, B1_some, B1_none, B1_ite, D1_b, setT_t, setT_c, T1_n, T1_r, T1_x, K1_n, K1_r, K1_x, FinP_n, FinP_r, bindO_some, RetOk_lit, FinX_n, FinX_r, FinK_n, FinK_r, oneOrTup_1, RetX_lit, getCells, List.set_cons_zero, List.set_cons_succ, putAt, fillA, sizesOf, allTyped, List.all_cons, List.all_nil, Bool.and_self, Bool.true_and, Bool.and_true, Nat.reduceMul, Int.reduceLT, Int.reduceGT, Int.reduceGE, Int.cast_ofNat_Int, Int.reduceLE, Int.reduceToNat, Int.reduceAdd, Int.reduceNeg, Int.reduceEq, Int.reduceBNe, Int.reduceBEq, decide_false, zerosA, List.replicate_succ, List.replicate_zero, List.flatten_cons, List.flatten_nil, Option.isSome_some, dstOk, evRes, evRes1, evFree, evHeap, evA, upd_ne, upd_same, initF, updO_some, updO_none, kindOf, AV.storable, AV.cells, AV.one, Value.oneCell', mode, E_pol, pol, binA, unA, litInt, litBool, litStr, eqA, callee, evArgs, evParts, ne_eq, Nat.reduceEqDiff, Nat.reduceLT, not_false_eq_true, decide_true, if_true, reduceIte, List.take_zero, List.take_succ_cons, List.length_cons, List.length_nil, Nat.reduceAdd, Nat.reduceLeDiff, List.getElem?_cons_zero, List.getElem?_cons_succ, List.getD_cons_zero, List.getD_cons_succ, List.drop_zero, List.drop_succ_cons, List.map_cons, List.map_nil, List.cons_append, List.nil_append, List.append_nil, List.head?_cons, Int.toNat_natCast, Nat.zero_le, and_self, true_and, and_true, Bool.not_true, Bool.not_false, Option.map_some, true_implies, Bool.true_eq_false, Bool.false_eq_true, reduceCtorEq, false_implies, List.mem_cons, List.not_mem_nil, Prod.mk.injEq, false_and, and_false, or_false, false_or, or_true, true_or, if_false, ty3, ty3k, ty3s, ty3t, ty3z, ty3o, ty22, ty22k, ty22s, ty22t, ty22z, ty22o, ty27, ty27k, ty27s, ty27t, ty27z, ty27o, ty29, ty29k, ty29s, ty29t, ty29z, ty29o, ty30, ty30k, ty30s, ty30t, ty30z, ty30o, ty31, ty31k, ty31s, ty31t, ty31z, ty31o, ty32, ty32k, ty32s, ty32t, ty32z, ty32o, ty34, ty34k, ty34s, ty34t, ty34z, ty34o, ty35, ty35k, ty35s, ty35t, ty35z, ty35o, ty37, ty37k, ty37s, ty37t, ty37z, ty37o, cz]
    | refine And.intro (a := drawOk _ _ = true) (by kernel_rfl) ?_
    | (refine id (α := drawOk _ _ = true) ?_; kernel_rfl))
  refine L1_up (l.length + 1) (fun t fr hh => fr 0 = ndsA l ∧ fr 7 = I t ∧ ∃ (p : Nat) (c : Int), fr 1 = I p ∧ fr 6 = I c ∧ p < l.length ∧ 0 ≤ c ∧ c ≤ t * 1048576 ∧ walkB l (l.length + 1 - t) p c = behindL l i) ?_ ?_ 0 (Nat.zero_le _) _ _ ?_
  · rintro t ht fr hh ⟨f0, f7, p, c, f1, f6, hp, hc0, hc1, hw⟩
    have hx : l[p]? = some l[p] := by simp [hp]
    have hm := List.getElem_mem hp
    obtain ⟨q1, q2, q3, _⟩ := h.few _ hm
    have hle : decide ((t : Int) ≤ (l.length : Int)) = true := by simp; omega
    have hin : 0 ≤ (p : Int) ∧ (p : Int) < (l.length : Int) := by omega
    have hwt : IntKind.i64.wrap ((t : Int) + 1) = ((t + 1 : Nat) : Int) := by rw [wrap64 (by unfold In64; omega)]; simp
    have hwc : IntKind.i64.wrap (c + l[p].s.b.cost) = c + l[p].s.b.cost := wrap64 (by unfold In64; omega)
    have hax := Nd.at hx
    rw [show l.length + 1 - t = (l.length - t) + 1 by omega, walkB, kindAt_eq hx, costAt_eq hx] at hw
    by_cases hk : l[p].s.b.kind = 0
    · have d1 : (l[p].s.b.kind != 0) = false := by simp [hk]
      have hn : 0 < l[p].next.length := by have := h.kind hm; omega
      have hni := nx_in h hm hn 0
      have h0 := nx_at hn 0
      rw [Nat.zero_min] at h0
      have hay := intC_at h0
      rw [Nat.zero_mul, List.drop_zero] at hay
      have hin0 : 0 ≤ (0 : Int) ∧ (0 : Int) < (l[p].next.length : Int) := by omega
      rw [if_neg (by simp [hk]), nextAt_eq hx] at hw
      repeat' (first
        | refine If1.split (fun hb => ?_) (fun hb => ?_)
        | simp (config := { maxSteps := 1000000 }) only [W1_skip, W1_ret, W1_label, W1_exit, W1_seq, W1_cond, W1_block, W1_region, W1_draw, W1_loop, O1_nil, O1_n, O1_s, slotD_s, slotD_z, V1_s, U1_b, U1_u, If1_t, If1_f, If1_not, eqB_tt, eqB_tf, eqB_ft, eqB_ff, X1_eq, H1_f, H1_h, H1_c, how, B1_some, B1_none, B1_ite, D1_b, setT_t, setT_c, T1_n, T1_r, T1_x, K1_n, K1_r, K1_x, FinP_n, FinP_r, bindO_some, RetOk_lit, FinX_n, FinX_r, FinK_n, FinK_r, oneOrTup_1, RetX_lit, getCells, List.set_cons_zero, List.set_cons_succ, putAt, fillA, sizesOf, allTyped, List.all_cons, List.all_nil, Bool.and_self, Bool.true_and, Bool.and_true, Nat.reduceMul, Int.reduceLT, Int.reduceGT, Int.reduceGE, Int.cast_ofNat_Int, Int.reduceLE, Int.reduceToNat, Int.reduceAdd, Int.reduceNeg, Int.reduceEq, Int.reduceBNe, Int.reduceBEq, decide_false, zerosA, List.replicate_succ, List.replicate_zero, List.flatten_cons, List.flatten_nil, Option.isSome_some, dstOk, evRes, evRes1, evFree, evHeap, evA, upd_ne, upd_same, initF, updO_some, updO_none, kindOf, AV.storable, AV.cells, AV.one, Value.oneCell', mode, E_pol, pol, binA, unA, litInt, litBool, litStr, eqA, callee, evArgs, evParts, ne_eq, Nat.reduceEqDiff, Nat.reduceLT, not_false_eq_true, decide_true, if_true, reduceIte, List.take_zero, List.take_succ_cons, List.length_cons, List.length_nil, Nat.reduceAdd, Nat.reduceLeDiff, List.getElem?_cons_zero, List.getElem?_cons_succ, List.getD_cons_zero, List.getD_cons_succ, List.drop_zero, List.drop_succ_cons, List.map_cons, List.map_nil, List.cons_append, List.nil_append, List.append_nil, List.head?_cons, Int.toNat_natCast, Nat.zero_le, and_self, true_and, and_true, Bool.not_true, Bool.not_false, Option.map_some, true_implies, Bool.true_eq_false, Bool.false_eq_true, reduceCtorEq, false_implies, List.mem_cons, List.not_mem_nil, Prod.mk.injEq, false_and, and_false, or_false, false_or, or_true, true_or, if_false, ty3, ty3k, ty3s, ty3t, ty3z, ty3o, ty22, ty22k, ty22s, ty22t, ty22z, ty22o, ty27, ty27k, ty27s, ty27t, ty27z, ty27o, ty29, ty29k, ty29s, ty29t, ty29z, ty29o, ty30, ty30k, ty30s, ty30t, ty30z, ty30o, ty31, ty31k, ty31s, ty31t, ty31z, ty31o, ty32, ty32k, ty32s, ty32t, ty32z, ty32o, ty34, ty34k, ty34s, ty34t, ty34z, ty34o, ty35, ty35k, ty35s, ty35t, ty35z, ty35o, ty37, ty37k, ty37s, ty37t, ty37z, ty37o, f0, f1, f6, f7, hle, hin, hwt, hwc, hax, d1, hay, hin0, Nat.zero_mul]
        | refine And.intro (a := drawOk _ _ = true) (by kernel_rfl) ?_
        | (refine id (α := drawOk _ _ = true) ?_; kernel_rfl))
      refine ⟨(nx l[p] 0).toNat, c + l[p].s.b.cost, ?_, rfl, by omega, by omega, by omega, ?_⟩
      · simp only [Int.toNat_of_nonneg hni.1]
      · rw [show l.length + 1 - (t + 1) = l.length - t by omega]; exact hw
    · have d1 : (l[p].s.b.kind != 0) = true := by simp [hk]
      rw [if_pos hk] at hw
      rw [← hw]
      repeat' (first
        | refine If1.split (fun hb => ?_) (fun hb => ?_)
        | simp (config := { maxSteps := 1000000 }) only [W1_skip, W1_ret, W1_label, W1_exit, W1_seq, W1_cond, W1_block, W1_region, W1_draw, W1_loop, O1_nil, O1_n, O1_s, slotD_s, slotD_z, V1_s, U1_b, U1_u, If1_t, If1_f, If1_not, eqB_tt, eqB_tf, eqB_ft, eqB_ff, X1_eq, H1_f, H1_h, H1_c, how, B1_some, B1_none, B1_ite, D1_b, setT_t, setT_c, T1_n, T1_r, T1_x, K1_n, K1_r, K1_x, FinP_n, FinP_r, bindO_some, RetOk_lit, FinX_n, FinX_r, FinK_n, FinK_r, oneOrTup_1, RetX_lit, getCells, List.set_cons_zero, List.set_cons_succ, putAt, fillA, sizesOf, allTyped, List.all_cons, List.all_nil, Bool.and_self, Bool.true_and, Bool.and_true, Nat.reduceMul, Int.reduceLT, Int.reduceGT, Int.reduceGE, Int.cast_ofNat_Int, Int.reduceLE, Int.reduceToNat, Int.reduceAdd, Int.reduceNeg, Int.reduceEq, Int.reduceBNe, Int.reduceBEq, decide_false, zerosA, List.replicate_succ, List.replicate_zero, List.flatten_cons, List.flatten_nil, Option.isSome_some, dstOk, evRes, evRes1, evFree, evHeap, evA, upd_ne, upd_same, initF, updO_some, updO_none, kindOf, AV.storable, AV.cells, AV.one, Value.oneCell', mode, E_pol, pol, binA, unA, litInt, litBool, litStr, eqA, callee, evArgs, evParts, ne_eq, Nat.reduceEqDiff, Nat.reduceLT, not_false_eq_true, decide_true, if_true, reduceIte, List.take_zero, List.take_succ_cons, List.length_cons, List.length_nil, Nat.reduceAdd, Nat.reduceLeDiff, List.getElem?_cons_zero, List.getElem?_cons_succ, List.getD_cons_zero, List.getD_cons_succ, List.drop_zero, List.drop_succ_cons, List.map_cons, List.map_nil, List.cons_append, List.nil_append, List.append_nil, List.head?_cons, Int.toNat_natCast, Nat.zero_le, and_self, true_and, and_true, Bool.not_true, Bool.not_false, Option.map_some, true_implies, Bool.true_eq_false, Bool.false_eq_true, reduceCtorEq, false_implies, List.mem_cons, List.not_mem_nil, Prod.mk.injEq, false_and, and_false, or_false, false_or, or_true, true_or, if_false, ty3, ty3k, ty3s, ty3t, ty3z, ty3o, ty22, ty22k, ty22s, ty22t, ty22z, ty22o, ty27, ty27k, ty27s, ty27t, ty27z, ty27o, ty29, ty29k, ty29s, ty29t, ty29z, ty29o, ty30, ty30k, ty30s, ty30t, ty30z, ty30o, ty31, ty31k, ty31s, ty31t, ty31z, ty31o, ty32, ty32k, ty32s, ty32t, ty32z, ty32o, ty34, ty34k, ty34s, ty34t, ty34z, ty34o, ty35, ty35k, ty35s, ty35t, ty35z, ty35o, ty37, ty37k, ty37s, ty37t, ty37z, ty37o, f0, f1, f6, f7, hle, hin, hwt, hwc, hax, d1]
        | refine And.intro (a := drawOk _ _ = true) (by kernel_rfl) ?_
        | (refine id (α := drawOk _ _ = true) ?_; kernel_rfl))
      exact RetOk_closed rfl rfl
  · rintro fr hh ⟨f0, f7, p, c, f1, f6, hp, hc0, hc1, hw⟩
    have hle : decide (((l.length + 1 : Nat) : Int) ≤ (l.length : Int)) = false := by simp; omega
    rw [show l.length + 1 - (l.length + 1) = 0 by omega, walkB] at hw
    rw [← hw]
    repeat' (first
      | refine If1.split (fun hb => ?_) (fun hb => ?_)
      | simp (config := { maxSteps := 1000000 }) only [W1_skip, W1_ret, W1_label, W1_exit, W1_seq, W1_cond, W1_block, W1_region, W1_draw, W1_loop, O1_nil, O1_n, O1_s, slotD_s, slotD_z, V1_s, U1_b, U1_u, If1_t, If1_f, If1_not, eqB_tt, eqB_tf, eqB_ft, eqB_ff, X1_eq, H1_f, H1_h, H1_c, how, B1_some, B1_none, B1_ite, D1_b, setT_t, setT_c, T1_n, T1_r, T1_x, K1_n, K1_r, K1_x, FinP_n, FinP_r, bindO_some, RetOk_lit, FinX_n, FinX_r, FinK_n, FinK_r, oneOrTup_1, RetX_lit, getCells, List.set_cons_zero, List.set_cons_succ, putAt, fillA, sizesOf, allTyped, List.all_cons, List.all_nil, Bool.and_self, Bool.true_and, Bool.and_true, Nat.reduceMul, Int.reduceLT, Int.reduceGT, Int.reduceGE, Int.cast_ofNat_Int, Int.reduceLE, Int.reduceToNat, Int.reduceAdd, Int.reduceNeg, Int.reduceEq, Int.reduceBNe, Int.reduceBEq, decide_false, zerosA, List.replicate_succ, List.replicate_zero, List.flatten_cons, List.flatten_nil, Option.isSome_some, dstOk, evRes, evRes1, evFree, evHeap, evA, upd_ne, upd_same, initF, updO_some, updO_none, kindOf, AV.storable, AV.cells, AV.one, Value.oneCell', mode, E_pol, pol, binA, unA, litInt, litBool, litStr, eqA, callee, evArgs, evParts, ne_eq, Nat.reduceEqDiff, Nat.reduceLT, not_false_eq_true, decide_true, if_true, reduceIte, List.take_zero, List.take_succ_cons, List.length_cons, List.length_nil, Nat.reduceAdd, Nat.reduceLeDiff, List.getElem?_cons_zero, List.getElem?_cons_succ, List.getD_cons_zero, List.getD_cons_succ, List.drop_zero, List.drop_succ_cons, List.map_cons, List.map_nil, List.cons_append, List.nil_append, List.append_nil, List.head?_cons, Int.toNat_natCast, Nat.zero_le, and_self, true_and, and_true, Bool.not_true, Bool.not_false, Option.map_some, true_implies, Bool.true_eq_false, Bool.false_eq_true, reduceCtorEq, false_implies, List.mem_cons, List.not_mem_nil, Prod.mk.injEq, false_and, and_false, or_false, false_or, or_true, true_or, if_false, ty3, ty3k, ty3s, ty3t, ty3z, ty3o, ty22, ty22k, ty22s, ty22t, ty22z, ty22o, ty27, ty27k, ty27s, ty27t, ty27z, ty27o, ty29, ty29k, ty29s, ty29t, ty29z, ty29o, ty30, ty30k, ty30s, ty30t, ty30z, ty30o, ty31, ty31k, ty31s, ty31t, ty31z, ty31o, ty32, ty32k, ty32s, ty32t, ty32z, ty32o, ty34, ty34k, ty34s, ty34t, ty34z, ty34o, ty35, ty35k, ty35s, ty35t, ty35z, ty35o, ty37, ty37k, ty37s, ty37t, ty37z, ty37o, f0, f1, f6, f7, hle]
      | refine And.intro (a := drawOk _ _ = true) (by kernel_rfl) ?_
      | (refine id (α := drawOk _ _ = true) ?_; kernel_rfl))
    exact RetOk_closed rfl rfl
  · repeat' (first
      | refine If1.split (fun hb => ?_) (fun hb => ?_)
      | simp (config := { maxSteps := 1000000 }) only [W1_skip, W1_ret, W1_label, W1_exit, W1_seq, W1_cond, W1_block, W1_region, W1_draw, W1_loop, O1_nil, O1_n, O1_s, slotD_s, slotD_z, V1_s, U1_b, U1_u, If1_t, If1_f, If1_not, eqB_tt, eqB_tf, eqB_ft, eqB_ff, X1_eq, H1_f, H1_h, H1_c, how, B1_some, B1_none, B1_ite, D1_b, setT_t, setT_c, T1_n, T1_r, T1_x, K1_n, K1_r, K1_x, FinP_n, FinP_r, bindO_some, RetOk_lit, FinX_n, FinX_r, FinK_n, FinK_r, oneOrTup_1, RetX_lit, getCells, List.set_cons_zero, List.set_cons_succ, putAt, fillA, sizesOf, allTyped, List.all_cons, List.all_nil, Bool.and_self, Bool.true_and, Bool.and_true, Nat.reduceMul, Int.reduceLT, Int.reduceGT, Int.reduceGE, Int.cast_ofNat_Int, Int.reduceLE, Int.reduceToNat, Int.reduceAdd, Int.reduceNeg, Int.reduceEq, Int.reduceBNe, Int.reduceBEq, decide_false, zerosA, List.replicate_succ, List.replicate_zero, List.flatten_cons, List.flatten_nil, Option.isSome_some, dstOk, evRes, evRes1, evFree, evHeap, evA, upd_ne, upd_same, initF, updO_some, updO_none, kindOf, AV.storable, AV.cells, AV.one, Value.oneCell', mode, E_pol, pol, binA, unA, litInt, litBool, litStr, eqA, callee, evArgs, evParts, ne_eq, Nat.reduceEqDiff, Nat.reduceLT, not_false_eq_true, decide_true, if_true, reduceIte, List.take_zero, List.take_succ_cons, List.length_cons, List.length_nil, Nat.reduceAdd, Nat.reduceLeDiff, List.getElem?_cons_zero, List.getElem?_cons_succ, List.getD_cons_zero, List.getD_cons_succ, List.drop_zero, List.drop_succ_cons, List.map_cons, List.map_nil, List.cons_append, List.nil_append, List.append_nil, List.head?_cons, Int.toNat_natCast, Nat.zero_le, and_self, true_and, and_true, Bool.not_true, Bool.not_false, Option.map_some, true_implies, Bool.true_eq_false, Bool.false_eq_true, reduceCtorEq, false_implies, List.mem_cons, List.not_mem_nil, Prod.mk.injEq, false_and, and_false, or_false, false_or, or_true, true_or, if_false, ty3, ty3k, ty3s, ty3t, ty3z, ty3o, ty22, ty22k, ty22s, ty22t, ty22z, ty22o, ty27, ty27k, ty27s, ty27t, ty27z, ty27o, ty29, ty29k, ty29s, ty29t, ty29z, ty29o, ty30, ty30k, ty30s, ty30t, ty30z, ty30o, ty31, ty31k, ty31s, ty31t, ty31z, ty31o, ty32, ty32k, ty32s, ty32t, ty32z, ty32o, ty34, ty34k, ty34s, ty34t, ty34z, ty34o, ty35, ty35k, ty35s, ty35t, ty35z, ty35o, ty37, ty37k, ty37s, ty37t, ty37z, ty37o, cz]
      | refine And.intro (a := drawOk _ _ = true) (by kernel_rfl) ?_
      | (refine id (α := drawOk _ _ = true) ?_; kernel_rfl))
    exact ⟨i, 0, rfl, rfl, hi, by omega, by omega, rfl⟩
set_option maxHeartbeats 2000000 in
theorem c12 (l : List Nd) (h : Fine l) (i : Nat) (hi : i < l.length) : PFn E 12 [ndsA l, I i] (pairA (behindL l i)) := by
  have hlen := h.len
  have k21 := c21 l.length (by omega) (by omega)
  refine pfn_F fn12 (by simp) ?_
  simp only [Go.Proofs.Try.f12, Option.getD_some, List.append_eq, List.cons_append, List.nil_append]
  repeat' (first
    | refine If1.split (fun hb => ?_) (fun hb => ?_)
    | refine C1.pure (k21) (by simp [AV.closedL, AV.closed, ints_closed, ex_closed, ag_closed, sm_closed, arm_closed, nd_closed]) ?_
    | simp (config := { maxSteps := 1000000 }) only [W1_skip, W1_ret, W1_label, W1_exit, W1_seq, W1_cond, W1_block, W1_region, W1_draw, W1_loop, O1_nil, O1_n, O1_s, slotD_s, slotD_z, V1_s, U1_b, U1_u, If1_t, If1_f, If1_not, eqB_tt, eqB_tf, eqB_ft, eqB_ff, X1_eq, H1_f, H1_h, H1_c, how, B1_some, B1_none, B1_ite, D1_b, setT_t, setT_c, T1_n, T1_r, T1_x, K1_n, K1_r, K1_x, FinP_n, FinP_r, bindO_some, RetOk_lit, FinX_n, FinX_r, FinK_n, FinK_r, oneOrTup_1, RetX_lit, getCells, List.set_cons_zero, List.set_cons_succ, putAt, fillA, sizesOf, allTyped, List.all_cons, List.all_nil, Bool.and_self, Bool.true_and, Bool.and_true, Nat.reduceMul, Int.reduceLT, Int.reduceGT, Int.reduceGE, Int.cast_ofNat_Int, Int.reduceLE, Int.reduceToNat, Int.reduceAdd, Int.reduceNeg, Int.reduceEq, Int.reduceBNe, Int.reduceBEq, decide_false, zerosA, List.replicate_succ, List.replicate_zero, List.flatten_cons, List.flatten_nil, Option.isSome_some, dstOk, evRes, evRes1, evFree, evHeap, evA, upd_ne, upd_same, initF, updO_some, updO_none, kindOf, AV.storable, AV.cells, AV.one, Value.oneCell', mode, E_pol, pol, binA, unA, litInt, litBool, litStr, eqA, callee, evArgs, evParts, ne_eq, Nat.reduceEqDiff, Nat.reduceLT, not_false_eq_true, decide_true, if_true, reduceIte, List.take_zero, List.take_succ_cons, List.length_cons, List.length_nil, Nat.reduceAdd, Nat.reduceLeDiff, List.getElem?_cons_zero, List.getElem?_cons_succ, List.getD_cons_zero, List.getD_cons_succ, List.drop_zero, List.drop_succ_cons, List.map_cons, List.map_nil, List.cons_append, List.nil_append, List.append_nil, List.head?_cons, Int.toNat_natCast, Nat.zero_le, and_self, true_and, and_true, Bool.not_true, Bool.not_false, Option.map_some, true_implies, Bool.true_eq_false, Bool.false_eq_true, reduceCtorEq, false_implies, List.mem_cons, List.not_mem_nil, Prod.mk.injEq, false_and, and_false, or_false, false_or, or_true, true_or, if_false, ty3, ty3k, ty3s, ty3t, ty3z, ty3o, ty22, ty22k, ty22s, ty22t, ty22z, ty22o, ty27, ty27k, ty27s, ty27t, ty27z, ty27o, ty29, ty29k, ty29s, ty29t, ty29z, ty29o, ty30, ty30k, ty30s, ty30t, ty30z, ty30o, ty31, ty31k, ty31s, ty31t, ty31z, ty31o, ty32, ty32k, ty32s, ty32t, ty32z, ty32o, ty34, ty34k, ty34s, ty34t, ty34z, ty34o, ty35, ty35k, ty35s, ty35t, ty35z, ty35o, ty37, ty37k, ty37s, ty37t, ty37z, ty37o, ty57, ty57k, ty57s, ty57t, ty57z, ty57o, ty59, ty59k, ty59s, ty59t, ty59z, ty59o, cz, at_end, set_end]
    | refine And.intro (a := drawOk _ _ = true) (by kernel_rfl) ?_
    | (refine id (α := drawOk _ _ = true) ?_; kernel_rfl))
  refine L1_wf (fun k fr hh => fr 0 = ndsA l ∧ fr 7 = .mp 0 0 0 ∧ ∃ (vs : List Nat) (w p : Nat) (c : Int), k = l.length + 1 - vs.length ∧ fr 1 = I p ∧ fr 6 = I c ∧ p < l.length ∧ 0 ≤ c ∧ c ≤ vs.length * 1048576 ∧ walkB l (l.length + 1 - vs.length) p c = behindL l i ∧
    hh[0]? = some (.cells 0 [I l.length, .ro 1 [U w]]) ∧ w < 18446744073709551616 ∧ (∀ j, w.testBit j = decide (j ∈ vs)) ∧ vs.Nodup ∧ (∀ v ∈ vs, v < l.length ∧ kindAt l v = 0 ∧ (nextAt l v 0 ∈ vs ∨ nextAt l v 0 = p))) ?_ (l.length + 1) _ _ ?_
  · rintro k fr hh ⟨f0, f7, vs, w, p, c, hk, f1, f6, hp, hc0, hc1, hw, hm0, hw64, hbits, hnd, hvs⟩
    have hx : l[p]? = some l[p] := by simp [hp]
    have hm := List.getElem_mem hp
    obtain ⟨q1, q2, q3, _⟩ := h.few _ hm
    have hvl : vs.length ≤ l.length := by
      have := hnd.length_le_of_subset (l₂ := List.range l.length) fun v hv => by simp; exact (hvs v hv).1
      simpa using this
    have hin : 0 ≤ (p : Int) ∧ (p : Int) < (l.length : Int) := by omega
    have hwc : IntKind.i64.wrap (c + l[p].s.b.cost) = c + l[p].s.b.cost := wrap64 (by unfold In64; omega)
    have hax := Nd.at hx
    have hws := hw
    rw [show l.length + 1 - vs.length = (l.length - vs.length) + 1 by omega, walkB, kindAt_eq hx, costAt_eq hx] at hw
    by_cases hk : l[p].s.b.kind = 0
    · have d1 : (l[p].s.b.kind == 0) = true := by simp [hk]
      have hn : 0 < l[p].next.length := by have := h.kind hm; omega
      have hni := nx_in h hm hn 0
      have h0 := nx_at hn 0
      rw [Nat.zero_min] at h0
      have hay := intC_at h0
      rw [Nat.zero_mul, List.drop_zero] at hay
      have hin0 : 0 ≤ (0 : Int) ∧ (0 : Int) < (l[p].next.length : Int) := by omega
      have k22 := c22 l.length w p hp (by omega) hw64
      have k23 := c23 l.length w p hp (by omega) hw64
      have hs0 : ∀ y, (hh.set 0 y)[0]? = some y := fun y => set_self hm0
      by_cases hv : p ∈ vs
      · have hb1 : w.testBit p = true := by rw [hbits]; simp [hv]
        have : behindL l i = none := by
          rw [← hws]
          refine walkB_none (S := vs) (fun v hv' => ⟨(hvs v hv').2.1, ?_⟩) _ _ _ hv
          rcases (hvs v hv').2.2 with g | g
          · exact g
          · rw [g]; exact hv
        rw [this]
        repeat' (first
          | refine If1.split (fun hb => ?_) (fun hb => ?_)
          | refine C1.pure (k22) (by simp [AV.closedL, AV.closed, ints_closed, ex_closed, ag_closed, sm_closed, arm_closed, nd_closed]) ?_
          | simp (config := { maxSteps := 1000000 }) only [W1_skip, W1_ret, W1_label, W1_exit, W1_seq, W1_cond, W1_block, W1_region, W1_draw, W1_loop, O1_nil, O1_n, O1_s, slotD_s, slotD_z, V1_s, U1_b, U1_u, If1_t, If1_f, If1_not, eqB_tt, eqB_tf, eqB_ft, eqB_ff, X1_eq, H1_f, H1_h, H1_c, how, B1_some, B1_none, B1_ite, D1_b, setT_t, setT_c, T1_n, T1_r, T1_x, K1_n, K1_r, K1_x, FinP_n, FinP_r, bindO_some, RetOk_lit, FinX_n, FinX_r, FinK_n, FinK_r, oneOrTup_1, RetX_lit, getCells, List.set_cons_zero, List.set_cons_succ, putAt, fillA, sizesOf, allTyped, List.all_cons, List.all_nil, Bool.and_self, Bool.true_and, Bool.and_true, Nat.reduceMul, Int.reduceLT, Int.reduceGT, Int.reduceGE, Int.cast_ofNat_Int, Int.reduceLE, Int.reduceToNat, Int.reduceAdd, Int.reduceNeg, Int.reduceEq, Int.reduceBNe, Int.reduceBEq, decide_false, zerosA, List.replicate_succ, List.replicate_zero, List.flatten_cons, List.flatten_nil, Option.isSome_some, dstOk, evRes, evRes1, evFree, evHeap, evA, upd_ne, upd_same, initF, updO_some, updO_none, kindOf, AV.storable, AV.cells, AV.one, Value.oneCell', mode, E_pol, pol, binA, unA, litInt, litBool, litStr, eqA, callee, evArgs, evParts, ne_eq, Nat.reduceEqDiff, Nat.reduceLT, not_false_eq_true, decide_true, if_true, reduceIte, List.take_zero, List.take_succ_cons, List.length_cons, List.length_nil, Nat.reduceAdd, Nat.reduceLeDiff, List.getElem?_cons_zero, List.getElem?_cons_succ, List.getD_cons_zero, List.getD_cons_succ, List.drop_zero, List.drop_succ_cons, List.map_cons, List.map_nil, List.cons_append, List.nil_append, List.append_nil, List.head?_cons, Int.toNat_natCast, Nat.zero_le, and_self, true_and, and_true, Bool.not_true, Bool.not_false, Option.map_some, true_implies, Bool.true_eq_false, Bool.false_eq_true, reduceCtorEq, false_implies, List.mem_cons, List.not_mem_nil, Prod.mk.injEq, false_and, and_false, or_false, false_or, or_true, true_or, if_false, ty3, ty3k, ty3s, ty3t, ty3z, ty3o, ty22, ty22k, ty22s, ty22t, ty22z, ty22o, ty27, ty27k, ty27s, ty27t, ty27z, ty27o, ty29, ty29k, ty29s, ty29t, ty29z, ty29o, ty30, ty30k, ty30s, ty30t, ty30z, ty30o, ty31, ty31k, ty31s, ty31t, ty31z, ty31o, ty32, ty32k, ty32s, ty32t, ty32z, ty32o, ty34, ty34k, ty34s, ty34t, ty34z, ty34o, ty35, ty35k, ty35s, ty35t, ty35z, ty35o, ty37, ty37k, ty37s, ty37t, ty37z, ty37o, ty57, ty57k, ty57s, ty57t, ty57z, ty57o, ty59, ty59k, ty59s, ty59t, ty59z, ty59o, f0, f1, f6, f7, hin, hax, d1, hm0, hb1]
          | refine And.intro (a := drawOk _ _ = true) (by kernel_rfl) ?_
          | (refine id (α := drawOk _ _ = true) ?_; kernel_rfl))
        exact RetOk_closed rfl rfl
      · have hb1 : w.testBit p = false := by rw [hbits]; simp [hv]
        rw [if_neg (by simp [hk]), nextAt_eq hx] at hw
        have h64 := (bit_put hw64 (i := p) (by omega)).2
        repeat' (first
          | refine If1.split (fun hb => ?_) (fun hb => ?_)
          | refine C1.pure (k22) (by simp [AV.closedL, AV.closed, ints_closed, ex_closed, ag_closed, sm_closed, arm_closed, nd_closed]) ?_
          | refine C1.pure (k23) (by simp [AV.closedL, AV.closed, ints_closed, ex_closed, ag_closed, sm_closed, arm_closed, nd_closed]) ?_
          | simp (config := { maxSteps := 1000000 }) only [W1_skip, W1_ret, W1_label, W1_exit, W1_seq, W1_cond, W1_block, W1_region, W1_draw, W1_loop, O1_nil, O1_n, O1_s, slotD_s, slotD_z, V1_s, U1_b, U1_u, If1_t, If1_f, If1_not, eqB_tt, eqB_tf, eqB_ft, eqB_ff, X1_eq, H1_f, H1_h, H1_c, how, B1_some, B1_none, B1_ite, D1_b, setT_t, setT_c, T1_n, T1_r, T1_x, K1_n, K1_r, K1_x, FinP_n, FinP_r, bindO_some, RetOk_lit, FinX_n, FinX_r, FinK_n, FinK_r, oneOrTup_1, RetX_lit, getCells, List.set_cons_zero, List.set_cons_succ, putAt, fillA, sizesOf, allTyped, List.all_cons, List.all_nil, Bool.and_self, Bool.true_and, Bool.and_true, Nat.reduceMul, Int.reduceLT, Int.reduceGT, Int.reduceGE, Int.cast_ofNat_Int, Int.reduceLE, Int.reduceToNat, Int.reduceAdd, Int.reduceNeg, Int.reduceEq, Int.reduceBNe, Int.reduceBEq, decide_false, zerosA, List.replicate_succ, List.replicate_zero, List.flatten_cons, List.flatten_nil, Option.isSome_some, dstOk, evRes, evRes1, evFree, evHeap, evA, upd_ne, upd_same, initF, updO_some, updO_none, kindOf, AV.storable, AV.cells, AV.one, Value.oneCell', mode, E_pol, pol, binA, unA, litInt, litBool, litStr, eqA, callee, evArgs, evParts, ne_eq, Nat.reduceEqDiff, Nat.reduceLT, not_false_eq_true, decide_true, if_true, reduceIte, List.take_zero, List.take_succ_cons, List.length_cons, List.length_nil, Nat.reduceAdd, Nat.reduceLeDiff, List.getElem?_cons_zero, List.getElem?_cons_succ, List.getD_cons_zero, List.getD_cons_succ, List.drop_zero, List.drop_succ_cons, List.map_cons, List.map_nil, List.cons_append, List.nil_append, List.append_nil, List.head?_cons, Int.toNat_natCast, Nat.zero_le, and_self, true_and, and_true, Bool.not_true, Bool.not_false, Option.map_some, true_implies, Bool.true_eq_false, Bool.false_eq_true, reduceCtorEq, false_implies, List.mem_cons, List.not_mem_nil, Prod.mk.injEq, false_and, and_false, or_false, false_or, or_true, true_or, if_false, ty3, ty3k, ty3s, ty3t, ty3z, ty3o, ty22, ty22k, ty22s, ty22t, ty22z, ty22o, ty27, ty27k, ty27s, ty27t, ty27z, ty27o, ty29, ty29k, ty29s, ty29t, ty29z, ty29o, ty30, ty30k, ty30s, ty30t, ty30z, ty30o, ty31, ty31k, ty31s, ty31t, ty31z, ty31o, ty32, ty32k, ty32s, ty32t, ty32z, ty32o, ty34, ty34k, ty34s, ty34t, ty34z, ty34o, ty35, ty35k, ty35s, ty35t, ty35z, ty35o, ty37, ty37k, ty37s, ty37t, ty37z, ty37o, ty57, ty57k, ty57s, ty57t, ty57z, ty57o, ty59, ty59k, ty59s, ty59t, ty59z, ty59o, f0, f1, f6, f7, hin, hax, d1, hm0, hb1, hwc, hay, hin0, hs0, Nat.zero_mul]
          | refine And.intro (a := drawOk _ _ = true) (by kernel_rfl) ?_
          | (refine id (α := drawOk _ _ = true) ?_; kernel_rfl))
        refine ⟨l.length + 1 - (vs.length + 1), by omega, p :: vs, w ||| 2 ^ p, (nx l[p] 0).toNat, c + l[p].s.b.cost, by simp, ?_, rfl, by omega, by omega, by simp; omega, ?_, rfl, h64, ?_, ?_, ?_⟩
        · simp only [Int.toNat_of_nonneg hni.1]
        · rw [List.length_cons, show l.length + 1 - (vs.length + 1) = l.length - vs.length by omega]; exact hw
        · intro j
          rw [put_test, hbits]
          by_cases e : p = j
          · subst e; simp
          · simp [e, Ne.symm e]
        · exact List.nodup_cons.2 ⟨hv, hnd⟩
        · intro v hv'
          rcases List.mem_cons.1 hv' with rfl | hv'
          · exact ⟨hp, by rw [kindAt_eq hx, hk], Or.inr (nextAt_eq hx 0)⟩
          · obtain ⟨g1, g2, g3⟩ := hvs v hv'
            refine ⟨g1, g2, Or.inl ?_⟩
            rcases g3 with g | g
            · exact List.mem_cons_of_mem _ g
            · rw [g]; exact List.mem_cons_self ..
    · have d1 : (l[p].s.b.kind == 0) = false := by simp [hk]
      rw [if_pos hk] at hw
      rw [← hw]
      repeat' (first
        | refine If1.split (fun hb => ?_) (fun hb => ?_)
        | simp (config := { maxSteps := 1000000 }) only [W1_skip, W1_ret, W1_label, W1_exit, W1_seq, W1_cond, W1_block, W1_region, W1_draw, W1_loop, O1_nil, O1_n, O1_s, slotD_s, slotD_z, V1_s, U1_b, U1_u, If1_t, If1_f, If1_not, eqB_tt, eqB_tf, eqB_ft, eqB_ff, X1_eq, H1_f, H1_h, H1_c, how, B1_some, B1_none, B1_ite, D1_b, setT_t, setT_c, T1_n, T1_r, T1_x, K1_n, K1_r, K1_x, FinP_n, FinP_r, bindO_some, RetOk_lit, FinX_n, FinX_r, FinK_n, FinK_r, oneOrTup_1, RetX_lit, getCells, List.set_cons_zero, List.set_cons_succ, putAt, fillA, sizesOf, allTyped, List.all_cons, List.all_nil, Bool.and_self, Bool.true_and, Bool.and_true, Nat.reduceMul, Int.reduceLT, Int.reduceGT, Int.reduceGE, Int.cast_ofNat_Int, Int.reduceLE, Int.reduceToNat, Int.reduceAdd, Int.reduceNeg, Int.reduceEq, Int.reduceBNe, Int.reduceBEq, decide_false, zerosA, List.replicate_succ, List.replicate_zero, List.flatten_cons, List.flatten_nil, Option.isSome_some, dstOk, evRes, evRes1, evFree, evHeap, evA, upd_ne, upd_same, initF, updO_some, updO_none, kindOf, AV.storable, AV.cells, AV.one, Value.oneCell', mode, E_pol, pol, binA, unA, litInt, litBool, litStr, eqA, callee, evArgs, evParts, ne_eq, Nat.reduceEqDiff, Nat.reduceLT, not_false_eq_true, decide_true, if_true, reduceIte, List.take_zero, List.take_succ_cons, List.length_cons, List.length_nil, Nat.reduceAdd, Nat.reduceLeDiff, List.getElem?_cons_zero, List.getElem?_cons_succ, List.getD_cons_zero, List.getD_cons_succ, List.drop_zero, List.drop_succ_cons, List.map_cons, List.map_nil, List.cons_append, List.nil_append, List.append_nil, List.head?_cons, Int.toNat_natCast, Nat.zero_le, and_self, true_and, and_true, Bool.not_true, Bool.not_false, Option.map_some, true_implies, Bool.true_eq_false, Bool.false_eq_true, reduceCtorEq, false_implies, List.mem_cons, List.not_mem_nil, Prod.mk.injEq, false_and, and_false, or_false, false_or, or_true, true_or, if_false, ty3, ty3k, ty3s, ty3t, ty3z, ty3o, ty22, ty22k, ty22s, ty22t, ty22z, ty22o, ty27, ty27k, ty27s, ty27t, ty27z, ty27o, ty29, ty29k, ty29s, ty29t, ty29z, ty29o, ty30, ty30k, ty30s, ty30t, ty30z, ty30o, ty31, ty31k, ty31s, ty31t, ty31z, ty31o, ty32, ty32k, ty32s, ty32t, ty32z, ty32o, ty34, ty34k, ty34s, ty34t, ty34z, ty34o, ty35, ty35k, ty35s, ty35t, ty35z, ty35o, ty37, ty37k, ty37s, ty37t, ty37z, ty37o, ty57, ty57k, ty57s, ty57t, ty57z, ty57o, ty59, ty59k, ty59s, ty59t, ty59z, ty59o, f0, f1, f6, f7, hin, hwc, hax, d1]
        | refine And.intro (a := drawOk _ _ = true) (by kernel_rfl) ?_
        | (refine id (α := drawOk _ _ = true) ?_; kernel_rfl))
      exact RetOk_closed rfl rfl
  · repeat' (first
      | refine If1.split (fun hb => ?_) (fun hb => ?_)
      | simp (config := { maxSteps := 1000000 }) only [W1_skip, W1_ret, W1_label, W1_exit, W1_seq, W1_cond, W1_block, W1_region, W1_draw, W1_loop, O1_nil, O1_n, O1_s, slotD_s, slotD_z, V1_s, U1_b, U1_u, If1_t, If1_f, If1_not, eqB_tt, eqB_tf, eqB_ft, eqB_ff, X1_eq, H1_f, H1_h, H1_c, how, B1_some, B1_none, B1_ite, D1_b, setT_t, setT_c, T1_n, T1_r, T1_x, K1_n, K1_r, K1_x, FinP_n, FinP_r, bindO_some, RetOk_lit, FinX_n, FinX_r, FinK_n, FinK_r, oneOrTup_1, RetX_lit, getCells, List.set_cons_zero, List.set_cons_succ, putAt, fillA, sizesOf, allTyped, List.all_cons, List.all_nil, Bool.and_self, Bool.true_and, Bool.and_true, Nat.reduceMul, Int.reduceLT, Int.reduceGT, Int.reduceGE, Int.cast_ofNat_Int, Int.reduceLE, Int.reduceToNat, Int.reduceAdd, Int.reduceNeg, Int.reduceEq, Int.reduceBNe, Int.reduceBEq, decide_false, zerosA, List.replicate_succ, List.replicate_zero, List.flatten_cons, List.flatten_nil, Option.isSome_some, dstOk, evRes, evRes1, evFree, evHeap, evA, upd_ne, upd_same, initF, updO_some, updO_none, kindOf, AV.storable, AV.cells, AV.one, Value.oneCell', mode, E_pol, pol, binA, unA, litInt, litBool, litStr, eqA, callee, evArgs, evParts, ne_eq, Nat.reduceEqDiff, Nat.reduceLT, not_false_eq_true, decide_true, if_true, reduceIte, List.take_zero, List.take_succ_cons, List.length_cons, List.length_nil, Nat.reduceAdd, Nat.reduceLeDiff, List.getElem?_cons_zero, List.getElem?_cons_succ, List.getD_cons_zero, List.getD_cons_succ, List.drop_zero, List.drop_succ_cons, List.map_cons, List.map_nil, List.cons_append, List.nil_append, List.append_nil, List.head?_cons, Int.toNat_natCast, Nat.zero_le, and_self, true_and, and_true, Bool.not_true, Bool.not_false, Option.map_some, true_implies, Bool.true_eq_false, Bool.false_eq_true, reduceCtorEq, false_implies, List.mem_cons, List.not_mem_nil, Prod.mk.injEq, false_and, and_false, or_false, false_or, or_true, true_or, if_false, ty3, ty3k, ty3s, ty3t, ty3z, ty3o, ty22, ty22k, ty22s, ty22t, ty22z, ty22o, ty27, ty27k, ty27s, ty27t, ty27z, ty27o, ty29, ty29k, ty29s, ty29t, ty29z, ty29o, ty30, ty30k, ty30s, ty30t, ty30z, ty30o, ty31, ty31k, ty31s, ty31t, ty31z, ty31o, ty32, ty32k, ty32s, ty32t, ty32z, ty32o, ty34, ty34k, ty34s, ty34t, ty34z, ty34o, ty35, ty35k, ty35s, ty35t, ty35z, ty35o, ty37, ty37k, ty37s, ty37t, ty37z, ty37o, ty57, ty57k, ty57s, ty57t, ty57z, ty57o, ty59, ty59k, ty59s, ty59t, ty59z, ty59o, cz, at_end, set_end]
      | refine And.intro (a := drawOk _ _ = true) (by kernel_rfl) ?_
      | (refine id (α := drawOk _ _ = true) ?_; kernel_rfl))
    exact ⟨[], 0, i, 0, rfl, rfl, rfl, hi, by omega, by simp, rfl, rfl, by omega, by simp, List.nodup_nil, by simp⟩
end Go.Abs

