/- Contract: the law itself. Conditions: none. -/
import Derived.Test.YtnjaedaofjkbnaaC8
import Derived.Test.YtnjaedaofjkbnaaC9
set_option maxRecDepth 100000
set_option linter.unusedVariables false
set_option linter.unusedSimpArgs false
namespace Go.Abs
open Go
theorem btt : (true == true) = true := rfl
theorem bff : (false == false) = true := rfl
theorem bff2 : (!true) = false := rfl
/-- Few events. -/
structure Some24 (l : List Nd) : Prop where
  len : l.length ≤ 24
  fit : ∀ x ∈ l, x.Fit
  few : ∀ x ∈ l, FewX x
noncomputable def sameG (a b : List Nd) : Bool := rightB a && (rightB b && goB a b)
theorem d6 (a b : List Nd) (ha : Some24 a) (hb : Some24 b) : PFn E 6 [ndsA a, ndsA b] (B (sameG a b)) := by
  have k7 := c7 a (by have := ha.len; omega) ha.fit
  have k7' := c7 b (by have := hb.len; omega) hb.fit
  unfold sameG
  cases e1 : rightB a with
  | false =>
    rw [e1] at k7
    refine pfn_F fn6 (by simp) ?_
    simp only [Go.Proofs.Try.f6, Option.getD_some, List.append_eq, List.cons_append, List.nil_append]
    repeat' (first
      | refine If1.split (fun hb => ?_) (fun hb => ?_)
      | refine C1.pure (k7) (by simp [AV.closedL, AV.closed, ints_closed, ex_closed, ag_closed, sm_closed, arm_closed, nd_closed]) ?_
      | simp (config := { maxSteps := 1000000 }) only [W1_skip, W1_ret, W1_label, W1_exit, W1_seq, W1_cond, W1_block, W1_region, W1_draw, W1_loop, O1_nil, O1_n, O1_s, slotD_s, slotD_z, V1_s, U1_b, U1_u, If1_t, If1_f, If1_not, eqB_tt, eqB_tf, eqB_ft, eqB_ff, X1_eq, H1_f, H1_h, H1_c, how, B1_some, B1_none, B1_ite, D1_b, setT_t, setT_c, T1_n, T1_r, T1_x, K1_n, K1_r, K1_x, FinP_n, FinP_r, bindO_some, RetOk_lit, FinX_n, FinX_r, FinK_n, FinK_r, oneOrTup_1, RetX_lit, getCells, List.set_cons_zero, List.set_cons_succ, putAt, fillA, sizesOf, allTyped, List.all_cons, List.all_nil, Bool.and_self, Bool.true_and, Bool.and_true, Nat.reduceMul, Int.reduceLT, Int.reduceGT, Int.reduceGE, Int.cast_ofNat_Int, Int.reduceLE, Int.reduceToNat, Int.reduceAdd, Int.reduceNeg, Int.reduceEq, Int.reduceBNe, Int.reduceBEq, decide_false, zerosA, List.replicate_succ, List.replicate_zero, List.flatten_cons, List.flatten_nil, Option.isSome_some, dstOk, evRes, evRes1, evFree, evHeap, evA, upd_ne, upd_same, initF, updO_some, updO_none, kindOf, AV.storable, AV.cells, AV.one, Value.oneCell', mode, E_pol, pol, binA, unA, litInt, litBool, litStr, eqA, callee, evArgs, evParts, ne_eq, Nat.reduceEqDiff, Nat.reduceLT, not_false_eq_true, decide_true, if_true, reduceIte, List.take_zero, List.take_succ_cons, List.length_cons, List.length_nil, Nat.reduceAdd, Nat.reduceLeDiff, List.getElem?_cons_zero, List.getElem?_cons_succ, List.getD_cons_zero, List.getD_cons_succ, List.drop_zero, List.drop_succ_cons, List.map_cons, List.map_nil, List.cons_append, List.nil_append, List.append_nil, List.head?_cons, Int.toNat_natCast, Nat.zero_le, and_self, true_and, and_true, Bool.not_true, Bool.not_false, Option.map_some, true_implies, Bool.true_eq_false, Bool.false_eq_true, reduceCtorEq, false_implies, List.mem_cons, List.not_mem_nil, Prod.mk.injEq, false_and, and_false, or_false, false_or, or_true, true_or, if_false, ty3, ty3k, ty3s, ty3t, ty3z, ty3o, ty3b, ty22, ty22k, ty22s, ty22t, ty22z, ty22o, ty22b, ty27, ty27k, ty27s, ty27t, ty27z, ty27o, ty27b, ty29, ty29k, ty29s, ty29t, ty29z, ty29o, ty29b, ty30, ty30k, ty30s, ty30t, ty30z, ty30o, ty30b, ty31, ty31k, ty31s, ty31t, ty31z, ty31o, ty31b, ty32, ty32k, ty32s, ty32t, ty32z, ty32o, ty32b, ty34, ty34k, ty34s, ty34t, ty34z, ty34o, ty34b, ty35, ty35k, ty35s, ty35t, ty35z, ty35o, ty35b, ty37, ty37k, ty37s, ty37t, ty37z, ty37o, ty37b, ty41, ty41k, ty41s, ty41t, ty41z, ty41o, ty41b, ty42, ty42k, ty42s, ty42t, ty42z, ty42o, ty42b, cz]
      | refine And.intro (a := drawOk _ _ = true) (by kernel_rfl) ?_
      | (refine id (α := drawOk _ _ = true) ?_; kernel_rfl))
    rfl
  | true =>
    rw [e1] at k7
    cases e2 : rightB b with
    | false =>
      rw [e2] at k7'
      refine pfn_F fn6 (by simp) ?_
      simp only [Go.Proofs.Try.f6, Option.getD_some, List.append_eq, List.cons_append, List.nil_append]
      repeat' (first
        | refine If1.split (fun hb => ?_) (fun hb => ?_)
        | refine C1.pure (k7) (by simp [AV.closedL, AV.closed, ints_closed, ex_closed, ag_closed, sm_closed, arm_closed, nd_closed]) ?_
        | refine C1.pure (k7') (by simp [AV.closedL, AV.closed, ints_closed, ex_closed, ag_closed, sm_closed, arm_closed, nd_closed]) ?_
        | simp (config := { maxSteps := 1000000 }) only [W1_skip, W1_ret, W1_label, W1_exit, W1_seq, W1_cond, W1_block, W1_region, W1_draw, W1_loop, O1_nil, O1_n, O1_s, slotD_s, slotD_z, V1_s, U1_b, U1_u, If1_t, If1_f, If1_not, eqB_tt, eqB_tf, eqB_ft, eqB_ff, X1_eq, H1_f, H1_h, H1_c, how, B1_some, B1_none, B1_ite, D1_b, setT_t, setT_c, T1_n, T1_r, T1_x, K1_n, K1_r, K1_x, FinP_n, FinP_r, bindO_some, RetOk_lit, FinX_n, FinX_r, FinK_n, FinK_r, oneOrTup_1, RetX_lit, getCells, List.set_cons_zero, List.set_cons_succ, putAt, fillA, sizesOf, allTyped, List.all_cons, List.all_nil, Bool.and_self, Bool.true_and, Bool.and_true, Nat.reduceMul, Int.reduceLT, Int.reduceGT, Int.reduceGE, Int.cast_ofNat_Int, Int.reduceLE, Int.reduceToNat, Int.reduceAdd, Int.reduceNeg, Int.reduceEq, Int.reduceBNe, Int.reduceBEq, decide_false, zerosA, List.replicate_succ, List.replicate_zero, List.flatten_cons, List.flatten_nil, Option.isSome_some, dstOk, evRes, evRes1, evFree, evHeap, evA, upd_ne, upd_same, initF, updO_some, updO_none, kindOf, AV.storable, AV.cells, AV.one, Value.oneCell', mode, E_pol, pol, binA, unA, litInt, litBool, litStr, eqA, callee, evArgs, evParts, ne_eq, Nat.reduceEqDiff, Nat.reduceLT, not_false_eq_true, decide_true, if_true, reduceIte, List.take_zero, List.take_succ_cons, List.length_cons, List.length_nil, Nat.reduceAdd, Nat.reduceLeDiff, List.getElem?_cons_zero, List.getElem?_cons_succ, List.getD_cons_zero, List.getD_cons_succ, List.drop_zero, List.drop_succ_cons, List.map_cons, List.map_nil, List.cons_append, List.nil_append, List.append_nil, List.head?_cons, Int.toNat_natCast, Nat.zero_le, and_self, true_and, and_true, Bool.not_true, Bool.not_false, Option.map_some, true_implies, Bool.true_eq_false, Bool.false_eq_true, reduceCtorEq, false_implies, List.mem_cons, List.not_mem_nil, Prod.mk.injEq, false_and, and_false, or_false, false_or, or_true, true_or, if_false, ty3, ty3k, ty3s, ty3t, ty3z, ty3o, ty3b, ty22, ty22k, ty22s, ty22t, ty22z, ty22o, ty22b, ty27, ty27k, ty27s, ty27t, ty27z, ty27o, ty27b, ty29, ty29k, ty29s, ty29t, ty29z, ty29o, ty29b, ty30, ty30k, ty30s, ty30t, ty30z, ty30o, ty30b, ty31, ty31k, ty31s, ty31t, ty31z, ty31o, ty31b, ty32, ty32k, ty32s, ty32t, ty32z, ty32o, ty32b, ty34, ty34k, ty34s, ty34t, ty34z, ty34o, ty34b, ty35, ty35k, ty35s, ty35t, ty35z, ty35o, ty35b, ty37, ty37k, ty37s, ty37t, ty37z, ty37o, ty37b, ty41, ty41k, ty41s, ty41t, ty41z, ty41o, ty41b, ty42, ty42k, ty42s, ty42t, ty42z, ty42o, ty42b, cz]
        | refine And.intro (a := drawOk _ _ = true) (by kernel_rfl) ?_
        | (refine id (α := drawOk _ _ = true) ?_; kernel_rfl))
      rfl
    | true => exact c6 a b ⟨ha.len, ha.fit, ha.few, e1⟩ ⟨hb.len, hb.fit, hb.few, e2⟩
theorem d9 (a b : List Nd) (ha : Some24 a) (hb : Some24 b) : PFn E 9 [ndsA a, ndsA b] (B (sameG a b)) := by
  have k7 := c8 a (by have := ha.len; omega) ha.fit ha.few
  have k7' := c8 b (by have := hb.len; omega) hb.fit hb.few
  unfold sameG
  cases e1 : rightB a with
  | false =>
    rw [e1] at k7
    refine pfn_F fn9 (by simp) ?_
    simp only [Go.Proofs.Try.f9, Option.getD_some, List.append_eq, List.cons_append, List.nil_append]
    repeat' (first
      | refine If1.split (fun hb => ?_) (fun hb => ?_)
      | refine C1.pure (k7) (by simp [AV.closedL, AV.closed, ints_closed, ex_closed, ag_closed, sm_closed, arm_closed, nd_closed]) ?_
      | simp (config := { maxSteps := 1000000 }) only [W1_skip, W1_ret, W1_label, W1_exit, W1_seq, W1_cond, W1_block, W1_region, W1_draw, W1_loop, O1_nil, O1_n, O1_s, slotD_s, slotD_z, V1_s, U1_b, U1_u, If1_t, If1_f, If1_not, eqB_tt, eqB_tf, eqB_ft, eqB_ff, X1_eq, H1_f, H1_h, H1_c, how, B1_some, B1_none, B1_ite, D1_b, setT_t, setT_c, T1_n, T1_r, T1_x, K1_n, K1_r, K1_x, FinP_n, FinP_r, bindO_some, RetOk_lit, FinX_n, FinX_r, FinK_n, FinK_r, oneOrTup_1, RetX_lit, getCells, List.set_cons_zero, List.set_cons_succ, putAt, fillA, sizesOf, allTyped, List.all_cons, List.all_nil, Bool.and_self, Bool.true_and, Bool.and_true, Nat.reduceMul, Int.reduceLT, Int.reduceGT, Int.reduceGE, Int.cast_ofNat_Int, Int.reduceLE, Int.reduceToNat, Int.reduceAdd, Int.reduceNeg, Int.reduceEq, Int.reduceBNe, Int.reduceBEq, decide_false, zerosA, List.replicate_succ, List.replicate_zero, List.flatten_cons, List.flatten_nil, Option.isSome_some, dstOk, evRes, evRes1, evFree, evHeap, evA, upd_ne, upd_same, initF, updO_some, updO_none, kindOf, AV.storable, AV.cells, AV.one, Value.oneCell', mode, E_pol, pol, binA, unA, litInt, litBool, litStr, eqA, callee, evArgs, evParts, ne_eq, Nat.reduceEqDiff, Nat.reduceLT, not_false_eq_true, decide_true, if_true, reduceIte, List.take_zero, List.take_succ_cons, List.length_cons, List.length_nil, Nat.reduceAdd, Nat.reduceLeDiff, List.getElem?_cons_zero, List.getElem?_cons_succ, List.getD_cons_zero, List.getD_cons_succ, List.drop_zero, List.drop_succ_cons, List.map_cons, List.map_nil, List.cons_append, List.nil_append, List.append_nil, List.head?_cons, Int.toNat_natCast, Nat.zero_le, and_self, true_and, and_true, Bool.not_true, Bool.not_false, Option.map_some, true_implies, Bool.true_eq_false, Bool.false_eq_true, reduceCtorEq, false_implies, List.mem_cons, List.not_mem_nil, Prod.mk.injEq, false_and, and_false, or_false, false_or, or_true, true_or, if_false, ty3, ty3k, ty3s, ty3t, ty3z, ty3o, ty3b, ty4, ty4k, ty4s, ty4t, ty4z, ty4o, ty4b, ty22, ty22k, ty22s, ty22t, ty22z, ty22o, ty22b, ty27, ty27k, ty27s, ty27t, ty27z, ty27o, ty27b, ty29, ty29k, ty29s, ty29t, ty29z, ty29o, ty29b, ty30, ty30k, ty30s, ty30t, ty30z, ty30o, ty30b, ty31, ty31k, ty31s, ty31t, ty31z, ty31o, ty31b, ty32, ty32k, ty32s, ty32t, ty32z, ty32o, ty32b, ty34, ty34k, ty34s, ty34t, ty34z, ty34o, ty34b, ty35, ty35k, ty35s, ty35t, ty35z, ty35o, ty35b, ty37, ty37k, ty37s, ty37t, ty37z, ty37o, ty37b, ty47, ty47k, ty47s, ty47t, ty47z, ty47o, ty47b, cz]
      | refine And.intro (a := drawOk _ _ = true) (by kernel_rfl) ?_
      | (refine id (α := drawOk _ _ = true) ?_; kernel_rfl))
    rfl
  | true =>
    rw [e1] at k7
    cases e2 : rightB b with
    | false =>
      rw [e2] at k7'
      refine pfn_F fn9 (by simp) ?_
      simp only [Go.Proofs.Try.f9, Option.getD_some, List.append_eq, List.cons_append, List.nil_append]
      repeat' (first
        | refine If1.split (fun hb => ?_) (fun hb => ?_)
        | refine C1.pure (k7) (by simp [AV.closedL, AV.closed, ints_closed, ex_closed, ag_closed, sm_closed, arm_closed, nd_closed]) ?_
        | refine C1.pure (k7') (by simp [AV.closedL, AV.closed, ints_closed, ex_closed, ag_closed, sm_closed, arm_closed, nd_closed]) ?_
        | simp (config := { maxSteps := 1000000 }) only [W1_skip, W1_ret, W1_label, W1_exit, W1_seq, W1_cond, W1_block, W1_region, W1_draw, W1_loop, O1_nil, O1_n, O1_s, slotD_s, slotD_z, V1_s, U1_b, U1_u, If1_t, If1_f, If1_not, eqB_tt, eqB_tf, eqB_ft, eqB_ff, X1_eq, H1_f, H1_h, H1_c, how, B1_some, B1_none, B1_ite, D1_b, setT_t, setT_c, T1_n, T1_r, T1_x, K1_n, K1_r, K1_x, FinP_n, FinP_r, bindO_some, RetOk_lit, FinX_n, FinX_r, FinK_n, FinK_r, oneOrTup_1, RetX_lit, getCells, List.set_cons_zero, List.set_cons_succ, putAt, fillA, sizesOf, allTyped, List.all_cons, List.all_nil, Bool.and_self, Bool.true_and, Bool.and_true, Nat.reduceMul, Int.reduceLT, Int.reduceGT, Int.reduceGE, Int.cast_ofNat_Int, Int.reduceLE, Int.reduceToNat, Int.reduceAdd, Int.reduceNeg, Int.reduceEq, Int.reduceBNe, Int.reduceBEq, decide_false, zerosA, List.replicate_succ, List.replicate_zero, List.flatten_cons, List.flatten_nil, Option.isSome_some, dstOk, evRes, evRes1, evFree, evHeap, evA, upd_ne, upd_same, initF, updO_some, updO_none, kindOf, AV.storable, AV.cells, AV.one, Value.oneCell', mode, E_pol, pol, binA, unA, litInt, litBool, litStr, eqA, callee, evArgs, evParts, ne_eq, Nat.reduceEqDiff, Nat.reduceLT, not_false_eq_true, decide_true, if_true, reduceIte, List.take_zero, List.take_succ_cons, List.length_cons, List.length_nil, Nat.reduceAdd, Nat.reduceLeDiff, List.getElem?_cons_zero, List.getElem?_cons_succ, List.getD_cons_zero, List.getD_cons_succ, List.drop_zero, List.drop_succ_cons, List.map_cons, List.map_nil, List.cons_append, List.nil_append, List.append_nil, List.head?_cons, Int.toNat_natCast, Nat.zero_le, and_self, true_and, and_true, Bool.not_true, Bool.not_false, Option.map_some, true_implies, Bool.true_eq_false, Bool.false_eq_true, reduceCtorEq, false_implies, List.mem_cons, List.not_mem_nil, Prod.mk.injEq, false_and, and_false, or_false, false_or, or_true, true_or, if_false, ty3, ty3k, ty3s, ty3t, ty3z, ty3o, ty3b, ty4, ty4k, ty4s, ty4t, ty4z, ty4o, ty4b, ty22, ty22k, ty22s, ty22t, ty22z, ty22o, ty22b, ty27, ty27k, ty27s, ty27t, ty27z, ty27o, ty27b, ty29, ty29k, ty29s, ty29t, ty29z, ty29o, ty29b, ty30, ty30k, ty30s, ty30t, ty30z, ty30o, ty30b, ty31, ty31k, ty31s, ty31t, ty31z, ty31o, ty31b, ty32, ty32k, ty32s, ty32t, ty32z, ty32o, ty32b, ty34, ty34k, ty34s, ty34t, ty34z, ty34o, ty34b, ty35, ty35k, ty35s, ty35t, ty35z, ty35o, ty35b, ty37, ty37k, ty37s, ty37t, ty37z, ty37o, ty37b, ty47, ty47k, ty47s, ty47t, ty47z, ty47o, ty47b, cz]
        | refine And.intro (a := drawOk _ _ = true) (by kernel_rfl) ?_
        | (refine id (α := drawOk _ _ = true) ?_; kernel_rfl))
      rfl
    | true => exact c9 a b ⟨ha.len, ha.fit, ha.few, e1⟩ ⟨hb.len, hb.fit, hb.few, e2⟩
theorem sameG_symm (a b : List Nd) : sameG a b = sameG b a := by
  unfold sameG
  rw [goB_symm a b]
  cases rightB a <;> cases rightB b <;> rfl
theorem sameG_self {a : List Nd} (ha : Some24 a) : sameG a a = rightB a := by
  unfold sameG
  cases e : rightB a with
  | false => rfl
  | true => rw [goB_t (allGood_refl ⟨ha.len, ha.fit, ha.few, e⟩)]; rfl
theorem c3 (a b : List Nd) (hla : a.length < 9223372036854775808) (hlb : b.length < 9223372036854775808) (hfa : ∀ x ∈ a, x.Fit) (hfb : ∀ x ∈ b, x.Fit) : PFn E 3 [ndsA a, ndsA b] (B true) := by
  obtain ⟨r1, k1, b1, rfl, h1⟩ := c4 a hla hfa 24
  obtain ⟨r2, k2, b2, rfl, h2⟩ := c4 b hlb hfb 24
  have k5 := c5
  by_cases hb : b1 = true ∧ b2 = true
  · obtain ⟨rfl, rfl⟩ := hb
    have ha : Some24 a := ⟨by have := (h1 rfl).1; omega, hfa, (h1 rfl).2⟩
    have hb : Some24 b := ⟨by have := (h2 rfl).1; omega, hfb, (h2 rfl).2⟩
    have q1 := d6 a b ha hb
    have q2 := d9 a b ha hb
    have q3 := d6 b a hb ha
    have q4 := d6 a a ha ha
    have q5 := c7 a hla hfa
    have q6 := c8 a hla hfa ha.few
    rw [← sameG_symm a b] at q3
    rw [sameG_self ha] at q4
    generalize sameG a b = s at *
    generalize rightB a = r at *
    cases s <;> cases r <;>
    · refine pfn_F fn3 (by simp) ?_
      simp only [Go.Proofs.Try.f3, Option.getD_some, List.append_eq, List.cons_append, List.nil_append]
      repeat' (first
        | refine If1.split (fun hb => ?_) (fun hb => ?_)
        | refine C1.pure (k1) (by simp [AV.closedL, AV.closed, ints_closed, ex_closed, ag_closed, sm_closed, arm_closed, nd_closed]) ?_
        | refine C1.pure (k2) (by simp [AV.closedL, AV.closed, ints_closed, ex_closed, ag_closed, sm_closed, arm_closed, nd_closed]) ?_
        | refine C1.pure (k5) rfl ?_
        | refine C1.pure (q1) (by simp [AV.closedL, AV.closed, ints_closed, ex_closed, ag_closed, sm_closed, arm_closed, nd_closed]) ?_
        | refine C1.pure (q2) (by simp [AV.closedL, AV.closed, ints_closed, ex_closed, ag_closed, sm_closed, arm_closed, nd_closed]) ?_
        | refine C1.pure (q3) (by simp [AV.closedL, AV.closed, ints_closed, ex_closed, ag_closed, sm_closed, arm_closed, nd_closed]) ?_
        | refine C1.pure (q4) (by simp [AV.closedL, AV.closed, ints_closed, ex_closed, ag_closed, sm_closed, arm_closed, nd_closed]) ?_
        | refine C1.pure (q5) (by simp [AV.closedL, AV.closed, ints_closed, ex_closed, ag_closed, sm_closed, arm_closed, nd_closed]) ?_
        | refine C1.pure (q6) (by simp [AV.closedL, AV.closed, ints_closed, ex_closed, ag_closed, sm_closed, arm_closed, nd_closed]) ?_
        | simp (config := { maxSteps := 1000000 }) only [W1_skip, W1_ret, W1_label, W1_exit, W1_seq, W1_cond, W1_block, W1_region, W1_draw, W1_loop, O1_nil, O1_n, O1_s, slotD_s, slotD_z, V1_s, U1_b, U1_u, If1_t, If1_f, If1_not, eqB_tt, eqB_tf, eqB_ft, eqB_ff, X1_eq, H1_f, H1_h, H1_c, how, B1_some, B1_none, B1_ite, D1_b, setT_t, setT_c, T1_n, T1_r, T1_x, K1_n, K1_r, K1_x, FinP_n, FinP_r, bindO_some, RetOk_lit, FinX_n, FinX_r, FinK_n, FinK_r, oneOrTup_1, RetX_lit, getCells, List.set_cons_zero, List.set_cons_succ, putAt, fillA, sizesOf, allTyped, List.all_cons, List.all_nil, Bool.and_self, Bool.true_and, Bool.and_true, Nat.reduceMul, Int.reduceLT, Int.reduceGT, Int.reduceGE, Int.cast_ofNat_Int, Int.reduceLE, Int.reduceToNat, Int.reduceAdd, Int.reduceNeg, Int.reduceEq, Int.reduceBNe, Int.reduceBEq, decide_false, zerosA, List.replicate_succ, List.replicate_zero, List.flatten_cons, List.flatten_nil, Option.isSome_some, dstOk, evRes, evRes1, evFree, evHeap, evA, upd_ne, upd_same, initF, updO_some, updO_none, kindOf, AV.storable, AV.cells, AV.one, Value.oneCell', mode, E_pol, pol, binA, unA, litInt, litBool, litStr, eqA, callee, evArgs, evParts, ne_eq, Nat.reduceEqDiff, Nat.reduceLT, not_false_eq_true, decide_true, if_true, reduceIte, List.take_zero, List.take_succ_cons, List.length_cons, List.length_nil, Nat.reduceAdd, Nat.reduceLeDiff, List.getElem?_cons_zero, List.getElem?_cons_succ, List.getD_cons_zero, List.getD_cons_succ, List.drop_zero, List.drop_succ_cons, List.map_cons, List.map_nil, List.cons_append, List.nil_append, List.append_nil, List.head?_cons, Int.toNat_natCast, Nat.zero_le, and_self, true_and, and_true, Bool.not_true, Bool.not_false, Option.map_some, true_implies, Bool.true_eq_false, Bool.false_eq_true, reduceCtorEq, false_implies, List.mem_cons, List.not_mem_nil, Prod.mk.injEq, false_and, and_false, or_false, false_or, or_true, true_or, if_false, ty3, ty3k, ty3s, ty3t, ty3z, ty3o, ty4, ty4k, ty4s, ty4t, ty4z, ty4o, ty22, ty22k, ty22s, ty22t, ty22z, ty22o, ty37, ty37k, ty37s, ty37t, ty37z, ty37o, cz, btt, bff, bff2]
        | refine And.intro (a := drawOk _ _ = true) (by kernel_rfl) ?_
        | (refine id (α := drawOk _ _ = true) ?_; kernel_rfl))
  · refine pfn_F fn3 (by simp) ?_
    simp only [Go.Proofs.Try.f3, Option.getD_some, List.append_eq, List.cons_append, List.nil_append]
    cases b1 <;> cases b2
    · repeat' (first
        | refine If1.split (fun hb => ?_) (fun hb => ?_)
        | refine C1.pure (k1) (by simp [AV.closedL, AV.closed, ints_closed, ex_closed, ag_closed, sm_closed, arm_closed, nd_closed]) ?_
        | refine C1.pure (k2) (by simp [AV.closedL, AV.closed, ints_closed, ex_closed, ag_closed, sm_closed, arm_closed, nd_closed]) ?_
        | refine C1.pure (k5) rfl ?_
        | simp (config := { maxSteps := 1000000 }) only [W1_skip, W1_ret, W1_label, W1_exit, W1_seq, W1_cond, W1_block, W1_region, W1_draw, W1_loop, O1_nil, O1_n, O1_s, slotD_s, slotD_z, V1_s, U1_b, U1_u, If1_t, If1_f, If1_not, eqB_tt, eqB_tf, eqB_ft, eqB_ff, X1_eq, H1_f, H1_h, H1_c, how, B1_some, B1_none, B1_ite, D1_b, setT_t, setT_c, T1_n, T1_r, T1_x, K1_n, K1_r, K1_x, FinP_n, FinP_r, bindO_some, RetOk_lit, FinX_n, FinX_r, FinK_n, FinK_r, oneOrTup_1, RetX_lit, getCells, List.set_cons_zero, List.set_cons_succ, putAt, fillA, sizesOf, allTyped, List.all_cons, List.all_nil, Bool.and_self, Bool.true_and, Bool.and_true, Nat.reduceMul, Int.reduceLT, Int.reduceGT, Int.reduceGE, Int.cast_ofNat_Int, Int.reduceLE, Int.reduceToNat, Int.reduceAdd, Int.reduceNeg, Int.reduceEq, Int.reduceBNe, Int.reduceBEq, decide_false, zerosA, List.replicate_succ, List.replicate_zero, List.flatten_cons, List.flatten_nil, Option.isSome_some, dstOk, evRes, evRes1, evFree, evHeap, evA, upd_ne, upd_same, initF, updO_some, updO_none, kindOf, AV.storable, AV.cells, AV.one, Value.oneCell', mode, E_pol, pol, binA, unA, litInt, litBool, litStr, eqA, callee, evArgs, evParts, ne_eq, Nat.reduceEqDiff, Nat.reduceLT, not_false_eq_true, decide_true, if_true, reduceIte, List.take_zero, List.take_succ_cons, List.length_cons, List.length_nil, Nat.reduceAdd, Nat.reduceLeDiff, List.getElem?_cons_zero, List.getElem?_cons_succ, List.getD_cons_zero, List.getD_cons_succ, List.drop_zero, List.drop_succ_cons, List.map_cons, List.map_nil, List.cons_append, List.nil_append, List.append_nil, List.head?_cons, Int.toNat_natCast, Nat.zero_le, and_self, true_and, and_true, Bool.not_true, Bool.not_false, Option.map_some, true_implies, Bool.true_eq_false, Bool.false_eq_true, reduceCtorEq, false_implies, List.mem_cons, List.not_mem_nil, Prod.mk.injEq, false_and, and_false, or_false, false_or, or_true, true_or, if_false, ty3, ty3k, ty3s, ty3t, ty3z, ty3o, ty4, ty4k, ty4s, ty4t, ty4z, ty4o, ty22, ty22k, ty22s, ty22t, ty22z, ty22o, ty37, ty37k, ty37s, ty37t, ty37z, ty37o, cz]
        | refine And.intro (a := drawOk _ _ = true) (by kernel_rfl) ?_
        | (refine id (α := drawOk _ _ = true) ?_; kernel_rfl))
    · repeat' (first
        | refine If1.split (fun hb => ?_) (fun hb => ?_)
        | refine C1.pure (k1) (by simp [AV.closedL, AV.closed, ints_closed, ex_closed, ag_closed, sm_closed, arm_closed, nd_closed]) ?_
        | refine C1.pure (k2) (by simp [AV.closedL, AV.closed, ints_closed, ex_closed, ag_closed, sm_closed, arm_closed, nd_closed]) ?_
        | refine C1.pure (k5) rfl ?_
        | simp (config := { maxSteps := 1000000 }) only [W1_skip, W1_ret, W1_label, W1_exit, W1_seq, W1_cond, W1_block, W1_region, W1_draw, W1_loop, O1_nil, O1_n, O1_s, slotD_s, slotD_z, V1_s, U1_b, U1_u, If1_t, If1_f, If1_not, eqB_tt, eqB_tf, eqB_ft, eqB_ff, X1_eq, H1_f, H1_h, H1_c, how, B1_some, B1_none, B1_ite, D1_b, setT_t, setT_c, T1_n, T1_r, T1_x, K1_n, K1_r, K1_x, FinP_n, FinP_r, bindO_some, RetOk_lit, FinX_n, FinX_r, FinK_n, FinK_r, oneOrTup_1, RetX_lit, getCells, List.set_cons_zero, List.set_cons_succ, putAt, fillA, sizesOf, allTyped, List.all_cons, List.all_nil, Bool.and_self, Bool.true_and, Bool.and_true, Nat.reduceMul, Int.reduceLT, Int.reduceGT, Int.reduceGE, Int.cast_ofNat_Int, Int.reduceLE, Int.reduceToNat, Int.reduceAdd, Int.reduceNeg, Int.reduceEq, Int.reduceBNe, Int.reduceBEq, decide_false, zerosA, List.replicate_succ, List.replicate_zero, List.flatten_cons, List.flatten_nil, Option.isSome_some, dstOk, evRes, evRes1, evFree, evHeap, evA, upd_ne, upd_same, initF, updO_some, updO_none, kindOf, AV.storable, AV.cells, AV.one, Value.oneCell', mode, E_pol, pol, binA, unA, litInt, litBool, litStr, eqA, callee, evArgs, evParts, ne_eq, Nat.reduceEqDiff, Nat.reduceLT, not_false_eq_true, decide_true, if_true, reduceIte, List.take_zero, List.take_succ_cons, List.length_cons, List.length_nil, Nat.reduceAdd, Nat.reduceLeDiff, List.getElem?_cons_zero, List.getElem?_cons_succ, List.getD_cons_zero, List.getD_cons_succ, List.drop_zero, List.drop_succ_cons, List.map_cons, List.map_nil, List.cons_append, List.nil_append, List.append_nil, List.head?_cons, Int.toNat_natCast, Nat.zero_le, and_self, true_and, and_true, Bool.not_true, Bool.not_false, Option.map_some, true_implies, Bool.true_eq_false, Bool.false_eq_true, reduceCtorEq, false_implies, List.mem_cons, List.not_mem_nil, Prod.mk.injEq, false_and, and_false, or_false, false_or, or_true, true_or, if_false, ty3, ty3k, ty3s, ty3t, ty3z, ty3o, ty4, ty4k, ty4s, ty4t, ty4z, ty4o, ty22, ty22k, ty22s, ty22t, ty22z, ty22o, ty37, ty37k, ty37s, ty37t, ty37z, ty37o, cz]
        | refine And.intro (a := drawOk _ _ = true) (by kernel_rfl) ?_
        | (refine id (α := drawOk _ _ = true) ?_; kernel_rfl))
    · repeat' (first
        | refine If1.split (fun hb => ?_) (fun hb => ?_)
        | refine C1.pure (k1) (by simp [AV.closedL, AV.closed, ints_closed, ex_closed, ag_closed, sm_closed, arm_closed, nd_closed]) ?_
        | refine C1.pure (k2) (by simp [AV.closedL, AV.closed, ints_closed, ex_closed, ag_closed, sm_closed, arm_closed, nd_closed]) ?_
        | refine C1.pure (k5) rfl ?_
        | simp (config := { maxSteps := 1000000 }) only [W1_skip, W1_ret, W1_label, W1_exit, W1_seq, W1_cond, W1_block, W1_region, W1_draw, W1_loop, O1_nil, O1_n, O1_s, slotD_s, slotD_z, V1_s, U1_b, U1_u, If1_t, If1_f, If1_not, eqB_tt, eqB_tf, eqB_ft, eqB_ff, X1_eq, H1_f, H1_h, H1_c, how, B1_some, B1_none, B1_ite, D1_b, setT_t, setT_c, T1_n, T1_r, T1_x, K1_n, K1_r, K1_x, FinP_n, FinP_r, bindO_some, RetOk_lit, FinX_n, FinX_r, FinK_n, FinK_r, oneOrTup_1, RetX_lit, getCells, List.set_cons_zero, List.set_cons_succ, putAt, fillA, sizesOf, allTyped, List.all_cons, List.all_nil, Bool.and_self, Bool.true_and, Bool.and_true, Nat.reduceMul, Int.reduceLT, Int.reduceGT, Int.reduceGE, Int.cast_ofNat_Int, Int.reduceLE, Int.reduceToNat, Int.reduceAdd, Int.reduceNeg, Int.reduceEq, Int.reduceBNe, Int.reduceBEq, decide_false, zerosA, List.replicate_succ, List.replicate_zero, List.flatten_cons, List.flatten_nil, Option.isSome_some, dstOk, evRes, evRes1, evFree, evHeap, evA, upd_ne, upd_same, initF, updO_some, updO_none, kindOf, AV.storable, AV.cells, AV.one, Value.oneCell', mode, E_pol, pol, binA, unA, litInt, litBool, litStr, eqA, callee, evArgs, evParts, ne_eq, Nat.reduceEqDiff, Nat.reduceLT, not_false_eq_true, decide_true, if_true, reduceIte, List.take_zero, List.take_succ_cons, List.length_cons, List.length_nil, Nat.reduceAdd, Nat.reduceLeDiff, List.getElem?_cons_zero, List.getElem?_cons_succ, List.getD_cons_zero, List.getD_cons_succ, List.drop_zero, List.drop_succ_cons, List.map_cons, List.map_nil, List.cons_append, List.nil_append, List.append_nil, List.head?_cons, Int.toNat_natCast, Nat.zero_le, and_self, true_and, and_true, Bool.not_true, Bool.not_false, Option.map_some, true_implies, Bool.true_eq_false, Bool.false_eq_true, reduceCtorEq, false_implies, List.mem_cons, List.not_mem_nil, Prod.mk.injEq, false_and, and_false, or_false, false_or, or_true, true_or, if_false, ty3, ty3k, ty3s, ty3t, ty3z, ty3o, ty4, ty4k, ty4s, ty4t, ty4z, ty4o, ty22, ty22k, ty22s, ty22t, ty22z, ty22o, ty37, ty37k, ty37s, ty37t, ty37z, ty37o, cz]
        | refine And.intro (a := drawOk _ _ = true) (by kernel_rfl) ?_
        | (refine id (α := drawOk _ _ = true) ?_; kernel_rfl))
    · exact absurd ⟨rfl, rfl⟩ hb
end Go.Abs

