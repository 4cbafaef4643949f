/- Contract: the reference's type of an expression of one. Conditions: none. -/
import Derived.Test.YtnjaedaofjkbnaaDoorC15
set_option maxRecDepth 100000
set_option linter.unusedVariables false
set_option linter.unusedSimpArgs false
namespace Go.Abs
open Go
theorem goes1_t {op t : Int} (h : goes1 op t = true) : 1 ≤ t ∧ t ≤ 6 := by
  simp only [goes1, Bool.and_eq_true, decide_eq_true_eq] at h
  exact h.1
theorem res7_not {op t : Int} (h : right1 (res7 op t) = false) : res7 op t = 0 := by
  unfold res7 at *
  split at h
  · rename_i hg
    have := goes1_t hg
    split at h
    · simp [right1] at h
    · simp [right1] at h; omega
  · rename_i hg; rw [if_neg hg]
theorem goes1_un {op t : Int} (h : goes1 op t = true) (hb : bin7 op = false) : op = 13 ∨ op = 17 := by
  have h2 := goes1_le h
  have : 8 ≤ op := by
    by_cases ho : 8 ≤ op
    · exact ho
    · exfalso
      have : goes1 op t = false := by
        unfold goes1
        repeat (rw [if_neg (by omega)])
        simp
      rw [this] at h
      cases h
  simp [bin7] at hb
  omega
theorem res7_un {op t : Int} (h : op ≠ 13) (h' : op ≠ 17) (hb : bin7 op = false) : res7 op t = 0 := by
  unfold res7
  rw [if_neg]
  intro hg
  rcases goes1_un hg hb with h1 | h1
  · exact h h1
  · exact h' h1
theorem bin7_13 : bin7 13 = false := rfl
theorem bin7_17 : bin7 17 = false := rfl
theorem len1_cast {l : List Ex} (h : l.length = 1) : (l.length : Int) = 1 := by omega
theorem c45_1z (s : Sc) (e x : Ex) (hf : e.Fit) (hl : e.l.length = 1) (hx : e.l[0]? = some x) (kx : PFn E 45 [scA s, exA x] (I 0)) : PFn E 45 [scA s, exA e] (I 0) := by
  have t0 := Ex.take0 hx
  have l0 := Ex.len0 hx
  have hlI := len1_cast hl
  refine pfn_F fn45 (by simp) ?_
  simp only [Go.Proofs.Tryd.f45, Option.getD_some, List.append_eq, List.cons_append, List.nil_append]
  repeat' (first
    | refine If1.split (fun hb => ?_) (fun hb => ?_)
    | refine C1.pure (kx) (by simp [AV.closedL, AV.closed, vr_closed, bk_closed, sg_closed, ints_closed, ex_closed]) ?_
    | simp (config := { maxSteps := 1000000 }) only [W1_skip, W1_ret, W1_label, W1_exit, W1_seq, W1_cond, W1_block, W1_region, W1_draw, W1_loop, O1_nil, O1_n, O1_s, slotD_s, slotD_z, V1_s, U1_b, U1_u, If1_t, If1_f, If1_not, eqB_tt, eqB_tf, eqB_ft, eqB_ff, X1_eq, H1_f, H1_h, H1_c, how, B1_some, B1_none, B1_ite, D1_b, setT_t, setT_c, T1_n, T1_r, T1_x, K1_n, K1_r, K1_x, FinP_n, FinP_r, bindO_some, RetOk_lit, FinX_n, FinX_r, FinK_n, FinK_r, oneOrTup_1, RetX_lit, getCells, List.set_cons_zero, List.set_cons_succ, putAt, fillA, sizesOf, allTyped, List.all_cons, List.all_nil, Bool.and_self, Bool.true_and, Bool.and_true, Nat.reduceMul, Int.reduceLT, Int.reduceGT, Int.reduceGE, Int.cast_ofNat_Int, Int.reduceLE, Int.reduceToNat, Int.reduceAdd, Int.reduceNeg, Int.reduceEq, Int.reduceBNe, Int.reduceBEq, decide_false, zerosA, List.replicate_succ, List.replicate_zero, List.flatten_cons, List.flatten_nil, Option.isSome_some, dstOk, evRes, evRes1, evFree, evHeap, evA, upd_ne, upd_same, initF, updO_some, updO_none, kindOf, AV.storable, AV.cells, AV.one, Value.oneCell', mode, E_pol, pol, binA, unA, litInt, litBool, litStr, eqA, callee, evArgs, evParts, ne_eq, Nat.reduceEqDiff, Nat.reduceLT, not_false_eq_true, decide_true, if_true, reduceIte, List.take_zero, List.take_succ_cons, List.length_cons, List.length_nil, Nat.reduceAdd, Nat.reduceLeDiff, List.getElem?_cons_zero, List.getElem?_cons_succ, List.getD_cons_zero, List.getD_cons_succ, List.drop_zero, List.drop_succ_cons, List.map_cons, List.map_nil, List.cons_append, List.nil_append, List.append_nil, List.head?_cons, Int.toNat_natCast, Nat.zero_le, and_self, true_and, and_true, Bool.not_true, Bool.not_false, Option.map_some, true_implies, Bool.true_eq_false, Bool.false_eq_true, reduceCtorEq, false_implies, List.mem_cons, List.not_mem_nil, Prod.mk.injEq, false_and, and_false, or_false, false_or, or_true, true_or, if_false, ty3, ty3k, ty3s, ty3t, ty3z, ty3o, ty3b, ty4, ty4k, ty4s, ty4t, ty4z, ty4o, ty4b, ty9, ty9k, ty9s, ty9t, ty9z, ty9o, ty9b, ty23, ty23k, ty23s, ty23t, ty23z, ty23o, ty23b, ty24, ty24k, ty24s, ty24t, ty24z, ty24o, ty24b, ty32, ty32k, ty32s, ty32t, ty32z, ty32o, ty32b, ty35, ty35k, ty35s, ty35t, ty35z, ty35o, ty35b, ty37, ty37k, ty37s, ty37t, ty37z, ty37o, ty37b, ty41, ty41k, ty41s, ty41t, ty41z, ty41o, ty41b, ty43, ty43k, ty43s, ty43t, ty43z, ty43o, ty43b, ty83, ty83k, ty83s, ty83t, ty83z, ty83o, ty83b, ty99, ty99k, ty99s, ty99t, ty99z, ty99o, ty99b, hlI, t0, l0]
    | refine And.intro (a := drawOk _ _ = true) (by kernel_rfl) ?_
    | (refine id (α := drawOk _ _ = true) ?_; kernel_rfl))
theorem c45_14 (s : Sc) (e x : Ex) (hf : e.Fit) (hl : e.l.length = 1) (hx : e.l[0]? = some x) (t : Int) (ht : t ≠ 0) (kx : PFn E 45 [scA s, exA x] (I t)) (h4 : e.op = 4) : PFn E 45 [scA s, exA e] (I (typ1 s e t)) := by
  have t0 := Ex.take0 hx
  have l0 := Ex.len0 hx
  have hlI := len1_cast hl
  have et : (t == 0) = false := by simp [ht]
  have q4 : IntKind.i64.wrap ((IntKind.i64.wrap (4 - 2)).tdiv 2) = 1 := rfl
  have fin0 : ∀ y : Int, typ1 s e t = y → I (typ1 s e t) = .lit (.int .i64 y) := fun x h => by rw [h]
  refine pfn_F fn45 (by simp) ?_
  simp only [Go.Proofs.Tryd.f45, Option.getD_some, List.append_eq, List.cons_append, List.nil_append]
  by_cases hin : 0 ≤ e.n ∧ e.n < (s.vars.length : Int)
  · obtain ⟨v, hv⟩ : ∃ v, s.vars[e.n.toNat]? = some v := ⟨s.vars[e.n.toNat]'(by omega), by simp⟩
    have hat := Vr.at hv
    repeat' (first
      | refine If1.split (fun hb => ?_) (fun hb => ?_)
      | refine C1.pure (kx) (by simp [AV.closedL, AV.closed, vr_closed, bk_closed, sg_closed, ints_closed, ex_closed]) ?_
      | refine C1.pure (c40 _) rfl ?_
      | simp (config := { maxSteps := 1000000 }) only [W1_skip, W1_ret, W1_label, W1_exit, W1_seq, W1_cond, W1_block, W1_region, W1_draw, W1_loop, O1_nil, O1_n, O1_s, slotD_s, slotD_z, V1_s, U1_b, U1_u, If1_t, If1_f, If1_not, eqB_tt, eqB_tf, eqB_ft, eqB_ff, X1_eq, H1_f, H1_h, H1_c, how, B1_some, B1_none, B1_ite, D1_b, setT_t, setT_c, T1_n, T1_r, T1_x, K1_n, K1_r, K1_x, FinP_n, FinP_r, bindO_some, RetOk_lit, FinX_n, FinX_r, FinK_n, FinK_r, oneOrTup_1, RetX_lit, getCells, List.set_cons_zero, List.set_cons_succ, putAt, fillA, sizesOf, allTyped, List.all_cons, List.all_nil, Bool.and_self, Bool.true_and, Bool.and_true, Nat.reduceMul, Int.reduceLT, Int.reduceGT, Int.reduceGE, Int.cast_ofNat_Int, Int.reduceLE, Int.reduceToNat, Int.reduceAdd, Int.reduceNeg, Int.reduceEq, Int.reduceBNe, Int.reduceBEq, decide_false, zerosA, List.replicate_succ, List.replicate_zero, List.flatten_cons, List.flatten_nil, Option.isSome_some, dstOk, evRes, evRes1, evFree, evHeap, evA, upd_ne, upd_same, initF, updO_some, updO_none, kindOf, AV.storable, AV.cells, AV.one, Value.oneCell', mode, E_pol, pol, binA, unA, litInt, litBool, litStr, eqA, callee, evArgs, evParts, ne_eq, Nat.reduceEqDiff, Nat.reduceLT, not_false_eq_true, decide_true, if_true, reduceIte, List.take_zero, List.take_succ_cons, List.length_cons, List.length_nil, Nat.reduceAdd, Nat.reduceLeDiff, List.getElem?_cons_zero, List.getElem?_cons_succ, List.getD_cons_zero, List.getD_cons_succ, List.drop_zero, List.drop_succ_cons, List.map_cons, List.map_nil, List.cons_append, List.nil_append, List.append_nil, List.head?_cons, Int.toNat_natCast, Nat.zero_le, and_self, true_and, and_true, Bool.not_true, Bool.not_false, Option.map_some, true_implies, Bool.true_eq_false, Bool.false_eq_true, reduceCtorEq, false_implies, List.mem_cons, List.not_mem_nil, Prod.mk.injEq, false_and, and_false, or_false, false_or, or_true, true_or, if_false, ty3, ty3k, ty3s, ty3t, ty3z, ty3o, ty3b, ty4, ty4k, ty4s, ty4t, ty4z, ty4o, ty4b, ty9, ty9k, ty9s, ty9t, ty9z, ty9o, ty9b, ty23, ty23k, ty23s, ty23t, ty23z, ty23o, ty23b, ty24, ty24k, ty24s, ty24t, ty24z, ty24o, ty24b, ty32, ty32k, ty32s, ty32t, ty32z, ty32o, ty32b, ty35, ty35k, ty35s, ty35t, ty35z, ty35o, ty35b, ty37, ty37k, ty37s, ty37t, ty37z, ty37o, ty37b, ty41, ty41k, ty41s, ty41t, ty41z, ty41o, ty41b, ty43, ty43k, ty43s, ty43t, ty43z, ty43o, ty43b, ty83, ty83k, ty83s, ty83t, ty83z, ty83o, ty83b, ty99, ty99k, ty99s, ty99t, ty99z, ty99o, ty99b, hlI, t0, l0, et, h4, right1_0, hat, hin, q4]
      | refine And.intro (a := drawOk _ _ = true) (by kernel_rfl) ?_
      | (refine id (α := drawOk _ _ = true) ?_; kernel_rfl))
    all_goals first
      | (exfalso; simp only [decide_eq_true_eq] at *; omega; done)
      | (refine fin0 _ ?_; simp [typ1, h4, hv, typed1] <;> simp_all <;> omega)
  · repeat' (first
      | refine If1.split (fun hb => ?_) (fun hb => ?_)
      | refine C1.pure (kx) (by simp [AV.closedL, AV.closed, vr_closed, bk_closed, sg_closed, ints_closed, ex_closed]) ?_
      | refine C1.pure (c40 _) rfl ?_
      | simp (config := { maxSteps := 1000000 }) only [W1_skip, W1_ret, W1_label, W1_exit, W1_seq, W1_cond, W1_block, W1_region, W1_draw, W1_loop, O1_nil, O1_n, O1_s, slotD_s, slotD_z, V1_s, U1_b, U1_u, If1_t, If1_f, If1_not, eqB_tt, eqB_tf, eqB_ft, eqB_ff, X1_eq, H1_f, H1_h, H1_c, how, B1_some, B1_none, B1_ite, D1_b, setT_t, setT_c, T1_n, T1_r, T1_x, K1_n, K1_r, K1_x, FinP_n, FinP_r, bindO_some, RetOk_lit, FinX_n, FinX_r, FinK_n, FinK_r, oneOrTup_1, RetX_lit, getCells, List.set_cons_zero, List.set_cons_succ, putAt, fillA, sizesOf, allTyped, List.all_cons, List.all_nil, Bool.and_self, Bool.true_and, Bool.and_true, Nat.reduceMul, Int.reduceLT, Int.reduceGT, Int.reduceGE, Int.cast_ofNat_Int, Int.reduceLE, Int.reduceToNat, Int.reduceAdd, Int.reduceNeg, Int.reduceEq, Int.reduceBNe, Int.reduceBEq, decide_false, zerosA, List.replicate_succ, List.replicate_zero, List.flatten_cons, List.flatten_nil, Option.isSome_some, dstOk, evRes, evRes1, evFree, evHeap, evA, upd_ne, upd_same, initF, updO_some, updO_none, kindOf, AV.storable, AV.cells, AV.one, Value.oneCell', mode, E_pol, pol, binA, unA, litInt, litBool, litStr, eqA, callee, evArgs, evParts, ne_eq, Nat.reduceEqDiff, Nat.reduceLT, not_false_eq_true, decide_true, if_true, reduceIte, List.take_zero, List.take_succ_cons, List.length_cons, List.length_nil, Nat.reduceAdd, Nat.reduceLeDiff, List.getElem?_cons_zero, List.getElem?_cons_succ, List.getD_cons_zero, List.getD_cons_succ, List.drop_zero, List.drop_succ_cons, List.map_cons, List.map_nil, List.cons_append, List.nil_append, List.append_nil, List.head?_cons, Int.toNat_natCast, Nat.zero_le, and_self, true_and, and_true, Bool.not_true, Bool.not_false, Option.map_some, true_implies, Bool.true_eq_false, Bool.false_eq_true, reduceCtorEq, false_implies, List.mem_cons, List.not_mem_nil, Prod.mk.injEq, false_and, and_false, or_false, false_or, or_true, true_or, if_false, ty3, ty3k, ty3s, ty3t, ty3z, ty3o, ty3b, ty4, ty4k, ty4s, ty4t, ty4z, ty4o, ty4b, ty9, ty9k, ty9s, ty9t, ty9z, ty9o, ty9b, ty23, ty23k, ty23s, ty23t, ty23z, ty23o, ty23b, ty24, ty24k, ty24s, ty24t, ty24z, ty24o, ty24b, ty32, ty32k, ty32s, ty32t, ty32z, ty32o, ty32b, ty35, ty35k, ty35s, ty35t, ty35z, ty35o, ty35b, ty37, ty37k, ty37s, ty37t, ty37z, ty37o, ty37b, ty41, ty41k, ty41s, ty41t, ty41z, ty41o, ty41b, ty43, ty43k, ty43s, ty43t, ty43z, ty43o, ty43b, ty83, ty83k, ty83s, ty83t, ty83z, ty83o, ty83b, ty99, ty99k, ty99s, ty99t, ty99z, ty99o, ty99b, hlI, t0, l0, et, h4, right1_0, q4]
      | refine And.intro (a := drawOk _ _ = true) (by kernel_rfl) ?_
      | (refine id (α := drawOk _ _ = true) ?_; kernel_rfl))
    all_goals first
      | (exfalso; simp only [decide_eq_true_eq] at *; omega; done)
      | (refine fin0 _ ?_; simp [typ1, h4] <;> simp_all; done)
      | (refine fin0 _ ?_; simp [typ1, h4, List.getElem?_eq_none (show s.vars.length ≤ e.n.toNat by simp at *; omega)]; done)
theorem c45_16 (s : Sc) (e x : Ex) (hf : e.Fit) (hl : e.l.length = 1) (hx : e.l[0]? = some x) (t : Int) (ht : t ≠ 0) (kx : PFn E 45 [scA s, exA x] (I t)) (h6 : e.op = 6) : PFn E 45 [scA s, exA e] (I (typ1 s e t)) := by
  have t0 := Ex.take0 hx
  have l0 := Ex.len0 hx
  have hlI := len1_cast hl
  have et : (t == 0) = false := by simp [ht]
  have fin0 : ∀ y : Int, typ1 s e t = y → I (typ1 s e t) = .lit (.int .i64 y) := fun x h => by rw [h]
  refine pfn_F fn45 (by simp) ?_
  simp only [Go.Proofs.Tryd.f45, Option.getD_some, List.append_eq, List.cons_append, List.nil_append]
  repeat' (first
    | refine If1.split (fun hb => ?_) (fun hb => ?_)
    | refine C1.pure (kx) (by simp [AV.closedL, AV.closed, vr_closed, bk_closed, sg_closed, ints_closed, ex_closed]) ?_
    | refine C1.pure (c72 _ _) rfl ?_
    | refine C1.pure (c40 _) rfl ?_
    | simp (config := { maxSteps := 1000000 }) only [W1_skip, W1_ret, W1_label, W1_exit, W1_seq, W1_cond, W1_block, W1_region, W1_draw, W1_loop, O1_nil, O1_n, O1_s, slotD_s, slotD_z, V1_s, U1_b, U1_u, If1_t, If1_f, If1_not, eqB_tt, eqB_tf, eqB_ft, eqB_ff, X1_eq, H1_f, H1_h, H1_c, how, B1_some, B1_none, B1_ite, D1_b, setT_t, setT_c, T1_n, T1_r, T1_x, K1_n, K1_r, K1_x, FinP_n, FinP_r, bindO_some, RetOk_lit, FinX_n, FinX_r, FinK_n, FinK_r, oneOrTup_1, RetX_lit, getCells, List.set_cons_zero, List.set_cons_succ, putAt, fillA, sizesOf, allTyped, List.all_cons, List.all_nil, Bool.and_self, Bool.true_and, Bool.and_true, Nat.reduceMul, Int.reduceLT, Int.reduceGT, Int.reduceGE, Int.cast_ofNat_Int, Int.reduceLE, Int.reduceToNat, Int.reduceAdd, Int.reduceNeg, Int.reduceEq, Int.reduceBNe, Int.reduceBEq, decide_false, zerosA, List.replicate_succ, List.replicate_zero, List.flatten_cons, List.flatten_nil, Option.isSome_some, dstOk, evRes, evRes1, evFree, evHeap, evA, upd_ne, upd_same, initF, updO_some, updO_none, kindOf, AV.storable, AV.cells, AV.one, Value.oneCell', mode, E_pol, pol, binA, unA, litInt, litBool, litStr, eqA, callee, evArgs, evParts, ne_eq, Nat.reduceEqDiff, Nat.reduceLT, not_false_eq_true, decide_true, if_true, reduceIte, List.take_zero, List.take_succ_cons, List.length_cons, List.length_nil, Nat.reduceAdd, Nat.reduceLeDiff, List.getElem?_cons_zero, List.getElem?_cons_succ, List.getD_cons_zero, List.getD_cons_succ, List.drop_zero, List.drop_succ_cons, List.map_cons, List.map_nil, List.cons_append, List.nil_append, List.append_nil, List.head?_cons, Int.toNat_natCast, Nat.zero_le, and_self, true_and, and_true, Bool.not_true, Bool.not_false, Option.map_some, true_implies, Bool.true_eq_false, Bool.false_eq_true, reduceCtorEq, false_implies, List.mem_cons, List.not_mem_nil, Prod.mk.injEq, false_and, and_false, or_false, false_or, or_true, true_or, if_false, ty3, ty3k, ty3s, ty3t, ty3z, ty3o, ty3b, ty4, ty4k, ty4s, ty4t, ty4z, ty4o, ty4b, ty9, ty9k, ty9s, ty9t, ty9z, ty9o, ty9b, ty23, ty23k, ty23s, ty23t, ty23z, ty23o, ty23b, ty24, ty24k, ty24s, ty24t, ty24z, ty24o, ty24b, ty32, ty32k, ty32s, ty32t, ty32z, ty32o, ty32b, ty35, ty35k, ty35s, ty35t, ty35z, ty35o, ty35b, ty37, ty37k, ty37s, ty37t, ty37z, ty37o, ty37b, ty41, ty41k, ty41s, ty41t, ty41z, ty41o, ty41b, ty43, ty43k, ty43s, ty43t, ty43z, ty43o, ty43b, ty83, ty83k, ty83s, ty83t, ty83z, ty83o, ty83b, ty99, ty99k, ty99s, ty99t, ty99z, ty99o, ty99b, hlI, t0, l0, et, h6, right1_0]
    | refine And.intro (a := drawOk _ _ = true) (by kernel_rfl) ?_
    | (refine id (α := drawOk _ _ = true) ?_; kernel_rfl))
  all_goals refine fin0 _ ?_
  all_goals first
    | (simp [typ1, h6] <;> simp_all [bin7_13, bin7_17]; done)
    | (rw [res7_not] at * <;> assumption; done)
    | (have hz := res7_not ‹right1 _ = false›; simp [typ1, h6] <;> simp_all [bin7_13, bin7_17]; done)
    | (simp [typ1, h6]; intros; exact res7_un (by simp_all) (by simp_all) (by assumption))
theorem c45_18 (s : Sc) (e x : Ex) (hf : e.Fit) (hl : e.l.length = 1) (hx : e.l[0]? = some x) (t : Int) (ht : t ≠ 0) (kx : PFn E 45 [scA s, exA x] (I t)) (h8 : e.op = 8) : PFn E 45 [scA s, exA e] (I (typ1 s e t)) := by
  have t0 := Ex.take0 hx
  have l0 := Ex.len0 hx
  have hlI := len1_cast hl
  have et : (t == 0) = false := by simp [ht]
  have fin0 : ∀ y : Int, typ1 s e t = y → I (typ1 s e t) = .lit (.int .i64 y) := fun x h => by rw [h]
  refine pfn_F fn45 (by simp) ?_
  simp only [Go.Proofs.Tryd.f45, Option.getD_some, List.append_eq, List.cons_append, List.nil_append]
  repeat' (first
    | refine If1.split (fun hb => ?_) (fun hb => ?_)
    | refine C1.pure (kx) (by simp [AV.closedL, AV.closed, vr_closed, bk_closed, sg_closed, ints_closed, ex_closed]) ?_
    | refine C1.pure (c40 _) rfl ?_
    | simp (config := { maxSteps := 1000000 }) only [W1_skip, W1_ret, W1_label, W1_exit, W1_seq, W1_cond, W1_block, W1_region, W1_draw, W1_loop, O1_nil, O1_n, O1_s, slotD_s, slotD_z, V1_s, U1_b, U1_u, If1_t, If1_f, If1_not, eqB_tt, eqB_tf, eqB_ft, eqB_ff, X1_eq, H1_f, H1_h, H1_c, how, B1_some, B1_none, B1_ite, D1_b, setT_t, setT_c, T1_n, T1_r, T1_x, K1_n, K1_r, K1_x, FinP_n, FinP_r, bindO_some, RetOk_lit, FinX_n, FinX_r, FinK_n, FinK_r, oneOrTup_1, RetX_lit, getCells, List.set_cons_zero, List.set_cons_succ, putAt, fillA, sizesOf, allTyped, List.all_cons, List.all_nil, Bool.and_self, Bool.true_and, Bool.and_true, Nat.reduceMul, Int.reduceLT, Int.reduceGT, Int.reduceGE, Int.cast_ofNat_Int, Int.reduceLE, Int.reduceToNat, Int.reduceAdd, Int.reduceNeg, Int.reduceEq, Int.reduceBNe, Int.reduceBEq, decide_false, zerosA, List.replicate_succ, List.replicate_zero, List.flatten_cons, List.flatten_nil, Option.isSome_some, dstOk, evRes, evRes1, evFree, evHeap, evA, upd_ne, upd_same, initF, updO_some, updO_none, kindOf, AV.storable, AV.cells, AV.one, Value.oneCell', mode, E_pol, pol, binA, unA, litInt, litBool, litStr, eqA, callee, evArgs, evParts, ne_eq, Nat.reduceEqDiff, Nat.reduceLT, not_false_eq_true, decide_true, if_true, reduceIte, List.take_zero, List.take_succ_cons, List.length_cons, List.length_nil, Nat.reduceAdd, Nat.reduceLeDiff, List.getElem?_cons_zero, List.getElem?_cons_succ, List.getD_cons_zero, List.getD_cons_succ, List.drop_zero, List.drop_succ_cons, List.map_cons, List.map_nil, List.cons_append, List.nil_append, List.append_nil, List.head?_cons, Int.toNat_natCast, Nat.zero_le, and_self, true_and, and_true, Bool.not_true, Bool.not_false, Option.map_some, true_implies, Bool.true_eq_false, Bool.false_eq_true, reduceCtorEq, false_implies, List.mem_cons, List.not_mem_nil, Prod.mk.injEq, false_and, and_false, or_false, false_or, or_true, true_or, if_false, ty3, ty3k, ty3s, ty3t, ty3z, ty3o, ty3b, ty4, ty4k, ty4s, ty4t, ty4z, ty4o, ty4b, ty9, ty9k, ty9s, ty9t, ty9z, ty9o, ty9b, ty23, ty23k, ty23s, ty23t, ty23z, ty23o, ty23b, ty24, ty24k, ty24s, ty24t, ty24z, ty24o, ty24b, ty32, ty32k, ty32s, ty32t, ty32z, ty32o, ty32b, ty35, ty35k, ty35s, ty35t, ty35z, ty35o, ty35b, ty37, ty37k, ty37s, ty37t, ty37z, ty37o, ty37b, ty41, ty41k, ty41s, ty41t, ty41z, ty41o, ty41b, ty43, ty43k, ty43s, ty43t, ty43z, ty43o, ty43b, ty83, ty83k, ty83s, ty83t, ty83z, ty83o, ty83b, ty99, ty99k, ty99s, ty99t, ty99z, ty99o, ty99b, hlI, t0, l0, et, h8, right1_0]
    | refine And.intro (a := drawOk _ _ = true) (by kernel_rfl) ?_
    | (refine id (α := drawOk _ _ = true) ?_; kernel_rfl))
  all_goals (refine fin0 _ ?_; simp [typ1, h8, typed1] <;> simp_all <;> omega)
theorem c45_1x (s : Sc) (e x : Ex) (hf : e.Fit) (hl : e.l.length = 1) (hx : e.l[0]? = some x) (t : Int) (ht : t ≠ 0) (kx : PFn E 45 [scA s, exA x] (I t)) (h4 : e.op ≠ 4) (h6 : e.op ≠ 6) (h8 : e.op ≠ 8) : PFn E 45 [scA s, exA e] (I (typ1 s e t)) := by
  have t0 := Ex.take0 hx
  have l0 := Ex.len0 hx
  have hlI := len1_cast hl
  have et : (t == 0) = false := by simp [ht]
  have e4 : (e.op == 4) = false := by simp [h4]
  have e6 : (e.op == 6) = false := by simp [h6]
  have e8 : (e.op == 8) = false := by simp [h8]
  have hz : typ1 s e t = 0 := by simp [typ1, h4, h6, h8]
  have q2 : IntKind.i64.wrap ((IntKind.i64.wrap (2 - 2)).tdiv 2) = 0 := rfl
  refine pfn_F fn45 (by simp) ?_
  simp only [Go.Proofs.Tryd.f45, Option.getD_some, List.append_eq, List.cons_append, List.nil_append]
  by_cases h2 : e.op = 2
  · repeat' (first
      | refine If1.split (fun hb => ?_) (fun hb => ?_)
      | refine C1.pure (kx) (by simp [AV.closedL, AV.closed, vr_closed, bk_closed, sg_closed, ints_closed, ex_closed]) ?_
      | refine C1.pure (c40 _) rfl ?_
      | simp (config := { maxSteps := 1000000 }) only [W1_skip, W1_ret, W1_label, W1_exit, W1_seq, W1_cond, W1_block, W1_region, W1_draw, W1_loop, O1_nil, O1_n, O1_s, slotD_s, slotD_z, V1_s, U1_b, U1_u, If1_t, If1_f, If1_not, eqB_tt, eqB_tf, eqB_ft, eqB_ff, X1_eq, H1_f, H1_h, H1_c, how, B1_some, B1_none, B1_ite, D1_b, setT_t, setT_c, T1_n, T1_r, T1_x, K1_n, K1_r, K1_x, FinP_n, FinP_r, bindO_some, RetOk_lit, FinX_n, FinX_r, FinK_n, FinK_r, oneOrTup_1, RetX_lit, getCells, List.set_cons_zero, List.set_cons_succ, putAt, fillA, sizesOf, allTyped, List.all_cons, List.all_nil, Bool.and_self, Bool.true_and, Bool.and_true, Nat.reduceMul, Int.reduceLT, Int.reduceGT, Int.reduceGE, Int.cast_ofNat_Int, Int.reduceLE, Int.reduceToNat, Int.reduceAdd, Int.reduceNeg, Int.reduceEq, Int.reduceBNe, Int.reduceBEq, decide_false, zerosA, List.replicate_succ, List.replicate_zero, List.flatten_cons, List.flatten_nil, Option.isSome_some, dstOk, evRes, evRes1, evFree, evHeap, evA, upd_ne, upd_same, initF, updO_some, updO_none, kindOf, AV.storable, AV.cells, AV.one, Value.oneCell', mode, E_pol, pol, binA, unA, litInt, litBool, litStr, eqA, callee, evArgs, evParts, ne_eq, Nat.reduceEqDiff, Nat.reduceLT, not_false_eq_true, decide_true, if_true, reduceIte, List.take_zero, List.take_succ_cons, List.length_cons, List.length_nil, Nat.reduceAdd, Nat.reduceLeDiff, List.getElem?_cons_zero, List.getElem?_cons_succ, List.getD_cons_zero, List.getD_cons_succ, List.drop_zero, List.drop_succ_cons, List.map_cons, List.map_nil, List.cons_append, List.nil_append, List.append_nil, List.head?_cons, Int.toNat_natCast, Nat.zero_le, and_self, true_and, and_true, Bool.not_true, Bool.not_false, Option.map_some, true_implies, Bool.true_eq_false, Bool.false_eq_true, reduceCtorEq, false_implies, List.mem_cons, List.not_mem_nil, Prod.mk.injEq, false_and, and_false, or_false, false_or, or_true, true_or, if_false, ty3, ty3k, ty3s, ty3t, ty3z, ty3o, ty3b, ty4, ty4k, ty4s, ty4t, ty4z, ty4o, ty4b, ty9, ty9k, ty9s, ty9t, ty9z, ty9o, ty9b, ty23, ty23k, ty23s, ty23t, ty23z, ty23o, ty23b, ty24, ty24k, ty24s, ty24t, ty24z, ty24o, ty24b, ty32, ty32k, ty32s, ty32t, ty32z, ty32o, ty32b, ty35, ty35k, ty35s, ty35t, ty35z, ty35o, ty35b, ty37, ty37k, ty37s, ty37t, ty37z, ty37o, ty37b, ty41, ty41k, ty41s, ty41t, ty41z, ty41o, ty41b, ty43, ty43k, ty43s, ty43t, ty43z, ty43o, ty43b, ty83, ty83k, ty83s, ty83t, ty83z, ty83o, ty83b, ty99, ty99k, ty99s, ty99t, ty99z, ty99o, ty99b, hlI, t0, l0, et, h2, q2, hz, right1_0]
      | refine And.intro (a := drawOk _ _ = true) (by kernel_rfl) ?_
      | (refine id (α := drawOk _ _ = true) ?_; kernel_rfl))
  have e2 : (e.op == 2) = false := by simp [h2]
  repeat' (first
    | refine If1.split (fun hb => ?_) (fun hb => ?_)
    | refine C1.pure (kx) (by simp [AV.closedL, AV.closed, vr_closed, bk_closed, sg_closed, ints_closed, ex_closed]) ?_
    | refine C1.pure (c40 _) rfl ?_
    | simp (config := { maxSteps := 1000000 }) only [W1_skip, W1_ret, W1_label, W1_exit, W1_seq, W1_cond, W1_block, W1_region, W1_draw, W1_loop, O1_nil, O1_n, O1_s, slotD_s, slotD_z, V1_s, U1_b, U1_u, If1_t, If1_f, If1_not, eqB_tt, eqB_tf, eqB_ft, eqB_ff, X1_eq, H1_f, H1_h, H1_c, how, B1_some, B1_none, B1_ite, D1_b, setT_t, setT_c, T1_n, T1_r, T1_x, K1_n, K1_r, K1_x, FinP_n, FinP_r, bindO_some, RetOk_lit, FinX_n, FinX_r, FinK_n, FinK_r, oneOrTup_1, RetX_lit, getCells, List.set_cons_zero, List.set_cons_succ, putAt, fillA, sizesOf, allTyped, List.all_cons, List.all_nil, Bool.and_self, Bool.true_and, Bool.and_true, Nat.reduceMul, Int.reduceLT, Int.reduceGT, Int.reduceGE, Int.cast_ofNat_Int, Int.reduceLE, Int.reduceToNat, Int.reduceAdd, Int.reduceNeg, Int.reduceEq, Int.reduceBNe, Int.reduceBEq, decide_false, zerosA, List.replicate_succ, List.replicate_zero, List.flatten_cons, List.flatten_nil, Option.isSome_some, dstOk, evRes, evRes1, evFree, evHeap, evA, upd_ne, upd_same, initF, updO_some, updO_none, kindOf, AV.storable, AV.cells, AV.one, Value.oneCell', mode, E_pol, pol, binA, unA, litInt, litBool, litStr, eqA, callee, evArgs, evParts, ne_eq, Nat.reduceEqDiff, Nat.reduceLT, not_false_eq_true, decide_true, if_true, reduceIte, List.take_zero, List.take_succ_cons, List.length_cons, List.length_nil, Nat.reduceAdd, Nat.reduceLeDiff, List.getElem?_cons_zero, List.getElem?_cons_succ, List.getD_cons_zero, List.getD_cons_succ, List.drop_zero, List.drop_succ_cons, List.map_cons, List.map_nil, List.cons_append, List.nil_append, List.append_nil, List.head?_cons, Int.toNat_natCast, Nat.zero_le, and_self, true_and, and_true, Bool.not_true, Bool.not_false, Option.map_some, true_implies, Bool.true_eq_false, Bool.false_eq_true, reduceCtorEq, false_implies, List.mem_cons, List.not_mem_nil, Prod.mk.injEq, false_and, and_false, or_false, false_or, or_true, true_or, if_false, ty3, ty3k, ty3s, ty3t, ty3z, ty3o, ty3b, ty4, ty4k, ty4s, ty4t, ty4z, ty4o, ty4b, ty9, ty9k, ty9s, ty9t, ty9z, ty9o, ty9b, ty23, ty23k, ty23s, ty23t, ty23z, ty23o, ty23b, ty24, ty24k, ty24s, ty24t, ty24z, ty24o, ty24b, ty32, ty32k, ty32s, ty32t, ty32z, ty32o, ty32b, ty35, ty35k, ty35s, ty35t, ty35z, ty35o, ty35b, ty37, ty37k, ty37s, ty37t, ty37z, ty37o, ty37b, ty41, ty41k, ty41s, ty41t, ty41z, ty41o, ty41b, ty43, ty43k, ty43s, ty43t, ty43z, ty43o, ty43b, ty83, ty83k, ty83s, ty83t, ty83z, ty83o, ty83b, ty99, ty99k, ty99s, ty99t, ty99z, ty99o, ty99b, hlI, t0, l0, et, e2, e4, e6, e8, hz, right1_0]
    | refine And.intro (a := drawOk _ _ = true) (by kernel_rfl) ?_
    | (refine id (α := drawOk _ _ = true) ?_; kernel_rfl))
end Go.Abs

