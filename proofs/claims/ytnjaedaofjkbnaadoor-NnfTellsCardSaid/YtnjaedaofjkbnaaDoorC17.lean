/- Contract: the reference's type of any expression. Conditions: none. -/
import Derived.Test.YtnjaedaofjkbnaaDoorC16
set_option maxRecDepth 100000
set_option linter.unusedVariables false
set_option linter.unusedSimpArgs false
namespace Go.Abs
open Go
theorem Ex.len1 {l : List Ex} {x : Ex} (h : l[1]? = some x) : 10 ≤ (recs Ex.cs l).length := by
  rw [recs_length Ex.cs_len]
  have := (List.getElem?_eq_some_iff.1 h).1
  omega
theorem c45_2z (s : Sc) (e x y : Ex) (t u n : Int) (hl : (e.l.length : Int) = n) (h2 : 2 ≤ n) (hx : e.l[0]? = some x) (hy : e.l[1]? = some y) (kx : PFn E 45 [scA s, exA x] (I t)) (ky : PFn E 45 [scA s, exA y] (I u)) (hz : n ≠ 2 ∨ t = 0 ∨ u = 0) : PFn E 45 [scA s, exA e] (I 0) := by
  have t0 := Ex.take0 hx
  have l0 := Ex.len0 hx
  have d1 := Ex.drop1 hy
  have i0 : (0 : Int) ≤ 0 ∧ (0 : Int) < n := by omega
  have i1 : (0 : Int) ≤ 1 ∧ (1 : Int) < n := by omega
  have g0 : decide (n > 0) = true := by simp; omega
  have g1 : decide (n > 1) = true := by simp; omega
  refine pfn_F fn45 (by simp) ?_
  simp only [Go.Proofs.Tryd.f45, Option.getD_some, List.append_eq, List.cons_append, List.nil_append]
  by_cases hn : n = 2
  · subst hn
    by_cases ht : t = 0
    · subst ht
      repeat' (first
        | refine If1.split (fun hb => ?_) (fun hb => ?_)
        | refine C1.pure (kx) (by simp [AV.closedL, AV.closed, vr_closed, bk_closed, sg_closed, ints_closed, ex_closed]) ?_
        | refine C1.pure (ky) (by simp [AV.closedL, AV.closed, vr_closed, bk_closed, sg_closed, ints_closed, ex_closed]) ?_
        | simp (config := { maxSteps := 1000000 }) only [W1_skip, W1_ret, W1_label, W1_exit, W1_seq, W1_cond, W1_block, W1_region, W1_draw, W1_loop, O1_nil, O1_n, O1_s, slotD_s, slotD_z, V1_s, U1_b, U1_u, If1_t, If1_f, If1_not, eqB_tt, eqB_tf, eqB_ft, eqB_ff, X1_eq, H1_f, H1_h, H1_c, how, B1_some, B1_none, B1_ite, D1_b, setT_t, setT_c, T1_n, T1_r, T1_x, K1_n, K1_r, K1_x, FinP_n, FinP_r, bindO_some, RetOk_lit, FinX_n, FinX_r, FinK_n, FinK_r, oneOrTup_1, RetX_lit, getCells, List.set_cons_zero, List.set_cons_succ, putAt, fillA, sizesOf, allTyped, List.all_cons, List.all_nil, Bool.and_self, Bool.true_and, Bool.and_true, Nat.reduceMul, Int.reduceLT, Int.reduceGT, Int.reduceGE, Int.cast_ofNat_Int, Int.reduceLE, Int.reduceToNat, Int.reduceAdd, Int.reduceNeg, Int.reduceEq, Int.reduceBNe, Int.reduceBEq, decide_false, zerosA, List.replicate_succ, List.replicate_zero, List.flatten_cons, List.flatten_nil, Option.isSome_some, dstOk, evRes, evRes1, evFree, evHeap, evA, upd_ne, upd_same, initF, updO_some, updO_none, kindOf, AV.storable, AV.cells, AV.one, Value.oneCell', mode, E_pol, pol, binA, unA, litInt, litBool, litStr, eqA, callee, evArgs, evParts, ne_eq, Nat.reduceEqDiff, Nat.reduceLT, not_false_eq_true, decide_true, if_true, reduceIte, List.take_zero, List.take_succ_cons, List.length_cons, List.length_nil, Nat.reduceAdd, Nat.reduceLeDiff, List.getElem?_cons_zero, List.getElem?_cons_succ, List.getD_cons_zero, List.getD_cons_succ, List.drop_zero, List.drop_succ_cons, List.map_cons, List.map_nil, List.cons_append, List.nil_append, List.append_nil, List.head?_cons, Int.toNat_natCast, Nat.zero_le, and_self, true_and, and_true, Bool.not_true, Bool.not_false, Option.map_some, true_implies, Bool.true_eq_false, Bool.false_eq_true, reduceCtorEq, false_implies, List.mem_cons, List.not_mem_nil, Prod.mk.injEq, false_and, and_false, or_false, false_or, or_true, true_or, if_false, ty3, ty3k, ty3s, ty3t, ty3z, ty3o, ty3b, ty4, ty4k, ty4s, ty4t, ty4z, ty4o, ty4b, ty9, ty9k, ty9s, ty9t, ty9z, ty9o, ty9b, ty23, ty23k, ty23s, ty23t, ty23z, ty23o, ty23b, ty24, ty24k, ty24s, ty24t, ty24z, ty24o, ty24b, ty32, ty32k, ty32s, ty32t, ty32z, ty32o, ty32b, ty35, ty35k, ty35s, ty35t, ty35z, ty35o, ty35b, ty37, ty37k, ty37s, ty37t, ty37z, ty37o, ty37b, ty41, ty41k, ty41s, ty41t, ty41z, ty41o, ty41b, ty43, ty43k, ty43s, ty43t, ty43z, ty43o, ty43b, ty83, ty83k, ty83s, ty83t, ty83z, ty83o, ty83b, ty99, ty99k, ty99s, ty99t, ty99z, ty99o, ty99b, hl, t0, l0, d1, i0, i1]
        | refine And.intro (a := drawOk _ _ = true) (by kernel_rfl) ?_
        | (refine id (α := drawOk _ _ = true) ?_; kernel_rfl))
    · obtain rfl : u = 0 := by simp_all
      have et : (t == 0) = false := by simp [ht]
      repeat' (first
        | refine If1.split (fun hb => ?_) (fun hb => ?_)
        | refine C1.pure (kx) (by simp [AV.closedL, AV.closed, vr_closed, bk_closed, sg_closed, ints_closed, ex_closed]) ?_
        | refine C1.pure (ky) (by simp [AV.closedL, AV.closed, vr_closed, bk_closed, sg_closed, ints_closed, ex_closed]) ?_
        | simp (config := { maxSteps := 1000000 }) only [W1_skip, W1_ret, W1_label, W1_exit, W1_seq, W1_cond, W1_block, W1_region, W1_draw, W1_loop, O1_nil, O1_n, O1_s, slotD_s, slotD_z, V1_s, U1_b, U1_u, If1_t, If1_f, If1_not, eqB_tt, eqB_tf, eqB_ft, eqB_ff, X1_eq, H1_f, H1_h, H1_c, how, B1_some, B1_none, B1_ite, D1_b, setT_t, setT_c, T1_n, T1_r, T1_x, K1_n, K1_r, K1_x, FinP_n, FinP_r, bindO_some, RetOk_lit, FinX_n, FinX_r, FinK_n, FinK_r, oneOrTup_1, RetX_lit, getCells, List.set_cons_zero, List.set_cons_succ, putAt, fillA, sizesOf, allTyped, List.all_cons, List.all_nil, Bool.and_self, Bool.true_and, Bool.and_true, Nat.reduceMul, Int.reduceLT, Int.reduceGT, Int.reduceGE, Int.cast_ofNat_Int, Int.reduceLE, Int.reduceToNat, Int.reduceAdd, Int.reduceNeg, Int.reduceEq, Int.reduceBNe, Int.reduceBEq, decide_false, zerosA, List.replicate_succ, List.replicate_zero, List.flatten_cons, List.flatten_nil, Option.isSome_some, dstOk, evRes, evRes1, evFree, evHeap, evA, upd_ne, upd_same, initF, updO_some, updO_none, kindOf, AV.storable, AV.cells, AV.one, Value.oneCell', mode, E_pol, pol, binA, unA, litInt, litBool, litStr, eqA, callee, evArgs, evParts, ne_eq, Nat.reduceEqDiff, Nat.reduceLT, not_false_eq_true, decide_true, if_true, reduceIte, List.take_zero, List.take_succ_cons, List.length_cons, List.length_nil, Nat.reduceAdd, Nat.reduceLeDiff, List.getElem?_cons_zero, List.getElem?_cons_succ, List.getD_cons_zero, List.getD_cons_succ, List.drop_zero, List.drop_succ_cons, List.map_cons, List.map_nil, List.cons_append, List.nil_append, List.append_nil, List.head?_cons, Int.toNat_natCast, Nat.zero_le, and_self, true_and, and_true, Bool.not_true, Bool.not_false, Option.map_some, true_implies, Bool.true_eq_false, Bool.false_eq_true, reduceCtorEq, false_implies, List.mem_cons, List.not_mem_nil, Prod.mk.injEq, false_and, and_false, or_false, false_or, or_true, true_or, if_false, ty3, ty3k, ty3s, ty3t, ty3z, ty3o, ty3b, ty4, ty4k, ty4s, ty4t, ty4z, ty4o, ty4b, ty9, ty9k, ty9s, ty9t, ty9z, ty9o, ty9b, ty23, ty23k, ty23s, ty23t, ty23z, ty23o, ty23b, ty24, ty24k, ty24s, ty24t, ty24z, ty24o, ty24b, ty32, ty32k, ty32s, ty32t, ty32z, ty32o, ty32b, ty35, ty35k, ty35s, ty35t, ty35z, ty35o, ty35b, ty37, ty37k, ty37s, ty37t, ty37z, ty37o, ty37b, ty41, ty41k, ty41s, ty41t, ty41z, ty41o, ty41b, ty43, ty43k, ty43s, ty43t, ty43z, ty43o, ty43b, ty83, ty83k, ty83s, ty83t, ty83z, ty83o, ty83b, ty99, ty99k, ty99s, ty99t, ty99z, ty99o, ty99b, hl, t0, l0, d1, i0, i1, et]
        | refine And.intro (a := drawOk _ _ = true) (by kernel_rfl) ?_
        | (refine id (α := drawOk _ _ = true) ?_; kernel_rfl))
  · have g2 : decide (n > 2) = true := by simp; omega
    repeat' (first
      | refine If1.split (fun hb => ?_) (fun hb => ?_)
      | refine C1.pure (kx) (by simp [AV.closedL, AV.closed, vr_closed, bk_closed, sg_closed, ints_closed, ex_closed]) ?_
      | refine C1.pure (ky) (by simp [AV.closedL, AV.closed, vr_closed, bk_closed, sg_closed, ints_closed, ex_closed]) ?_
      | simp (config := { maxSteps := 1000000 }) only [W1_skip, W1_ret, W1_label, W1_exit, W1_seq, W1_cond, W1_block, W1_region, W1_draw, W1_loop, O1_nil, O1_n, O1_s, slotD_s, slotD_z, V1_s, U1_b, U1_u, If1_t, If1_f, If1_not, eqB_tt, eqB_tf, eqB_ft, eqB_ff, X1_eq, H1_f, H1_h, H1_c, how, B1_some, B1_none, B1_ite, D1_b, setT_t, setT_c, T1_n, T1_r, T1_x, K1_n, K1_r, K1_x, FinP_n, FinP_r, bindO_some, RetOk_lit, FinX_n, FinX_r, FinK_n, FinK_r, oneOrTup_1, RetX_lit, getCells, List.set_cons_zero, List.set_cons_succ, putAt, fillA, sizesOf, allTyped, List.all_cons, List.all_nil, Bool.and_self, Bool.true_and, Bool.and_true, Nat.reduceMul, Int.reduceLT, Int.reduceGT, Int.reduceGE, Int.cast_ofNat_Int, Int.reduceLE, Int.reduceToNat, Int.reduceAdd, Int.reduceNeg, Int.reduceEq, Int.reduceBNe, Int.reduceBEq, decide_false, zerosA, List.replicate_succ, List.replicate_zero, List.flatten_cons, List.flatten_nil, Option.isSome_some, dstOk, evRes, evRes1, evFree, evHeap, evA, upd_ne, upd_same, initF, updO_some, updO_none, kindOf, AV.storable, AV.cells, AV.one, Value.oneCell', mode, E_pol, pol, binA, unA, litInt, litBool, litStr, eqA, callee, evArgs, evParts, ne_eq, Nat.reduceEqDiff, Nat.reduceLT, not_false_eq_true, decide_true, if_true, reduceIte, List.take_zero, List.take_succ_cons, List.length_cons, List.length_nil, Nat.reduceAdd, Nat.reduceLeDiff, List.getElem?_cons_zero, List.getElem?_cons_succ, List.getD_cons_zero, List.getD_cons_succ, List.drop_zero, List.drop_succ_cons, List.map_cons, List.map_nil, List.cons_append, List.nil_append, List.append_nil, List.head?_cons, Int.toNat_natCast, Nat.zero_le, and_self, true_and, and_true, Bool.not_true, Bool.not_false, Option.map_some, true_implies, Bool.true_eq_false, Bool.false_eq_true, reduceCtorEq, false_implies, List.mem_cons, List.not_mem_nil, Prod.mk.injEq, false_and, and_false, or_false, false_or, or_true, true_or, if_false, ty3, ty3k, ty3s, ty3t, ty3z, ty3o, ty3b, ty4, ty4k, ty4s, ty4t, ty4z, ty4o, ty4b, ty9, ty9k, ty9s, ty9t, ty9z, ty9o, ty9b, ty23, ty23k, ty23s, ty23t, ty23z, ty23o, ty23b, ty24, ty24k, ty24s, ty24t, ty24z, ty24o, ty24b, ty32, ty32k, ty32s, ty32t, ty32z, ty32o, ty32b, ty35, ty35k, ty35s, ty35t, ty35z, ty35o, ty35b, ty37, ty37k, ty37s, ty37t, ty37z, ty37o, ty37b, ty41, ty41k, ty41s, ty41t, ty41z, ty41o, ty41b, ty43, ty43k, ty43s, ty43t, ty43z, ty43o, ty43b, ty83, ty83k, ty83s, ty83t, ty83z, ty83o, ty83b, ty99, ty99k, ty99s, ty99t, ty99z, ty99o, ty99b, hl, t0, l0, d1, i0, i1, g0, g1, g2]
      | refine And.intro (a := drawOk _ _ = true) (by kernel_rfl) ?_
      | (refine id (α := drawOk _ _ = true) ?_; kernel_rfl))
theorem c45_27 (s : Sc) (e x y : Ex) (hf : e.Fit) (t u : Int) (hl : (e.l.length : Int) = 2) (hx : e.l[0]? = some x) (hy : e.l[1]? = some y) (kx : PFn E 45 [scA s, exA x] (I t)) (ky : PFn E 45 [scA s, exA y] (I u)) (ht : t ≠ 0) (hu : u ≠ 0) (h7 : e.op = 7) : PFn E 45 [scA s, exA e] (I (typ2 e t u)) := by
  have t0 := Ex.take0 hx
  have l0 := Ex.len0 hx
  have d1 := Ex.drop1 hy
  have i0 : (0 : Int) ≤ 0 ∧ (0 : Int) < 2 := by omega
  have i1 : (0 : Int) ≤ 1 ∧ (1 : Int) < 2 := by omega
  have et : (t == 0) = false := by simp [ht]
  have eu : (u == 0) = false := by simp [hu]
  have fin0 : ∀ y : Int, typ2 e t u = y → I (typ2 e t u) = .lit (.int .i64 y) := fun x h => by rw [h]
  refine pfn_F fn45 (by simp) ?_
  simp only [Go.Proofs.Tryd.f45, Option.getD_some, List.append_eq, List.cons_append, List.nil_append]
  repeat' (first
    | refine If1.split (fun hb => ?_) (fun hb => ?_)
    | refine C1.pure (kx) (by simp [AV.closedL, AV.closed, vr_closed, bk_closed, sg_closed, ints_closed, ex_closed]) ?_
    | refine C1.pure (ky) (by simp [AV.closedL, AV.closed, vr_closed, bk_closed, sg_closed, ints_closed, ex_closed]) ?_
    | refine C1.pure (c73 _) rfl ?_
    | refine C1.pure (c72 _ _) rfl ?_
    | refine C1.pure (c40 _) rfl ?_
    | simp (config := { maxSteps := 1000000 }) only [W1_skip, W1_ret, W1_label, W1_exit, W1_seq, W1_cond, W1_block, W1_region, W1_draw, W1_loop, O1_nil, O1_n, O1_s, slotD_s, slotD_z, V1_s, U1_b, U1_u, If1_t, If1_f, If1_not, eqB_tt, eqB_tf, eqB_ft, eqB_ff, X1_eq, H1_f, H1_h, H1_c, how, B1_some, B1_none, B1_ite, D1_b, setT_t, setT_c, T1_n, T1_r, T1_x, K1_n, K1_r, K1_x, FinP_n, FinP_r, bindO_some, RetOk_lit, FinX_n, FinX_r, FinK_n, FinK_r, oneOrTup_1, RetX_lit, getCells, List.set_cons_zero, List.set_cons_succ, putAt, fillA, sizesOf, allTyped, List.all_cons, List.all_nil, Bool.and_self, Bool.true_and, Bool.and_true, Nat.reduceMul, Int.reduceLT, Int.reduceGT, Int.reduceGE, Int.cast_ofNat_Int, Int.reduceLE, Int.reduceToNat, Int.reduceAdd, Int.reduceNeg, Int.reduceEq, Int.reduceBNe, Int.reduceBEq, decide_false, zerosA, List.replicate_succ, List.replicate_zero, List.flatten_cons, List.flatten_nil, Option.isSome_some, dstOk, evRes, evRes1, evFree, evHeap, evA, upd_ne, upd_same, initF, updO_some, updO_none, kindOf, AV.storable, AV.cells, AV.one, Value.oneCell', mode, E_pol, pol, binA, unA, litInt, litBool, litStr, eqA, callee, evArgs, evParts, ne_eq, Nat.reduceEqDiff, Nat.reduceLT, not_false_eq_true, decide_true, if_true, reduceIte, List.take_zero, List.take_succ_cons, List.length_cons, List.length_nil, Nat.reduceAdd, Nat.reduceLeDiff, List.getElem?_cons_zero, List.getElem?_cons_succ, List.getD_cons_zero, List.getD_cons_succ, List.drop_zero, List.drop_succ_cons, List.map_cons, List.map_nil, List.cons_append, List.nil_append, List.append_nil, List.head?_cons, Int.toNat_natCast, Nat.zero_le, and_self, true_and, and_true, Bool.not_true, Bool.not_false, Option.map_some, true_implies, Bool.true_eq_false, Bool.false_eq_true, reduceCtorEq, false_implies, List.mem_cons, List.not_mem_nil, Prod.mk.injEq, false_and, and_false, or_false, false_or, or_true, true_or, if_false, ty3, ty3k, ty3s, ty3t, ty3z, ty3o, ty3b, ty4, ty4k, ty4s, ty4t, ty4z, ty4o, ty4b, ty9, ty9k, ty9s, ty9t, ty9z, ty9o, ty9b, ty23, ty23k, ty23s, ty23t, ty23z, ty23o, ty23b, ty24, ty24k, ty24s, ty24t, ty24z, ty24o, ty24b, ty32, ty32k, ty32s, ty32t, ty32z, ty32o, ty32b, ty35, ty35k, ty35s, ty35t, ty35z, ty35o, ty35b, ty37, ty37k, ty37s, ty37t, ty37z, ty37o, ty37b, ty41, ty41k, ty41s, ty41t, ty41z, ty41o, ty41b, ty43, ty43k, ty43s, ty43t, ty43z, ty43o, ty43b, ty83, ty83k, ty83s, ty83t, ty83z, ty83o, ty83b, ty99, ty99k, ty99s, ty99t, ty99z, ty99o, ty99b, hl, t0, l0, d1, i0, i1, et, eu, h7, right1_0]
    | refine And.intro (a := drawOk _ _ = true) (by kernel_rfl) ?_
    | (refine id (α := drawOk _ _ = true) ?_; kernel_rfl))
  all_goals refine fin0 _ ?_
  all_goals first
    | (have hz := res7_not ‹right1 _ = false›; simp [typ2, h7, hz]; done)
    | (simp [typ2, h7] <;> simp_all <;> omega)
theorem c45_2x (s : Sc) (e x y : Ex) (hf : e.Fit) (t u : Int) (hl : (e.l.length : Int) = 2) (hx : e.l[0]? = some x) (hy : e.l[1]? = some y) (kx : PFn E 45 [scA s, exA x] (I t)) (ky : PFn E 45 [scA s, exA y] (I u)) (ht : t ≠ 0) (hu : u ≠ 0) (h7 : e.op ≠ 7) : PFn E 45 [scA s, exA e] (I (typ2 e t u)) := by
  have t0 := Ex.take0 hx
  have l0 := Ex.len0 hx
  have d1 := Ex.drop1 hy
  have i0 : (0 : Int) ≤ 0 ∧ (0 : Int) < 2 := by omega
  have i1 : (0 : Int) ≤ 1 ∧ (1 : Int) < 2 := by omega
  have et : (t == 0) = false := by simp [ht]
  have eu : (u == 0) = false := by simp [hu]
  have e7 : (e.op == 7) = false := by simp [h7]
  have hz : typ2 e t u = 0 := by simp [typ2, h7]
  have q2 : IntKind.i64.wrap ((IntKind.i64.wrap (2 - 2)).tdiv 2) = 0 := rfl
  have q4 : IntKind.i64.wrap ((IntKind.i64.wrap (4 - 2)).tdiv 2) = 1 := rfl
  refine pfn_F fn45 (by simp) ?_
  simp only [Go.Proofs.Tryd.f45, Option.getD_some, List.append_eq, List.cons_append, List.nil_append]
  by_cases h2 : e.op = 2
  · repeat' (first
      | refine If1.split (fun hb => ?_) (fun hb => ?_)
      | refine C1.pure (kx) (by simp [AV.closedL, AV.closed, vr_closed, bk_closed, sg_closed, ints_closed, ex_closed]) ?_
      | refine C1.pure (ky) (by simp [AV.closedL, AV.closed, vr_closed, bk_closed, sg_closed, ints_closed, ex_closed]) ?_
      | refine C1.pure (c40 _) rfl ?_
      | simp (config := { maxSteps := 1000000 }) only [W1_skip, W1_ret, W1_label, W1_exit, W1_seq, W1_cond, W1_block, W1_region, W1_draw, W1_loop, O1_nil, O1_n, O1_s, slotD_s, slotD_z, V1_s, U1_b, U1_u, If1_t, If1_f, If1_not, eqB_tt, eqB_tf, eqB_ft, eqB_ff, X1_eq, H1_f, H1_h, H1_c, how, B1_some, B1_none, B1_ite, D1_b, setT_t, setT_c, T1_n, T1_r, T1_x, K1_n, K1_r, K1_x, FinP_n, FinP_r, bindO_some, RetOk_lit, FinX_n, FinX_r, FinK_n, FinK_r, oneOrTup_1, RetX_lit, getCells, List.set_cons_zero, List.set_cons_succ, putAt, fillA, sizesOf, allTyped, List.all_cons, List.all_nil, Bool.and_self, Bool.true_and, Bool.and_true, Nat.reduceMul, Int.reduceLT, Int.reduceGT, Int.reduceGE, Int.cast_ofNat_Int, Int.reduceLE, Int.reduceToNat, Int.reduceAdd, Int.reduceNeg, Int.reduceEq, Int.reduceBNe, Int.reduceBEq, decide_false, zerosA, List.replicate_succ, List.replicate_zero, List.flatten_cons, List.flatten_nil, Option.isSome_some, dstOk, evRes, evRes1, evFree, evHeap, evA, upd_ne, upd_same, initF, updO_some, updO_none, kindOf, AV.storable, AV.cells, AV.one, Value.oneCell', mode, E_pol, pol, binA, unA, litInt, litBool, litStr, eqA, callee, evArgs, evParts, ne_eq, Nat.reduceEqDiff, Nat.reduceLT, not_false_eq_true, decide_true, if_true, reduceIte, List.take_zero, List.take_succ_cons, List.length_cons, List.length_nil, Nat.reduceAdd, Nat.reduceLeDiff, List.getElem?_cons_zero, List.getElem?_cons_succ, List.getD_cons_zero, List.getD_cons_succ, List.drop_zero, List.drop_succ_cons, List.map_cons, List.map_nil, List.cons_append, List.nil_append, List.append_nil, List.head?_cons, Int.toNat_natCast, Nat.zero_le, and_self, true_and, and_true, Bool.not_true, Bool.not_false, Option.map_some, true_implies, Bool.true_eq_false, Bool.false_eq_true, reduceCtorEq, false_implies, List.mem_cons, List.not_mem_nil, Prod.mk.injEq, false_and, and_false, or_false, false_or, or_true, true_or, if_false, ty3, ty3k, ty3s, ty3t, ty3z, ty3o, ty3b, ty4, ty4k, ty4s, ty4t, ty4z, ty4o, ty4b, ty9, ty9k, ty9s, ty9t, ty9z, ty9o, ty9b, ty23, ty23k, ty23s, ty23t, ty23z, ty23o, ty23b, ty24, ty24k, ty24s, ty24t, ty24z, ty24o, ty24b, ty32, ty32k, ty32s, ty32t, ty32z, ty32o, ty32b, ty35, ty35k, ty35s, ty35t, ty35z, ty35o, ty35b, ty37, ty37k, ty37s, ty37t, ty37z, ty37o, ty37b, ty41, ty41k, ty41s, ty41t, ty41z, ty41o, ty41b, ty43, ty43k, ty43s, ty43t, ty43z, ty43o, ty43b, ty83, ty83k, ty83s, ty83t, ty83z, ty83o, ty83b, ty99, ty99k, ty99s, ty99t, ty99z, ty99o, ty99b, hl, t0, l0, d1, i0, i1, et, eu, h2, q2, right1_0, hz]
      | refine And.intro (a := drawOk _ _ = true) (by kernel_rfl) ?_
      | (refine id (α := drawOk _ _ = true) ?_; kernel_rfl))
  by_cases h4 : e.op = 4
  · repeat' (first
      | refine If1.split (fun hb => ?_) (fun hb => ?_)
      | refine C1.pure (kx) (by simp [AV.closedL, AV.closed, vr_closed, bk_closed, sg_closed, ints_closed, ex_closed]) ?_
      | refine C1.pure (ky) (by simp [AV.closedL, AV.closed, vr_closed, bk_closed, sg_closed, ints_closed, ex_closed]) ?_
      | refine C1.pure (c40 _) rfl ?_
      | simp (config := { maxSteps := 1000000 }) only [W1_skip, W1_ret, W1_label, W1_exit, W1_seq, W1_cond, W1_block, W1_region, W1_draw, W1_loop, O1_nil, O1_n, O1_s, slotD_s, slotD_z, V1_s, U1_b, U1_u, If1_t, If1_f, If1_not, eqB_tt, eqB_tf, eqB_ft, eqB_ff, X1_eq, H1_f, H1_h, H1_c, how, B1_some, B1_none, B1_ite, D1_b, setT_t, setT_c, T1_n, T1_r, T1_x, K1_n, K1_r, K1_x, FinP_n, FinP_r, bindO_some, RetOk_lit, FinX_n, FinX_r, FinK_n, FinK_r, oneOrTup_1, RetX_lit, getCells, List.set_cons_zero, List.set_cons_succ, putAt, fillA, sizesOf, allTyped, List.all_cons, List.all_nil, Bool.and_self, Bool.true_and, Bool.and_true, Nat.reduceMul, Int.reduceLT, Int.reduceGT, Int.reduceGE, Int.cast_ofNat_Int, Int.reduceLE, Int.reduceToNat, Int.reduceAdd, Int.reduceNeg, Int.reduceEq, Int.reduceBNe, Int.reduceBEq, decide_false, zerosA, List.replicate_succ, List.replicate_zero, List.flatten_cons, List.flatten_nil, Option.isSome_some, dstOk, evRes, evRes1, evFree, evHeap, evA, upd_ne, upd_same, initF, updO_some, updO_none, kindOf, AV.storable, AV.cells, AV.one, Value.oneCell', mode, E_pol, pol, binA, unA, litInt, litBool, litStr, eqA, callee, evArgs, evParts, ne_eq, Nat.reduceEqDiff, Nat.reduceLT, not_false_eq_true, decide_true, if_true, reduceIte, List.take_zero, List.take_succ_cons, List.length_cons, List.length_nil, Nat.reduceAdd, Nat.reduceLeDiff, List.getElem?_cons_zero, List.getElem?_cons_succ, List.getD_cons_zero, List.getD_cons_succ, List.drop_zero, List.drop_succ_cons, List.map_cons, List.map_nil, List.cons_append, List.nil_append, List.append_nil, List.head?_cons, Int.toNat_natCast, Nat.zero_le, and_self, true_and, and_true, Bool.not_true, Bool.not_false, Option.map_some, true_implies, Bool.true_eq_false, Bool.false_eq_true, reduceCtorEq, false_implies, List.mem_cons, List.not_mem_nil, Prod.mk.injEq, false_and, and_false, or_false, false_or, or_true, true_or, if_false, ty3, ty3k, ty3s, ty3t, ty3z, ty3o, ty3b, ty4, ty4k, ty4s, ty4t, ty4z, ty4o, ty4b, ty9, ty9k, ty9s, ty9t, ty9z, ty9o, ty9b, ty23, ty23k, ty23s, ty23t, ty23z, ty23o, ty23b, ty24, ty24k, ty24s, ty24t, ty24z, ty24o, ty24b, ty32, ty32k, ty32s, ty32t, ty32z, ty32o, ty32b, ty35, ty35k, ty35s, ty35t, ty35z, ty35o, ty35b, ty37, ty37k, ty37s, ty37t, ty37z, ty37o, ty37b, ty41, ty41k, ty41s, ty41t, ty41z, ty41o, ty41b, ty43, ty43k, ty43s, ty43t, ty43z, ty43o, ty43b, ty83, ty83k, ty83s, ty83t, ty83z, ty83o, ty83b, ty99, ty99k, ty99s, ty99t, ty99z, ty99o, ty99b, hl, t0, l0, d1, i0, i1, et, eu, h4, q4, right1_0, hz]
      | refine And.intro (a := drawOk _ _ = true) (by kernel_rfl) ?_
      | (refine id (α := drawOk _ _ = true) ?_; kernel_rfl))
  have e2 : (e.op == 2) = false := by simp [h2]
  have e4 : (e.op == 4) = false := by simp [h4]
  repeat' (first
    | refine If1.split (fun hb => ?_) (fun hb => ?_)
    | refine C1.pure (kx) (by simp [AV.closedL, AV.closed, vr_closed, bk_closed, sg_closed, ints_closed, ex_closed]) ?_
    | refine C1.pure (ky) (by simp [AV.closedL, AV.closed, vr_closed, bk_closed, sg_closed, ints_closed, ex_closed]) ?_
    | refine C1.pure (c40 _) rfl ?_
    | simp (config := { maxSteps := 1000000 }) only [W1_skip, W1_ret, W1_label, W1_exit, W1_seq, W1_cond, W1_block, W1_region, W1_draw, W1_loop, O1_nil, O1_n, O1_s, slotD_s, slotD_z, V1_s, U1_b, U1_u, If1_t, If1_f, If1_not, eqB_tt, eqB_tf, eqB_ft, eqB_ff, X1_eq, H1_f, H1_h, H1_c, how, B1_some, B1_none, B1_ite, D1_b, setT_t, setT_c, T1_n, T1_r, T1_x, K1_n, K1_r, K1_x, FinP_n, FinP_r, bindO_some, RetOk_lit, FinX_n, FinX_r, FinK_n, FinK_r, oneOrTup_1, RetX_lit, getCells, List.set_cons_zero, List.set_cons_succ, putAt, fillA, sizesOf, allTyped, List.all_cons, List.all_nil, Bool.and_self, Bool.true_and, Bool.and_true, Nat.reduceMul, Int.reduceLT, Int.reduceGT, Int.reduceGE, Int.cast_ofNat_Int, Int.reduceLE, Int.reduceToNat, Int.reduceAdd, Int.reduceNeg, Int.reduceEq, Int.reduceBNe, Int.reduceBEq, decide_false, zerosA, List.replicate_succ, List.replicate_zero, List.flatten_cons, List.flatten_nil, Option.isSome_some, dstOk, evRes, evRes1, evFree, evHeap, evA, upd_ne, upd_same, initF, updO_some, updO_none, kindOf, AV.storable, AV.cells, AV.one, Value.oneCell', mode, E_pol, pol, binA, unA, litInt, litBool, litStr, eqA, callee, evArgs, evParts, ne_eq, Nat.reduceEqDiff, Nat.reduceLT, not_false_eq_true, decide_true, if_true, reduceIte, List.take_zero, List.take_succ_cons, List.length_cons, List.length_nil, Nat.reduceAdd, Nat.reduceLeDiff, List.getElem?_cons_zero, List.getElem?_cons_succ, List.getD_cons_zero, List.getD_cons_succ, List.drop_zero, List.drop_succ_cons, List.map_cons, List.map_nil, List.cons_append, List.nil_append, List.append_nil, List.head?_cons, Int.toNat_natCast, Nat.zero_le, and_self, true_and, and_true, Bool.not_true, Bool.not_false, Option.map_some, true_implies, Bool.true_eq_false, Bool.false_eq_true, reduceCtorEq, false_implies, List.mem_cons, List.not_mem_nil, Prod.mk.injEq, false_and, and_false, or_false, false_or, or_true, true_or, if_false, ty3, ty3k, ty3s, ty3t, ty3z, ty3o, ty3b, ty4, ty4k, ty4s, ty4t, ty4z, ty4o, ty4b, ty9, ty9k, ty9s, ty9t, ty9z, ty9o, ty9b, ty23, ty23k, ty23s, ty23t, ty23z, ty23o, ty23b, ty24, ty24k, ty24s, ty24t, ty24z, ty24o, ty24b, ty32, ty32k, ty32s, ty32t, ty32z, ty32o, ty32b, ty35, ty35k, ty35s, ty35t, ty35z, ty35o, ty35b, ty37, ty37k, ty37s, ty37t, ty37z, ty37o, ty37b, ty41, ty41k, ty41s, ty41t, ty41z, ty41o, ty41b, ty43, ty43k, ty43s, ty43t, ty43z, ty43o, ty43b, ty83, ty83k, ty83s, ty83t, ty83z, ty83o, ty83b, ty99, ty99k, ty99s, ty99t, ty99z, ty99o, ty99b, hl, t0, l0, d1, i0, i1, et, eu, e2, e4, e7, right1_0, hz]
    | refine And.intro (a := drawOk _ _ = true) (by kernel_rfl) ?_
    | (refine id (α := drawOk _ _ = true) ?_; kernel_rfl))
theorem c45 (s : Sc) : ∀ e : Ex, e.Fit → PFn E 45 [scA s, exA e] (I (typ s e)) := by
  intro e
  induction e using Ex.ind with
  | _ e ih =>
  intro hf
  have kid : ∀ (i : Nat) (x : Ex), e.l[i]? = some x → PFn E 45 [scA s, exA x] (I (typ s x)) := fun i x hx => ih x (List.mem_of_getElem? hx) (hf.sub x (List.mem_of_getElem? hx))
  rw [typ_eq]
  match hl : e.l with
  | [] => simpa [typK] using c45_0 s e hf hl
  | [x] =>
    have hx : e.l[0]? = some x := by rw [hl]; rfl
    have hn : e.l.length = 1 := by rw [hl]; rfl
    by_cases ht : typ s x = 0
    · have := kid 0 x hx
      rw [ht] at this
      simpa [ht] using c45_1z s e x hf hn hx this
    · have k := kid 0 x hx
      simp only [List.map_cons, List.map_nil, typK]
      rw [if_neg (by simp [ht])]
      by_cases h4 : e.op = 4
      · exact c45_14 s e x hf hn hx _ ht k h4
      by_cases h6 : e.op = 6
      · exact c45_16 s e x hf hn hx _ ht k h6
      by_cases h8 : e.op = 8
      · exact c45_18 s e x hf hn hx _ ht k h8
      exact c45_1x s e x hf hn hx _ ht k h4 h6 h8
  | [x, y] =>
    have hx : e.l[0]? = some x := by rw [hl]; rfl
    have hy : e.l[1]? = some y := by rw [hl]; rfl
    have hn : (e.l.length : Int) = 2 := by rw [hl]; rfl
    by_cases hz : typ s x = 0 ∨ typ s y = 0
    · have := c45_2z s e x y _ _ 2 hn (by omega) hx hy (kid 0 x hx) (kid 1 y hy) (.inr hz)
      rw [if_pos (by simpa using hz)]
      exact this
    · rw [not_or] at hz
      simp only [List.map_cons, List.map_nil, typK]
      rw [if_neg (by simp [hz.1, hz.2])]
      by_cases h7 : e.op = 7
      · exact c45_27 s e x y hf _ _ hn hx hy (kid 0 x hx) (kid 1 y hy) hz.1 hz.2 h7
      · exact c45_2x s e x y hf _ _ hn hx hy (kid 0 x hx) (kid 1 y hy) hz.1 hz.2 h7
  | x :: y :: z :: r =>
    have hx : e.l[0]? = some x := by rw [hl]; rfl
    have hy : e.l[1]? = some y := by rw [hl]; rfl
    have := c45_2z s e x y _ _ (e.l.length : Int) rfl (by rw [hl]; simp; omega) hx hy (kid 0 x hx) (kid 1 y hy) (.inl (by rw [hl]; simp; omega))
    simpa [typK] using this
end Go.Abs

