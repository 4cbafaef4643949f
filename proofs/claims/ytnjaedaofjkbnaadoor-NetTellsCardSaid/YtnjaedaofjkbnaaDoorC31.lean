/- Contract: what the program tells of networks. Conditions: none. -/
import Derived.Test.YtnjaedaofjkbnaaDoorC30
import Derived.Test.YtnjaedaofjkbnaaDoorC25
import Derived.Test.YtnjaedaofjkbnaaDoorC18
import Derived.Test.YtnjaedaofjkbnaaDoorC19
set_option maxRecDepth 100000
set_option linter.unusedVariables false
set_option linter.unusedSimpArgs false
namespace Go.Abs
open Go
theorem scA_cl (s : Sc) : (scA s).closed = true := scA_closed s
theorem c4 (c : Cas) (a b : Nt) (hc : c.Fit) (ha : a.Fit) (hb : b.Fit) : PFn E 4 [casA c, ntA a, ntA b] (B true) := by
  obtain ⟨r, k7, b7, rfl, h7⟩ := c7 c hc
  obtain ⟨r, ka, b20a, rfl, h20a⟩ := c20 a ha
  obtain ⟨r, kb, b20b, rfl, h20b⟩ := c20 b hb
  have c7' : AV.closedL [casA c] = true := by rw [AV.closedL, AV.closed, cas_closed]; rfl
  have ca : AV.closedL [ntA a, I 100] = true := by simp [AV.closedL, AV.closed, ex_closed, nt_closed]
  have cb : AV.closedL [ntA b, I 100] = true := by simp [AV.closedL, AV.closed, ex_closed, nt_closed]
  by_cases hall : b7 = true ∧ b20a = true ∧ b20b = true
  · obtain ⟨rfl, rfl, rfl⟩ := hall
    obtain ⟨hu, hun⟩ := h7 rfl
    have sa := h20a rfl
    obtain ⟨s, k10⟩ := c10s c.p c.u hu hun
    have cl10 : AV.closedL [prA c.p, I c.u] = true := by simp [AV.closedL, AV.closed, un_closed, vr_closed, bk_closed, cn_closed]
    have cs : AV.closedL [scA s, ntA a] = true := by simp [AV.closedL, AV.closed, vr_closed, bk_closed, sg_closed, ints_closed, ex_closed, nt_closed]
    have ca1 : AV.closedL [ntA a] = true := by simp [AV.closedL, AV.closed, ex_closed, nt_closed]
    have cab : AV.closedL [ntA a, ntA b] = true := by simp [AV.closedL, AV.closed, ex_closed, nt_closed]
    have caa : AV.closedL [ntA a, ntA a] = true := by simp [AV.closedL, AV.closed, ex_closed, nt_closed]
    have k22 := c22 s a ha sa
    have k23 := c23 s a ha
    have k24 := c24 a ha
    have k25 := c25 a ha
    have k26 := c26 a ha b
    have k27 := c27 a ha b
    have k26' := c26 a ha a
    rw [sameN_iff.2 rfl] at k26'
    have e1 : (rightN s a == rightN s a) = true := by simp
    have e2 : (con a == con a) = true := by simp
    have e3 : (sameN a b == sameN a b) = true := by simp
    refine pfn_F fn4 (by simp) ?_
    simp only [Go.Proofs.Tryd.f4, Option.getD_some, List.append_eq, List.cons_append, List.nil_append]
    repeat' (first
      | refine If1.split (fun hb => ?_) (fun hb => ?_)
      | refine C1.pure (k7) c7' ?_
      | refine C1.pure (ka) ca ?_
      | refine C1.pure (kb) cb ?_
      | refine C1.pure (k10) cl10 ?_
      | refine C1.pure (k22) cs ?_
      | refine C1.pure (k23) cs ?_
      | refine C1.pure (k24) ca1 ?_
      | refine C1.pure (k25) ca1 ?_
      | refine C1.pure (k26) cab ?_
      | refine C1.pure (k27) cab ?_
      | refine C1.pure (k26') caa ?_
      | refine C1.pure (c21) rfl ?_
      | simp (config := { maxSteps := 1000000 }) only [W1_skip, W1_ret, W1_label, W1_exit, W1_seq, W1_cond, W1_block, W1_region, W1_draw, W1_loop, O1_nil, O1_n, O1_s, slotD_s, slotD_z, V1_s, U1_b, U1_u, If1_t, If1_f, If1_not, eqB_tt, eqB_tf, eqB_ft, eqB_ff, X1_eq, H1_f, H1_h, H1_c, how, B1_some, B1_none, B1_ite, D1_b, setT_t, setT_c, T1_n, T1_r, T1_x, K1_n, K1_r, K1_x, FinP_n, FinP_r, bindO_some, RetOk_lit, FinX_n, FinX_r, FinK_n, FinK_r, oneOrTup_1, RetX_lit, getCells, List.set_cons_zero, List.set_cons_succ, putAt, fillA, sizesOf, allTyped, List.all_cons, List.all_nil, Bool.and_self, Bool.true_and, Bool.and_true, Nat.reduceMul, Int.reduceLT, Int.reduceGT, Int.reduceGE, Int.cast_ofNat_Int, Int.reduceLE, Int.reduceToNat, Int.reduceAdd, Int.reduceNeg, Int.reduceEq, Int.reduceBNe, Int.reduceBEq, decide_false, zerosA, List.replicate_succ, List.replicate_zero, List.flatten_cons, List.flatten_nil, Option.isSome_some, dstOk, evRes, evRes1, evFree, evHeap, evA, upd_ne, upd_same, initF, updO_some, updO_none, kindOf, AV.storable, AV.cells, AV.one, Value.oneCell', mode, E_pol, pol, binA, unA, litInt, litBool, litStr, eqA, callee, evArgs, evParts, ne_eq, Nat.reduceEqDiff, Nat.reduceLT, not_false_eq_true, decide_true, if_true, reduceIte, List.take_zero, List.take_succ_cons, List.length_cons, List.length_nil, Nat.reduceAdd, Nat.reduceLeDiff, List.getElem?_cons_zero, List.getElem?_cons_succ, List.getD_cons_zero, List.getD_cons_succ, List.drop_zero, List.drop_succ_cons, List.map_cons, List.map_nil, List.cons_append, List.nil_append, List.append_nil, List.head?_cons, Int.toNat_natCast, Nat.zero_le, and_self, true_and, and_true, Bool.not_true, Bool.not_false, Option.map_some, true_implies, Bool.true_eq_false, Bool.false_eq_true, reduceCtorEq, false_implies, List.mem_cons, List.not_mem_nil, Prod.mk.injEq, false_and, and_false, or_false, false_or, or_true, true_or, if_false, ty3, ty3k, ty3s, ty3t, ty3z, ty3o, ty4, ty4k, ty4s, ty4t, ty4z, ty4o, ty22, ty22k, ty22s, ty22t, ty22z, ty22o, ty23, ty23k, ty23s, ty23t, ty23z, ty23o, ty24, ty24k, ty24s, ty24t, ty24z, ty24o, ty25, ty25k, ty25s, ty25t, ty25z, ty25o, ty27, ty27k, ty27s, ty27t, ty27z, ty27o, ty31, ty31k, ty31s, ty31t, ty31z, ty31o, ty32, ty32k, ty32s, ty32t, ty32z, ty32o, ty34, ty34k, ty34s, ty34t, ty34z, ty34o, ty37, ty37k, ty37s, ty37t, ty37z, ty37o, ty41, ty41k, ty41s, ty41t, ty41z, ty41o, ty43, ty43k, ty43s, ty43t, ty43z, ty43o, ty52, ty52k, ty52s, ty52t, ty52z, ty52o, ty54, ty54k, ty54s, ty54t, ty54z, ty54o, cz, at_end, set_end, e1, e2, e3]
      | refine And.intro (a := drawOk _ _ = true) (by kernel_rfl) ?_
      | (refine id (α := drawOk _ _ = true) ?_; kernel_rfl))
  · refine pfn_F fn4 (by simp) ?_
    simp only [Go.Proofs.Tryd.f4, Option.getD_some, List.append_eq, List.cons_append, List.nil_append]
    repeat' (first
      | refine If1.split (fun hb => ?_) (fun hb => ?_)
      | refine C1.pure (k7) c7' ?_
      | refine C1.pure (ka) ca ?_
      | refine C1.pure (kb) cb ?_
      | refine C1.pure (c21) rfl ?_
      | simp (config := { maxSteps := 1000000 }) only [W1_skip, W1_ret, W1_label, W1_exit, W1_seq, W1_cond, W1_block, W1_region, W1_draw, W1_loop, O1_nil, O1_n, O1_s, slotD_s, slotD_z, V1_s, U1_b, U1_u, If1_t, If1_f, If1_not, eqB_tt, eqB_tf, eqB_ft, eqB_ff, X1_eq, H1_f, H1_h, H1_c, how, B1_some, B1_none, B1_ite, D1_b, setT_t, setT_c, T1_n, T1_r, T1_x, K1_n, K1_r, K1_x, FinP_n, FinP_r, bindO_some, RetOk_lit, FinX_n, FinX_r, FinK_n, FinK_r, oneOrTup_1, RetX_lit, getCells, List.set_cons_zero, List.set_cons_succ, putAt, fillA, sizesOf, allTyped, List.all_cons, List.all_nil, Bool.and_self, Bool.true_and, Bool.and_true, Nat.reduceMul, Int.reduceLT, Int.reduceGT, Int.reduceGE, Int.cast_ofNat_Int, Int.reduceLE, Int.reduceToNat, Int.reduceAdd, Int.reduceNeg, Int.reduceEq, Int.reduceBNe, Int.reduceBEq, decide_false, zerosA, List.replicate_succ, List.replicate_zero, List.flatten_cons, List.flatten_nil, Option.isSome_some, dstOk, evRes, evRes1, evFree, evHeap, evA, upd_ne, upd_same, initF, updO_some, updO_none, kindOf, AV.storable, AV.cells, AV.one, Value.oneCell', mode, E_pol, pol, binA, unA, litInt, litBool, litStr, eqA, callee, evArgs, evParts, ne_eq, Nat.reduceEqDiff, Nat.reduceLT, not_false_eq_true, decide_true, if_true, reduceIte, List.take_zero, List.take_succ_cons, List.length_cons, List.length_nil, Nat.reduceAdd, Nat.reduceLeDiff, List.getElem?_cons_zero, List.getElem?_cons_succ, List.getD_cons_zero, List.getD_cons_succ, List.drop_zero, List.drop_succ_cons, List.map_cons, List.map_nil, List.cons_append, List.nil_append, List.append_nil, List.head?_cons, Int.toNat_natCast, Nat.zero_le, and_self, true_and, and_true, Bool.not_true, Bool.not_false, Option.map_some, true_implies, Bool.true_eq_false, Bool.false_eq_true, reduceCtorEq, false_implies, List.mem_cons, List.not_mem_nil, Prod.mk.injEq, false_and, and_false, or_false, false_or, or_true, true_or, if_false, ty3, ty3k, ty3s, ty3t, ty3z, ty3o, ty4, ty4k, ty4s, ty4t, ty4z, ty4o, ty22, ty22k, ty22s, ty22t, ty22z, ty22o, ty23, ty23k, ty23s, ty23t, ty23z, ty23o, ty24, ty24k, ty24s, ty24t, ty24z, ty24o, ty25, ty25k, ty25s, ty25t, ty25z, ty25o, ty27, ty27k, ty27s, ty27t, ty27z, ty27o, ty31, ty31k, ty31s, ty31t, ty31z, ty31o, ty32, ty32k, ty32s, ty32t, ty32z, ty32o, ty34, ty34k, ty34s, ty34t, ty34z, ty34o, ty37, ty37k, ty37s, ty37t, ty37z, ty37o, ty41, ty41k, ty41s, ty41t, ty41z, ty41o, ty43, ty43k, ty43s, ty43t, ty43z, ty43o, ty52, ty52k, ty52s, ty52t, ty52z, ty52o, ty54, ty54k, ty54s, ty54t, ty54z, ty54o, cz, at_end, set_end]
      | refine And.intro (a := drawOk _ _ = true) (by kernel_rfl) ?_
      | (refine id (α := drawOk _ _ = true) ?_; kernel_rfl))
    all_goals exact absurd ⟨by assumption, by assumption, by assumption⟩ hall
end Go.Abs

