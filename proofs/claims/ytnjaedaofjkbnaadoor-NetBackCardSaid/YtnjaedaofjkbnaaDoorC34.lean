/- Contract: the network of a network's expression. Conditions: none. -/
import Derived.Test.YtnjaedaofjkbnaaDoorC30
import Derived.Test.YtnjaedaofjkbnaaDoorC25
import Derived.Test.YtnjaedaofjkbnaaDoorC19
import Derived.Test.YtnjaedaofjkbnaaDoorC33
set_option maxRecDepth 100000
set_option linter.unusedVariables false
set_option linter.unusedSimpArgs false
namespace Go.Abs
open Go
theorem c20s (e : Nt) (hf : e.Fit) : ∃ r, PFn E 20 [ntA e, I 100] r ∧ ∃ b, r = B b ∧ (b = true → e.size ≤ 100 ∧ e.Small) := by
  obtain ⟨r, k, n, rfl, h1, h2⟩ := c54s e hf 100 30 (by unfold In64; omega)
  refine px_F fn20 (by simp) ?_
  simp only [Go.Proofs.Tryd.f20, Option.getD_some, List.append_eq, List.cons_append, List.nil_append]
  repeat' (first
    | refine If1.split (fun hb => ?_) (fun hb => ?_)
    | refine C1.pure (k) (by simp [AV.closedL, AV.closed, vr_closed, bk_closed, sg_closed, ints_closed, ex_closed, nt_closed]) ?_
    | simp (config := { maxSteps := 1000000 }) only [W1_skip, W1_ret, W1_label, W1_exit, W1_seq, W1_cond, W1_block, W1_region, W1_draw, W1_loop, O1_nil, O1_n, O1_s, slotD_s, slotD_z, V1_s, U1_b, U1_u, If1_t, If1_f, If1_not, eqB_tt, eqB_tf, eqB_ft, eqB_ff, X1_eq, H1_f, H1_h, H1_c, how, B1_some, B1_none, B1_ite, D1_b, setT_t, setT_c, T1_n, T1_r, T1_x, K1_n, K1_r, K1_x, FinP_n, FinP_r, bindO_some, RetOk_lit, FinX_n, FinX_r, FinK_n, FinK_r, oneOrTup_1, RetX_lit, getCells, List.set_cons_zero, List.set_cons_succ, putAt, fillA, sizesOf, allTyped, List.all_cons, List.all_nil, Bool.and_self, Bool.true_and, Bool.and_true, Nat.reduceMul, Int.reduceLT, Int.reduceGT, Int.reduceGE, Int.cast_ofNat_Int, Int.reduceLE, Int.reduceToNat, Int.reduceAdd, Int.reduceNeg, Int.reduceEq, Int.reduceBNe, Int.reduceBEq, decide_false, zerosA, List.replicate_succ, List.replicate_zero, List.flatten_cons, List.flatten_nil, Option.isSome_some, dstOk, evRes, evRes1, evFree, evHeap, evA, upd_ne, upd_same, initF, updO_some, updO_none, kindOf, AV.storable, AV.cells, AV.one, Value.oneCell', mode, E_pol, pol, binA, unA, litInt, litBool, litStr, eqA, callee, evArgs, evParts, ne_eq, Nat.reduceEqDiff, Nat.reduceLT, not_false_eq_true, decide_true, if_true, reduceIte, List.take_zero, List.take_succ_cons, List.length_cons, List.length_nil, Nat.reduceAdd, Nat.reduceLeDiff, List.getElem?_cons_zero, List.getElem?_cons_succ, List.getD_cons_zero, List.getD_cons_succ, List.drop_zero, List.drop_succ_cons, List.map_cons, List.map_nil, List.cons_append, List.nil_append, List.append_nil, List.head?_cons, Int.toNat_natCast, Nat.zero_le, and_self, true_and, and_true, Bool.not_true, Bool.not_false, Option.map_some, true_implies, Bool.true_eq_false, Bool.false_eq_true, reduceCtorEq, false_implies, List.mem_cons, List.not_mem_nil, Prod.mk.injEq, false_and, and_false, or_false, false_or, or_true, true_or, if_false, ty3, ty3k, ty3s, ty3t, ty3z, ty3o, ty37, ty37k, ty37s, ty37t, ty37z, ty37o, ty52, ty52k, ty52s, ty52t, ty52z, ty52o, ty54, ty54k, ty54s, ty54t, ty54z, ty54o, cz]
    | refine And.intro (a := drawOk _ _ = true) (by kernel_rfl) ?_
    | (refine id (α := drawOk _ _ = true) ?_; kernel_rfl))
  exact ⟨_, rfl, fun h => by simp at h; have := h2 h; exact ⟨by omega, Nt.small_of _ (by omega) this.2⟩⟩
theorem c5 (c : Cas) (n : Nt) (hc : c.Fit) (hn : n.Fit) : PFn E 5 [casA c, ntA n] (B true) := by
  obtain ⟨r, k7, b7, rfl, h7⟩ := c7 c hc
  obtain ⟨r, k20, b20, rfl, h20⟩ := c20s n hn
  have c7' : AV.closedL [casA c] = true := by rw [AV.closedL, AV.closed, cas_closed]; rfl
  have cn : AV.closedL [ntA n, I 100] = true := by simp [AV.closedL, AV.closed, ex_closed, nt_closed]
  by_cases hall : b7 = true ∧ b20 = true
  · obtain ⟨rfl, rfl⟩ := hall
    obtain ⟨hu, hun⟩ := h7 rfl
    obtain ⟨hsz, hs⟩ := h20 rfl
    obtain ⟨s, k10⟩ := c10s c.p c.u hu hun
    have cl10 : AV.closedL [prA c.p, I c.u] = true := by simp [AV.closedL, AV.closed, un_closed, vr_closed, bk_closed, cn_closed]
    have cs : AV.closedL [scA s, ntA n] = true := by simp [AV.closedL, AV.closed, vr_closed, bk_closed, sg_closed, ints_closed, ex_closed, nt_closed]
    have cn1 : AV.closedL [ntA n] = true := by simp [AV.closedL, AV.closed, ex_closed, nt_closed]
    have k22 := c22 s n hn hs
    have k24 := c24 n hn
    obtain ⟨hcn, _⟩ := con_nat n hsz
    refine pfn_F fn5 (by simp) ?_
    simp only [Go.Proofs.Tryd.f5, Option.getD_some, List.append_eq, List.cons_append, List.nil_append]
    by_cases hr : rightN s n = true ∧ conN n ≤ 24
    · obtain ⟨hr, hle⟩ := hr
      have hg : decide (con n > 24) = false := by simp; omega
      have hw := wf_right s n hr
      have hb := back s n hr hle
      have hfit := exp_fit n hn hw
      have hsm := exp_small n hs hw
      have ho : okN s (expN n) = true := by rw [okN, hb.cnt]; simp; omega
      have hfr : fromN s (expN n) = n := by rw [fromN, ho, if_pos rfl, hb.of]
      have k28 := c28 n hn hw
      have k30 := c30 n hn hw
      have k29 := c29 s (expN n) hfit hsm (fun _ => ⟨hb.nn, by rw [hb.lit]; omega⟩)
      rw [hfr, ho] at k29
      have k18 := c18 (expN n) hfit (expN n)
      rw [same1_iff.2 rfl] at k18
      have k27 := c27 n hn n
      rw [sameN_iff.2 rfl] at k27
      have ce : AV.closedL [scA s, exA (expN n)] = true := by simp [AV.closedL, AV.closed, vr_closed, bk_closed, sg_closed, ints_closed, ex_closed]
      have cee : AV.closedL [exA (expN n), exA (expN n)] = true := by simp [AV.closedL, AV.closed, ex_closed]
      have cnn : AV.closedL [ntA n, ntA n] = true := by simp [AV.closedL, AV.closed, ex_closed, nt_closed]
      rw [hr] at k22
      repeat' (first
        | refine If1.split (fun hb => ?_) (fun hb => ?_)
        | refine C1.pure (k7) c7' ?_
        | refine C1.pure (k20) cn ?_
        | refine C1.pure (k10) cl10 ?_
        | refine C1.pure (k22) cs ?_
        | refine C1.pure (k24) cn1 ?_
        | refine C1.pure (k28) cn1 ?_
        | refine C1.pure (k30) cn1 ?_
        | refine C1.pure (k29) ce ?_
        | refine C1.pure (k18) cee ?_
        | refine C1.pure (k27) cnn ?_
        | refine C1.pure (c21) rfl ?_
        | simp (config := { maxSteps := 1000000 }) only [W1_skip, W1_ret, W1_label, W1_exit, W1_seq, W1_cond, W1_block, W1_region, W1_draw, W1_loop, O1_nil, O1_n, O1_s, slotD_s, slotD_z, V1_s, U1_b, U1_u, If1_t, If1_f, If1_not, eqB_tt, eqB_tf, eqB_ft, eqB_ff, X1_eq, H1_f, H1_h, H1_c, how, B1_some, B1_none, B1_ite, D1_b, setT_t, setT_c, T1_n, T1_r, T1_x, K1_n, K1_r, K1_x, FinP_n, FinP_r, bindO_some, RetOk_lit, FinX_n, FinX_r, FinK_n, FinK_r, oneOrTup_1, RetX_lit, getCells, List.set_cons_zero, List.set_cons_succ, putAt, fillA, sizesOf, allTyped, List.all_cons, List.all_nil, Bool.and_self, Bool.true_and, Bool.and_true, Nat.reduceMul, Int.reduceLT, Int.reduceGT, Int.reduceGE, Int.cast_ofNat_Int, Int.reduceLE, Int.reduceToNat, Int.reduceAdd, Int.reduceNeg, Int.reduceEq, Int.reduceBNe, Int.reduceBEq, decide_false, zerosA, List.replicate_succ, List.replicate_zero, List.flatten_cons, List.flatten_nil, Option.isSome_some, dstOk, evRes, evRes1, evFree, evHeap, evA, upd_ne, upd_same, initF, updO_some, updO_none, kindOf, AV.storable, AV.cells, AV.one, Value.oneCell', mode, E_pol, pol, binA, unA, litInt, litBool, litStr, eqA, callee, evArgs, evParts, ne_eq, Nat.reduceEqDiff, Nat.reduceLT, not_false_eq_true, decide_true, if_true, reduceIte, List.take_zero, List.take_succ_cons, List.length_cons, List.length_nil, Nat.reduceAdd, Nat.reduceLeDiff, List.getElem?_cons_zero, List.getElem?_cons_succ, List.getD_cons_zero, List.getD_cons_succ, List.drop_zero, List.drop_succ_cons, List.map_cons, List.map_nil, List.cons_append, List.nil_append, List.append_nil, List.head?_cons, Int.toNat_natCast, Nat.zero_le, and_self, true_and, and_true, Bool.not_true, Bool.not_false, Option.map_some, true_implies, Bool.true_eq_false, Bool.false_eq_true, reduceCtorEq, false_implies, List.mem_cons, List.not_mem_nil, Prod.mk.injEq, false_and, and_false, or_false, false_or, or_true, true_or, if_false, ty3, ty3k, ty3s, ty3t, ty3z, ty3o, ty22, ty22k, ty22s, ty22t, ty22z, ty22o, ty23, ty23k, ty23s, ty23t, ty23z, ty23o, ty24, ty24k, ty24s, ty24t, ty24z, ty24o, ty25, ty25k, ty25s, ty25t, ty25z, ty25o, ty27, ty27k, ty27s, ty27t, ty27z, ty27o, ty31, ty31k, ty31s, ty31t, ty31z, ty31o, ty32, ty32k, ty32s, ty32t, ty32z, ty32o, ty34, ty34k, ty34s, ty34t, ty34z, ty34o, ty35, ty35k, ty35s, ty35t, ty35z, ty35o, ty37, ty37k, ty37s, ty37t, ty37z, ty37o, ty41, ty41k, ty41s, ty41t, ty41z, ty41o, ty43, ty43k, ty43s, ty43t, ty43z, ty43o, ty52, ty52k, ty52s, ty52t, ty52z, ty52o, ty54, ty54k, ty54s, ty54t, ty54z, ty54o, cz, at_end, set_end, hg]
        | refine And.intro (a := drawOk _ _ = true) (by kernel_rfl) ?_
        | (refine id (α := drawOk _ _ = true) ?_; kernel_rfl))
    · by_cases hr1 : rightN s n = true
      · have hn24 : ¬ conN n ≤ 24 := fun h => hr ⟨hr1, h⟩
        have hg : decide (con n > 24) = true := by simp; omega
        rw [hr1] at k22
        repeat' (first
          | refine If1.split (fun hb => ?_) (fun hb => ?_)
          | refine C1.pure (k7) c7' ?_
          | refine C1.pure (k20) cn ?_
          | refine C1.pure (k10) cl10 ?_
          | refine C1.pure (k22) cs ?_
          | refine C1.pure (k24) cn1 ?_
          | refine C1.pure (c21) rfl ?_
          | simp (config := { maxSteps := 1000000 }) only [W1_skip, W1_ret, W1_label, W1_exit, W1_seq, W1_cond, W1_block, W1_region, W1_draw, W1_loop, O1_nil, O1_n, O1_s, slotD_s, slotD_z, V1_s, U1_b, U1_u, If1_t, If1_f, If1_not, eqB_tt, eqB_tf, eqB_ft, eqB_ff, X1_eq, H1_f, H1_h, H1_c, how, B1_some, B1_none, B1_ite, D1_b, setT_t, setT_c, T1_n, T1_r, T1_x, K1_n, K1_r, K1_x, FinP_n, FinP_r, bindO_some, RetOk_lit, FinX_n, FinX_r, FinK_n, FinK_r, oneOrTup_1, RetX_lit, getCells, List.set_cons_zero, List.set_cons_succ, putAt, fillA, sizesOf, allTyped, List.all_cons, List.all_nil, Bool.and_self, Bool.true_and, Bool.and_true, Nat.reduceMul, Int.reduceLT, Int.reduceGT, Int.reduceGE, Int.cast_ofNat_Int, Int.reduceLE, Int.reduceToNat, Int.reduceAdd, Int.reduceNeg, Int.reduceEq, Int.reduceBNe, Int.reduceBEq, decide_false, zerosA, List.replicate_succ, List.replicate_zero, List.flatten_cons, List.flatten_nil, Option.isSome_some, dstOk, evRes, evRes1, evFree, evHeap, evA, upd_ne, upd_same, initF, updO_some, updO_none, kindOf, AV.storable, AV.cells, AV.one, Value.oneCell', mode, E_pol, pol, binA, unA, litInt, litBool, litStr, eqA, callee, evArgs, evParts, ne_eq, Nat.reduceEqDiff, Nat.reduceLT, not_false_eq_true, decide_true, if_true, reduceIte, List.take_zero, List.take_succ_cons, List.length_cons, List.length_nil, Nat.reduceAdd, Nat.reduceLeDiff, List.getElem?_cons_zero, List.getElem?_cons_succ, List.getD_cons_zero, List.getD_cons_succ, List.drop_zero, List.drop_succ_cons, List.map_cons, List.map_nil, List.cons_append, List.nil_append, List.append_nil, List.head?_cons, Int.toNat_natCast, Nat.zero_le, and_self, true_and, and_true, Bool.not_true, Bool.not_false, Option.map_some, true_implies, Bool.true_eq_false, Bool.false_eq_true, reduceCtorEq, false_implies, List.mem_cons, List.not_mem_nil, Prod.mk.injEq, false_and, and_false, or_false, false_or, or_true, true_or, if_false, ty3, ty3k, ty3s, ty3t, ty3z, ty3o, ty22, ty22k, ty22s, ty22t, ty22z, ty22o, ty23, ty23k, ty23s, ty23t, ty23z, ty23o, ty24, ty24k, ty24s, ty24t, ty24z, ty24o, ty25, ty25k, ty25s, ty25t, ty25z, ty25o, ty27, ty27k, ty27s, ty27t, ty27z, ty27o, ty31, ty31k, ty31s, ty31t, ty31z, ty31o, ty32, ty32k, ty32s, ty32t, ty32z, ty32o, ty34, ty34k, ty34s, ty34t, ty34z, ty34o, ty35, ty35k, ty35s, ty35t, ty35z, ty35o, ty37, ty37k, ty37s, ty37t, ty37z, ty37o, ty41, ty41k, ty41s, ty41t, ty41z, ty41o, ty43, ty43k, ty43s, ty43t, ty43z, ty43o, ty52, ty52k, ty52s, ty52t, ty52z, ty52o, ty54, ty54k, ty54s, ty54t, ty54z, ty54o, cz, at_end, set_end, hg]
          | refine And.intro (a := drawOk _ _ = true) (by kernel_rfl) ?_
          | (refine id (α := drawOk _ _ = true) ?_; kernel_rfl))
      · have hr2 : rightN s n = false := by simpa using hr1
        rw [hr2] at k22
        repeat' (first
          | refine If1.split (fun hb => ?_) (fun hb => ?_)
          | refine C1.pure (k7) c7' ?_
          | refine C1.pure (k20) cn ?_
          | refine C1.pure (k10) cl10 ?_
          | refine C1.pure (k22) cs ?_
          | refine C1.pure (c21) rfl ?_
          | simp (config := { maxSteps := 1000000 }) only [W1_skip, W1_ret, W1_label, W1_exit, W1_seq, W1_cond, W1_block, W1_region, W1_draw, W1_loop, O1_nil, O1_n, O1_s, slotD_s, slotD_z, V1_s, U1_b, U1_u, If1_t, If1_f, If1_not, eqB_tt, eqB_tf, eqB_ft, eqB_ff, X1_eq, H1_f, H1_h, H1_c, how, B1_some, B1_none, B1_ite, D1_b, setT_t, setT_c, T1_n, T1_r, T1_x, K1_n, K1_r, K1_x, FinP_n, FinP_r, bindO_some, RetOk_lit, FinX_n, FinX_r, FinK_n, FinK_r, oneOrTup_1, RetX_lit, getCells, List.set_cons_zero, List.set_cons_succ, putAt, fillA, sizesOf, allTyped, List.all_cons, List.all_nil, Bool.and_self, Bool.true_and, Bool.and_true, Nat.reduceMul, Int.reduceLT, Int.reduceGT, Int.reduceGE, Int.cast_ofNat_Int, Int.reduceLE, Int.reduceToNat, Int.reduceAdd, Int.reduceNeg, Int.reduceEq, Int.reduceBNe, Int.reduceBEq, decide_false, zerosA, List.replicate_succ, List.replicate_zero, List.flatten_cons, List.flatten_nil, Option.isSome_some, dstOk, evRes, evRes1, evFree, evHeap, evA, upd_ne, upd_same, initF, updO_some, updO_none, kindOf, AV.storable, AV.cells, AV.one, Value.oneCell', mode, E_pol, pol, binA, unA, litInt, litBool, litStr, eqA, callee, evArgs, evParts, ne_eq, Nat.reduceEqDiff, Nat.reduceLT, not_false_eq_true, decide_true, if_true, reduceIte, List.take_zero, List.take_succ_cons, List.length_cons, List.length_nil, Nat.reduceAdd, Nat.reduceLeDiff, List.getElem?_cons_zero, List.getElem?_cons_succ, List.getD_cons_zero, List.getD_cons_succ, List.drop_zero, List.drop_succ_cons, List.map_cons, List.map_nil, List.cons_append, List.nil_append, List.append_nil, List.head?_cons, Int.toNat_natCast, Nat.zero_le, and_self, true_and, and_true, Bool.not_true, Bool.not_false, Option.map_some, true_implies, Bool.true_eq_false, Bool.false_eq_true, reduceCtorEq, false_implies, List.mem_cons, List.not_mem_nil, Prod.mk.injEq, false_and, and_false, or_false, false_or, or_true, true_or, if_false, ty3, ty3k, ty3s, ty3t, ty3z, ty3o, ty22, ty22k, ty22s, ty22t, ty22z, ty22o, ty23, ty23k, ty23s, ty23t, ty23z, ty23o, ty24, ty24k, ty24s, ty24t, ty24z, ty24o, ty25, ty25k, ty25s, ty25t, ty25z, ty25o, ty27, ty27k, ty27s, ty27t, ty27z, ty27o, ty31, ty31k, ty31s, ty31t, ty31z, ty31o, ty32, ty32k, ty32s, ty32t, ty32z, ty32o, ty34, ty34k, ty34s, ty34t, ty34z, ty34o, ty35, ty35k, ty35s, ty35t, ty35z, ty35o, ty37, ty37k, ty37s, ty37t, ty37z, ty37o, ty41, ty41k, ty41s, ty41t, ty41z, ty41o, ty43, ty43k, ty43s, ty43t, ty43z, ty43o, ty52, ty52k, ty52s, ty52t, ty52z, ty52o, ty54, ty54k, ty54s, ty54t, ty54z, ty54o, cz, at_end, set_end]
          | refine And.intro (a := drawOk _ _ = true) (by kernel_rfl) ?_
          | (refine id (α := drawOk _ _ = true) ?_; kernel_rfl))
  · refine pfn_F fn5 (by simp) ?_
    simp only [Go.Proofs.Tryd.f5, Option.getD_some, List.append_eq, List.cons_append, List.nil_append]
    repeat' (first
      | refine If1.split (fun hb => ?_) (fun hb => ?_)
      | refine C1.pure (k7) c7' ?_
      | refine C1.pure (k20) cn ?_
      | refine C1.pure (c21) rfl ?_
      | simp (config := { maxSteps := 1000000 }) only [W1_skip, W1_ret, W1_label, W1_exit, W1_seq, W1_cond, W1_block, W1_region, W1_draw, W1_loop, O1_nil, O1_n, O1_s, slotD_s, slotD_z, V1_s, U1_b, U1_u, If1_t, If1_f, If1_not, eqB_tt, eqB_tf, eqB_ft, eqB_ff, X1_eq, H1_f, H1_h, H1_c, how, B1_some, B1_none, B1_ite, D1_b, setT_t, setT_c, T1_n, T1_r, T1_x, K1_n, K1_r, K1_x, FinP_n, FinP_r, bindO_some, RetOk_lit, FinX_n, FinX_r, FinK_n, FinK_r, oneOrTup_1, RetX_lit, getCells, List.set_cons_zero, List.set_cons_succ, putAt, fillA, sizesOf, allTyped, List.all_cons, List.all_nil, Bool.and_self, Bool.true_and, Bool.and_true, Nat.reduceMul, Int.reduceLT, Int.reduceGT, Int.reduceGE, Int.cast_ofNat_Int, Int.reduceLE, Int.reduceToNat, Int.reduceAdd, Int.reduceNeg, Int.reduceEq, Int.reduceBNe, Int.reduceBEq, decide_false, zerosA, List.replicate_succ, List.replicate_zero, List.flatten_cons, List.flatten_nil, Option.isSome_some, dstOk, evRes, evRes1, evFree, evHeap, evA, upd_ne, upd_same, initF, updO_some, updO_none, kindOf, AV.storable, AV.cells, AV.one, Value.oneCell', mode, E_pol, pol, binA, unA, litInt, litBool, litStr, eqA, callee, evArgs, evParts, ne_eq, Nat.reduceEqDiff, Nat.reduceLT, not_false_eq_true, decide_true, if_true, reduceIte, List.take_zero, List.take_succ_cons, List.length_cons, List.length_nil, Nat.reduceAdd, Nat.reduceLeDiff, List.getElem?_cons_zero, List.getElem?_cons_succ, List.getD_cons_zero, List.getD_cons_succ, List.drop_zero, List.drop_succ_cons, List.map_cons, List.map_nil, List.cons_append, List.nil_append, List.append_nil, List.head?_cons, Int.toNat_natCast, Nat.zero_le, and_self, true_and, and_true, Bool.not_true, Bool.not_false, Option.map_some, true_implies, Bool.true_eq_false, Bool.false_eq_true, reduceCtorEq, false_implies, List.mem_cons, List.not_mem_nil, Prod.mk.injEq, false_and, and_false, or_false, false_or, or_true, true_or, if_false, ty3, ty3k, ty3s, ty3t, ty3z, ty3o, ty22, ty22k, ty22s, ty22t, ty22z, ty22o, ty23, ty23k, ty23s, ty23t, ty23z, ty23o, ty24, ty24k, ty24s, ty24t, ty24z, ty24o, ty25, ty25k, ty25s, ty25t, ty25z, ty25o, ty27, ty27k, ty27s, ty27t, ty27z, ty27o, ty31, ty31k, ty31s, ty31t, ty31z, ty31o, ty32, ty32k, ty32s, ty32t, ty32z, ty32o, ty34, ty34k, ty34s, ty34t, ty34z, ty34o, ty35, ty35k, ty35s, ty35t, ty35z, ty35o, ty37, ty37k, ty37s, ty37t, ty37z, ty37o, ty41, ty41k, ty41s, ty41t, ty41z, ty41o, ty43, ty43k, ty43s, ty43t, ty43z, ty43o, ty52, ty52k, ty52s, ty52t, ty52z, ty52o, ty54, ty54k, ty54s, ty54t, ty54z, ty54o, cz, at_end, set_end]
      | refine And.intro (a := drawOk _ _ = true) (by kernel_rfl) ?_
      | (refine id (α := drawOk _ _ = true) ?_; kernel_rfl))
    all_goals exact absurd ⟨by assumption, by assumption⟩ hall
end Go.Abs

