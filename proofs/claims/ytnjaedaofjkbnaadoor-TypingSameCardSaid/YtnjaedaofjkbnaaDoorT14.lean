/- Contract: the law. Conditions: none. -/
import Derived.Test.YtnjaedaofjkbnaaDoorT13
set_option maxRecDepth 100000
set_option linter.unusedVariables false
set_option linter.unusedSimpArgs false
namespace Go.Abs
open Go
theorem behind_nil {l : List I3} {pc : Nat} {i : I3} : (((behindB l pc i).length : Int) == 0) = (i.op == 34) := by
  by_cases h : i.op = 34
  · simp [behindB, h]
  · have hr : rawB l pc i ≠ [] := by
      unfold rawB
      rw [if_neg h]
      split
      · simp
      · split
        · simp
        · split
          · intro hn
            have := congrArg List.length hn
            rw [stepsB_len] at this
            simp [manyB] at this
          · simp
    have hb : behindB l pc i ≠ [] := by
      unfold behindB
      rw [if_neg h]
      exact packZ_pos (sortZ_pos hr)
    have h1 : (i.op == 34) = false := by simpa using h
    rw [h1]
    have : 0 < (behindB l pc i).length := List.length_pos_iff.2 hb
    simp
    exact hb
set_option maxHeartbeats 2000000 in
theorem c6_in (p : Pr) (u : Int) (hi : ∀ u ∈ p.units, ∀ i ∈ u.code, In64 i.op ∧ In64 i.a ∧ In64 i.b) : PFn E 6 [prA p, I u] (B true) := by
  obtain ⟨r31, k31, b31, rfl, g31⟩ := f31 p
  have k32 := c32
  cases b31 with
  | false =>
    refine pfn_F fn6 (by simp) ?_
    simp only [Go.Proofs.Tryd.f6, Option.getD_some, List.append_eq, List.cons_append, List.nil_append]
    repeat' (first
      | refine If1.split (fun hb => ?_) (fun hb => ?_)
      | refine C1.pure (k31) (by simp [AV.closedL, AV.closed, vr_closed, bk_closed, sg_closed, ints_closed, ex_closed, i3_closed, cn_closed, un_closed]) ?_
      | refine C1.pure (k32) rfl ?_
      | simp (config := { maxSteps := 1000000 }) only [W1_scope, W1_skip, W1_ret, W1_label, W1_exit, W1_seq, W1_cond, W1_block, W1_region, W1_draw, W1_loop, O1_nil, O1_n, O1_s, slotD_s, slotD_z, V1_s, U1_b, U1_u, If1_t, If1_f, If1_not, eqB_tt, eqB_tf, eqB_ft, eqB_ff, X1_eq, H1_f, H1_h, H1_c, how, B1_some, B1_none, B1_ite, D1_b, setT_t, setT_c, T1_n, T1_r, T1_x, K1_n, K1_r, K1_x, FinP_n, FinP_r, bindO_some, RetOk_lit, FinX_n, FinX_r, FinK_n, FinK_r, oneOrTup_1, RetX_lit, getCells, List.set_cons_zero, List.set_cons_succ, putAt, fillA, sizesOf, allTyped, List.all_cons, List.all_nil, Bool.and_self, Bool.true_and, Bool.and_true, Nat.reduceMul, Int.reduceLT, Int.reduceGT, Int.reduceGE, Int.cast_ofNat_Int, Int.reduceLE, Int.reduceToNat, Int.reduceAdd, Int.reduceNeg, Int.reduceEq, Int.reduceBNe, Int.reduceBEq, decide_false, zerosA, List.replicate_succ, List.replicate_zero, List.flatten_cons, List.flatten_nil, Option.isSome_some, dstOk, evRes, evRes1, evFree, evHeap, evA, upd_ne, upd_same, initF, updO_some, updO_none, kindOf, AV.storable, AV.cells, AV.one, Value.oneCell', mode, E_pol, pol, binA, unA, litInt, litBool, litStr, eqA, callee, evArgs, evParts, ne_eq, Nat.reduceEqDiff, Nat.reduceLT, not_false_eq_true, decide_true, if_true, reduceIte, List.take_zero, List.take_succ_cons, List.length_cons, List.length_nil, Nat.reduceAdd, Nat.reduceLeDiff, List.getElem?_cons_zero, List.getElem?_cons_succ, List.getD_cons_zero, List.getD_cons_succ, List.drop_zero, List.drop_succ_cons, List.map_cons, List.map_nil, List.cons_append, List.nil_append, List.append_nil, List.head?_cons, Int.toNat_natCast, Nat.zero_le, and_self, true_and, and_true, Bool.not_true, Bool.not_false, Option.map_some, true_implies, Bool.true_eq_false, Bool.false_eq_true, reduceCtorEq, false_implies, List.mem_cons, List.not_mem_nil, Prod.mk.injEq, false_and, and_false, or_false, false_or, or_true, true_or, if_false, ty3, ty3k, ty3s, ty3t, ty3z, ty3o, ty3b, ty4, ty4k, ty4s, ty4t, ty4z, ty4o, ty4b, ty9, ty9k, ty9s, ty9t, ty9z, ty9o, ty9b, ty22, ty22k, ty22s, ty22t, ty22z, ty22o, ty22b, ty23, ty23k, ty23s, ty23t, ty23z, ty23o, ty23b, ty24, ty24k, ty24s, ty24t, ty24z, ty24o, ty24b, ty25, ty25k, ty25s, ty25t, ty25z, ty25o, ty25b, ty27, ty27k, ty27s, ty27t, ty27z, ty27o, ty27b, ty28, ty28k, ty28s, ty28t, ty28z, ty28o, ty28b, ty32, ty32k, ty32s, ty32t, ty32z, ty32o, ty32b, ty65, ty65k, ty65s, ty65t, ty65z, ty65o, ty65b, ty66, ty66k, ty66s, ty66t, ty66z, ty66o, ty66b, ty70, ty70k, ty70s, ty70t, ty70z, ty70o, ty70b, ty72, ty72k, ty72s, ty72t, ty72z, ty72o, ty72b, ty76, ty76k, ty76s, ty76t, ty76z, ty76o, ty76b, cz]
      | refine And.intro (a := drawOk _ _ = true) (by kernel_rfl) ?_
      | (refine id (α := drawOk _ _ = true) ?_; kernel_rfl))
  | true =>
    have hp : p.Fit := ⟨g31 rfl, hi⟩
    obtain ⟨o, ho⟩ := ent_ex p u hp
    obtain ⟨n, k34, gn1, gn2⟩ := c34 p u hp o ho
    obtain ⟨k33, hc⟩ := ho
    rcases hc with ⟨he, hs, hr⟩ | ⟨he, x, hx⟩
    · have h0 : (o.e != 0) = true := by simpa using he
      have hn := gn1 he
      subst hn
      have z1 : ((o.ss.length : Int) == 0) = true := by rw [hs]; rfl
      have z2 : ((o.rs.length : Int) == 0) = true := by rw [hr]; rfl
      refine pfn_F fn6 (by simp) ?_
      simp only [Go.Proofs.Tryd.f6, Option.getD_some, List.append_eq, List.cons_append, List.nil_append]
      repeat' (first
        | refine If1.split (fun hb => ?_) (fun hb => ?_)
        | refine C1.pure (k31) (by simp [AV.closedL, AV.closed, vr_closed, bk_closed, sg_closed, ints_closed, ex_closed, i3_closed, cn_closed, un_closed]) ?_
        | refine C1.pure (k33) (by simp [AV.closedL, AV.closed, vr_closed, bk_closed, sg_closed, ints_closed, ex_closed, i3_closed, cn_closed, un_closed]) ?_
        | refine C1.pure (k34) (by simp [AV.closedL, AV.closed, vr_closed, bk_closed, sg_closed, ints_closed, ex_closed, i3_closed, cn_closed, un_closed]) ?_
        | refine C1.pure (k32) rfl ?_
        | simp (config := { maxSteps := 1000000 }) only [W1_scope, W1_skip, W1_ret, W1_label, W1_exit, W1_seq, W1_cond, W1_block, W1_region, W1_draw, W1_loop, O1_nil, O1_n, O1_s, slotD_s, slotD_z, V1_s, U1_b, U1_u, If1_t, If1_f, If1_not, eqB_tt, eqB_tf, eqB_ft, eqB_ff, X1_eq, H1_f, H1_h, H1_c, how, B1_some, B1_none, B1_ite, D1_b, setT_t, setT_c, T1_n, T1_r, T1_x, K1_n, K1_r, K1_x, FinP_n, FinP_r, bindO_some, RetOk_lit, FinX_n, FinX_r, FinK_n, FinK_r, oneOrTup_1, RetX_lit, getCells, List.set_cons_zero, List.set_cons_succ, putAt, fillA, sizesOf, allTyped, List.all_cons, List.all_nil, Bool.and_self, Bool.true_and, Bool.and_true, Nat.reduceMul, Int.reduceLT, Int.reduceGT, Int.reduceGE, Int.cast_ofNat_Int, Int.reduceLE, Int.reduceToNat, Int.reduceAdd, Int.reduceNeg, Int.reduceEq, Int.reduceBNe, Int.reduceBEq, decide_false, zerosA, List.replicate_succ, List.replicate_zero, List.flatten_cons, List.flatten_nil, Option.isSome_some, dstOk, evRes, evRes1, evFree, evHeap, evA, upd_ne, upd_same, initF, updO_some, updO_none, kindOf, AV.storable, AV.cells, AV.one, Value.oneCell', mode, E_pol, pol, binA, unA, litInt, litBool, litStr, eqA, callee, evArgs, evParts, ne_eq, Nat.reduceEqDiff, Nat.reduceLT, not_false_eq_true, decide_true, if_true, reduceIte, List.take_zero, List.take_succ_cons, List.length_cons, List.length_nil, Nat.reduceAdd, Nat.reduceLeDiff, List.getElem?_cons_zero, List.getElem?_cons_succ, List.getD_cons_zero, List.getD_cons_succ, List.drop_zero, List.drop_succ_cons, List.map_cons, List.map_nil, List.cons_append, List.nil_append, List.append_nil, List.head?_cons, Int.toNat_natCast, Nat.zero_le, and_self, true_and, and_true, Bool.not_true, Bool.not_false, Option.map_some, true_implies, Bool.true_eq_false, Bool.false_eq_true, reduceCtorEq, false_implies, List.mem_cons, List.not_mem_nil, Prod.mk.injEq, false_and, and_false, or_false, false_or, or_true, true_or, if_false, ty3, ty3k, ty3s, ty3t, ty3z, ty3o, ty3b, ty4, ty4k, ty4s, ty4t, ty4z, ty4o, ty4b, ty9, ty9k, ty9s, ty9t, ty9z, ty9o, ty9b, ty22, ty22k, ty22s, ty22t, ty22z, ty22o, ty22b, ty23, ty23k, ty23s, ty23t, ty23z, ty23o, ty23b, ty24, ty24k, ty24s, ty24t, ty24z, ty24o, ty24b, ty25, ty25k, ty25s, ty25t, ty25z, ty25o, ty25b, ty27, ty27k, ty27s, ty27t, ty27z, ty27o, ty27b, ty28, ty28k, ty28s, ty28t, ty28z, ty28o, ty28b, ty32, ty32k, ty32s, ty32t, ty32z, ty32o, ty32b, ty65, ty65k, ty65s, ty65t, ty65z, ty65o, ty65b, ty66, ty66k, ty66s, ty66t, ty66z, ty66o, ty66b, ty70, ty70k, ty70s, ty70t, ty70z, ty70o, ty70b, ty72, ty72k, ty72s, ty72t, ty72z, ty72o, ty72b, ty76, ty76k, ty76s, ty76t, ty76z, ty76o, ty76b, cz, h0, z1, z2]
        | refine And.intro (a := drawOk _ _ = true) (by kernel_rfl) ?_
        | (refine id (α := drawOk _ _ = true) ?_; kernel_rfl))
    · obtain ⟨hxf, hxi⟩ := hp.one hx.check.at'
      have hl := hxf.code
      have h0 : (o.e != 0) = false := by simpa using he
      have hu : 0 ≤ u ∧ u < (p.units.length : Int) := ⟨hx.check.lo, by have := (List.getElem?_eq_some_iff.1 hx.check.at').1; have := hx.check.lo; omega⟩
      have hax := Un.at hx.check.at'
      have hn := gn2 x hx
      have z1 : ((o.ss.length : Int) != (x.code.length : Int)) = false := by rw [hx.sl]; simp
      have z2 : ((o.rs.length : Int) != (x.code.length : Int)) = false := by rw [hx.rl]; simp
      refine pfn_F fn6 (by simp) ?_
      simp only [Go.Proofs.Tryd.f6, Option.getD_some, List.append_eq, List.cons_append, List.nil_append]
      repeat' (first
        | refine If1.split (fun hb => ?_) (fun hb => ?_)
        | refine C1.pure (k31) (by simp [AV.closedL, AV.closed, vr_closed, bk_closed, sg_closed, ints_closed, ex_closed, i3_closed, cn_closed, un_closed]) ?_
        | refine C1.pure (k33) (by simp [AV.closedL, AV.closed, vr_closed, bk_closed, sg_closed, ints_closed, ex_closed, i3_closed, cn_closed, un_closed]) ?_
        | refine C1.pure (k34) (by simp [AV.closedL, AV.closed, vr_closed, bk_closed, sg_closed, ints_closed, ex_closed, i3_closed, cn_closed, un_closed]) ?_
        | simp (config := { maxSteps := 1000000 }) only [W1_scope, W1_skip, W1_ret, W1_label, W1_exit, W1_seq, W1_cond, W1_block, W1_region, W1_draw, W1_loop, O1_nil, O1_n, O1_s, slotD_s, slotD_z, V1_s, U1_b, U1_u, If1_t, If1_f, If1_not, eqB_tt, eqB_tf, eqB_ft, eqB_ff, X1_eq, H1_f, H1_h, H1_c, how, B1_some, B1_none, B1_ite, D1_b, setT_t, setT_c, T1_n, T1_r, T1_x, K1_n, K1_r, K1_x, FinP_n, FinP_r, bindO_some, RetOk_lit, FinX_n, FinX_r, FinK_n, FinK_r, oneOrTup_1, RetX_lit, getCells, List.set_cons_zero, List.set_cons_succ, putAt, fillA, sizesOf, allTyped, List.all_cons, List.all_nil, Bool.and_self, Bool.true_and, Bool.and_true, Nat.reduceMul, Int.reduceLT, Int.reduceGT, Int.reduceGE, Int.cast_ofNat_Int, Int.reduceLE, Int.reduceToNat, Int.reduceAdd, Int.reduceNeg, Int.reduceEq, Int.reduceBNe, Int.reduceBEq, decide_false, zerosA, List.replicate_succ, List.replicate_zero, List.flatten_cons, List.flatten_nil, Option.isSome_some, dstOk, evRes, evRes1, evFree, evHeap, evA, upd_ne, upd_same, initF, updO_some, updO_none, kindOf, AV.storable, AV.cells, AV.one, Value.oneCell', mode, E_pol, pol, binA, unA, litInt, litBool, litStr, eqA, callee, evArgs, evParts, ne_eq, Nat.reduceEqDiff, Nat.reduceLT, not_false_eq_true, decide_true, if_true, reduceIte, List.take_zero, List.take_succ_cons, List.length_cons, List.length_nil, Nat.reduceAdd, Nat.reduceLeDiff, List.getElem?_cons_zero, List.getElem?_cons_succ, List.getD_cons_zero, List.getD_cons_succ, List.drop_zero, List.drop_succ_cons, List.map_cons, List.map_nil, List.cons_append, List.nil_append, List.append_nil, List.head?_cons, Int.toNat_natCast, Nat.zero_le, and_self, true_and, and_true, Bool.not_true, Bool.not_false, Option.map_some, true_implies, Bool.true_eq_false, Bool.false_eq_true, reduceCtorEq, false_implies, List.mem_cons, List.not_mem_nil, Prod.mk.injEq, false_and, and_false, or_false, false_or, or_true, true_or, if_false, ty3, ty3k, ty3s, ty3t, ty3z, ty3o, ty3b, ty4, ty4k, ty4s, ty4t, ty4z, ty4o, ty4b, ty9, ty9k, ty9s, ty9t, ty9z, ty9o, ty9b, ty22, ty22k, ty22s, ty22t, ty22z, ty22o, ty22b, ty23, ty23k, ty23s, ty23t, ty23z, ty23o, ty23b, ty24, ty24k, ty24s, ty24t, ty24z, ty24o, ty24b, ty25, ty25k, ty25s, ty25t, ty25z, ty25o, ty25b, ty27, ty27k, ty27s, ty27t, ty27z, ty27o, ty27b, ty28, ty28k, ty28s, ty28t, ty28z, ty28o, ty28b, ty32, ty32k, ty32s, ty32t, ty32z, ty32o, ty32b, ty65, ty65k, ty65s, ty65t, ty65z, ty65o, ty65b, ty66, ty66k, ty66s, ty66t, ty66z, ty66o, ty66b, ty70, ty70k, ty70s, ty70t, ty70z, ty70o, ty70b, ty72, ty72k, ty72s, ty72t, ty72z, ty72o, ty72b, ty76, ty76k, ty76s, ty76t, ty76z, ty76o, ty76b, cz, h0, z1, z2, hu, hax]
        | refine And.intro (a := drawOk _ _ = true) (by kernel_rfl) ?_
        | (refine id (α := drawOk _ _ = true) ?_; kernel_rfl))
      refine L1_up x.code.length (fun k fr h => h = [] ∧ fr 2 = prR p ∧ fr 1 = I u ∧ fr 6 = boolsA o.rs ∧ fr 5 = rowsA o.ss ∧ fr 9 = I n ∧ fr 10 = codeA x.code ∧ fr 12 = I k ∧ fr 11 = I (topF p u x.code o.ss o.rs k : Nat)) ?_ ?_ 0 (Nat.zero_le _) _ _ ?_
      · rintro k hk fr h ⟨rfl, f2, f1, f6, f5, f9, f10, f12, f11⟩
        obtain ⟨i, hi⟩ : ∃ i, x.code[k]? = some i := ⟨x.code[k], by simp [hk]⟩
        have hks : k < o.ss.length := by rw [hx.sl]; exact hk
        have hkr : k < o.rs.length := by rw [hx.rl]; exact hk
        obtain ⟨r, hr⟩ : ∃ r, o.rs[k]? = some r := ⟨o.rs[k], by simp [hkr]⟩
        have hlt : decide ((k : Int) < (x.code.length : Int)) = true := by simp; omega
        have hin : 0 ≤ (k : Int) ∧ (k : Int) < (o.ss.length : Int) := by omega
        have hin2 : 0 ≤ (k : Int) ∧ (k : Int) < (o.rs.length : Int) := by omega
        have hin3 : 0 ≤ (k : Int) ∧ (k : Int) < (x.code.length : Int) := by omega
        have hw : IntKind.i64.wrap ((k : Int) + 1) = ((k + 1 : Nat) : Int) := by rw [wrap64 (by unfold In64; omega)]; simp
        have a2 := bool_at hr
        have a3 := I3.at hi
        cases r with
        | true =>
          obtain ⟨i', s, hi', hs, hst0, hgood⟩ := hx.good k hr
          rw [hi] at hi'
          injection hi' with hi'
          subst hi'
          have hi6 := hxi i (List.mem_of_getElem? hi)
          obtain ⟨k35, hsm⟩ := step_spec (u := u) hp hi6.1 (hx.small k s hs)
          have et := topF_yes (p := p) (u := u) hi hs hr
          have hmono := topF_mono (p := p) (u := u) (l := x.code) (ss := o.ss) (rs := o.rs) (k + 1) (x.code.length - (k + 1))
          rw [show k + 1 + (x.code.length - (k + 1)) = x.code.length by omega, ← hn, et] at hmono
          have k36 := d36 hl hi hi6.2.1
          have a1 := rows_at hs
          rw [hst0] at k35
          obtain ⟨st, hst⟩ : ∃ st, st = (stepF p u i s).1 := ⟨_, rfl⟩
          rw [← hst] at k35 hsm hgood et hmono
          have q1 : decide ((st.length : Int) > (n : Int)) = false := by simp; omega
          have q2 : decide ((s.length : Int) > (n : Int)) = false := by simp; omega
          have q3 := behind_nil (l := x.code) (pc := k) (i := i)
          have emax : max (topF p u x.code o.ss o.rs k) (max st.length s.length) = topF p u x.code o.ss o.rs (k + 1) := by rw [et]; omega
          obtain ⟨nx, hnx⟩ : ∃ nx, nx = behindB x.code k i := ⟨_, rfl⟩
          rw [← hnx] at k36 hgood q3
          have hnl : nx.length ≤ 301 := by rw [hnx]; exact behind_len hl
          repeat' (first
            | refine If1.split (fun hb => ?_) (fun hb => ?_)
            | refine C1.pure (k35) (by simp [AV.closedL, AV.closed, vr_closed, bk_closed, sg_closed, ints_closed, ex_closed, i3_closed, cn_closed, un_closed]) ?_
            | refine C1.pure (k36) (by simp [AV.closedL, AV.closed, vr_closed, bk_closed, sg_closed, ints_closed, ex_closed, i3_closed, cn_closed, un_closed]) ?_
            | simp (config := { maxSteps := 1000000 }) only [W1_scope, W1_skip, W1_ret, W1_label, W1_exit, W1_seq, W1_cond, W1_block, W1_region, W1_draw, W1_loop, O1_nil, O1_n, O1_s, slotD_s, slotD_z, V1_s, U1_b, U1_u, If1_t, If1_f, If1_not, eqB_tt, eqB_tf, eqB_ft, eqB_ff, X1_eq, H1_f, H1_h, H1_c, how, B1_some, B1_none, B1_ite, D1_b, setT_t, setT_c, T1_n, T1_r, T1_x, K1_n, K1_r, K1_x, FinP_n, FinP_r, bindO_some, RetOk_lit, FinX_n, FinX_r, FinK_n, FinK_r, oneOrTup_1, RetX_lit, getCells, List.set_cons_zero, List.set_cons_succ, putAt, fillA, sizesOf, allTyped, List.all_cons, List.all_nil, Bool.and_self, Bool.true_and, Bool.and_true, Nat.reduceMul, Int.reduceLT, Int.reduceGT, Int.reduceGE, Int.cast_ofNat_Int, Int.reduceLE, Int.reduceToNat, Int.reduceAdd, Int.reduceNeg, Int.reduceEq, Int.reduceBNe, Int.reduceBEq, decide_false, zerosA, List.replicate_succ, List.replicate_zero, List.flatten_cons, List.flatten_nil, Option.isSome_some, dstOk, evRes, evRes1, evFree, evHeap, evA, upd_ne, upd_same, initF, updO_some, updO_none, kindOf, AV.storable, AV.cells, AV.one, Value.oneCell', mode, E_pol, pol, binA, unA, litInt, litBool, litStr, eqA, callee, evArgs, evParts, ne_eq, Nat.reduceEqDiff, Nat.reduceLT, not_false_eq_true, decide_true, if_true, reduceIte, List.take_zero, List.take_succ_cons, List.length_cons, List.length_nil, Nat.reduceAdd, Nat.reduceLeDiff, List.getElem?_cons_zero, List.getElem?_cons_succ, List.getD_cons_zero, List.getD_cons_succ, List.drop_zero, List.drop_succ_cons, List.map_cons, List.map_nil, List.cons_append, List.nil_append, List.append_nil, List.head?_cons, Int.toNat_natCast, Nat.zero_le, and_self, true_and, and_true, Bool.not_true, Bool.not_false, Option.map_some, true_implies, Bool.true_eq_false, Bool.false_eq_true, reduceCtorEq, false_implies, List.mem_cons, List.not_mem_nil, Prod.mk.injEq, false_and, and_false, or_false, false_or, or_true, true_or, if_false, ty3, ty3k, ty3s, ty3t, ty3z, ty3o, ty3b, ty4, ty4k, ty4s, ty4t, ty4z, ty4o, ty4b, ty9, ty9k, ty9s, ty9t, ty9z, ty9o, ty9b, ty22, ty22k, ty22s, ty22t, ty22z, ty22o, ty22b, ty23, ty23k, ty23s, ty23t, ty23z, ty23o, ty23b, ty24, ty24k, ty24s, ty24t, ty24z, ty24o, ty24b, ty25, ty25k, ty25s, ty25t, ty25z, ty25o, ty25b, ty27, ty27k, ty27s, ty27t, ty27z, ty27o, ty27b, ty28, ty28k, ty28s, ty28t, ty28z, ty28o, ty28b, ty32, ty32k, ty32s, ty32t, ty32z, ty32o, ty32b, ty65, ty65k, ty65s, ty65t, ty65z, ty65o, ty65b, ty66, ty66k, ty66s, ty66t, ty66z, ty66o, ty66b, ty70, ty70k, ty70s, ty70t, ty70z, ty70o, ty70b, ty72, ty72k, ty72s, ty72t, ty72z, ty72o, ty72b, ty76, ty76k, ty76s, ty76t, ty76z, ty76o, ty76b, f2, f1, f6, f5, f9, f10, f12, f11, hlt, hin, hin2, hin3, hw, a1, a2, a3, Nat.mul_one, hu, hax, evArgs, foldA, maxA, max3, emax, q1, q2, q3, bne_self_eq_false, beq_self_eq_true, cz]
            | refine And.intro (a := drawOk _ _ = true) (by kernel_rfl) ?_
            | (refine id (α := drawOk _ _ = true) ?_; kernel_rfl))
          refine L1_up nx.length (fun j fr h => h = [] ∧ fr 2 = prR p ∧ fr 1 = I u ∧ fr 6 = boolsA o.rs ∧ fr 5 = rowsA o.ss ∧ fr 9 = I n ∧ fr 10 = codeA x.code ∧ fr 12 = I k ∧ fr 11 = I (topF p u x.code o.ss o.rs (k + 1) : Nat) ∧ fr 13 = intsA st ∧ fr 15 = intsA nx ∧ fr 16 = I j) ?_ ?_ 0 (Nat.zero_le _) _ _ ?_
          · rintro j hj fr h ⟨rfl, f2, f1, f6, f5, f9, f10, f12, f11, f13, f15, f16⟩
            obtain ⟨t, ht⟩ : ∃ t, nx[j]? = some t := ⟨nx[j], by simp [hj]⟩
            obtain ⟨g1, g2, g3, g4⟩ := hgood t (List.mem_of_getElem? ht)
            obtain ⟨m, rfl⟩ : ∃ m : Nat, t = m := ⟨t.toNat, by omega⟩
            have hlt : decide ((j : Int) < (nx.length : Int)) = true := by simp; omega
            have hin : 0 ≤ (j : Int) ∧ (j : Int) < (nx.length : Int) := by omega
            have hin1 : 0 ≤ (m : Int) ∧ (m : Int) < (o.ss.length : Int) := by rw [hx.sl]; omega
            have hin2 : 0 ≤ (m : Int) ∧ (m : Int) < (o.rs.length : Int) := by rw [hx.rl]; omega
            have hw : IntKind.i64.wrap ((j : Int) + 1) = ((j + 1 : Nat) : Int) := by rw [wrap64 (by unfold In64; omega)]; simp
            have a1 := rows_at g4
            have a2 := bool_at g3
            have a3 := intC_at' ht
            simp only [Int.toNat_natCast] at a1 a2
            have d1 : decide ((m : Int) < 0) = false := by simp
            have d2 : decide ((m : Int) ≥ (x.code.length : Int)) = false := by simp; omega
            have k37 := c37 st st (by omega) (by omega)
            have d3 : decide (st = st) = true := by simp
            rw [d3] at k37
            repeat' (first
              | refine If1.split (fun hb => ?_) (fun hb => ?_)
              | refine C1.pure (k37) (by simp [AV.closedL, AV.closed, vr_closed, bk_closed, sg_closed, ints_closed, ex_closed, i3_closed, cn_closed, un_closed]) ?_
              | simp (config := { maxSteps := 1000000 }) only [W1_scope, W1_skip, W1_ret, W1_label, W1_exit, W1_seq, W1_cond, W1_block, W1_region, W1_draw, W1_loop, O1_nil, O1_n, O1_s, slotD_s, slotD_z, V1_s, U1_b, U1_u, If1_t, If1_f, If1_not, eqB_tt, eqB_tf, eqB_ft, eqB_ff, X1_eq, H1_f, H1_h, H1_c, how, B1_some, B1_none, B1_ite, D1_b, setT_t, setT_c, T1_n, T1_r, T1_x, K1_n, K1_r, K1_x, FinP_n, FinP_r, bindO_some, RetOk_lit, FinX_n, FinX_r, FinK_n, FinK_r, oneOrTup_1, RetX_lit, getCells, List.set_cons_zero, List.set_cons_succ, putAt, fillA, sizesOf, allTyped, List.all_cons, List.all_nil, Bool.and_self, Bool.true_and, Bool.and_true, Nat.reduceMul, Int.reduceLT, Int.reduceGT, Int.reduceGE, Int.cast_ofNat_Int, Int.reduceLE, Int.reduceToNat, Int.reduceAdd, Int.reduceNeg, Int.reduceEq, Int.reduceBNe, Int.reduceBEq, decide_false, zerosA, List.replicate_succ, List.replicate_zero, List.flatten_cons, List.flatten_nil, Option.isSome_some, dstOk, evRes, evRes1, evFree, evHeap, evA, upd_ne, upd_same, initF, updO_some, updO_none, kindOf, AV.storable, AV.cells, AV.one, Value.oneCell', mode, E_pol, pol, binA, unA, litInt, litBool, litStr, eqA, callee, evArgs, evParts, ne_eq, Nat.reduceEqDiff, Nat.reduceLT, not_false_eq_true, decide_true, if_true, reduceIte, List.take_zero, List.take_succ_cons, List.length_cons, List.length_nil, Nat.reduceAdd, Nat.reduceLeDiff, List.getElem?_cons_zero, List.getElem?_cons_succ, List.getD_cons_zero, List.getD_cons_succ, List.drop_zero, List.drop_succ_cons, List.map_cons, List.map_nil, List.cons_append, List.nil_append, List.append_nil, List.head?_cons, Int.toNat_natCast, Nat.zero_le, and_self, true_and, and_true, Bool.not_true, Bool.not_false, Option.map_some, true_implies, Bool.true_eq_false, Bool.false_eq_true, reduceCtorEq, false_implies, List.mem_cons, List.not_mem_nil, Prod.mk.injEq, false_and, and_false, or_false, false_or, or_true, true_or, if_false, ty3, ty3k, ty3s, ty3t, ty3z, ty3o, ty3b, ty4, ty4k, ty4s, ty4t, ty4z, ty4o, ty4b, ty9, ty9k, ty9s, ty9t, ty9z, ty9o, ty9b, ty22, ty22k, ty22s, ty22t, ty22z, ty22o, ty22b, ty23, ty23k, ty23s, ty23t, ty23z, ty23o, ty23b, ty24, ty24k, ty24s, ty24t, ty24z, ty24o, ty24b, ty25, ty25k, ty25s, ty25t, ty25z, ty25o, ty25b, ty27, ty27k, ty27s, ty27t, ty27z, ty27o, ty27b, ty28, ty28k, ty28s, ty28t, ty28z, ty28o, ty28b, ty32, ty32k, ty32s, ty32t, ty32z, ty32o, ty32b, ty65, ty65k, ty65s, ty65t, ty65z, ty65o, ty65b, ty66, ty66k, ty66s, ty66t, ty66z, ty66o, ty66b, ty70, ty70k, ty70s, ty70t, ty70z, ty70o, ty70b, ty72, ty72k, ty72s, ty72t, ty72z, ty72o, ty72b, ty76, ty76k, ty76s, ty76t, ty76z, ty76o, ty76b, f2, f1, f6, f5, f9, f10, f12, f11, f13, f15, f16, hlt, hin, hin1, hin2, hw, a1, a2, a3, Nat.mul_one, d1, d2]
              | refine And.intro (a := drawOk _ _ = true) (by kernel_rfl) ?_
              | (refine id (α := drawOk _ _ = true) ?_; kernel_rfl))
          · rintro fr h ⟨rfl, f2, f1, f6, f5, f9, f10, f12, f11, f13, f15, f16⟩
            have hlt : decide ((nx.length : Int) < (nx.length : Int)) = false := by simp
            repeat' (first
              | refine If1.split (fun hb => ?_) (fun hb => ?_)
              | simp (config := { maxSteps := 1000000 }) only [W1_scope, W1_skip, W1_ret, W1_label, W1_exit, W1_seq, W1_cond, W1_block, W1_region, W1_draw, W1_loop, O1_nil, O1_n, O1_s, slotD_s, slotD_z, V1_s, U1_b, U1_u, If1_t, If1_f, If1_not, eqB_tt, eqB_tf, eqB_ft, eqB_ff, X1_eq, H1_f, H1_h, H1_c, how, B1_some, B1_none, B1_ite, D1_b, setT_t, setT_c, T1_n, T1_r, T1_x, K1_n, K1_r, K1_x, FinP_n, FinP_r, bindO_some, RetOk_lit, FinX_n, FinX_r, FinK_n, FinK_r, oneOrTup_1, RetX_lit, getCells, List.set_cons_zero, List.set_cons_succ, putAt, fillA, sizesOf, allTyped, List.all_cons, List.all_nil, Bool.and_self, Bool.true_and, Bool.and_true, Nat.reduceMul, Int.reduceLT, Int.reduceGT, Int.reduceGE, Int.cast_ofNat_Int, Int.reduceLE, Int.reduceToNat, Int.reduceAdd, Int.reduceNeg, Int.reduceEq, Int.reduceBNe, Int.reduceBEq, decide_false, zerosA, List.replicate_succ, List.replicate_zero, List.flatten_cons, List.flatten_nil, Option.isSome_some, dstOk, evRes, evRes1, evFree, evHeap, evA, upd_ne, upd_same, initF, updO_some, updO_none, kindOf, AV.storable, AV.cells, AV.one, Value.oneCell', mode, E_pol, pol, binA, unA, litInt, litBool, litStr, eqA, callee, evArgs, evParts, ne_eq, Nat.reduceEqDiff, Nat.reduceLT, not_false_eq_true, decide_true, if_true, reduceIte, List.take_zero, List.take_succ_cons, List.length_cons, List.length_nil, Nat.reduceAdd, Nat.reduceLeDiff, List.getElem?_cons_zero, List.getElem?_cons_succ, List.getD_cons_zero, List.getD_cons_succ, List.drop_zero, List.drop_succ_cons, List.map_cons, List.map_nil, List.cons_append, List.nil_append, List.append_nil, List.head?_cons, Int.toNat_natCast, Nat.zero_le, and_self, true_and, and_true, Bool.not_true, Bool.not_false, Option.map_some, true_implies, Bool.true_eq_false, Bool.false_eq_true, reduceCtorEq, false_implies, List.mem_cons, List.not_mem_nil, Prod.mk.injEq, false_and, and_false, or_false, false_or, or_true, true_or, if_false, ty3, ty3k, ty3s, ty3t, ty3z, ty3o, ty3b, ty4, ty4k, ty4s, ty4t, ty4z, ty4o, ty4b, ty9, ty9k, ty9s, ty9t, ty9z, ty9o, ty9b, ty22, ty22k, ty22s, ty22t, ty22z, ty22o, ty22b, ty23, ty23k, ty23s, ty23t, ty23z, ty23o, ty23b, ty24, ty24k, ty24s, ty24t, ty24z, ty24o, ty24b, ty25, ty25k, ty25s, ty25t, ty25z, ty25o, ty25b, ty27, ty27k, ty27s, ty27t, ty27z, ty27o, ty27b, ty28, ty28k, ty28s, ty28t, ty28z, ty28o, ty28b, ty32, ty32k, ty32s, ty32t, ty32z, ty32o, ty32b, ty65, ty65k, ty65s, ty65t, ty65z, ty65o, ty65b, ty66, ty66k, ty66s, ty66t, ty66z, ty66o, ty66b, ty70, ty70k, ty70s, ty70t, ty70z, ty70o, ty70b, ty72, ty72k, ty72s, ty72t, ty72z, ty72o, ty72b, ty76, ty76k, ty76s, ty76t, ty76z, ty76o, ty76b, f2, f1, f6, f5, f9, f10, f12, f11, f13, f15, f16, hlt, hw]
              | refine And.intro (a := drawOk _ _ = true) (by kernel_rfl) ?_
              | (refine id (α := drawOk _ _ = true) ?_; kernel_rfl))
          · repeat' (first
              | refine If1.split (fun hb => ?_) (fun hb => ?_)
              | simp (config := { maxSteps := 1000000 }) only [W1_scope, W1_skip, W1_ret, W1_label, W1_exit, W1_seq, W1_cond, W1_block, W1_region, W1_draw, W1_loop, O1_nil, O1_n, O1_s, slotD_s, slotD_z, V1_s, U1_b, U1_u, If1_t, If1_f, If1_not, eqB_tt, eqB_tf, eqB_ft, eqB_ff, X1_eq, H1_f, H1_h, H1_c, how, B1_some, B1_none, B1_ite, D1_b, setT_t, setT_c, T1_n, T1_r, T1_x, K1_n, K1_r, K1_x, FinP_n, FinP_r, bindO_some, RetOk_lit, FinX_n, FinX_r, FinK_n, FinK_r, oneOrTup_1, RetX_lit, getCells, List.set_cons_zero, List.set_cons_succ, putAt, fillA, sizesOf, allTyped, List.all_cons, List.all_nil, Bool.and_self, Bool.true_and, Bool.and_true, Nat.reduceMul, Int.reduceLT, Int.reduceGT, Int.reduceGE, Int.cast_ofNat_Int, Int.reduceLE, Int.reduceToNat, Int.reduceAdd, Int.reduceNeg, Int.reduceEq, Int.reduceBNe, Int.reduceBEq, decide_false, zerosA, List.replicate_succ, List.replicate_zero, List.flatten_cons, List.flatten_nil, Option.isSome_some, dstOk, evRes, evRes1, evFree, evHeap, evA, upd_ne, upd_same, initF, updO_some, updO_none, kindOf, AV.storable, AV.cells, AV.one, Value.oneCell', mode, E_pol, pol, binA, unA, litInt, litBool, litStr, eqA, callee, evArgs, evParts, ne_eq, Nat.reduceEqDiff, Nat.reduceLT, not_false_eq_true, decide_true, if_true, reduceIte, List.take_zero, List.take_succ_cons, List.length_cons, List.length_nil, Nat.reduceAdd, Nat.reduceLeDiff, List.getElem?_cons_zero, List.getElem?_cons_succ, List.getD_cons_zero, List.getD_cons_succ, List.drop_zero, List.drop_succ_cons, List.map_cons, List.map_nil, List.cons_append, List.nil_append, List.append_nil, List.head?_cons, Int.toNat_natCast, Nat.zero_le, and_self, true_and, and_true, Bool.not_true, Bool.not_false, Option.map_some, true_implies, Bool.true_eq_false, Bool.false_eq_true, reduceCtorEq, false_implies, List.mem_cons, List.not_mem_nil, Prod.mk.injEq, false_and, and_false, or_false, false_or, or_true, true_or, if_false, ty3, ty3k, ty3s, ty3t, ty3z, ty3o, ty3b, ty4, ty4k, ty4s, ty4t, ty4z, ty4o, ty4b, ty9, ty9k, ty9s, ty9t, ty9z, ty9o, ty9b, ty22, ty22k, ty22s, ty22t, ty22z, ty22o, ty22b, ty23, ty23k, ty23s, ty23t, ty23z, ty23o, ty23b, ty24, ty24k, ty24s, ty24t, ty24z, ty24o, ty24b, ty25, ty25k, ty25s, ty25t, ty25z, ty25o, ty25b, ty27, ty27k, ty27s, ty27t, ty27z, ty27o, ty27b, ty28, ty28k, ty28s, ty28t, ty28z, ty28o, ty28b, ty32, ty32k, ty32s, ty32t, ty32z, ty32o, ty32b, ty65, ty65k, ty65s, ty65t, ty65z, ty65o, ty65b, ty66, ty66k, ty66s, ty66t, ty66z, ty66o, ty66b, ty70, ty70k, ty70s, ty70t, ty70z, ty70o, ty70b, ty72, ty72k, ty72s, ty72t, ty72z, ty72o, ty72b, ty76, ty76k, ty76s, ty76t, ty76z, ty76o, ty76b, f2, f1, f6, f5, f9, f10, f12, f11, cz]
              | refine And.intro (a := drawOk _ _ = true) (by kernel_rfl) ?_
              | (refine id (α := drawOk _ _ = true) ?_; kernel_rfl))
        | false =>
          have et := topF_no (p := p) (u := u) (l := x.code) (ss := o.ss) hr
          repeat' (first
            | refine If1.split (fun hb => ?_) (fun hb => ?_)
            | simp (config := { maxSteps := 1000000 }) only [W1_scope, W1_skip, W1_ret, W1_label, W1_exit, W1_seq, W1_cond, W1_block, W1_region, W1_draw, W1_loop, O1_nil, O1_n, O1_s, slotD_s, slotD_z, V1_s, U1_b, U1_u, If1_t, If1_f, If1_not, eqB_tt, eqB_tf, eqB_ft, eqB_ff, X1_eq, H1_f, H1_h, H1_c, how, B1_some, B1_none, B1_ite, D1_b, setT_t, setT_c, T1_n, T1_r, T1_x, K1_n, K1_r, K1_x, FinP_n, FinP_r, bindO_some, RetOk_lit, FinX_n, FinX_r, FinK_n, FinK_r, oneOrTup_1, RetX_lit, getCells, List.set_cons_zero, List.set_cons_succ, putAt, fillA, sizesOf, allTyped, List.all_cons, List.all_nil, Bool.and_self, Bool.true_and, Bool.and_true, Nat.reduceMul, Int.reduceLT, Int.reduceGT, Int.reduceGE, Int.cast_ofNat_Int, Int.reduceLE, Int.reduceToNat, Int.reduceAdd, Int.reduceNeg, Int.reduceEq, Int.reduceBNe, Int.reduceBEq, decide_false, zerosA, List.replicate_succ, List.replicate_zero, List.flatten_cons, List.flatten_nil, Option.isSome_some, dstOk, evRes, evRes1, evFree, evHeap, evA, upd_ne, upd_same, initF, updO_some, updO_none, kindOf, AV.storable, AV.cells, AV.one, Value.oneCell', mode, E_pol, pol, binA, unA, litInt, litBool, litStr, eqA, callee, evArgs, evParts, ne_eq, Nat.reduceEqDiff, Nat.reduceLT, not_false_eq_true, decide_true, if_true, reduceIte, List.take_zero, List.take_succ_cons, List.length_cons, List.length_nil, Nat.reduceAdd, Nat.reduceLeDiff, List.getElem?_cons_zero, List.getElem?_cons_succ, List.getD_cons_zero, List.getD_cons_succ, List.drop_zero, List.drop_succ_cons, List.map_cons, List.map_nil, List.cons_append, List.nil_append, List.append_nil, List.head?_cons, Int.toNat_natCast, Nat.zero_le, and_self, true_and, and_true, Bool.not_true, Bool.not_false, Option.map_some, true_implies, Bool.true_eq_false, Bool.false_eq_true, reduceCtorEq, false_implies, List.mem_cons, List.not_mem_nil, Prod.mk.injEq, false_and, and_false, or_false, false_or, or_true, true_or, if_false, ty3, ty3k, ty3s, ty3t, ty3z, ty3o, ty3b, ty4, ty4k, ty4s, ty4t, ty4z, ty4o, ty4b, ty9, ty9k, ty9s, ty9t, ty9z, ty9o, ty9b, ty22, ty22k, ty22s, ty22t, ty22z, ty22o, ty22b, ty23, ty23k, ty23s, ty23t, ty23z, ty23o, ty23b, ty24, ty24k, ty24s, ty24t, ty24z, ty24o, ty24b, ty25, ty25k, ty25s, ty25t, ty25z, ty25o, ty25b, ty27, ty27k, ty27s, ty27t, ty27z, ty27o, ty27b, ty28, ty28k, ty28s, ty28t, ty28z, ty28o, ty28b, ty32, ty32k, ty32s, ty32t, ty32z, ty32o, ty32b, ty65, ty65k, ty65s, ty65t, ty65z, ty65o, ty65b, ty66, ty66k, ty66s, ty66t, ty66z, ty66o, ty66b, ty70, ty70k, ty70s, ty70t, ty70z, ty70o, ty70b, ty72, ty72k, ty72s, ty72t, ty72z, ty72o, ty72b, ty76, ty76k, ty76s, ty76t, ty76z, ty76o, ty76b, f2, f1, f6, f5, f9, f10, f12, f11, hlt, hin, hin2, hin3, hw, a2, a3, Nat.mul_one, et]
            | refine And.intro (a := drawOk _ _ = true) (by kernel_rfl) ?_
            | (refine id (α := drawOk _ _ = true) ?_; kernel_rfl))
      · rintro fr h ⟨rfl, f2, f1, f6, f5, f9, f10, f12, f11⟩
        have hlt : decide ((x.code.length : Int) < (x.code.length : Int)) = false := by simp
        rw [← hn] at f11
        repeat' (first
          | refine If1.split (fun hb => ?_) (fun hb => ?_)
          | refine C1.pure (k32) rfl ?_
          | simp (config := { maxSteps := 1000000 }) only [W1_scope, W1_skip, W1_ret, W1_label, W1_exit, W1_seq, W1_cond, W1_block, W1_region, W1_draw, W1_loop, O1_nil, O1_n, O1_s, slotD_s, slotD_z, V1_s, U1_b, U1_u, If1_t, If1_f, If1_not, eqB_tt, eqB_tf, eqB_ft, eqB_ff, X1_eq, H1_f, H1_h, H1_c, how, B1_some, B1_none, B1_ite, D1_b, setT_t, setT_c, T1_n, T1_r, T1_x, K1_n, K1_r, K1_x, FinP_n, FinP_r, bindO_some, RetOk_lit, FinX_n, FinX_r, FinK_n, FinK_r, oneOrTup_1, RetX_lit, getCells, List.set_cons_zero, List.set_cons_succ, putAt, fillA, sizesOf, allTyped, List.all_cons, List.all_nil, Bool.and_self, Bool.true_and, Bool.and_true, Nat.reduceMul, Int.reduceLT, Int.reduceGT, Int.reduceGE, Int.cast_ofNat_Int, Int.reduceLE, Int.reduceToNat, Int.reduceAdd, Int.reduceNeg, Int.reduceEq, Int.reduceBNe, Int.reduceBEq, decide_false, zerosA, List.replicate_succ, List.replicate_zero, List.flatten_cons, List.flatten_nil, Option.isSome_some, dstOk, evRes, evRes1, evFree, evHeap, evA, upd_ne, upd_same, initF, updO_some, updO_none, kindOf, AV.storable, AV.cells, AV.one, Value.oneCell', mode, E_pol, pol, binA, unA, litInt, litBool, litStr, eqA, callee, evArgs, evParts, ne_eq, Nat.reduceEqDiff, Nat.reduceLT, not_false_eq_true, decide_true, if_true, reduceIte, List.take_zero, List.take_succ_cons, List.length_cons, List.length_nil, Nat.reduceAdd, Nat.reduceLeDiff, List.getElem?_cons_zero, List.getElem?_cons_succ, List.getD_cons_zero, List.getD_cons_succ, List.drop_zero, List.drop_succ_cons, List.map_cons, List.map_nil, List.cons_append, List.nil_append, List.append_nil, List.head?_cons, Int.toNat_natCast, Nat.zero_le, and_self, true_and, and_true, Bool.not_true, Bool.not_false, Option.map_some, true_implies, Bool.true_eq_false, Bool.false_eq_true, reduceCtorEq, false_implies, List.mem_cons, List.not_mem_nil, Prod.mk.injEq, false_and, and_false, or_false, false_or, or_true, true_or, if_false, ty3, ty3k, ty3s, ty3t, ty3z, ty3o, ty3b, ty4, ty4k, ty4s, ty4t, ty4z, ty4o, ty4b, ty9, ty9k, ty9s, ty9t, ty9z, ty9o, ty9b, ty22, ty22k, ty22s, ty22t, ty22z, ty22o, ty22b, ty23, ty23k, ty23s, ty23t, ty23z, ty23o, ty23b, ty24, ty24k, ty24s, ty24t, ty24z, ty24o, ty24b, ty25, ty25k, ty25s, ty25t, ty25z, ty25o, ty25b, ty27, ty27k, ty27s, ty27t, ty27z, ty27o, ty27b, ty28, ty28k, ty28s, ty28t, ty28z, ty28o, ty28b, ty32, ty32k, ty32s, ty32t, ty32z, ty32o, ty32b, ty65, ty65k, ty65s, ty65t, ty65z, ty65o, ty65b, ty66, ty66k, ty66s, ty66t, ty66z, ty66o, ty66b, ty70, ty70k, ty70s, ty70t, ty70z, ty70o, ty70b, ty72, ty72k, ty72s, ty72t, ty72z, ty72o, ty72b, ty76, ty76k, ty76s, ty76t, ty76z, ty76o, ty76b, f2, f1, f6, f5, f9, f10, f12, f11, hlt, beq_self_eq_true]
          | refine And.intro (a := drawOk _ _ = true) (by kernel_rfl) ?_
          | (refine id (α := drawOk _ _ = true) ?_; kernel_rfl))
      · repeat' (first
          | refine If1.split (fun hb => ?_) (fun hb => ?_)
          | simp (config := { maxSteps := 1000000 }) only [W1_scope, W1_skip, W1_ret, W1_label, W1_exit, W1_seq, W1_cond, W1_block, W1_region, W1_draw, W1_loop, O1_nil, O1_n, O1_s, slotD_s, slotD_z, V1_s, U1_b, U1_u, If1_t, If1_f, If1_not, eqB_tt, eqB_tf, eqB_ft, eqB_ff, X1_eq, H1_f, H1_h, H1_c, how, B1_some, B1_none, B1_ite, D1_b, setT_t, setT_c, T1_n, T1_r, T1_x, K1_n, K1_r, K1_x, FinP_n, FinP_r, bindO_some, RetOk_lit, FinX_n, FinX_r, FinK_n, FinK_r, oneOrTup_1, RetX_lit, getCells, List.set_cons_zero, List.set_cons_succ, putAt, fillA, sizesOf, allTyped, List.all_cons, List.all_nil, Bool.and_self, Bool.true_and, Bool.and_true, Nat.reduceMul, Int.reduceLT, Int.reduceGT, Int.reduceGE, Int.cast_ofNat_Int, Int.reduceLE, Int.reduceToNat, Int.reduceAdd, Int.reduceNeg, Int.reduceEq, Int.reduceBNe, Int.reduceBEq, decide_false, zerosA, List.replicate_succ, List.replicate_zero, List.flatten_cons, List.flatten_nil, Option.isSome_some, dstOk, evRes, evRes1, evFree, evHeap, evA, upd_ne, upd_same, initF, updO_some, updO_none, kindOf, AV.storable, AV.cells, AV.one, Value.oneCell', mode, E_pol, pol, binA, unA, litInt, litBool, litStr, eqA, callee, evArgs, evParts, ne_eq, Nat.reduceEqDiff, Nat.reduceLT, not_false_eq_true, decide_true, if_true, reduceIte, List.take_zero, List.take_succ_cons, List.length_cons, List.length_nil, Nat.reduceAdd, Nat.reduceLeDiff, List.getElem?_cons_zero, List.getElem?_cons_succ, List.getD_cons_zero, List.getD_cons_succ, List.drop_zero, List.drop_succ_cons, List.map_cons, List.map_nil, List.cons_append, List.nil_append, List.append_nil, List.head?_cons, Int.toNat_natCast, Nat.zero_le, and_self, true_and, and_true, Bool.not_true, Bool.not_false, Option.map_some, true_implies, Bool.true_eq_false, Bool.false_eq_true, reduceCtorEq, false_implies, List.mem_cons, List.not_mem_nil, Prod.mk.injEq, false_and, and_false, or_false, false_or, or_true, true_or, if_false, ty3, ty3k, ty3s, ty3t, ty3z, ty3o, ty3b, ty4, ty4k, ty4s, ty4t, ty4z, ty4o, ty4b, ty9, ty9k, ty9s, ty9t, ty9z, ty9o, ty9b, ty22, ty22k, ty22s, ty22t, ty22z, ty22o, ty22b, ty23, ty23k, ty23s, ty23t, ty23z, ty23o, ty23b, ty24, ty24k, ty24s, ty24t, ty24z, ty24o, ty24b, ty25, ty25k, ty25s, ty25t, ty25z, ty25o, ty25b, ty27, ty27k, ty27s, ty27t, ty27z, ty27o, ty27b, ty28, ty28k, ty28s, ty28t, ty28z, ty28o, ty28b, ty32, ty32k, ty32s, ty32t, ty32z, ty32o, ty32b, ty65, ty65k, ty65s, ty65t, ty65z, ty65o, ty65b, ty66, ty66k, ty66s, ty66t, ty66z, ty66o, ty66b, ty70, ty70k, ty70s, ty70t, ty70z, ty70o, ty70b, ty72, ty72k, ty72s, ty72t, ty72z, ty72o, ty72b, ty76, ty76k, ty76s, ty76t, ty76z, ty76o, ty76b, cz, topF]
          | refine And.intro (a := drawOk _ _ = true) (by kernel_rfl) ?_
          | (refine id (α := drawOk _ _ = true) ?_; kernel_rfl))
end Go.Abs

