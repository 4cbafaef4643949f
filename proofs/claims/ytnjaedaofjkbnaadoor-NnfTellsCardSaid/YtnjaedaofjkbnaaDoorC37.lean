/- Contracts: how many literals; is it a normal form? Conditions: none. -/
import Derived.Test.YtnjaedaofjkbnaaDoorC35
set_option maxRecDepth 100000
set_option linter.unusedVariables false
set_option linter.unusedSimpArgs false
namespace Go.Abs
open Go
def cntR (s : Sc) (e : Ex) : Int := if truthN s e = true ∧ many e ≤ 24 then many e else 25
theorem c16 (s : Sc) (e : Ex) (hf : e.Fit) (hs : e.Small) : PFn E 16 [scA s, exA e] (I (cntR s e)) := by
  have k48 := c48 s e hf
  have k50 := c50 e hf hs
  refine pfn_F fn16 (by simp) ?_
  simp only [Go.Proofs.Tryd.f16, Option.getD_some, List.append_eq, List.cons_append, List.nil_append]
  repeat' (first
    | refine If1.split (fun hb => ?_) (fun hb => ?_)
    | refine C1.pure (k48) (by simp [AV.closedL, AV.closed, vr_closed, bk_closed, sg_closed, ints_closed, ex_closed]) ?_
    | refine C1.pure (k50) (by simp [AV.closedL, AV.closed, vr_closed, bk_closed, sg_closed, ints_closed, ex_closed]) ?_
    | simp (config := { maxSteps := 1000000 }) only [W1_skip, W1_ret, W1_label, W1_exit, W1_seq, W1_cond, W1_block, W1_region, W1_draw, W1_loop, O1_nil, O1_n, O1_s, slotD_s, slotD_z, V1_s, U1_b, U1_u, If1_t, If1_f, If1_not, eqB_tt, eqB_tf, eqB_ft, eqB_ff, X1_eq, H1_f, H1_h, H1_c, how, B1_some, B1_none, B1_ite, D1_b, setT_t, setT_c, T1_n, T1_r, T1_x, K1_n, K1_r, K1_x, FinP_n, FinP_r, bindO_some, RetOk_lit, FinX_n, FinX_r, FinK_n, FinK_r, oneOrTup_1, RetX_lit, getCells, List.set_cons_zero, List.set_cons_succ, putAt, fillA, sizesOf, allTyped, List.all_cons, List.all_nil, Bool.and_self, Bool.true_and, Bool.and_true, Nat.reduceMul, Int.reduceLT, Int.reduceGT, Int.reduceGE, Int.cast_ofNat_Int, Int.reduceLE, Int.reduceToNat, Int.reduceAdd, Int.reduceNeg, Int.reduceEq, Int.reduceBNe, Int.reduceBEq, decide_false, zerosA, List.replicate_succ, List.replicate_zero, List.flatten_cons, List.flatten_nil, Option.isSome_some, dstOk, evRes, evRes1, evFree, evHeap, evA, upd_ne, upd_same, initF, updO_some, updO_none, kindOf, AV.storable, AV.cells, AV.one, Value.oneCell', mode, E_pol, pol, binA, unA, litInt, litBool, litStr, eqA, callee, evArgs, evParts, ne_eq, Nat.reduceEqDiff, Nat.reduceLT, not_false_eq_true, decide_true, if_true, reduceIte, List.take_zero, List.take_succ_cons, List.length_cons, List.length_nil, Nat.reduceAdd, Nat.reduceLeDiff, List.getElem?_cons_zero, List.getElem?_cons_succ, List.getD_cons_zero, List.getD_cons_succ, List.drop_zero, List.drop_succ_cons, List.map_cons, List.map_nil, List.cons_append, List.nil_append, List.append_nil, List.head?_cons, Int.toNat_natCast, Nat.zero_le, and_self, true_and, and_true, Bool.not_true, Bool.not_false, Option.map_some, true_implies, Bool.true_eq_false, Bool.false_eq_true, reduceCtorEq, false_implies, List.mem_cons, List.not_mem_nil, Prod.mk.injEq, false_and, and_false, or_false, false_or, or_true, true_or, if_false, ty3, ty3k, ty3s, ty3t, ty3z, ty3o, ty23, ty23k, ty23s, ty23t, ty23z, ty23o, ty24, ty24k, ty24s, ty24t, ty24z, ty24o, ty32, ty32k, ty32s, ty32t, ty32z, ty32o, ty35, ty35k, ty35s, ty35t, ty35z, ty35o, ty37, ty37k, ty37s, ty37t, ty37z, ty37o, ty41, ty41k, ty41s, ty41t, ty41z, ty41o, ty43, ty43k, ty43s, ty43t, ty43z, ty43o, cz]
    | refine And.intro (a := drawOk _ _ = true) (by kernel_rfl) ?_
    | (refine id (α := drawOk _ _ = true) ?_; kernel_rfl))
  all_goals (simp [cntR] <;> simp_all <;> omega)
def isK (s : Sc) (e : Ex) (bs : List Bool) : Bool :=
  if one1 e then (e.l.getD 0 ex0).op != 1 && nleaf s (e.l.getD 0 ex0)
  else if two1 e [14, 15] then bs.getD 0 false && bs.getD 1 false
  else nleaf s e
mutual
def isN (s : Sc) : Ex → Bool
  | .mk op t n m l => isK s (.mk op t n m l) (isL s l)
def isL (s : Sc) : List Ex → List Bool
  | [] => []
  | e :: l => isN s e :: isL s l
end
theorem isL_eq (s : Sc) : ∀ l, isL s l = l.map (isN s)
  | [] => rfl
  | e :: l => by rw [isL, isL_eq s l, List.map_cons]
theorem isN_eq (s : Sc) (e : Ex) : isN s e = isK s e (e.l.map (isN s)) := by
  cases e with
  | mk op t n m l => rw [isN, isL_eq]; rfl
theorem isN_one {s : Sc} {e x : Ex} (h : one1 e = true) (hx : e.l[0]? = some x) : isN s e = (x.op != 1 && nleaf s x) := by
  rw [isN_eq, isK, if_pos h]
  simp [hx]
theorem isN_two {s : Sc} {e x y : Ex} (h1 : one1 e = false) (h : two1 e [14, 15] = true) (hx : e.l[0]? = some x) (hy : e.l[1]? = some y) : isN s e = (isN s x && isN s y) := by
  rw [isN_eq, isK, h1, if_neg (by simp), if_pos h]
  simp [hx, hy]
theorem isN_leaf {s : Sc} {e : Ex} (h1 : one1 e = false) (h : two1 e [14, 15] = false) : isN s e = nleaf s e := by
  rw [isN_eq, isK, h1, if_neg (by simp), h, if_neg (by simp)]
theorem get0 {l : List Ex} (h : 1 ≤ l.length) : ∃ x, l[0]? = some x := ⟨l[0]'(by omega), by simp⟩
theorem get1 {l : List Ex} (h : 2 ≤ l.length) : ∃ x, l[1]? = some x := ⟨l[1]'(by omega), by simp⟩
theorem Ex.head0 {l : List Ex} {x : Ex} (h : l[0]? = some x) : (recs Ex.cs l).head? = some (I x.op) := by
  have := Ex.at h
  rw [Nat.zero_mul, List.drop_zero] at this
  rw [this]
  rfl
theorem c13 (s : Sc) : ∀ e : Ex, e.Fit → e.Small → PFn E 13 [scA s, exA e] (B (isN s e)) := by
  intro e
  induction e using Ex.ind with
  | _ e ih =>
  intro hf hs
  have k46 := c46 e
  have k47 := c47 e [14, 15] (by simp)
  have k11 := c11 s e hf hs
  have c47' : AV.closedL [exA e, intsA [14, 15]] = true := by simp [AV.closedL, AV.closed, ex_closed, ints_closed]
  refine pfn_F fn13 (by simp) ?_
  simp only [Go.Proofs.Tryd.f13, Option.getD_some, List.append_eq, List.cons_append, List.nil_append]
  cases h1 : one1 e with
  | true =>
    obtain ⟨x, hx⟩ := get0 (l := e.l) (by rw [one1_len h1]; omega)
    have hl := (List.getElem?_eq_some_iff.1 hx).1
    have hxm := List.mem_of_getElem? hx
    have t0 := Ex.take0 hx
    have l0 := Ex.len0 hx
    have hh := Ex.head0 hx
    have i0 : (0 : Int) ≤ 0 ∧ (0 : Int) < (e.l.length : Int) := by omega
    have kx := c11 s x (hf.sub x hxm) (hs.sub x hxm)
    rw [h1] at k46
    rw [isN_one h1 hx]
    repeat' (first
      | refine If1.split (fun hb => ?_) (fun hb => ?_)
      | refine C1.pure (k46) (by simp [AV.closedL, AV.closed, vr_closed, bk_closed, sg_closed, ints_closed, ex_closed]) ?_
      | refine C1.pure (kx) (by simp [AV.closedL, AV.closed, vr_closed, bk_closed, sg_closed, ints_closed, ex_closed]) ?_
      | simp (config := { maxSteps := 1000000 }) only [W1_skip, W1_ret, W1_label, W1_exit, W1_seq, W1_cond, W1_block, W1_region, W1_draw, W1_loop, O1_nil, O1_n, O1_s, slotD_s, slotD_z, V1_s, U1_b, U1_u, If1_t, If1_f, If1_not, eqB_tt, eqB_tf, eqB_ft, eqB_ff, X1_eq, H1_f, H1_h, H1_c, how, B1_some, B1_none, B1_ite, D1_b, setT_t, setT_c, T1_n, T1_r, T1_x, K1_n, K1_r, K1_x, FinP_n, FinP_r, bindO_some, RetOk_lit, FinX_n, FinX_r, FinK_n, FinK_r, oneOrTup_1, RetX_lit, getCells, List.set_cons_zero, List.set_cons_succ, putAt, fillA, sizesOf, allTyped, List.all_cons, List.all_nil, Bool.and_self, Bool.true_and, Bool.and_true, Nat.reduceMul, Int.reduceLT, Int.reduceGT, Int.reduceGE, Int.cast_ofNat_Int, Int.reduceLE, Int.reduceToNat, Int.reduceAdd, Int.reduceNeg, Int.reduceEq, Int.reduceBNe, Int.reduceBEq, decide_false, zerosA, List.replicate_succ, List.replicate_zero, List.flatten_cons, List.flatten_nil, Option.isSome_some, dstOk, evRes, evRes1, evFree, evHeap, evA, upd_ne, upd_same, initF, updO_some, updO_none, kindOf, AV.storable, AV.cells, AV.one, Value.oneCell', mode, E_pol, pol, binA, unA, litInt, litBool, litStr, eqA, callee, evArgs, evParts, ne_eq, Nat.reduceEqDiff, Nat.reduceLT, not_false_eq_true, decide_true, if_true, reduceIte, List.take_zero, List.take_succ_cons, List.length_cons, List.length_nil, Nat.reduceAdd, Nat.reduceLeDiff, List.getElem?_cons_zero, List.getElem?_cons_succ, List.getD_cons_zero, List.getD_cons_succ, List.drop_zero, List.drop_succ_cons, List.map_cons, List.map_nil, List.cons_append, List.nil_append, List.append_nil, List.head?_cons, Int.toNat_natCast, Nat.zero_le, and_self, true_and, and_true, Bool.not_true, Bool.not_false, Option.map_some, true_implies, Bool.true_eq_false, Bool.false_eq_true, reduceCtorEq, false_implies, List.mem_cons, List.not_mem_nil, Prod.mk.injEq, false_and, and_false, or_false, false_or, or_true, true_or, if_false, ty3, ty3k, ty3s, ty3t, ty3z, ty3o, ty23, ty23k, ty23s, ty23t, ty23z, ty23o, ty24, ty24k, ty24s, ty24t, ty24z, ty24o, ty32, ty32k, ty32s, ty32t, ty32z, ty32o, ty35, ty35k, ty35s, ty35t, ty35z, ty35o, ty37, ty37k, ty37s, ty37t, ty37z, ty37o, ty41, ty41k, ty41s, ty41t, ty41z, ty41o, ty43, ty43k, ty43s, ty43t, ty43z, ty43o, cz, i0, t0, l0, hh]
      | refine And.intro (a := drawOk _ _ = true) (by kernel_rfl) ?_
      | (refine id (α := drawOk _ _ = true) ?_; kernel_rfl))
    all_goals (rw [hb]; simp)
  | false =>
    rw [h1] at k46
    cases h2 : two1 e [14, 15] with
    | true =>
      obtain ⟨x, hx⟩ := get0 (l := e.l) (by rw [two1_len h2]; omega)
      obtain ⟨y, hy⟩ := get1 (l := e.l) (by rw [two1_len h2]; omega)
      have hl := (List.getElem?_eq_some_iff.1 hy).1
      have t0 := Ex.take0 hx
      have l0 := Ex.len0 hx
      have d1 := Ex.drop1 hy
      have i0 : (0 : Int) ≤ 0 ∧ (0 : Int) < (e.l.length : Int) := by omega
      have i1 : (0 : Int) ≤ 1 ∧ (1 : Int) < (e.l.length : Int) := by omega
      have kx := ih x (List.mem_of_getElem? hx) (hf.sub x (List.mem_of_getElem? hx)) (hs.sub x (List.mem_of_getElem? hx))
      have ky := ih y (List.mem_of_getElem? hy) (hf.sub y (List.mem_of_getElem? hy)) (hs.sub y (List.mem_of_getElem? hy))
      rw [h2] at k47
      rw [isN_two h1 h2 hx hy]
      repeat' (first
        | refine If1.split (fun hb => ?_) (fun hb => ?_)
        | refine C1.pure (k46) (by simp [AV.closedL, AV.closed, vr_closed, bk_closed, sg_closed, ints_closed, ex_closed]) ?_
        | refine C1.pure (k47) c47' ?_
        | refine C1.pure (kx) (by simp [AV.closedL, AV.closed, vr_closed, bk_closed, sg_closed, ints_closed, ex_closed]) ?_
        | refine C1.pure (ky) (by simp [AV.closedL, AV.closed, vr_closed, bk_closed, sg_closed, ints_closed, ex_closed]) ?_
        | simp (config := { maxSteps := 1000000 }) only [W1_skip, W1_ret, W1_label, W1_exit, W1_seq, W1_cond, W1_block, W1_region, W1_draw, W1_loop, O1_nil, O1_n, O1_s, slotD_s, slotD_z, V1_s, U1_b, U1_u, If1_t, If1_f, If1_not, eqB_tt, eqB_tf, eqB_ft, eqB_ff, X1_eq, H1_f, H1_h, H1_c, how, B1_some, B1_none, B1_ite, D1_b, setT_t, setT_c, T1_n, T1_r, T1_x, K1_n, K1_r, K1_x, FinP_n, FinP_r, bindO_some, RetOk_lit, FinX_n, FinX_r, FinK_n, FinK_r, oneOrTup_1, RetX_lit, getCells, List.set_cons_zero, List.set_cons_succ, putAt, fillA, sizesOf, allTyped, List.all_cons, List.all_nil, Bool.and_self, Bool.true_and, Bool.and_true, Nat.reduceMul, Int.reduceLT, Int.reduceGT, Int.reduceGE, Int.cast_ofNat_Int, Int.reduceLE, Int.reduceToNat, Int.reduceAdd, Int.reduceNeg, Int.reduceEq, Int.reduceBNe, Int.reduceBEq, decide_false, zerosA, List.replicate_succ, List.replicate_zero, List.flatten_cons, List.flatten_nil, Option.isSome_some, dstOk, evRes, evRes1, evFree, evHeap, evA, upd_ne, upd_same, initF, updO_some, updO_none, kindOf, AV.storable, AV.cells, AV.one, Value.oneCell', mode, E_pol, pol, binA, unA, litInt, litBool, litStr, eqA, callee, evArgs, evParts, ne_eq, Nat.reduceEqDiff, Nat.reduceLT, not_false_eq_true, decide_true, if_true, reduceIte, List.take_zero, List.take_succ_cons, List.length_cons, List.length_nil, Nat.reduceAdd, Nat.reduceLeDiff, List.getElem?_cons_zero, List.getElem?_cons_succ, List.getD_cons_zero, List.getD_cons_succ, List.drop_zero, List.drop_succ_cons, List.map_cons, List.map_nil, List.cons_append, List.nil_append, List.append_nil, List.head?_cons, Int.toNat_natCast, Nat.zero_le, and_self, true_and, and_true, Bool.not_true, Bool.not_false, Option.map_some, true_implies, Bool.true_eq_false, Bool.false_eq_true, reduceCtorEq, false_implies, List.mem_cons, List.not_mem_nil, Prod.mk.injEq, false_and, and_false, or_false, false_or, or_true, true_or, if_false, ty3, ty3k, ty3s, ty3t, ty3z, ty3o, ty23, ty23k, ty23s, ty23t, ty23z, ty23o, ty24, ty24k, ty24s, ty24t, ty24z, ty24o, ty32, ty32k, ty32s, ty32t, ty32z, ty32o, ty35, ty35k, ty35s, ty35t, ty35z, ty35o, ty37, ty37k, ty37s, ty37t, ty37z, ty37o, ty41, ty41k, ty41s, ty41t, ty41z, ty41o, ty43, ty43k, ty43s, ty43t, ty43z, ty43o, cz, i0, i1, t0, l0, d1]
        | refine And.intro (a := drawOk _ _ = true) (by kernel_rfl) ?_
        | (refine id (α := drawOk _ _ = true) ?_; kernel_rfl))
      all_goals simp_all
    | false =>
      rw [h2] at k47
      rw [isN_leaf h1 h2]
      repeat' (first
        | refine If1.split (fun hb => ?_) (fun hb => ?_)
        | refine C1.pure (k46) (by simp [AV.closedL, AV.closed, vr_closed, bk_closed, sg_closed, ints_closed, ex_closed]) ?_
        | refine C1.pure (k47) c47' ?_
        | refine C1.pure (k11) (by simp [AV.closedL, AV.closed, vr_closed, bk_closed, sg_closed, ints_closed, ex_closed]) ?_
        | simp (config := { maxSteps := 1000000 }) only [W1_skip, W1_ret, W1_label, W1_exit, W1_seq, W1_cond, W1_block, W1_region, W1_draw, W1_loop, O1_nil, O1_n, O1_s, slotD_s, slotD_z, V1_s, U1_b, U1_u, If1_t, If1_f, If1_not, eqB_tt, eqB_tf, eqB_ft, eqB_ff, X1_eq, H1_f, H1_h, H1_c, how, B1_some, B1_none, B1_ite, D1_b, setT_t, setT_c, T1_n, T1_r, T1_x, K1_n, K1_r, K1_x, FinP_n, FinP_r, bindO_some, RetOk_lit, FinX_n, FinX_r, FinK_n, FinK_r, oneOrTup_1, RetX_lit, getCells, List.set_cons_zero, List.set_cons_succ, putAt, fillA, sizesOf, allTyped, List.all_cons, List.all_nil, Bool.and_self, Bool.true_and, Bool.and_true, Nat.reduceMul, Int.reduceLT, Int.reduceGT, Int.reduceGE, Int.cast_ofNat_Int, Int.reduceLE, Int.reduceToNat, Int.reduceAdd, Int.reduceNeg, Int.reduceEq, Int.reduceBNe, Int.reduceBEq, decide_false, zerosA, List.replicate_succ, List.replicate_zero, List.flatten_cons, List.flatten_nil, Option.isSome_some, dstOk, evRes, evRes1, evFree, evHeap, evA, upd_ne, upd_same, initF, updO_some, updO_none, kindOf, AV.storable, AV.cells, AV.one, Value.oneCell', mode, E_pol, pol, binA, unA, litInt, litBool, litStr, eqA, callee, evArgs, evParts, ne_eq, Nat.reduceEqDiff, Nat.reduceLT, not_false_eq_true, decide_true, if_true, reduceIte, List.take_zero, List.take_succ_cons, List.length_cons, List.length_nil, Nat.reduceAdd, Nat.reduceLeDiff, List.getElem?_cons_zero, List.getElem?_cons_succ, List.getD_cons_zero, List.getD_cons_succ, List.drop_zero, List.drop_succ_cons, List.map_cons, List.map_nil, List.cons_append, List.nil_append, List.append_nil, List.head?_cons, Int.toNat_natCast, Nat.zero_le, and_self, true_and, and_true, Bool.not_true, Bool.not_false, Option.map_some, true_implies, Bool.true_eq_false, Bool.false_eq_true, reduceCtorEq, false_implies, List.mem_cons, List.not_mem_nil, Prod.mk.injEq, false_and, and_false, or_false, false_or, or_true, true_or, if_false, ty3, ty3k, ty3s, ty3t, ty3z, ty3o, ty23, ty23k, ty23s, ty23t, ty23z, ty23o, ty24, ty24k, ty24s, ty24t, ty24z, ty24o, ty32, ty32k, ty32s, ty32t, ty32z, ty32o, ty35, ty35k, ty35s, ty35t, ty35z, ty35o, ty37, ty37k, ty37s, ty37t, ty37z, ty37o, ty41, ty41k, ty41s, ty41t, ty41z, ty41o, ty43, ty43k, ty43s, ty43t, ty43z, ty43o, cz]
        | refine And.intro (a := drawOk _ _ = true) (by kernel_rfl) ?_
        | (refine id (α := drawOk _ _ = true) ?_; kernel_rfl))
def isrK (s : Sc) (e : Ex) (bs : List Bool) : Bool :=
  nleaf s e || (truthN s e && (if e.op = 6 then (e.l.getD 0 ex0).op != 1 && nleaf s (e.l.getD 0 ex0) else (e.m == 14 || e.m == 15) && bs.getD 0 false && bs.getD 1 false))
mutual
def isR (s : Sc) : Ex → Bool
  | .mk op t n m l => isrK s (.mk op t n m l) (isRL s l)
def isRL (s : Sc) : List Ex → List Bool
  | [] => []
  | e :: l => isR s e :: isRL s l
end
theorem isRL_eq (s : Sc) : ∀ l, isRL s l = l.map (isR s)
  | [] => rfl
  | e :: l => by rw [isRL, isRL_eq s l, List.map_cons]
theorem isR_eq (s : Sc) (e : Ex) : isR s e = isrK s e (e.l.map (isR s)) := by
  cases e with
  | mk op t n m l => rw [isR, isRL_eq]; rfl
theorem isR_leaf {s : Sc} {e : Ex} (h : nleaf s e = true) : isR s e = true := by rw [isR_eq, isrK, h]; rfl
theorem isR_not {s : Sc} {e : Ex} (h : nleaf s e = false) (ht : truthN s e = false) : isR s e = false := by rw [isR_eq, isrK, h, ht]; rfl
theorem isR_one {s : Sc} {e x : Ex} (h : nleaf s e = false) (ht : truthN s e = true) (h6 : e.op = 6) (hx : e.l[0]? = some x) : isR s e = (x.op != 1 && nleaf s x) := by
  rw [isR_eq, isrK, h, ht, if_pos h6]
  simp [hx]
theorem isR_two {s : Sc} {e x y : Ex} (h : nleaf s e = false) (ht : truthN s e = true) (h6 : e.op ≠ 6) (hx : e.l[0]? = some x) (hy : e.l[1]? = some y) : isR s e = ((e.m == 14 || e.m == 15) && isR s x && isR s y) := by
  rw [isR_eq, isrK, h, ht, if_neg h6]
  simp [hx, hy]
theorem truth_cases {s : Sc} {e : Ex} (h : nleaf s e = false) (ht : truthN s e = true) : (one1 e = true ∨ (one1 e = false ∧ two1 e [14, 15, 16, 20, 21] = true)) ∧ ∀ x ∈ e.l, truthN s x = true := by
  rw [truthN_eq, truthK, h, Bool.false_or, Bool.and_eq_true, op5, Bool.or_eq_true] at ht
  obtain ⟨h1, h2⟩ := ht
  refine ⟨?_, fun x hx => ?_⟩
  · cases ho : one1 e with
    | true => exact .inl rfl
    | false => rw [ho] at h1; exact .inr ⟨rfl, by simpa using h1⟩
  · rw [List.all_eq_true] at h2
    exact h2 _ (List.mem_map.2 ⟨x, hx, rfl⟩)
theorem one1_op {e : Ex} (h : one1 e = true) : e.op = 6 ∧ e.m = 17 ∧ e.t = 0 ∧ e.n = 0 ∧ e.l.length = 1 := by
  simp [one1] at h
  omega
theorem two5_op {e : Ex} (h : two1 e [14, 15, 16, 20, 21] = true) : e.op = 7 ∧ e.t = 0 ∧ e.n = 0 ∧ e.l.length = 2 ∧ (e.m = 14 ∨ e.m = 15 ∨ e.m = 16 ∨ e.m = 20 ∨ e.m = 21) := by
  simp [two1] at h
  omega
theorem c14 (s : Sc) : ∀ e : Ex, e.Fit → PFn E 14 [scA s, exA e] (B (isR s e)) := by
  intro e
  induction e using Ex.ind with
  | _ e ih =>
  intro hf
  have k12 := c12 s e hf
  have k48 := c48 s e hf
  cases h1 : nleaf s e with
  | true =>
    rw [h1] at k12
    rw [isR_leaf h1]
    refine pfn_F fn14 (by simp) ?_
    simp only [Go.Proofs.Tryd.f14, Option.getD_some, List.append_eq, List.cons_append, List.nil_append]
    repeat' (first
      | refine If1.split (fun hb => ?_) (fun hb => ?_)
      | refine C1.pure (k12) (by simp [AV.closedL, AV.closed, vr_closed, bk_closed, sg_closed, ints_closed, ex_closed]) ?_
      | simp (config := { maxSteps := 1000000 }) only [W1_skip, W1_ret, W1_label, W1_exit, W1_seq, W1_cond, W1_block, W1_region, W1_draw, W1_loop, O1_nil, O1_n, O1_s, slotD_s, slotD_z, V1_s, U1_b, U1_u, If1_t, If1_f, If1_not, eqB_tt, eqB_tf, eqB_ft, eqB_ff, X1_eq, H1_f, H1_h, H1_c, how, B1_some, B1_none, B1_ite, D1_b, setT_t, setT_c, T1_n, T1_r, T1_x, K1_n, K1_r, K1_x, FinP_n, FinP_r, bindO_some, RetOk_lit, FinX_n, FinX_r, FinK_n, FinK_r, oneOrTup_1, RetX_lit, getCells, List.set_cons_zero, List.set_cons_succ, putAt, fillA, sizesOf, allTyped, List.all_cons, List.all_nil, Bool.and_self, Bool.true_and, Bool.and_true, Nat.reduceMul, Int.reduceLT, Int.reduceGT, Int.reduceGE, Int.cast_ofNat_Int, Int.reduceLE, Int.reduceToNat, Int.reduceAdd, Int.reduceNeg, Int.reduceEq, Int.reduceBNe, Int.reduceBEq, decide_false, zerosA, List.replicate_succ, List.replicate_zero, List.flatten_cons, List.flatten_nil, Option.isSome_some, dstOk, evRes, evRes1, evFree, evHeap, evA, upd_ne, upd_same, initF, updO_some, updO_none, kindOf, AV.storable, AV.cells, AV.one, Value.oneCell', mode, E_pol, pol, binA, unA, litInt, litBool, litStr, eqA, callee, evArgs, evParts, ne_eq, Nat.reduceEqDiff, Nat.reduceLT, not_false_eq_true, decide_true, if_true, reduceIte, List.take_zero, List.take_succ_cons, List.length_cons, List.length_nil, Nat.reduceAdd, Nat.reduceLeDiff, List.getElem?_cons_zero, List.getElem?_cons_succ, List.getD_cons_zero, List.getD_cons_succ, List.drop_zero, List.drop_succ_cons, List.map_cons, List.map_nil, List.cons_append, List.nil_append, List.append_nil, List.head?_cons, Int.toNat_natCast, Nat.zero_le, and_self, true_and, and_true, Bool.not_true, Bool.not_false, Option.map_some, true_implies, Bool.true_eq_false, Bool.false_eq_true, reduceCtorEq, false_implies, List.mem_cons, List.not_mem_nil, Prod.mk.injEq, false_and, and_false, or_false, false_or, or_true, true_or, if_false, ty3, ty3k, ty3s, ty3t, ty3z, ty3o, ty23, ty23k, ty23s, ty23t, ty23z, ty23o, ty24, ty24k, ty24s, ty24t, ty24z, ty24o, ty32, ty32k, ty32s, ty32t, ty32z, ty32o, ty35, ty35k, ty35s, ty35t, ty35z, ty35o, ty37, ty37k, ty37s, ty37t, ty37z, ty37o, ty41, ty41k, ty41s, ty41t, ty41z, ty41o, ty43, ty43k, ty43s, ty43t, ty43z, ty43o, cz]
      | refine And.intro (a := drawOk _ _ = true) (by kernel_rfl) ?_
      | (refine id (α := drawOk _ _ = true) ?_; kernel_rfl))
  | false =>
  rw [h1] at k12
  cases h2 : truthN s e with
  | false =>
    rw [h2] at k48
    rw [isR_not h1 h2]
    refine pfn_F fn14 (by simp) ?_
    simp only [Go.Proofs.Tryd.f14, Option.getD_some, List.append_eq, List.cons_append, List.nil_append]
    repeat' (first
      | refine If1.split (fun hb => ?_) (fun hb => ?_)
      | refine C1.pure (k12) (by simp [AV.closedL, AV.closed, vr_closed, bk_closed, sg_closed, ints_closed, ex_closed]) ?_
      | refine C1.pure (k48) (by simp [AV.closedL, AV.closed, vr_closed, bk_closed, sg_closed, ints_closed, ex_closed]) ?_
      | simp (config := { maxSteps := 1000000 }) only [W1_skip, W1_ret, W1_label, W1_exit, W1_seq, W1_cond, W1_block, W1_region, W1_draw, W1_loop, O1_nil, O1_n, O1_s, slotD_s, slotD_z, V1_s, U1_b, U1_u, If1_t, If1_f, If1_not, eqB_tt, eqB_tf, eqB_ft, eqB_ff, X1_eq, H1_f, H1_h, H1_c, how, B1_some, B1_none, B1_ite, D1_b, setT_t, setT_c, T1_n, T1_r, T1_x, K1_n, K1_r, K1_x, FinP_n, FinP_r, bindO_some, RetOk_lit, FinX_n, FinX_r, FinK_n, FinK_r, oneOrTup_1, RetX_lit, getCells, List.set_cons_zero, List.set_cons_succ, putAt, fillA, sizesOf, allTyped, List.all_cons, List.all_nil, Bool.and_self, Bool.true_and, Bool.and_true, Nat.reduceMul, Int.reduceLT, Int.reduceGT, Int.reduceGE, Int.cast_ofNat_Int, Int.reduceLE, Int.reduceToNat, Int.reduceAdd, Int.reduceNeg, Int.reduceEq, Int.reduceBNe, Int.reduceBEq, decide_false, zerosA, List.replicate_succ, List.replicate_zero, List.flatten_cons, List.flatten_nil, Option.isSome_some, dstOk, evRes, evRes1, evFree, evHeap, evA, upd_ne, upd_same, initF, updO_some, updO_none, kindOf, AV.storable, AV.cells, AV.one, Value.oneCell', mode, E_pol, pol, binA, unA, litInt, litBool, litStr, eqA, callee, evArgs, evParts, ne_eq, Nat.reduceEqDiff, Nat.reduceLT, not_false_eq_true, decide_true, if_true, reduceIte, List.take_zero, List.take_succ_cons, List.length_cons, List.length_nil, Nat.reduceAdd, Nat.reduceLeDiff, List.getElem?_cons_zero, List.getElem?_cons_succ, List.getD_cons_zero, List.getD_cons_succ, List.drop_zero, List.drop_succ_cons, List.map_cons, List.map_nil, List.cons_append, List.nil_append, List.append_nil, List.head?_cons, Int.toNat_natCast, Nat.zero_le, and_self, true_and, and_true, Bool.not_true, Bool.not_false, Option.map_some, true_implies, Bool.true_eq_false, Bool.false_eq_true, reduceCtorEq, false_implies, List.mem_cons, List.not_mem_nil, Prod.mk.injEq, false_and, and_false, or_false, false_or, or_true, true_or, if_false, ty3, ty3k, ty3s, ty3t, ty3z, ty3o, ty23, ty23k, ty23s, ty23t, ty23z, ty23o, ty24, ty24k, ty24s, ty24t, ty24z, ty24o, ty32, ty32k, ty32s, ty32t, ty32z, ty32o, ty35, ty35k, ty35s, ty35t, ty35z, ty35o, ty37, ty37k, ty37s, ty37t, ty37z, ty37o, ty41, ty41k, ty41s, ty41t, ty41z, ty41o, ty43, ty43k, ty43s, ty43t, ty43z, ty43o, cz]
      | refine And.intro (a := drawOk _ _ = true) (by kernel_rfl) ?_
      | (refine id (α := drawOk _ _ = true) ?_; kernel_rfl))
  | true =>
  rw [h2] at k48
  obtain ⟨hc, hk⟩ := truth_cases h1 h2
  rcases hc with ho | ⟨ho, ht⟩
  · obtain ⟨h6, _, _, _, hl1⟩ := one1_op ho
    obtain ⟨x, hx⟩ := get0 (l := e.l) (by omega)
    have hxm := List.mem_of_getElem? hx
    have hh := Ex.head0 hx
    have i0 : (0 : Int) ≤ 0 ∧ (0 : Int) < (e.l.length : Int) := by omega
    have kx := c12 s x (hf.sub x hxm)
    rw [isR_one h1 h2 h6 hx]
    refine pfn_F fn14 (by simp) ?_
    simp only [Go.Proofs.Tryd.f14, Option.getD_some, List.append_eq, List.cons_append, List.nil_append]
    have e6 : (e.op == 6) = true := by simp [h6]
    have t0 := Ex.take0 hx
    have l0 := Ex.len0 hx
    repeat' (first
      | refine If1.split (fun hb => ?_) (fun hb => ?_)
      | refine C1.pure (k12) (by simp [AV.closedL, AV.closed, vr_closed, bk_closed, sg_closed, ints_closed, ex_closed]) ?_
      | refine C1.pure (k48) (by simp [AV.closedL, AV.closed, vr_closed, bk_closed, sg_closed, ints_closed, ex_closed]) ?_
      | refine C1.pure (kx) (by simp [AV.closedL, AV.closed, vr_closed, bk_closed, sg_closed, ints_closed, ex_closed]) ?_
      | simp (config := { maxSteps := 1000000 }) only [W1_skip, W1_ret, W1_label, W1_exit, W1_seq, W1_cond, W1_block, W1_region, W1_draw, W1_loop, O1_nil, O1_n, O1_s, slotD_s, slotD_z, V1_s, U1_b, U1_u, If1_t, If1_f, If1_not, eqB_tt, eqB_tf, eqB_ft, eqB_ff, X1_eq, H1_f, H1_h, H1_c, how, B1_some, B1_none, B1_ite, D1_b, setT_t, setT_c, T1_n, T1_r, T1_x, K1_n, K1_r, K1_x, FinP_n, FinP_r, bindO_some, RetOk_lit, FinX_n, FinX_r, FinK_n, FinK_r, oneOrTup_1, RetX_lit, getCells, List.set_cons_zero, List.set_cons_succ, putAt, fillA, sizesOf, allTyped, List.all_cons, List.all_nil, Bool.and_self, Bool.true_and, Bool.and_true, Nat.reduceMul, Int.reduceLT, Int.reduceGT, Int.reduceGE, Int.cast_ofNat_Int, Int.reduceLE, Int.reduceToNat, Int.reduceAdd, Int.reduceNeg, Int.reduceEq, Int.reduceBNe, Int.reduceBEq, decide_false, zerosA, List.replicate_succ, List.replicate_zero, List.flatten_cons, List.flatten_nil, Option.isSome_some, dstOk, evRes, evRes1, evFree, evHeap, evA, upd_ne, upd_same, initF, updO_some, updO_none, kindOf, AV.storable, AV.cells, AV.one, Value.oneCell', mode, E_pol, pol, binA, unA, litInt, litBool, litStr, eqA, callee, evArgs, evParts, ne_eq, Nat.reduceEqDiff, Nat.reduceLT, not_false_eq_true, decide_true, if_true, reduceIte, List.take_zero, List.take_succ_cons, List.length_cons, List.length_nil, Nat.reduceAdd, Nat.reduceLeDiff, List.getElem?_cons_zero, List.getElem?_cons_succ, List.getD_cons_zero, List.getD_cons_succ, List.drop_zero, List.drop_succ_cons, List.map_cons, List.map_nil, List.cons_append, List.nil_append, List.append_nil, List.head?_cons, Int.toNat_natCast, Nat.zero_le, and_self, true_and, and_true, Bool.not_true, Bool.not_false, Option.map_some, true_implies, Bool.true_eq_false, Bool.false_eq_true, reduceCtorEq, false_implies, List.mem_cons, List.not_mem_nil, Prod.mk.injEq, false_and, and_false, or_false, false_or, or_true, true_or, if_false, ty3, ty3k, ty3s, ty3t, ty3z, ty3o, ty23, ty23k, ty23s, ty23t, ty23z, ty23o, ty24, ty24k, ty24s, ty24t, ty24z, ty24o, ty32, ty32k, ty32s, ty32t, ty32z, ty32o, ty35, ty35k, ty35s, ty35t, ty35z, ty35o, ty37, ty37k, ty37s, ty37t, ty37z, ty37o, ty41, ty41k, ty41s, ty41t, ty41z, ty41o, ty43, ty43k, ty43s, ty43t, ty43z, ty43o, cz, i0, t0, l0, hh, e6]
      | refine And.intro (a := drawOk _ _ = true) (by kernel_rfl) ?_
      | (refine id (α := drawOk _ _ = true) ?_; kernel_rfl))
    all_goals (rw [hb]; simp)
  · obtain ⟨h7, _, _, hl2, hm⟩ := two5_op ht
    obtain ⟨x, hx⟩ := get0 (l := e.l) (by omega)
    obtain ⟨y, hy⟩ := get1 (l := e.l) (by omega)
    have t0 := Ex.take0 hx
    have l0 := Ex.len0 hx
    have d1 := Ex.drop1 hy
    have i0 : (0 : Int) ≤ 0 ∧ (0 : Int) < (e.l.length : Int) := by omega
    have i1 : (0 : Int) ≤ 1 ∧ (1 : Int) < (e.l.length : Int) := by omega
    have kx := ih x (List.mem_of_getElem? hx) (hf.sub x (List.mem_of_getElem? hx))
    have ky := ih y (List.mem_of_getElem? hy) (hf.sub y (List.mem_of_getElem? hy))
    have e6 : (e.op == 6) = false := by simp [h7]
    rw [isR_two h1 h2 (by omega) hx hy]
    refine pfn_F fn14 (by simp) ?_
    simp only [Go.Proofs.Tryd.f14, Option.getD_some, List.append_eq, List.cons_append, List.nil_append]
    repeat' (first
      | refine If1.split (fun hb => ?_) (fun hb => ?_)
      | refine C1.pure (k12) (by simp [AV.closedL, AV.closed, vr_closed, bk_closed, sg_closed, ints_closed, ex_closed]) ?_
      | refine C1.pure (k48) (by simp [AV.closedL, AV.closed, vr_closed, bk_closed, sg_closed, ints_closed, ex_closed]) ?_
      | refine C1.pure (kx) (by simp [AV.closedL, AV.closed, vr_closed, bk_closed, sg_closed, ints_closed, ex_closed]) ?_
      | refine C1.pure (ky) (by simp [AV.closedL, AV.closed, vr_closed, bk_closed, sg_closed, ints_closed, ex_closed]) ?_
      | simp (config := { maxSteps := 1000000 }) only [W1_skip, W1_ret, W1_label, W1_exit, W1_seq, W1_cond, W1_block, W1_region, W1_draw, W1_loop, O1_nil, O1_n, O1_s, slotD_s, slotD_z, V1_s, U1_b, U1_u, If1_t, If1_f, If1_not, eqB_tt, eqB_tf, eqB_ft, eqB_ff, X1_eq, H1_f, H1_h, H1_c, how, B1_some, B1_none, B1_ite, D1_b, setT_t, setT_c, T1_n, T1_r, T1_x, K1_n, K1_r, K1_x, FinP_n, FinP_r, bindO_some, RetOk_lit, FinX_n, FinX_r, FinK_n, FinK_r, oneOrTup_1, RetX_lit, getCells, List.set_cons_zero, List.set_cons_succ, putAt, fillA, sizesOf, allTyped, List.all_cons, List.all_nil, Bool.and_self, Bool.true_and, Bool.and_true, Nat.reduceMul, Int.reduceLT, Int.reduceGT, Int.reduceGE, Int.cast_ofNat_Int, Int.reduceLE, Int.reduceToNat, Int.reduceAdd, Int.reduceNeg, Int.reduceEq, Int.reduceBNe, Int.reduceBEq, decide_false, zerosA, List.replicate_succ, List.replicate_zero, List.flatten_cons, List.flatten_nil, Option.isSome_some, dstOk, evRes, evRes1, evFree, evHeap, evA, upd_ne, upd_same, initF, updO_some, updO_none, kindOf, AV.storable, AV.cells, AV.one, Value.oneCell', mode, E_pol, pol, binA, unA, litInt, litBool, litStr, eqA, callee, evArgs, evParts, ne_eq, Nat.reduceEqDiff, Nat.reduceLT, not_false_eq_true, decide_true, if_true, reduceIte, List.take_zero, List.take_succ_cons, List.length_cons, List.length_nil, Nat.reduceAdd, Nat.reduceLeDiff, List.getElem?_cons_zero, List.getElem?_cons_succ, List.getD_cons_zero, List.getD_cons_succ, List.drop_zero, List.drop_succ_cons, List.map_cons, List.map_nil, List.cons_append, List.nil_append, List.append_nil, List.head?_cons, Int.toNat_natCast, Nat.zero_le, and_self, true_and, and_true, Bool.not_true, Bool.not_false, Option.map_some, true_implies, Bool.true_eq_false, Bool.false_eq_true, reduceCtorEq, false_implies, List.mem_cons, List.not_mem_nil, Prod.mk.injEq, false_and, and_false, or_false, false_or, or_true, true_or, if_false, ty3, ty3k, ty3s, ty3t, ty3z, ty3o, ty23, ty23k, ty23s, ty23t, ty23z, ty23o, ty24, ty24k, ty24s, ty24t, ty24z, ty24o, ty32, ty32k, ty32s, ty32t, ty32z, ty32o, ty35, ty35k, ty35s, ty35t, ty35z, ty35o, ty37, ty37k, ty37s, ty37t, ty37z, ty37o, ty41, ty41k, ty41s, ty41t, ty41z, ty41o, ty43, ty43k, ty43s, ty43t, ty43z, ty43o, cz, i0, i1, t0, l0, d1, e6]
      | refine And.intro (a := drawOk _ _ = true) (by kernel_rfl) ?_
      | (refine id (α := drawOk _ _ = true) ?_; kernel_rfl))
    all_goals simp_all
end Go.Abs

