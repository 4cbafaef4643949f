/- Contracts: networks of normal forms. Conditions: none. -/
import Derived.Test.YtnjaedaofjkbnaaDoorC26
import Derived.Test.YtnjaedaofjkbnaaDoorC13
set_option maxRecDepth 100000
set_option linter.unusedVariables false
set_option linter.unusedSimpArgs false
namespace Go.Abs
open Go
/-- A normal form, as far as its network asks. -/
inductive Nn : Ex → Prop
  | leaf (e : Ex) : e.op ≠ 6 → e.op ≠ 7 → Nn e
  | un (e x : Ex) : e.op = 6 → e.l[0]? = some x → Nn e
  | bin (e x y : Ex) : e.op = 7 → e.l[0]? = some x → e.l[1]? = some y → Nn x → Nn y → Nn e
def nlitK (e : Ex) (cs : List Nat) : Nat := if e.op = 7 then cs.getD 0 0 + cs.getD 1 0 else 1
mutual
def nlit : Ex → Nat
  | .mk op t n m l => nlitK (.mk op t n m l) (nlitL l)
def nlitL : List Ex → List Nat
  | [] => []
  | e :: l => nlit e :: nlitL l
end
theorem nlitL_eq : ∀ l, nlitL l = l.map nlit
  | [] => rfl
  | e :: l => by rw [nlitL, nlitL_eq l, List.map_cons]
theorem nlit_eq (e : Ex) : nlit e = nlitK e (e.l.map nlit) := by
  cases e with
  | mk op t n m l => rw [nlit, nlitL_eq]; rfl
theorem nlit_bin {e x y : Ex} (h7 : e.op = 7) (hx : e.l[0]? = some x) (hy : e.l[1]? = some y) : nlit e = nlit x + nlit y := by
  rw [nlit_eq, nlitK, if_pos h7]
  simp [hx, hy]
theorem nlit_one {e : Ex} (h7 : e.op ≠ 7) : nlit e = 1 := by rw [nlit_eq, nlitK, if_neg h7]
def nt0 : Nt := .mk 0 0 ex0 []
def ofK (e : Ex) (cs : List Nt) : Nt := if e.op = 6 then .mk 1 1 (e.l.getD 0 ex0) [] else if e.op = 7 then joinN (if e.m = 14 then 2 else 3) [cs.getD 0 nt0, cs.getD 1 nt0] else .mk 1 0 e []
mutual
def ofN : Ex → Nt
  | .mk op t n m l => ofK (.mk op t n m l) (ofL l)
def ofL : List Ex → List Nt
  | [] => []
  | e :: l => ofN e :: ofL l
end
theorem ofL_eq : ∀ l, ofL l = l.map ofN
  | [] => rfl
  | e :: l => by rw [ofL, ofL_eq l, List.map_cons]
theorem ofN_eq (e : Ex) : ofN e = ofK e (e.l.map ofN) := by
  cases e with
  | mk op t n m l => rw [ofN, ofL_eq]; rfl
theorem ofN_bin {e x y : Ex} (h7 : e.op = 7) (hx : e.l[0]? = some x) (hy : e.l[1]? = some y) : ofN e = joinN (if e.m = 14 then 2 else 3) [ofN x, ofN y] := by
  rw [ofN_eq, ofK, if_neg (by omega), if_pos h7]
  simp [hx, hy]
theorem ofN_un {e x : Ex} (h6 : e.op = 6) (hx : e.l[0]? = some x) : ofN e = .mk 1 1 x [] := by
  rw [ofN_eq, ofK, if_pos h6]
  simp [hx]
theorem ofN_leaf {e : Ex} (h6 : e.op ≠ 6) (h7 : e.op ≠ 7) : ofN e = .mk 1 0 e [] := by rw [ofN_eq, ofK, if_neg h6, if_neg h7]
theorem nlit_pos {e : Ex} (h : Nn e) : 1 ≤ nlit e := by
  induction h with
  | leaf e h6 h7 => rw [nlit_one h7]; omega
  | un e x h6 hx => rw [nlit_one (by omega)]; omega
  | bin e x y h7 hx hy _ _ i1 i2 => rw [nlit_bin h7 hx hy]; omega
theorem part_max (k : Int) (z : Nt) : (partN k z).length ≤ max 1 z.l.length := by
  unfold partN
  split
  · exact Nat.le_max_right _ _
  · exact Nat.le_max_left _ _
theorem of_len {e : Ex} (h : Nn e) : (ofN e).l.length ≤ nlit e := by
  induction h with
  | leaf e h6 h7 => rw [ofN_leaf h6 h7]; simp [Nt.l]
  | un e x h6 hx => rw [ofN_un h6 hx]; simp [Nt.l]
  | bin e x y h7 hx hy h1 h2 i1 i2 =>
    rw [ofN_bin h7 hx hy, nlit_bin h7 hx hy]
    have p1 := nlit_pos h1
    have p2 := nlit_pos h2
    have q1 := part_max (if e.m = 14 then 2 else 3) (ofN x)
    have q2 := part_max (if e.m = 14 then 2 else 3) (ofN y)
    simp only [joinN, Nt.l, List.flatMap_cons, List.flatMap_nil, List.append_nil, List.length_append] at *
    omega
theorem part_len {e : Ex} (h : Nn e) (k : Int) : (partN k (ofN e)).length ≤ nlit e := by
  have h1 := of_len h
  have h2 := nlit_pos h
  unfold partN
  split
  · exact h1
  · simpa using h2
theorem c56 : ∀ e : Ex, Nn e → nlit e ≤ 1000 → PFn E 56 [exA e] (ntA (ofN e)) := by
  intro e h
  induction h with
  | leaf e h6 h7 =>
    intro _
    rw [ofN_leaf h6 h7]
    have e6 : (e.op == 6) = false := by simp [h6]
    have e7 : (e.op == 7) = false := by simp [h7]
    have hX : PFn E 56 [exA e] (.agg [I 1, I 0, I e.op, I e.t, I e.n, I e.m, .ro e.l.length (recs Ex.cs e.l), nilA]) := by
      refine pfn_F fn56 (by simp) ?_
      simp only [Go.Proofs.Tryd.f56, Option.getD_some, List.append_eq, List.cons_append, List.nil_append]
      repeat' (first
        | refine If1.split (fun hb => ?_) (fun hb => ?_)
        | simp (config := { maxSteps := 1000000 }) only [W1_skip, W1_ret, W1_label, W1_exit, W1_seq, W1_cond, W1_block, W1_region, W1_draw, W1_loop, O1_nil, O1_n, O1_s, slotD_s, slotD_z, V1_s, U1_b, U1_u, If1_t, If1_f, If1_not, eqB_tt, eqB_tf, eqB_ft, eqB_ff, X1_eq, H1_f, H1_h, H1_c, how, B1_some, B1_none, B1_ite, D1_b, setT_t, setT_c, T1_n, T1_r, T1_x, K1_n, K1_r, K1_x, FinP_n, FinP_r, bindO_some, RetOk_lit, FinX_n, FinX_r, FinK_n, FinK_r, oneOrTup_1, RetX_lit, getCells, List.set_cons_zero, List.set_cons_succ, putAt, fillA, sizesOf, allTyped, List.all_cons, List.all_nil, Bool.and_self, Bool.true_and, Bool.and_true, Nat.reduceMul, Int.reduceLT, Int.reduceGT, Int.reduceGE, Int.cast_ofNat_Int, Int.reduceLE, Int.reduceToNat, Int.reduceAdd, Int.reduceNeg, Int.reduceEq, Int.reduceBNe, Int.reduceBEq, decide_false, zerosA, List.replicate_succ, List.replicate_zero, List.flatten_cons, List.flatten_nil, Option.isSome_some, dstOk, evRes, evRes1, evFree, evHeap, evA, upd_ne, upd_same, initF, updO_some, updO_none, kindOf, AV.storable, AV.cells, AV.one, Value.oneCell', mode, E_pol, pol, binA, unA, litInt, litBool, litStr, eqA, callee, evArgs, evParts, ne_eq, Nat.reduceEqDiff, Nat.reduceLT, not_false_eq_true, decide_true, if_true, reduceIte, List.take_zero, List.take_succ_cons, List.length_cons, List.length_nil, Nat.reduceAdd, Nat.reduceLeDiff, List.getElem?_cons_zero, List.getElem?_cons_succ, List.getD_cons_zero, List.getD_cons_succ, List.drop_zero, List.drop_succ_cons, List.map_cons, List.map_nil, List.cons_append, List.nil_append, List.append_nil, List.head?_cons, Int.toNat_natCast, Nat.zero_le, and_self, true_and, and_true, Bool.not_true, Bool.not_false, Option.map_some, true_implies, Bool.true_eq_false, Bool.false_eq_true, reduceCtorEq, false_implies, List.mem_cons, List.not_mem_nil, Prod.mk.injEq, false_and, and_false, or_false, false_or, or_true, true_or, if_false, ty3, ty3k, ty3s, ty3t, ty3z, ty3o, ty35, ty35k, ty35s, ty35t, ty35z, ty35o, ty37, ty37k, ty37s, ty37t, ty37z, ty37o, ty52, ty52k, ty52s, ty52t, ty52z, ty52o, ty54, ty54k, ty54s, ty54t, ty54z, ty54o, cz, at_end, set_end, e6, e7]
        | refine And.intro (a := drawOk _ _ = true) (by kernel_rfl) ?_
        | (refine id (α := drawOk _ _ = true) ?_; kernel_rfl))
      exact RetOk_closed (by simp [AV.closedL, AV.closed, ex_closed, oneOrTup]) rfl
    exact hX.wk (.refl _) (Wk.agg (.cons (.refl _) (.cons (.refl _) (.cons (.refl _) (.cons (.refl _) (.cons (.refl _) (.cons (.refl _) (.cons (.refl _) (.cons .nil (.refl _))))))))))
  | un e x h6 hx =>
    intro _
    rw [ofN_un h6 hx]
    have hl := (List.getElem?_eq_some_iff.1 hx).1
    have t0 := Ex.take0 hx
    have l0 := Ex.len0 hx
    have i0 : (0 : Int) ≤ 0 ∧ (0 : Int) < (e.l.length : Int) := by omega
    have hX : PFn E 56 [exA e] (.agg [I 1, I 1, I x.op, I x.t, I x.n, I x.m, .ro x.l.length (recs Ex.cs x.l), nilA]) := by
      refine pfn_F fn56 (by simp) ?_
      simp only [Go.Proofs.Tryd.f56, Option.getD_some, List.append_eq, List.cons_append, List.nil_append]
      repeat' (first
        | refine If1.split (fun hb => ?_) (fun hb => ?_)
        | simp (config := { maxSteps := 1000000 }) only [W1_skip, W1_ret, W1_label, W1_exit, W1_seq, W1_cond, W1_block, W1_region, W1_draw, W1_loop, O1_nil, O1_n, O1_s, slotD_s, slotD_z, V1_s, U1_b, U1_u, If1_t, If1_f, If1_not, eqB_tt, eqB_tf, eqB_ft, eqB_ff, X1_eq, H1_f, H1_h, H1_c, how, B1_some, B1_none, B1_ite, D1_b, setT_t, setT_c, T1_n, T1_r, T1_x, K1_n, K1_r, K1_x, FinP_n, FinP_r, bindO_some, RetOk_lit, FinX_n, FinX_r, FinK_n, FinK_r, oneOrTup_1, RetX_lit, getCells, List.set_cons_zero, List.set_cons_succ, putAt, fillA, sizesOf, allTyped, List.all_cons, List.all_nil, Bool.and_self, Bool.true_and, Bool.and_true, Nat.reduceMul, Int.reduceLT, Int.reduceGT, Int.reduceGE, Int.cast_ofNat_Int, Int.reduceLE, Int.reduceToNat, Int.reduceAdd, Int.reduceNeg, Int.reduceEq, Int.reduceBNe, Int.reduceBEq, decide_false, zerosA, List.replicate_succ, List.replicate_zero, List.flatten_cons, List.flatten_nil, Option.isSome_some, dstOk, evRes, evRes1, evFree, evHeap, evA, upd_ne, upd_same, initF, updO_some, updO_none, kindOf, AV.storable, AV.cells, AV.one, Value.oneCell', mode, E_pol, pol, binA, unA, litInt, litBool, litStr, eqA, callee, evArgs, evParts, ne_eq, Nat.reduceEqDiff, Nat.reduceLT, not_false_eq_true, decide_true, if_true, reduceIte, List.take_zero, List.take_succ_cons, List.length_cons, List.length_nil, Nat.reduceAdd, Nat.reduceLeDiff, List.getElem?_cons_zero, List.getElem?_cons_succ, List.getD_cons_zero, List.getD_cons_succ, List.drop_zero, List.drop_succ_cons, List.map_cons, List.map_nil, List.cons_append, List.nil_append, List.append_nil, List.head?_cons, Int.toNat_natCast, Nat.zero_le, and_self, true_and, and_true, Bool.not_true, Bool.not_false, Option.map_some, true_implies, Bool.true_eq_false, Bool.false_eq_true, reduceCtorEq, false_implies, List.mem_cons, List.not_mem_nil, Prod.mk.injEq, false_and, and_false, or_false, false_or, or_true, true_or, if_false, ty3, ty3k, ty3s, ty3t, ty3z, ty3o, ty35, ty35k, ty35s, ty35t, ty35z, ty35o, ty37, ty37k, ty37s, ty37t, ty37z, ty37o, ty52, ty52k, ty52s, ty52t, ty52z, ty52o, ty54, ty54k, ty54s, ty54t, ty54z, ty54o, cz, at_end, set_end, h6, t0, l0, i0]
        | refine And.intro (a := drawOk _ _ = true) (by kernel_rfl) ?_
        | (refine id (α := drawOk _ _ = true) ?_; kernel_rfl))
      exact RetOk_closed (by simp [AV.closedL, AV.closed, ex_closed, oneOrTup]) rfl
    exact hX.wk (.refl _) (Wk.agg (.cons (.refl _) (.cons (.refl _) (.cons (.refl _) (.cons (.refl _) (.cons (.refl _) (.cons (.refl _) (.cons (.refl _) (.cons .nil (.refl _))))))))))
  | bin e x y h7 hx hy h1 h2 k1 k2 =>
    intro hn
    rw [nlit_bin h7 hx hy] at hn
    have k1 := k1 (by omega)
    have k2 := k2 (by omega)
    rw [ofN_bin h7 hx hy]
    have hl := (List.getElem?_eq_some_iff.1 hy).1
    have t0 := Ex.take0 hx
    have l0 := Ex.len0 hx
    have d1 := Ex.drop1 hy
    have i0 : (0 : Int) ≤ 0 ∧ (0 : Int) < (e.l.length : Int) := by omega
    have i1 : (0 : Int) ≤ 1 ∧ (1 : Int) < (e.l.length : Int) := by omega
    have cx : AV.closedL [exA x] = true := by simp [AV.closedL, AV.closed, ex_closed]
    have cy : AV.closedL [exA y] = true := by simp [AV.closedL, AV.closed, ex_closed]
    have p1 := fun k => part_len h1 k
    have p2 := fun k => part_len h2 k
    have k76 : ∀ k, PFn E 76 [I k, .ro 2 (recs Nt.cs [ofN x, ofN y])] (ntA (joinN k [ofN x, ofN y])) := fun k => c76 k [ofN x, ofN y] (by simp) (by have := p1 k; have := p2 k; simp only [List.flatMap_cons, List.flatMap_nil, List.append_nil, List.length_append]; omega)
    have er : recs Nt.cs [ofN x, ofN y] = (ofN x).cs ++ (ofN y).cs := by simp [recs]
    rw [er, Nt.cs_eq, Nt.cs_eq] at k76
    have c2 : ∀ k, AV.closedL [I k, .ro 2 (recs Nt.cs [ofN x, ofN y])] = true := fun k => by simp [AV.closedL, AV.closed, nt_closed]
    rw [er, Nt.cs_eq, Nt.cs_eq] at c2
    have c22 := c2 2
    have k762 := k76 2
    have c23 := c2 3
    have k763 := k76 3
    refine pfn_F fn56 (by simp) ?_
    simp only [Go.Proofs.Tryd.f56, Option.getD_some, List.append_eq, List.cons_append, List.nil_append]
    by_cases hm : e.m = 14
    · have em : (e.m == 14) = true := by simp [hm]
      rw [if_pos hm]
      repeat' (first
        | refine If1.split (fun hb => ?_) (fun hb => ?_)
        | refine C1.pure (k1) cx ?_
        | refine C1.pure (k2) cy ?_
        | refine C1.pure (k762) c22 ?_
        | simp (config := { maxSteps := 1000000 }) only [W1_skip, W1_ret, W1_label, W1_exit, W1_seq, W1_cond, W1_block, W1_region, W1_draw, W1_loop, O1_nil, O1_n, O1_s, slotD_s, slotD_z, V1_s, U1_b, U1_u, If1_t, If1_f, If1_not, eqB_tt, eqB_tf, eqB_ft, eqB_ff, X1_eq, H1_f, H1_h, H1_c, how, B1_some, B1_none, B1_ite, D1_b, setT_t, setT_c, T1_n, T1_r, T1_x, K1_n, K1_r, K1_x, FinP_n, FinP_r, bindO_some, RetOk_lit, FinX_n, FinX_r, FinK_n, FinK_r, oneOrTup_1, RetX_lit, getCells, List.set_cons_zero, List.set_cons_succ, putAt, fillA, sizesOf, allTyped, List.all_cons, List.all_nil, Bool.and_self, Bool.true_and, Bool.and_true, Nat.reduceMul, Int.reduceLT, Int.reduceGT, Int.reduceGE, Int.cast_ofNat_Int, Int.reduceLE, Int.reduceToNat, Int.reduceAdd, Int.reduceNeg, Int.reduceEq, Int.reduceBNe, Int.reduceBEq, decide_false, zerosA, List.replicate_succ, List.replicate_zero, List.flatten_cons, List.flatten_nil, Option.isSome_some, dstOk, evRes, evRes1, evFree, evHeap, evA, upd_ne, upd_same, initF, updO_some, updO_none, kindOf, AV.storable, AV.cells, AV.one, Value.oneCell', mode, E_pol, pol, binA, unA, litInt, litBool, litStr, eqA, callee, evArgs, evParts, ne_eq, Nat.reduceEqDiff, Nat.reduceLT, not_false_eq_true, decide_true, if_true, reduceIte, List.take_zero, List.take_succ_cons, List.length_cons, List.length_nil, Nat.reduceAdd, Nat.reduceLeDiff, List.getElem?_cons_zero, List.getElem?_cons_succ, List.getD_cons_zero, List.getD_cons_succ, List.drop_zero, List.drop_succ_cons, List.map_cons, List.map_nil, List.cons_append, List.nil_append, List.append_nil, List.head?_cons, Int.toNat_natCast, Nat.zero_le, and_self, true_and, and_true, Bool.not_true, Bool.not_false, Option.map_some, true_implies, Bool.true_eq_false, Bool.false_eq_true, reduceCtorEq, false_implies, List.mem_cons, List.not_mem_nil, Prod.mk.injEq, false_and, and_false, or_false, false_or, or_true, true_or, if_false, ty3, ty3k, ty3s, ty3t, ty3z, ty3o, ty35, ty35k, ty35s, ty35t, ty35z, ty35o, ty37, ty37k, ty37s, ty37t, ty37z, ty37o, ty52, ty52k, ty52s, ty52t, ty52z, ty52o, ty54, ty54k, ty54s, ty54t, ty54z, ty54o, cz, at_end, set_end, h7, em, t0, l0, d1, i0, i1]
        | refine And.intro (a := drawOk _ _ = true) (by kernel_rfl) ?_
        | (refine id (α := drawOk _ _ = true) ?_; kernel_rfl))
      exact RetOk_closed (ntA_closed _) rfl
    · have em : (e.m == 14) = false := by simp [hm]
      rw [if_neg hm]
      repeat' (first
        | refine If1.split (fun hb => ?_) (fun hb => ?_)
        | refine C1.pure (k1) cx ?_
        | refine C1.pure (k2) cy ?_
        | refine C1.pure (k763) c23 ?_
        | simp (config := { maxSteps := 1000000 }) only [W1_skip, W1_ret, W1_label, W1_exit, W1_seq, W1_cond, W1_block, W1_region, W1_draw, W1_loop, O1_nil, O1_n, O1_s, slotD_s, slotD_z, V1_s, U1_b, U1_u, If1_t, If1_f, If1_not, eqB_tt, eqB_tf, eqB_ft, eqB_ff, X1_eq, H1_f, H1_h, H1_c, how, B1_some, B1_none, B1_ite, D1_b, setT_t, setT_c, T1_n, T1_r, T1_x, K1_n, K1_r, K1_x, FinP_n, FinP_r, bindO_some, RetOk_lit, FinX_n, FinX_r, FinK_n, FinK_r, oneOrTup_1, RetX_lit, getCells, List.set_cons_zero, List.set_cons_succ, putAt, fillA, sizesOf, allTyped, List.all_cons, List.all_nil, Bool.and_self, Bool.true_and, Bool.and_true, Nat.reduceMul, Int.reduceLT, Int.reduceGT, Int.reduceGE, Int.cast_ofNat_Int, Int.reduceLE, Int.reduceToNat, Int.reduceAdd, Int.reduceNeg, Int.reduceEq, Int.reduceBNe, Int.reduceBEq, decide_false, zerosA, List.replicate_succ, List.replicate_zero, List.flatten_cons, List.flatten_nil, Option.isSome_some, dstOk, evRes, evRes1, evFree, evHeap, evA, upd_ne, upd_same, initF, updO_some, updO_none, kindOf, AV.storable, AV.cells, AV.one, Value.oneCell', mode, E_pol, pol, binA, unA, litInt, litBool, litStr, eqA, callee, evArgs, evParts, ne_eq, Nat.reduceEqDiff, Nat.reduceLT, not_false_eq_true, decide_true, if_true, reduceIte, List.take_zero, List.take_succ_cons, List.length_cons, List.length_nil, Nat.reduceAdd, Nat.reduceLeDiff, List.getElem?_cons_zero, List.getElem?_cons_succ, List.getD_cons_zero, List.getD_cons_succ, List.drop_zero, List.drop_succ_cons, List.map_cons, List.map_nil, List.cons_append, List.nil_append, List.append_nil, List.head?_cons, Int.toNat_natCast, Nat.zero_le, and_self, true_and, and_true, Bool.not_true, Bool.not_false, Option.map_some, true_implies, Bool.true_eq_false, Bool.false_eq_true, reduceCtorEq, false_implies, List.mem_cons, List.not_mem_nil, Prod.mk.injEq, false_and, and_false, or_false, false_or, or_true, true_or, if_false, ty3, ty3k, ty3s, ty3t, ty3z, ty3o, ty35, ty35k, ty35s, ty35t, ty35z, ty35o, ty37, ty37k, ty37s, ty37t, ty37z, ty37o, ty52, ty52k, ty52s, ty52t, ty52z, ty52o, ty54, ty54k, ty54s, ty54t, ty54z, ty54o, cz, at_end, set_end, h7, em, t0, l0, d1, i0, i1]
        | refine And.intro (a := drawOk _ _ = true) (by kernel_rfl) ?_
        | (refine id (α := drawOk _ _ = true) ?_; kernel_rfl))
      exact RetOk_closed (ntA_closed _) rfl
def okN (s : Sc) (e : Ex) : Bool := decide (cnt s e ≤ 24)
def normN (s : Sc) (e : Ex) : Ex := if okN s e then nm1 e false else ex0
def fromN (s : Sc) (e : Ex) : Nt := if okN s e then ofN (nm1 e false) else nt0
theorem c17 (s : Sc) (e : Ex) (hf : e.Fit) (hs : e.Small) : PFn E 17 [scA s, exA e] (.tup [exA (normN s e), B (okN s e)]) := by
  have k15 := c15 s e hf hs
  have k51 := c51 e hf false
  have cl : AV.closedL [scA s, exA e] = true := by simp [AV.closedL, scA_closed, exA_closed]
  have cl2 : AV.closedL [exA e, B false] = true := by simp [AV.closedL, exA_closed, AV.closed, ex_closed]
  by_cases h : cnt s e ≤ 24
  · have ho : okN s e = true := by simp [okN, h]
    have hg : decide (cnt s e > 24) = false := by simp; omega
    rw [normN, ho, if_pos rfl]
    refine pfn_F fn17 (by simp) ?_
    simp only [Go.Proofs.Tryd.f17, Option.getD_some, List.append_eq, List.cons_append, List.nil_append]
    repeat' (first
      | refine If1.split (fun hb => ?_) (fun hb => ?_)
      | refine C1.pure (k15) cl ?_
      | refine C1.pure (k51) cl2 ?_
      | simp (config := { maxSteps := 1000000 }) only [W1_skip, W1_ret, W1_label, W1_exit, W1_seq, W1_cond, W1_block, W1_region, W1_draw, W1_loop, O1_nil, O1_n, O1_s, slotD_s, slotD_z, V1_s, U1_b, U1_u, If1_t, If1_f, If1_not, eqB_tt, eqB_tf, eqB_ft, eqB_ff, X1_eq, H1_f, H1_h, H1_c, how, B1_some, B1_none, B1_ite, D1_b, setT_t, setT_c, T1_n, T1_r, T1_x, K1_n, K1_r, K1_x, FinP_n, FinP_r, bindO_some, RetOk_lit, FinX_n, FinX_r, FinK_n, FinK_r, oneOrTup_1, RetX_lit, getCells, List.set_cons_zero, List.set_cons_succ, putAt, fillA, sizesOf, allTyped, List.all_cons, List.all_nil, Bool.and_self, Bool.true_and, Bool.and_true, Nat.reduceMul, Int.reduceLT, Int.reduceGT, Int.reduceGE, Int.cast_ofNat_Int, Int.reduceLE, Int.reduceToNat, Int.reduceAdd, Int.reduceNeg, Int.reduceEq, Int.reduceBNe, Int.reduceBEq, decide_false, zerosA, List.replicate_succ, List.replicate_zero, List.flatten_cons, List.flatten_nil, Option.isSome_some, dstOk, evRes, evRes1, evFree, evHeap, evA, upd_ne, upd_same, initF, updO_some, updO_none, kindOf, AV.storable, AV.cells, AV.one, Value.oneCell', mode, E_pol, pol, binA, unA, litInt, litBool, litStr, eqA, callee, evArgs, evParts, ne_eq, Nat.reduceEqDiff, Nat.reduceLT, not_false_eq_true, decide_true, if_true, reduceIte, List.take_zero, List.take_succ_cons, List.length_cons, List.length_nil, Nat.reduceAdd, Nat.reduceLeDiff, List.getElem?_cons_zero, List.getElem?_cons_succ, List.getD_cons_zero, List.getD_cons_succ, List.drop_zero, List.drop_succ_cons, List.map_cons, List.map_nil, List.cons_append, List.nil_append, List.append_nil, List.head?_cons, Int.toNat_natCast, Nat.zero_le, and_self, true_and, and_true, Bool.not_true, Bool.not_false, Option.map_some, true_implies, Bool.true_eq_false, Bool.false_eq_true, reduceCtorEq, false_implies, List.mem_cons, List.not_mem_nil, Prod.mk.injEq, false_and, and_false, or_false, false_or, or_true, true_or, if_false, ty3, ty3k, ty3s, ty3t, ty3z, ty3o, ty4, ty4k, ty4s, ty4t, ty4z, ty4o, ty23, ty23k, ty23s, ty23t, ty23z, ty23o, ty24, ty24k, ty24s, ty24t, ty24z, ty24o, ty32, ty32k, ty32s, ty32t, ty32z, ty32o, ty35, ty35k, ty35s, ty35t, ty35z, ty35o, ty37, ty37k, ty37s, ty37t, ty37z, ty37o, ty41, ty41k, ty41s, ty41t, ty41z, ty41o, ty43, ty43k, ty43s, ty43t, ty43z, ty43o, cz, at_end, set_end, hg]
      | refine And.intro (a := drawOk _ _ = true) (by kernel_rfl) ?_
      | (refine id (α := drawOk _ _ = true) ?_; kernel_rfl))
    exact RetOk_closed (by simp [AV.closedL, AV.closed, ex_closed, oneOrTup]) rfl
  · have ho : okN s e = false := by simp [okN, h]
    have hg : decide (cnt s e > 24) = true := by simp; omega
    have hX : PFn E 17 [scA s, exA e] (.tup [exZ, B false]) := by
      refine pfn_F fn17 (by simp) ?_
      simp only [Go.Proofs.Tryd.f17, Option.getD_some, List.append_eq, List.cons_append, List.nil_append]
      repeat' (first
        | refine If1.split (fun hb => ?_) (fun hb => ?_)
        | refine C1.pure (k15) cl ?_
        | simp (config := { maxSteps := 1000000 }) only [W1_skip, W1_ret, W1_label, W1_exit, W1_seq, W1_cond, W1_block, W1_region, W1_draw, W1_loop, O1_nil, O1_n, O1_s, slotD_s, slotD_z, V1_s, U1_b, U1_u, If1_t, If1_f, If1_not, eqB_tt, eqB_tf, eqB_ft, eqB_ff, X1_eq, H1_f, H1_h, H1_c, how, B1_some, B1_none, B1_ite, D1_b, setT_t, setT_c, T1_n, T1_r, T1_x, K1_n, K1_r, K1_x, FinP_n, FinP_r, bindO_some, RetOk_lit, FinX_n, FinX_r, FinK_n, FinK_r, oneOrTup_1, RetX_lit, getCells, List.set_cons_zero, List.set_cons_succ, putAt, fillA, sizesOf, allTyped, List.all_cons, List.all_nil, Bool.and_self, Bool.true_and, Bool.and_true, Nat.reduceMul, Int.reduceLT, Int.reduceGT, Int.reduceGE, Int.cast_ofNat_Int, Int.reduceLE, Int.reduceToNat, Int.reduceAdd, Int.reduceNeg, Int.reduceEq, Int.reduceBNe, Int.reduceBEq, decide_false, zerosA, List.replicate_succ, List.replicate_zero, List.flatten_cons, List.flatten_nil, Option.isSome_some, dstOk, evRes, evRes1, evFree, evHeap, evA, upd_ne, upd_same, initF, updO_some, updO_none, kindOf, AV.storable, AV.cells, AV.one, Value.oneCell', mode, E_pol, pol, binA, unA, litInt, litBool, litStr, eqA, callee, evArgs, evParts, ne_eq, Nat.reduceEqDiff, Nat.reduceLT, not_false_eq_true, decide_true, if_true, reduceIte, List.take_zero, List.take_succ_cons, List.length_cons, List.length_nil, Nat.reduceAdd, Nat.reduceLeDiff, List.getElem?_cons_zero, List.getElem?_cons_succ, List.getD_cons_zero, List.getD_cons_succ, List.drop_zero, List.drop_succ_cons, List.map_cons, List.map_nil, List.cons_append, List.nil_append, List.append_nil, List.head?_cons, Int.toNat_natCast, Nat.zero_le, and_self, true_and, and_true, Bool.not_true, Bool.not_false, Option.map_some, true_implies, Bool.true_eq_false, Bool.false_eq_true, reduceCtorEq, false_implies, List.mem_cons, List.not_mem_nil, Prod.mk.injEq, false_and, and_false, or_false, false_or, or_true, true_or, if_false, ty3, ty3k, ty3s, ty3t, ty3z, ty3o, ty4, ty4k, ty4s, ty4t, ty4z, ty4o, ty23, ty23k, ty23s, ty23t, ty23z, ty23o, ty24, ty24k, ty24s, ty24t, ty24z, ty24o, ty32, ty32k, ty32s, ty32t, ty32z, ty32o, ty35, ty35k, ty35s, ty35t, ty35z, ty35o, ty37, ty37k, ty37s, ty37t, ty37z, ty37o, ty41, ty41k, ty41s, ty41t, ty41z, ty41o, ty43, ty43k, ty43s, ty43t, ty43z, ty43o, cz, at_end, set_end, hg]
        | refine And.intro (a := drawOk _ _ = true) (by kernel_rfl) ?_
        | (refine id (α := drawOk _ _ = true) ?_; kernel_rfl))
      exact RetOk_closed (by simp [AV.closedL, AV.closed, oneOrTup]) rfl
    rw [normN, ho, if_neg (by simp)]
    exact hX.wk (.refl _) (Wk.tup (.cons wk_ex0 (.refl _)))
theorem c29 (s : Sc) (e : Ex) (hf : e.Fit) (hs : e.Small) (hn : okN s e = true → Nn (nm1 e false) ∧ nlit (nm1 e false) ≤ 1000) : PFn E 29 [scA s, exA e] (.tup [ntA (fromN s e), B (okN s e)]) := by
  have k17 := c17 s e hf hs
  have cl : AV.closedL [scA s, exA e] = true := by simp [AV.closedL, scA_closed, exA_closed]
  by_cases h : okN s e = true
  · obtain ⟨h1, h2⟩ := hn h
    have k56 := c56 _ h1 h2
    have cl2 : AV.closedL [exA (nm1 e false)] = true := by simp [AV.closedL, AV.closed, ex_closed]
    rw [normN, h, if_pos rfl] at k17
    rw [fromN, h, if_pos rfl]
    refine pfn_F fn29 (by simp) ?_
    simp only [Go.Proofs.Tryd.f29, Option.getD_some, List.append_eq, List.cons_append, List.nil_append]
    repeat' (first
      | refine If1.split (fun hb => ?_) (fun hb => ?_)
      | refine C1.pure (k17) cl ?_
      | refine C1.pure (k56) cl2 ?_
      | simp (config := { maxSteps := 1000000 }) only [W1_skip, W1_ret, W1_label, W1_exit, W1_seq, W1_cond, W1_block, W1_region, W1_draw, W1_loop, O1_nil, O1_n, O1_s, slotD_s, slotD_z, V1_s, U1_b, U1_u, If1_t, If1_f, If1_not, eqB_tt, eqB_tf, eqB_ft, eqB_ff, X1_eq, H1_f, H1_h, H1_c, how, B1_some, B1_none, B1_ite, D1_b, setT_t, setT_c, T1_n, T1_r, T1_x, K1_n, K1_r, K1_x, FinP_n, FinP_r, bindO_some, RetOk_lit, FinX_n, FinX_r, FinK_n, FinK_r, oneOrTup_1, RetX_lit, getCells, List.set_cons_zero, List.set_cons_succ, putAt, fillA, sizesOf, allTyped, List.all_cons, List.all_nil, Bool.and_self, Bool.true_and, Bool.and_true, Nat.reduceMul, Int.reduceLT, Int.reduceGT, Int.reduceGE, Int.cast_ofNat_Int, Int.reduceLE, Int.reduceToNat, Int.reduceAdd, Int.reduceNeg, Int.reduceEq, Int.reduceBNe, Int.reduceBEq, decide_false, zerosA, List.replicate_succ, List.replicate_zero, List.flatten_cons, List.flatten_nil, Option.isSome_some, dstOk, evRes, evRes1, evFree, evHeap, evA, upd_ne, upd_same, initF, updO_some, updO_none, kindOf, AV.storable, AV.cells, AV.one, Value.oneCell', mode, E_pol, pol, binA, unA, litInt, litBool, litStr, eqA, callee, evArgs, evParts, ne_eq, Nat.reduceEqDiff, Nat.reduceLT, not_false_eq_true, decide_true, if_true, reduceIte, List.take_zero, List.take_succ_cons, List.length_cons, List.length_nil, Nat.reduceAdd, Nat.reduceLeDiff, List.getElem?_cons_zero, List.getElem?_cons_succ, List.getD_cons_zero, List.getD_cons_succ, List.drop_zero, List.drop_succ_cons, List.map_cons, List.map_nil, List.cons_append, List.nil_append, List.append_nil, List.head?_cons, Int.toNat_natCast, Nat.zero_le, and_self, true_and, and_true, Bool.not_true, Bool.not_false, Option.map_some, true_implies, Bool.true_eq_false, Bool.false_eq_true, reduceCtorEq, false_implies, List.mem_cons, List.not_mem_nil, Prod.mk.injEq, false_and, and_false, or_false, false_or, or_true, true_or, if_false, ty3, ty3k, ty3s, ty3t, ty3z, ty3o, ty23, ty23k, ty23s, ty23t, ty23z, ty23o, ty24, ty24k, ty24s, ty24t, ty24z, ty24o, ty32, ty32k, ty32s, ty32t, ty32z, ty32o, ty35, ty35k, ty35s, ty35t, ty35z, ty35o, ty37, ty37k, ty37s, ty37t, ty37z, ty37o, ty41, ty41k, ty41s, ty41t, ty41z, ty41o, ty43, ty43k, ty43s, ty43t, ty43z, ty43o, ty52, ty52k, ty52s, ty52t, ty52z, ty52o, ty54, ty54k, ty54s, ty54t, ty54z, ty54o, cz, at_end, set_end]
      | refine And.intro (a := drawOk _ _ = true) (by kernel_rfl) ?_
      | (refine id (α := drawOk _ _ = true) ?_; kernel_rfl))
    exact RetOk_closed (by simp [AV.closedL, AV.closed, ex_closed, nt_closed, oneOrTup]) rfl
  · obtain h : okN s e = false := by simpa using h
    rw [normN, h, if_neg (by simp)] at k17
    have hX : PFn E 29 [scA s, exA e] (.tup [.agg [I 0, I 0, I 0, I 0, I 0, I 0, nilA, nilA], B false]) := by
      refine pfn_F fn29 (by simp) ?_
      simp only [Go.Proofs.Tryd.f29, Option.getD_some, List.append_eq, List.cons_append, List.nil_append]
      repeat' (first
        | refine If1.split (fun hb => ?_) (fun hb => ?_)
        | refine C1.pure (k17) cl ?_
        | simp (config := { maxSteps := 1000000 }) only [W1_skip, W1_ret, W1_label, W1_exit, W1_seq, W1_cond, W1_block, W1_region, W1_draw, W1_loop, O1_nil, O1_n, O1_s, slotD_s, slotD_z, V1_s, U1_b, U1_u, If1_t, If1_f, If1_not, eqB_tt, eqB_tf, eqB_ft, eqB_ff, X1_eq, H1_f, H1_h, H1_c, how, B1_some, B1_none, B1_ite, D1_b, setT_t, setT_c, T1_n, T1_r, T1_x, K1_n, K1_r, K1_x, FinP_n, FinP_r, bindO_some, RetOk_lit, FinX_n, FinX_r, FinK_n, FinK_r, oneOrTup_1, RetX_lit, getCells, List.set_cons_zero, List.set_cons_succ, putAt, fillA, sizesOf, allTyped, List.all_cons, List.all_nil, Bool.and_self, Bool.true_and, Bool.and_true, Nat.reduceMul, Int.reduceLT, Int.reduceGT, Int.reduceGE, Int.cast_ofNat_Int, Int.reduceLE, Int.reduceToNat, Int.reduceAdd, Int.reduceNeg, Int.reduceEq, Int.reduceBNe, Int.reduceBEq, decide_false, zerosA, List.replicate_succ, List.replicate_zero, List.flatten_cons, List.flatten_nil, Option.isSome_some, dstOk, evRes, evRes1, evFree, evHeap, evA, upd_ne, upd_same, initF, updO_some, updO_none, kindOf, AV.storable, AV.cells, AV.one, Value.oneCell', mode, E_pol, pol, binA, unA, litInt, litBool, litStr, eqA, callee, evArgs, evParts, ne_eq, Nat.reduceEqDiff, Nat.reduceLT, not_false_eq_true, decide_true, if_true, reduceIte, List.take_zero, List.take_succ_cons, List.length_cons, List.length_nil, Nat.reduceAdd, Nat.reduceLeDiff, List.getElem?_cons_zero, List.getElem?_cons_succ, List.getD_cons_zero, List.getD_cons_succ, List.drop_zero, List.drop_succ_cons, List.map_cons, List.map_nil, List.cons_append, List.nil_append, List.append_nil, List.head?_cons, Int.toNat_natCast, Nat.zero_le, and_self, true_and, and_true, Bool.not_true, Bool.not_false, Option.map_some, true_implies, Bool.true_eq_false, Bool.false_eq_true, reduceCtorEq, false_implies, List.mem_cons, List.not_mem_nil, Prod.mk.injEq, false_and, and_false, or_false, false_or, or_true, true_or, if_false, ty3, ty3k, ty3s, ty3t, ty3z, ty3o, ty23, ty23k, ty23s, ty23t, ty23z, ty23o, ty24, ty24k, ty24s, ty24t, ty24z, ty24o, ty32, ty32k, ty32s, ty32t, ty32z, ty32o, ty35, ty35k, ty35s, ty35t, ty35z, ty35o, ty37, ty37k, ty37s, ty37t, ty37z, ty37o, ty41, ty41k, ty41s, ty41t, ty41z, ty41o, ty43, ty43k, ty43s, ty43t, ty43z, ty43o, ty52, ty52k, ty52s, ty52t, ty52z, ty52o, ty54, ty54k, ty54s, ty54t, ty54z, ty54o, cz, at_end, set_end]
        | refine And.intro (a := drawOk _ _ = true) (by kernel_rfl) ?_
        | (refine id (α := drawOk _ _ = true) ?_; kernel_rfl))
      exact RetOk_closed (by simp [AV.closedL, AV.closed, oneOrTup]) rfl
    rw [fromN, h, if_neg (by simp)]
    exact hX.wk (.refl _) (Wk.tup (.cons (Wk.agg (.cons (.refl _) (.cons (.refl _) (.cons (.refl _) (.cons (.refl _) (.cons (.refl _) (.cons (.refl _) (.cons .nil (.cons .nil (.refl _)))))))))) (.refl _)))
end Go.Abs

