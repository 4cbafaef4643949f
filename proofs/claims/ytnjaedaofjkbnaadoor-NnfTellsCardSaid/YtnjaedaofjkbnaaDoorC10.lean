/- Contract: how many literals. Conditions: none. -/
import Derived.Test.YtnjaedaofjkbnaaDoorC9
set_option maxRecDepth 100000
set_option linter.unusedVariables false
set_option linter.unusedSimpArgs false
namespace Go.Abs
open Go

theorem Ex.take0 {l : List Ex} {x : Ex} (h : l[0]? = some x) : (recs Ex.cs l).take 5 = [I x.op, I x.t, I x.n, I x.m, .ro x.l.length (recs Ex.cs x.l)] := by
  have := Ex.at h
  simp only [Nat.zero_mul, List.drop_zero] at this
  rw [this]
  rfl
theorem Ex.len0 {l : List Ex} {x : Ex} (h : l[0]? = some x) : 5 ≤ (recs Ex.cs l).length := by
  rw [recs_length Ex.cs_len]
  have := (List.getElem?_eq_some_iff.1 h).1
  omega
theorem Ex.drop1 {l : List Ex} {x : Ex} (h : l[1]? = some x) : (recs Ex.cs l).drop 5 = [I x.op, I x.t, I x.n, I x.m, .ro x.l.length (recs Ex.cs x.l)] ++ recs Ex.cs (l.drop 2) := by
  have := Ex.at h
  simpa using this

def cntK (s : Sc) (e : Ex) (cs : List Int) : Int :=
  if one1 e then cs.getD 0 0
  else if two1 e [14, 15] then min 25 (cs.getD 0 0 + cs.getD 1 0)
  else if two1 e [16, 20, 21] then min 25 (2 * (cs.getD 0 0 + cs.getD 1 0))
  else if nleaf s e then 1 else 25
mutual
def cnt (s : Sc) : Ex → Int
  | .mk op t n m l => cntK s (.mk op t n m l) (cntL s l)
def cntL (s : Sc) : List Ex → List Int
  | [] => []
  | e :: l => cnt s e :: cntL s l
end
theorem cntL_eq (s : Sc) : ∀ l, cntL s l = l.map (cnt s)
  | [] => rfl
  | e :: l => by rw [cntL, cntL_eq s l, List.map_cons]
theorem cnt_eq (s : Sc) (e : Ex) : cnt s e = cntK s e (e.l.map (cnt s)) := by
  cases e with
  | mk op t n m l => rw [cnt, cntL_eq]; rfl
theorem one1_len {e : Ex} (h : one1 e = true) : e.l.length = 1 := by simp [one1] at h; exact h.2
theorem two1_len {e : Ex} {ops : List Int} (h : two1 e ops = true) : e.l.length = 2 := by simp [two1] at h; exact h.1.2
theorem cnt_in (s : Sc) : ∀ e : Ex, 1 ≤ cnt s e ∧ cnt s e ≤ 25 := by
  intro e
  induction e using Ex.ind with
  | _ e ih =>
  rw [cnt_eq, cntK]
  have get : ∀ i, i < e.l.length → 1 ≤ (e.l.map (cnt s)).getD i 0 ∧ (e.l.map (cnt s)).getD i 0 ≤ 25 := by
    intro i hi
    rw [List.getD_eq_getElem?_getD, List.getElem?_map, List.getElem?_eq_getElem hi]
    exact ih _ (List.getElem_mem hi)
  split
  · rename_i h; exact get 0 (by rw [one1_len h]; omega)
  split
  · rename_i h; have h0 := get 0 (by rw [two1_len h]; omega); have h1 := get 1 (by rw [two1_len h]; omega); omega
  split
  · rename_i h; have h0 := get 0 (by rw [two1_len h]; omega); have h1 := get 1 (by rw [two1_len h]; omega); omega
  split <;> omega
abbrev scR (s : Sc) : AV := .rp [.ro s.vars.length (recs Vr.cs s.vars), .ro s.blocks.length (recs Bk.cs s.blocks), .ro s.sigs.length (recs Sg.cs s.sigs), .ro s.slots.length (recs intC s.slots)]
abbrev exR (e : Ex) : AV := .rp [I e.op, I e.t, I e.n, I e.m, .ro e.l.length (recs Ex.cs e.l)]
theorem scR_closed (s : Sc) : (scR s).closed = true := by simp [AV.closedL, AV.closed, vr_closed, bk_closed, sg_closed, ints_closed]
theorem exR_closed (e : Ex) : (exR e).closed = true := by simp [AV.closedL, AV.closed, ex_closed]
theorem c49 (s : Sc) (e x y : Ex) (hx : e.l[0]? = some x) (hy : e.l[1]? = some y) (h0 : PFn E 15 [scA s, exA x] (I (cnt s x))) (h1 : PFn E 15 [scA s, exA y] (I (cnt s y))) : PFn E 49 [scR s, exR e] (I (cnt s x + cnt s y)) := by
  have k0 := cnt_in s x
  have k1 := cnt_in s y
  have hl := (List.getElem?_eq_some_iff.1 hy).1
  have t0 := Ex.take0 hx
  have l0 := Ex.len0 hx
  have d1 := Ex.drop1 hy
  have i0 : (0 : Int) ≤ 0 ∧ (0 : Int) < (e.l.length : Int) := by omega
  have i1 : (0 : Int) ≤ 1 ∧ (1 : Int) < (e.l.length : Int) := by omega
  have hw : IntKind.i64.wrap (cnt s x + cnt s y) = cnt s x + cnt s y := wrap64 (by unfold In64; omega)
  refine pfn_F fn49 (by simp) ?_
  simp only [Go.Proofs.Tryd.f49, Option.getD_some, List.append_eq, List.cons_append, List.nil_append]
  simp (config := { maxSteps := 1000000 }) only [W1_skip, W1_ret, W1_label, W1_exit, W1_seq, W1_cond, W1_block, W1_region, W1_draw, W1_loop, O1_nil, O1_n, O1_s, slotD_s, slotD_z, V1_s, U1_b, U1_u, If1_t, If1_f, If1_not, eqB_tt, eqB_tf, eqB_ft, eqB_ff, X1_eq, H1_f, H1_h, H1_c, how, B1_some, B1_none, B1_ite, D1_b, setT_t, setT_c, T1_n, T1_r, T1_x, K1_n, K1_r, K1_x, FinP_n, FinP_r, bindO_some, RetOk_lit, FinX_n, FinX_r, FinK_n, FinK_r, oneOrTup_1, RetX_lit, getCells, List.set_cons_zero, List.set_cons_succ, putAt, fillA, sizesOf, allTyped, List.all_cons, List.all_nil, Bool.and_self, Bool.true_and, Bool.and_true, Nat.reduceMul, Int.reduceLT, Int.reduceGT, Int.reduceGE, Int.cast_ofNat_Int, Int.reduceLE, Int.reduceToNat, Int.reduceAdd, Int.reduceNeg, Int.reduceEq, Int.reduceBNe, Int.reduceBEq, decide_false, zerosA, List.replicate_succ, List.replicate_zero, List.flatten_cons, List.flatten_nil, Option.isSome_some, dstOk, evRes, evRes1, evFree, evHeap, evA, upd_ne, upd_same, initF, updO_some, updO_none, kindOf, AV.storable, AV.cells, AV.one, Value.oneCell', mode, E_pol, pol, binA, unA, litInt, litBool, litStr, eqA, callee, evArgs, evParts, ne_eq, Nat.reduceEqDiff, Nat.reduceLT, not_false_eq_true, decide_true, if_true, reduceIte, List.take_zero, List.take_succ_cons, List.length_cons, List.length_nil, Nat.reduceAdd, Nat.reduceLeDiff, List.getElem?_cons_zero, List.getElem?_cons_succ, List.getD_cons_zero, List.getD_cons_succ, List.drop_zero, List.drop_succ_cons, List.map_cons, List.map_nil, List.cons_append, List.nil_append, List.append_nil, List.head?_cons, Int.toNat_natCast, Nat.zero_le, and_self, true_and, and_true, Bool.not_true, Bool.not_false, Option.map_some, true_implies, Bool.true_eq_false, Bool.false_eq_true, reduceCtorEq, false_implies, List.mem_cons, List.not_mem_nil, Prod.mk.injEq, false_and, and_false, or_false, false_or, or_true, true_or, if_false, ty3, ty3k, ty3s, ty3t, ty3z, ty3o, ty23, ty23k, ty23s, ty23t, ty23z, ty23o, ty24, ty24k, ty24s, ty24t, ty24z, ty24o, ty32, ty32k, ty32s, ty32t, ty32z, ty32o, ty35, ty35k, ty35s, ty35t, ty35z, ty35o, ty37, ty37k, ty37s, ty37t, ty37z, ty37o, ty41, ty41k, ty41s, ty41t, ty41z, ty41o, ty43, ty43k, ty43s, ty43t, ty43z, ty43o, t0, l0, d1, i0, i1]
  refine C1.pure h0 (by simp [AV.closedL, scA_closed, exA_closed]) ?_
  simp (config := { maxSteps := 1000000 }) only [W1_skip, W1_ret, W1_label, W1_exit, W1_seq, W1_cond, W1_block, W1_region, W1_draw, W1_loop, O1_nil, O1_n, O1_s, slotD_s, slotD_z, V1_s, U1_b, U1_u, If1_t, If1_f, If1_not, eqB_tt, eqB_tf, eqB_ft, eqB_ff, X1_eq, H1_f, H1_h, H1_c, how, B1_some, B1_none, B1_ite, D1_b, setT_t, setT_c, T1_n, T1_r, T1_x, K1_n, K1_r, K1_x, FinP_n, FinP_r, bindO_some, RetOk_lit, FinX_n, FinX_r, FinK_n, FinK_r, oneOrTup_1, RetX_lit, getCells, List.set_cons_zero, List.set_cons_succ, putAt, fillA, sizesOf, allTyped, List.all_cons, List.all_nil, Bool.and_self, Bool.true_and, Bool.and_true, Nat.reduceMul, Int.reduceLT, Int.reduceGT, Int.reduceGE, Int.cast_ofNat_Int, Int.reduceLE, Int.reduceToNat, Int.reduceAdd, Int.reduceNeg, Int.reduceEq, Int.reduceBNe, Int.reduceBEq, decide_false, zerosA, List.replicate_succ, List.replicate_zero, List.flatten_cons, List.flatten_nil, Option.isSome_some, dstOk, evRes, evRes1, evFree, evHeap, evA, upd_ne, upd_same, initF, updO_some, updO_none, kindOf, AV.storable, AV.cells, AV.one, Value.oneCell', mode, E_pol, pol, binA, unA, litInt, litBool, litStr, eqA, callee, evArgs, evParts, ne_eq, Nat.reduceEqDiff, Nat.reduceLT, not_false_eq_true, decide_true, if_true, reduceIte, List.take_zero, List.take_succ_cons, List.length_cons, List.length_nil, Nat.reduceAdd, Nat.reduceLeDiff, List.getElem?_cons_zero, List.getElem?_cons_succ, List.getD_cons_zero, List.getD_cons_succ, List.drop_zero, List.drop_succ_cons, List.map_cons, List.map_nil, List.cons_append, List.nil_append, List.append_nil, List.head?_cons, Int.toNat_natCast, Nat.zero_le, and_self, true_and, and_true, Bool.not_true, Bool.not_false, Option.map_some, true_implies, Bool.true_eq_false, Bool.false_eq_true, reduceCtorEq, false_implies, List.mem_cons, List.not_mem_nil, Prod.mk.injEq, false_and, and_false, or_false, false_or, or_true, true_or, if_false, ty3, ty3k, ty3s, ty3t, ty3z, ty3o, ty23, ty23k, ty23s, ty23t, ty23z, ty23o, ty24, ty24k, ty24s, ty24t, ty24z, ty24o, ty32, ty32k, ty32s, ty32t, ty32z, ty32o, ty35, ty35k, ty35s, ty35t, ty35z, ty35o, ty37, ty37k, ty37s, ty37t, ty37z, ty37o, ty41, ty41k, ty41s, ty41t, ty41z, ty41o, ty43, ty43k, ty43s, ty43t, ty43z, ty43o, t0, l0, d1, i0, i1]
  refine C1.pure h1 (by simp [AV.closedL, scA_closed, exA_closed]) ?_
  simp (config := { maxSteps := 1000000 }) only [W1_skip, W1_ret, W1_label, W1_exit, W1_seq, W1_cond, W1_block, W1_region, W1_draw, W1_loop, O1_nil, O1_n, O1_s, slotD_s, slotD_z, V1_s, U1_b, U1_u, If1_t, If1_f, If1_not, eqB_tt, eqB_tf, eqB_ft, eqB_ff, X1_eq, H1_f, H1_h, H1_c, how, B1_some, B1_none, B1_ite, D1_b, setT_t, setT_c, T1_n, T1_r, T1_x, K1_n, K1_r, K1_x, FinP_n, FinP_r, bindO_some, RetOk_lit, FinX_n, FinX_r, FinK_n, FinK_r, oneOrTup_1, RetX_lit, getCells, List.set_cons_zero, List.set_cons_succ, putAt, fillA, sizesOf, allTyped, List.all_cons, List.all_nil, Bool.and_self, Bool.true_and, Bool.and_true, Nat.reduceMul, Int.reduceLT, Int.reduceGT, Int.reduceGE, Int.cast_ofNat_Int, Int.reduceLE, Int.reduceToNat, Int.reduceAdd, Int.reduceNeg, Int.reduceEq, Int.reduceBNe, Int.reduceBEq, decide_false, zerosA, List.replicate_succ, List.replicate_zero, List.flatten_cons, List.flatten_nil, Option.isSome_some, dstOk, evRes, evRes1, evFree, evHeap, evA, upd_ne, upd_same, initF, updO_some, updO_none, kindOf, AV.storable, AV.cells, AV.one, Value.oneCell', mode, E_pol, pol, binA, unA, litInt, litBool, litStr, eqA, callee, evArgs, evParts, ne_eq, Nat.reduceEqDiff, Nat.reduceLT, not_false_eq_true, decide_true, if_true, reduceIte, List.take_zero, List.take_succ_cons, List.length_cons, List.length_nil, Nat.reduceAdd, Nat.reduceLeDiff, List.getElem?_cons_zero, List.getElem?_cons_succ, List.getD_cons_zero, List.getD_cons_succ, List.drop_zero, List.drop_succ_cons, List.map_cons, List.map_nil, List.cons_append, List.nil_append, List.append_nil, List.head?_cons, Int.toNat_natCast, Nat.zero_le, and_self, true_and, and_true, Bool.not_true, Bool.not_false, Option.map_some, true_implies, Bool.true_eq_false, Bool.false_eq_true, reduceCtorEq, false_implies, List.mem_cons, List.not_mem_nil, Prod.mk.injEq, false_and, and_false, or_false, false_or, or_true, true_or, if_false, ty3, ty3k, ty3s, ty3t, ty3z, ty3o, ty23, ty23k, ty23s, ty23t, ty23z, ty23o, ty24, ty24k, ty24s, ty24t, ty24z, ty24o, ty32, ty32k, ty32s, ty32t, ty32z, ty32o, ty35, ty35k, ty35s, ty35t, ty35z, ty35o, ty37, ty37k, ty37s, ty37t, ty37z, ty37o, ty41, ty41k, ty41s, ty41t, ty41z, ty41o, ty43, ty43k, ty43s, ty43t, ty43z, ty43o, t0, l0, d1, i0, i1, hw]
  first | exact ⟨by kernel_rfl, rfl⟩ | kernel_rfl
end Go.Abs

