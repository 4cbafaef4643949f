/- Contracts: does the program answer at all; the normal form of an expression, or that there is none. Conditions: none. -/
import Derived.Test.YtnjaedaofjkbnaaDoorC39
import Derived.Test.YtnjaedaofjkbnaaDoorC27
import Derived.Test.YtnjaedaofjkbnaaDoorC25
set_option maxRecDepth 100000
set_option linter.unusedVariables false
set_option linter.unusedSimpArgs false
namespace Go.Abs
open Go
def ay1 : Ex := .mk 3 0 0 0 []
def ay2 : Ex := .mk 3 0 1 0 []
def ay3 : Ex := .mk 7 0 0 14 [ay1, ay2]
def ay4 : Ex := .mk 6 0 0 17 [ay3]
def ay0 : Sc := ⟨[], [], [], [1, 1]⟩
def ay5 : Ex := .mk 7 0 0 15 [.mk 6 0 0 17 [ay1], .mk 6 0 0 17 [ay2]]
theorem ay_ok : okN ay0 ay4 = true := by kernel_rfl
theorem ay_nm : normN ay0 ay4 = ay5 := by kernel_rfl
theorem fiy1 : ay1.Fit := .mk _ (by decide) (in64_s (by decide)) (in64_s (by decide)) (in64_s (by decide)) (in64_s (by decide)) (by intro x hx; cases hx)
theorem fiy2 : ay2.Fit := .mk _ (by decide) (in64_s (by decide)) (in64_s (by decide)) (in64_s (by decide)) (in64_s (by decide)) (by intro x hx; cases hx)
theorem fiy3 : ay3.Fit := .mk _ (by decide) (in64_s (by decide)) (in64_s (by decide)) (in64_s (by decide)) (in64_s (by decide)) (by
  intro x hx
  have hx : x ∈ [ay1, ay2] := hx
  simp at hx
  rcases hx with rfl | rfl
  · exact fiy1
  · exact fiy2)
theorem fiy4 : ay4.Fit := .mk _ (by decide) (in64_s (by decide)) (in64_s (by decide)) (in64_s (by decide)) (in64_s (by decide)) (by
  intro x hx
  have hx : x ∈ [ay3] := hx
  simp at hx
  rw [hx]
  exact fiy3)
theorem smy4 : ay4.Small := Ex.small_of _ (by decide)
def ayX : List AV := recs Ex.cs ay5.l
abbrev ayA : AV := .agg [I 7, I 0, I 0, I 15, .ro 2 ayX]
abbrev nilY : AV := .lit (.slice none 0 0)
theorem wky1 : WkL [I 3, I 0, I 0, I 0, nilY] ay1.cs := .cons (.refl _) (.cons (.refl _) (.cons (.refl _) (.cons (.refl _) (.cons .nil (.refl _)))))
theorem wky2 : WkL [I 3, I 0, I 1, I 0, nilY] ay2.cs := .cons (.refl _) (.cons (.refl _) (.cons (.refl _) (.cons (.refl _) (.cons .nil (.refl _)))))
theorem wky3 : WkL [I 7, I 0, I 0, I 14, .ro 2 [I 3, I 0, I 0, I 0, nilY, I 3, I 0, I 1, I 0, nilY]] ay3.cs :=
  .cons (.refl _) (.cons (.refl _) (.cons (.refl _) (.cons (.refl _) (.cons (Wk.ro (WkL.append wky1 (WkL.append wky2 (.refl [])))) (.refl _)))))
theorem ky17 : PFn E 17 [.agg [nilY, nilY, nilY, .ro 2 [I 1, I 1]], .agg [I 6, I 0, I 0, I 17, .ro 1 [I 7, I 0, I 0, I 14, .ro 2 [I 3, I 0, I 0, I 0, nilY, I 3, I 0, I 1, I 0, nilY]]]] (.tup [ayA, B true]) := by
  have h := c17 ay0 ay4 fiy4 smy4
  rw [ay_nm, ay_ok] at h
  refine h.wk (.cons (Wk.agg (.cons .nil (.cons .nil (.cons .nil (.refl _))))) (.cons (Wk.agg (.cons (.refl _) (.cons (.refl _) (.cons (.refl _) (.cons (.refl _) (.cons (Wk.ro ?_) (.refl _))))))) (.refl _))) (.refl _)
  exact WkL.append wky3 (.refl [])
theorem ayX_5 : ayX = [I 6, I 0, I 0, I 17, .ro 1 (recs Ex.cs [ay1]), I 6, I 0, I 0, I 17, .ro 1 (recs Ex.cs [ay2])] := by
  simp [ayX, ay5, Ex.l, recs_cons, recs_nil, Ex.cs_eq, Ex.op, Ex.t, Ex.n, Ex.m]
theorem c9 : PFn E 9 [] (B true) := by
  refine pfn_F fn9 (by simp) ?_
  simp only [Go.Proofs.Tryd.f9, Option.getD_some, List.append_eq, List.cons_append, List.nil_append]
  repeat' (first
    | refine If1.split (fun hb => ?_) (fun hb => ?_)
    | refine C1.pure (ky17) rfl ?_
    | simp (config := { maxSteps := 1000000 }) only [W1_skip, W1_ret, W1_label, W1_exit, W1_seq, W1_cond, W1_block, W1_region, W1_draw, W1_loop, O1_nil, O1_n, O1_s, slotD_s, slotD_z, V1_s, U1_b, U1_u, If1_t, If1_f, If1_not, eqB_tt, eqB_tf, eqB_ft, eqB_ff, X1_eq, H1_f, H1_h, H1_c, how, B1_some, B1_none, B1_ite, D1_b, setT_t, setT_c, T1_n, T1_r, T1_x, K1_n, K1_r, K1_x, FinP_n, FinP_r, bindO_some, RetOk_lit, FinX_n, FinX_r, FinK_n, FinK_r, oneOrTup_1, RetX_lit, getCells, List.set_cons_zero, List.set_cons_succ, putAt, fillA, sizesOf, allTyped, List.all_cons, List.all_nil, Bool.and_self, Bool.true_and, Bool.and_true, Nat.reduceMul, Int.reduceLT, Int.reduceGT, Int.reduceGE, Int.cast_ofNat_Int, Int.reduceLE, Int.reduceToNat, Int.reduceAdd, Int.reduceNeg, Int.reduceEq, Int.reduceBNe, Int.reduceBEq, decide_false, zerosA, List.replicate_succ, List.replicate_zero, List.flatten_cons, List.flatten_nil, Option.isSome_some, dstOk, evRes, evRes1, evFree, evHeap, evA, upd_ne, upd_same, initF, updO_some, updO_none, kindOf, AV.storable, AV.cells, AV.one, Value.oneCell', mode, E_pol, pol, binA, unA, litInt, litBool, litStr, eqA, callee, evArgs, evParts, ne_eq, Nat.reduceEqDiff, Nat.reduceLT, not_false_eq_true, decide_true, if_true, reduceIte, List.take_zero, List.take_succ_cons, List.length_cons, List.length_nil, Nat.reduceAdd, Nat.reduceLeDiff, List.getElem?_cons_zero, List.getElem?_cons_succ, List.getD_cons_zero, List.getD_cons_succ, List.drop_zero, List.drop_succ_cons, List.map_cons, List.map_nil, List.cons_append, List.nil_append, List.append_nil, List.head?_cons, Int.toNat_natCast, Nat.zero_le, and_self, true_and, and_true, Bool.not_true, Bool.not_false, Option.map_some, true_implies, Bool.true_eq_false, Bool.false_eq_true, reduceCtorEq, false_implies, List.mem_cons, List.not_mem_nil, Prod.mk.injEq, false_and, and_false, or_false, false_or, or_true, true_or, if_false, ty3, ty3k, ty3s, ty3t, ty3z, ty3o, ty23, ty23k, ty23s, ty23t, ty23z, ty23o, ty24, ty24k, ty24s, ty24t, ty24z, ty24o, ty32, ty32k, ty32s, ty32t, ty32z, ty32o, ty35, ty35k, ty35s, ty35t, ty35z, ty35o, ty37, ty37k, ty37s, ty37t, ty37z, ty37o, ty41, ty41k, ty41s, ty41t, ty41z, ty41o, ty43, ty43k, ty43s, ty43t, ty43z, ty43o, cz, at_end, set_end, ayX_5]
    | refine And.intro (a := drawOk _ _ = true) (by kernel_rfl) ?_
    | (refine id (α := drawOk _ _ = true) ?_; kernel_rfl))
theorem c3 (c : Cas) (e : Ex) (hc : c.Fit) (he : e.Fit) : PFn E 3 [casA c, exA e] (B true) := by
  obtain ⟨r, k7, b7, rfl, h7⟩ := c7 c hc
  obtain ⟨r, k8, b8, rfl, h8⟩ := c8s e he 100 (by unfold In64; omega)
  have c7' : AV.closedL [casA c] = true := by rw [AV.closedL, AV.closed, cas_closed]; rfl
  by_cases hall : b7 = true ∧ b8 = true
  · obtain ⟨rfl, rfl⟩ := hall
    obtain ⟨hu, hun⟩ := h7 rfl
    have hs : e.Small := Ex.small_of e (by have := h8 rfl; omega)
    obtain ⟨s, k10⟩ := c10s c.p c.u hu hun
    have cl10 : AV.closedL [prA c.p, I c.u] = true := by simp [AV.closedL, AV.closed, un_closed, vr_closed, bk_closed, cn_closed]
    have k11 := c11 s e he hs
    have k12 := c12 s e he
    have k13 := c13 s e he hs
    have k14 := c14 s e he
    rw [is_same] at k13
    have k15 := c15 s e he hs
    have k16 := c16 s e he hs
    rw [cnt_same] at k16
    have k17 := c17 s e he hs
    have e1 : (nleaf s e != nleaf s e) = false := by simp
    have e4 : (nleaf s e == nleaf s e) = true := by simp
    have e5 : (isR s e == isR s e) = true := by simp
    have e2 : (isR s e != isR s e) = false := by simp
    have e3 : (cnt s e != cnt s e) = false := by simp
    refine pfn_F fn3 (by simp) ?_
    simp only [Go.Proofs.Tryd.f3, Option.getD_some, List.append_eq, List.cons_append, List.nil_append]
    by_cases hn : cnt s e ≤ 24
    · have ho : okN s e = true := by simp [okN, hn]
      have hg : decide (cnt s e > 24) = false := by simp; omega
      have ht := cnt_truth hn
      have hfit := nm_fit s e he ht false
      have k19 := (c19 s e ht).1
      have k18 := c18 (nm1 e false) hfit (nm1 e false)
      rw [same1_iff.2 rfl] at k18
      rw [normN, ho, if_pos rfl] at k17
      repeat' (first
        | refine If1.split (fun hb => ?_) (fun hb => ?_)
        | refine C1.pure (k7) c7' ?_
        | refine C1.pure (k8) (by simp [AV.closedL, AV.closed, vr_closed, bk_closed, sg_closed, ints_closed, ex_closed]) ?_
        | refine C1.pure (k10) cl10 ?_
        | refine C1.pure (k11) (by simp [AV.closedL, AV.closed, vr_closed, bk_closed, sg_closed, ints_closed, ex_closed]) ?_
        | refine C1.pure (k12) (by simp [AV.closedL, AV.closed, vr_closed, bk_closed, sg_closed, ints_closed, ex_closed]) ?_
        | refine C1.pure (k13) (by simp [AV.closedL, AV.closed, vr_closed, bk_closed, sg_closed, ints_closed, ex_closed]) ?_
        | refine C1.pure (k14) (by simp [AV.closedL, AV.closed, vr_closed, bk_closed, sg_closed, ints_closed, ex_closed]) ?_
        | refine C1.pure (k15) (by simp [AV.closedL, AV.closed, vr_closed, bk_closed, sg_closed, ints_closed, ex_closed]) ?_
        | refine C1.pure (k16) (by simp [AV.closedL, AV.closed, vr_closed, bk_closed, sg_closed, ints_closed, ex_closed]) ?_
        | refine C1.pure (k17) (by simp [AV.closedL, AV.closed, vr_closed, bk_closed, sg_closed, ints_closed, ex_closed]) ?_
        | refine C1.pure (k18) (by simp [AV.closedL, AV.closed, vr_closed, bk_closed, sg_closed, ints_closed, ex_closed]) ?_
        | refine C1.pure (k19) (by simp [AV.closedL, AV.closed, vr_closed, bk_closed, sg_closed, ints_closed, ex_closed]) ?_
        | refine C1.pure (c9) rfl ?_
        | simp (config := { maxSteps := 1000000 }) only [W1_skip, W1_ret, W1_label, W1_exit, W1_seq, W1_cond, W1_block, W1_region, W1_draw, W1_loop, O1_nil, O1_n, O1_s, slotD_s, slotD_z, V1_s, U1_b, U1_u, If1_t, If1_f, If1_not, eqB_tt, eqB_tf, eqB_ft, eqB_ff, X1_eq, H1_f, H1_h, H1_c, how, B1_some, B1_none, B1_ite, D1_b, setT_t, setT_c, T1_n, T1_r, T1_x, K1_n, K1_r, K1_x, FinP_n, FinP_r, bindO_some, RetOk_lit, FinX_n, FinX_r, FinK_n, FinK_r, oneOrTup_1, RetX_lit, getCells, List.set_cons_zero, List.set_cons_succ, putAt, fillA, sizesOf, allTyped, List.all_cons, List.all_nil, Bool.and_self, Bool.true_and, Bool.and_true, Nat.reduceMul, Int.reduceLT, Int.reduceGT, Int.reduceGE, Int.cast_ofNat_Int, Int.reduceLE, Int.reduceToNat, Int.reduceAdd, Int.reduceNeg, Int.reduceEq, Int.reduceBNe, Int.reduceBEq, decide_false, zerosA, List.replicate_succ, List.replicate_zero, List.flatten_cons, List.flatten_nil, Option.isSome_some, dstOk, evRes, evRes1, evFree, evHeap, evA, upd_ne, upd_same, initF, updO_some, updO_none, kindOf, AV.storable, AV.cells, AV.one, Value.oneCell', mode, E_pol, pol, binA, unA, litInt, litBool, litStr, eqA, callee, evArgs, evParts, ne_eq, Nat.reduceEqDiff, Nat.reduceLT, not_false_eq_true, decide_true, if_true, reduceIte, List.take_zero, List.take_succ_cons, List.length_cons, List.length_nil, Nat.reduceAdd, Nat.reduceLeDiff, List.getElem?_cons_zero, List.getElem?_cons_succ, List.getD_cons_zero, List.getD_cons_succ, List.drop_zero, List.drop_succ_cons, List.map_cons, List.map_nil, List.cons_append, List.nil_append, List.append_nil, List.head?_cons, Int.toNat_natCast, Nat.zero_le, and_self, true_and, and_true, Bool.not_true, Bool.not_false, Option.map_some, true_implies, Bool.true_eq_false, Bool.false_eq_true, reduceCtorEq, false_implies, List.mem_cons, List.not_mem_nil, Prod.mk.injEq, false_and, and_false, or_false, false_or, or_true, true_or, if_false, ty3, ty3k, ty3s, ty3t, ty3z, ty3o, ty3b, ty4, ty4k, ty4s, ty4t, ty4z, ty4o, ty4b, ty22, ty22k, ty22s, ty22t, ty22z, ty22o, ty22b, ty23, ty23k, ty23s, ty23t, ty23z, ty23o, ty23b, ty24, ty24k, ty24s, ty24t, ty24z, ty24o, ty24b, ty25, ty25k, ty25s, ty25t, ty25z, ty25o, ty25b, ty27, ty27k, ty27s, ty27t, ty27z, ty27o, ty27b, ty31, ty31k, ty31s, ty31t, ty31z, ty31o, ty31b, ty32, ty32k, ty32s, ty32t, ty32z, ty32o, ty32b, ty34, ty34k, ty34s, ty34t, ty34z, ty34o, ty34b, ty35, ty35k, ty35s, ty35t, ty35z, ty35o, ty35b, ty37, ty37k, ty37s, ty37t, ty37z, ty37o, ty37b, ty41, ty41k, ty41s, ty41t, ty41z, ty41o, ty41b, ty43, ty43k, ty43s, ty43t, ty43z, ty43o, ty43b, cz, at_end, set_end, e1, e2, e3, e4, e5, hg]
        | refine And.intro (a := drawOk _ _ = true) (by kernel_rfl) ?_
        | (refine id (α := drawOk _ _ = true) ?_; kernel_rfl))
    · have ho : okN s e = false := by simp [okN, hn]
      have hg : decide (cnt s e > 24) = true := by simp; omega
      have k18 := (c18 ex0 (.mk _ (by decide) (in64_s (by decide)) (in64_s (by decide)) (in64_s (by decide)) (in64_s (by decide)) (by intro x hx; cases hx)) ex0).wk (.cons (.refl _) (.cons wk_ex0 (.refl _))) (.refl _)
      rw [same1_iff.2 rfl] at k18
      rw [normN, ho, if_neg (by simp)] at k17
      repeat' (first
        | refine If1.split (fun hb => ?_) (fun hb => ?_)
        | refine C1.pure (k7) c7' ?_
        | refine C1.pure (k8) (by simp [AV.closedL, AV.closed, vr_closed, bk_closed, sg_closed, ints_closed, ex_closed]) ?_
        | refine C1.pure (k10) cl10 ?_
        | refine C1.pure (k11) (by simp [AV.closedL, AV.closed, vr_closed, bk_closed, sg_closed, ints_closed, ex_closed]) ?_
        | refine C1.pure (k12) (by simp [AV.closedL, AV.closed, vr_closed, bk_closed, sg_closed, ints_closed, ex_closed]) ?_
        | refine C1.pure (k13) (by simp [AV.closedL, AV.closed, vr_closed, bk_closed, sg_closed, ints_closed, ex_closed]) ?_
        | refine C1.pure (k14) (by simp [AV.closedL, AV.closed, vr_closed, bk_closed, sg_closed, ints_closed, ex_closed]) ?_
        | refine C1.pure (k15) (by simp [AV.closedL, AV.closed, vr_closed, bk_closed, sg_closed, ints_closed, ex_closed]) ?_
        | refine C1.pure (k16) (by simp [AV.closedL, AV.closed, vr_closed, bk_closed, sg_closed, ints_closed, ex_closed]) ?_
        | refine C1.pure (k17) (by simp [AV.closedL, AV.closed, vr_closed, bk_closed, sg_closed, ints_closed, ex_closed]) ?_
        | refine C1.pure (k18) (by simp [AV.closedL, AV.closed, vr_closed, bk_closed, sg_closed, ints_closed, ex_closed]) ?_
        | refine C1.pure (c9) rfl ?_
        | simp (config := { maxSteps := 1000000 }) only [W1_skip, W1_ret, W1_label, W1_exit, W1_seq, W1_cond, W1_block, W1_region, W1_draw, W1_loop, O1_nil, O1_n, O1_s, slotD_s, slotD_z, V1_s, U1_b, U1_u, If1_t, If1_f, If1_not, eqB_tt, eqB_tf, eqB_ft, eqB_ff, X1_eq, H1_f, H1_h, H1_c, how, B1_some, B1_none, B1_ite, D1_b, setT_t, setT_c, T1_n, T1_r, T1_x, K1_n, K1_r, K1_x, FinP_n, FinP_r, bindO_some, RetOk_lit, FinX_n, FinX_r, FinK_n, FinK_r, oneOrTup_1, RetX_lit, getCells, List.set_cons_zero, List.set_cons_succ, putAt, fillA, sizesOf, allTyped, List.all_cons, List.all_nil, Bool.and_self, Bool.true_and, Bool.and_true, Nat.reduceMul, Int.reduceLT, Int.reduceGT, Int.reduceGE, Int.cast_ofNat_Int, Int.reduceLE, Int.reduceToNat, Int.reduceAdd, Int.reduceNeg, Int.reduceEq, Int.reduceBNe, Int.reduceBEq, decide_false, zerosA, List.replicate_succ, List.replicate_zero, List.flatten_cons, List.flatten_nil, Option.isSome_some, dstOk, evRes, evRes1, evFree, evHeap, evA, upd_ne, upd_same, initF, updO_some, updO_none, kindOf, AV.storable, AV.cells, AV.one, Value.oneCell', mode, E_pol, pol, binA, unA, litInt, litBool, litStr, eqA, callee, evArgs, evParts, ne_eq, Nat.reduceEqDiff, Nat.reduceLT, not_false_eq_true, decide_true, if_true, reduceIte, List.take_zero, List.take_succ_cons, List.length_cons, List.length_nil, Nat.reduceAdd, Nat.reduceLeDiff, List.getElem?_cons_zero, List.getElem?_cons_succ, List.getD_cons_zero, List.getD_cons_succ, List.drop_zero, List.drop_succ_cons, List.map_cons, List.map_nil, List.cons_append, List.nil_append, List.append_nil, List.head?_cons, Int.toNat_natCast, Nat.zero_le, and_self, true_and, and_true, Bool.not_true, Bool.not_false, Option.map_some, true_implies, Bool.true_eq_false, Bool.false_eq_true, reduceCtorEq, false_implies, List.mem_cons, List.not_mem_nil, Prod.mk.injEq, false_and, and_false, or_false, false_or, or_true, true_or, if_false, ty3, ty3k, ty3s, ty3t, ty3z, ty3o, ty3b, ty4, ty4k, ty4s, ty4t, ty4z, ty4o, ty4b, ty22, ty22k, ty22s, ty22t, ty22z, ty22o, ty22b, ty23, ty23k, ty23s, ty23t, ty23z, ty23o, ty23b, ty24, ty24k, ty24s, ty24t, ty24z, ty24o, ty24b, ty25, ty25k, ty25s, ty25t, ty25z, ty25o, ty25b, ty27, ty27k, ty27s, ty27t, ty27z, ty27o, ty27b, ty31, ty31k, ty31s, ty31t, ty31z, ty31o, ty31b, ty32, ty32k, ty32s, ty32t, ty32z, ty32o, ty32b, ty34, ty34k, ty34s, ty34t, ty34z, ty34o, ty34b, ty35, ty35k, ty35s, ty35t, ty35z, ty35o, ty35b, ty37, ty37k, ty37s, ty37t, ty37z, ty37o, ty37b, ty41, ty41k, ty41s, ty41t, ty41z, ty41o, ty41b, ty43, ty43k, ty43s, ty43t, ty43z, ty43o, ty43b, cz, at_end, set_end, e1, e2, e3, e4, e5, hg]
        | refine And.intro (a := drawOk _ _ = true) (by kernel_rfl) ?_
        | (refine id (α := drawOk _ _ = true) ?_; kernel_rfl))
  · refine pfn_F fn3 (by simp) ?_
    simp only [Go.Proofs.Tryd.f3, Option.getD_some, List.append_eq, List.cons_append, List.nil_append]
    repeat' (first
      | refine If1.split (fun hb => ?_) (fun hb => ?_)
      | refine C1.pure (k7) c7' ?_
      | refine C1.pure (k8) (by simp [AV.closedL, AV.closed, vr_closed, bk_closed, sg_closed, ints_closed, ex_closed]) ?_
      | refine C1.pure (c9) rfl ?_
      | simp (config := { maxSteps := 1000000 }) only [W1_skip, W1_ret, W1_label, W1_exit, W1_seq, W1_cond, W1_block, W1_region, W1_draw, W1_loop, O1_nil, O1_n, O1_s, slotD_s, slotD_z, V1_s, U1_b, U1_u, If1_t, If1_f, If1_not, eqB_tt, eqB_tf, eqB_ft, eqB_ff, X1_eq, H1_f, H1_h, H1_c, how, B1_some, B1_none, B1_ite, D1_b, setT_t, setT_c, T1_n, T1_r, T1_x, K1_n, K1_r, K1_x, FinP_n, FinP_r, bindO_some, RetOk_lit, FinX_n, FinX_r, FinK_n, FinK_r, oneOrTup_1, RetX_lit, getCells, List.set_cons_zero, List.set_cons_succ, putAt, fillA, sizesOf, allTyped, List.all_cons, List.all_nil, Bool.and_self, Bool.true_and, Bool.and_true, Nat.reduceMul, Int.reduceLT, Int.reduceGT, Int.reduceGE, Int.cast_ofNat_Int, Int.reduceLE, Int.reduceToNat, Int.reduceAdd, Int.reduceNeg, Int.reduceEq, Int.reduceBNe, Int.reduceBEq, decide_false, zerosA, List.replicate_succ, List.replicate_zero, List.flatten_cons, List.flatten_nil, Option.isSome_some, dstOk, evRes, evRes1, evFree, evHeap, evA, upd_ne, upd_same, initF, updO_some, updO_none, kindOf, AV.storable, AV.cells, AV.one, Value.oneCell', mode, E_pol, pol, binA, unA, litInt, litBool, litStr, eqA, callee, evArgs, evParts, ne_eq, Nat.reduceEqDiff, Nat.reduceLT, not_false_eq_true, decide_true, if_true, reduceIte, List.take_zero, List.take_succ_cons, List.length_cons, List.length_nil, Nat.reduceAdd, Nat.reduceLeDiff, List.getElem?_cons_zero, List.getElem?_cons_succ, List.getD_cons_zero, List.getD_cons_succ, List.drop_zero, List.drop_succ_cons, List.map_cons, List.map_nil, List.cons_append, List.nil_append, List.append_nil, List.head?_cons, Int.toNat_natCast, Nat.zero_le, and_self, true_and, and_true, Bool.not_true, Bool.not_false, Option.map_some, true_implies, Bool.true_eq_false, Bool.false_eq_true, reduceCtorEq, false_implies, List.mem_cons, List.not_mem_nil, Prod.mk.injEq, false_and, and_false, or_false, false_or, or_true, true_or, if_false, ty3, ty3k, ty3s, ty3t, ty3z, ty3o, ty3b, ty4, ty4k, ty4s, ty4t, ty4z, ty4o, ty4b, ty22, ty22k, ty22s, ty22t, ty22z, ty22o, ty22b, ty23, ty23k, ty23s, ty23t, ty23z, ty23o, ty23b, ty24, ty24k, ty24s, ty24t, ty24z, ty24o, ty24b, ty25, ty25k, ty25s, ty25t, ty25z, ty25o, ty25b, ty27, ty27k, ty27s, ty27t, ty27z, ty27o, ty27b, ty31, ty31k, ty31s, ty31t, ty31z, ty31o, ty31b, ty32, ty32k, ty32s, ty32t, ty32z, ty32o, ty32b, ty34, ty34k, ty34s, ty34t, ty34z, ty34o, ty34b, ty35, ty35k, ty35s, ty35t, ty35z, ty35o, ty35b, ty37, ty37k, ty37s, ty37t, ty37z, ty37o, ty37b, ty41, ty41k, ty41s, ty41t, ty41z, ty41o, ty41b, ty43, ty43k, ty43s, ty43t, ty43z, ty43o, ty43b, cz, at_end, set_end]
      | refine And.intro (a := drawOk _ _ = true) (by kernel_rfl) ?_
      | (refine id (α := drawOk _ _ = true) ?_; kernel_rfl))
    all_goals exact absurd ⟨by assumption, by assumption⟩ hall
end Go.Abs

