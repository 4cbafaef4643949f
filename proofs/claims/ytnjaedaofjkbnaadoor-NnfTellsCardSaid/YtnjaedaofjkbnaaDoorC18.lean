/- Contracts: the reference's networks that are right. Conditions: none. -/
import Derived.Test.YtnjaedaofjkbnaaDoorC13
import Derived.Test.YtnjaedaofjkbnaaDoorC17
set_option maxRecDepth 100000
set_option linter.unusedVariables false
set_option linter.unusedSimpArgs false
namespace Go.Abs
open Go
theorem c12 (s : Sc) (e : Ex) (hf : e.Fit) : PFn E 12 [scA s, exA e] (B (nleaf s e)) := by
  have k := c45 s e hf
  refine pfn_F fn12 (by simp) ?_
  simp only [Go.Proofs.Tryd.f12, Option.getD_some, List.append_eq, List.cons_append, List.nil_append]
  repeat' (first
    | refine If1.split (fun hb => ?_) (fun hb => ?_)
    | refine C1.pure (k) (by simp [AV.closedL, AV.closed, vr_closed, bk_closed, sg_closed, ints_closed, ex_closed]) ?_
    | simp (config := { maxSteps := 1000000 }) only [W1_skip, W1_ret, W1_label, W1_exit, W1_seq, W1_cond, W1_block, W1_region, W1_draw, W1_loop, O1_nil, O1_n, O1_s, slotD_s, slotD_z, V1_s, U1_b, U1_u, If1_t, If1_f, If1_not, eqB_tt, eqB_tf, eqB_ft, eqB_ff, X1_eq, H1_f, H1_h, H1_c, how, B1_some, B1_none, B1_ite, D1_b, setT_t, setT_c, T1_n, T1_r, T1_x, K1_n, K1_r, K1_x, FinP_n, FinP_r, bindO_some, RetOk_lit, FinX_n, FinX_r, FinK_n, FinK_r, oneOrTup_1, RetX_lit, getCells, List.set_cons_zero, List.set_cons_succ, putAt, fillA, sizesOf, allTyped, List.all_cons, List.all_nil, Bool.and_self, Bool.true_and, Bool.and_true, Nat.reduceMul, Int.reduceLT, Int.reduceGT, Int.reduceGE, Int.cast_ofNat_Int, Int.reduceLE, Int.reduceToNat, Int.reduceAdd, Int.reduceNeg, Int.reduceEq, Int.reduceBNe, Int.reduceBEq, decide_false, zerosA, List.replicate_succ, List.replicate_zero, List.flatten_cons, List.flatten_nil, Option.isSome_some, dstOk, evRes, evRes1, evFree, evHeap, evA, upd_ne, upd_same, initF, updO_some, updO_none, kindOf, AV.storable, AV.cells, AV.one, Value.oneCell', mode, E_pol, pol, binA, unA, litInt, litBool, litStr, eqA, callee, evArgs, evParts, ne_eq, Nat.reduceEqDiff, Nat.reduceLT, not_false_eq_true, decide_true, if_true, reduceIte, List.take_zero, List.take_succ_cons, List.length_cons, List.length_nil, Nat.reduceAdd, Nat.reduceLeDiff, List.getElem?_cons_zero, List.getElem?_cons_succ, List.getD_cons_zero, List.getD_cons_succ, List.drop_zero, List.drop_succ_cons, List.map_cons, List.map_nil, List.cons_append, List.nil_append, List.append_nil, List.head?_cons, Int.toNat_natCast, Nat.zero_le, and_self, true_and, and_true, Bool.not_true, Bool.not_false, Option.map_some, true_implies, Bool.true_eq_false, Bool.false_eq_true, reduceCtorEq, false_implies, List.mem_cons, List.not_mem_nil, Prod.mk.injEq, false_and, and_false, or_false, false_or, or_true, true_or, if_false, ty3, ty3k, ty3s, ty3t, ty3z, ty3o, ty23, ty23k, ty23s, ty23t, ty23z, ty23o, ty24, ty24k, ty24s, ty24t, ty24z, ty24o, ty32, ty32k, ty32s, ty32t, ty32z, ty32o, ty35, ty35k, ty35s, ty35t, ty35z, ty35o, ty37, ty37k, ty37s, ty37t, ty37z, ty37o, ty41, ty41k, ty41s, ty41t, ty41z, ty41o, ty43, ty43k, ty43s, ty43t, ty43z, ty43o, cz]
    | refine And.intro (a := drawOk _ _ = true) (by kernel_rfl) ?_
    | (refine id (α := drawOk _ _ = true) ?_; kernel_rfl))
  all_goals (refine B_eq ?_; simp [nleaf] <;> simp_all)
theorem c23 (s : Sc) : ∀ n : Nt, n.Fit → PFn E 23 [scA s, ntA n] (B (rightN s n)) := by
  intro n
  induction n using Nt.ind with
  | _ n ih =>
  intro hf
  have hlen := hf.len
  have k12 := c12 s n.e hf.ex
  have k18 := (c18 n.e hf.ex ex0).wk (.cons (.refl _) (.cons wk_ex0 (.refl _))) (.refl _)
  rw [rightN_eq]
  refine pfn_F fn23 (by simp) ?_
  simp only [Go.Proofs.Tryd.f23, Option.getD_some, List.append_eq, List.cons_append, List.nil_append]
  repeat' (first
    | refine If1.split (fun hb => ?_) (fun hb => ?_)
    | refine C1.pure (k12) (by simp [AV.closedL, AV.closed, vr_closed, bk_closed, sg_closed, ints_closed, ex_closed, nt_closed]) ?_
    | refine C1.pure (k18) (by simp [AV.closedL, AV.closed, vr_closed, bk_closed, sg_closed, ints_closed, ex_closed, nt_closed]) ?_
    | simp (config := { maxSteps := 1000000 }) only [W1_skip, W1_ret, W1_label, W1_exit, W1_seq, W1_cond, W1_block, W1_region, W1_draw, W1_loop, O1_nil, O1_n, O1_s, slotD_s, slotD_z, V1_s, U1_b, U1_u, If1_t, If1_f, If1_not, eqB_tt, eqB_tf, eqB_ft, eqB_ff, X1_eq, H1_f, H1_h, H1_c, how, B1_some, B1_none, B1_ite, D1_b, setT_t, setT_c, T1_n, T1_r, T1_x, K1_n, K1_r, K1_x, FinP_n, FinP_r, bindO_some, RetOk_lit, FinX_n, FinX_r, FinK_n, FinK_r, oneOrTup_1, RetX_lit, getCells, List.set_cons_zero, List.set_cons_succ, putAt, fillA, sizesOf, allTyped, List.all_cons, List.all_nil, Bool.and_self, Bool.true_and, Bool.and_true, Nat.reduceMul, Int.reduceLT, Int.reduceGT, Int.reduceGE, Int.cast_ofNat_Int, Int.reduceLE, Int.reduceToNat, Int.reduceAdd, Int.reduceNeg, Int.reduceEq, Int.reduceBNe, Int.reduceBEq, decide_false, zerosA, List.replicate_succ, List.replicate_zero, List.flatten_cons, List.flatten_nil, Option.isSome_some, dstOk, evRes, evRes1, evFree, evHeap, evA, upd_ne, upd_same, initF, updO_some, updO_none, kindOf, AV.storable, AV.cells, AV.one, Value.oneCell', mode, E_pol, pol, binA, unA, litInt, litBool, litStr, eqA, callee, evArgs, evParts, ne_eq, Nat.reduceEqDiff, Nat.reduceLT, not_false_eq_true, decide_true, if_true, reduceIte, List.take_zero, List.take_succ_cons, List.length_cons, List.length_nil, Nat.reduceAdd, Nat.reduceLeDiff, List.getElem?_cons_zero, List.getElem?_cons_succ, List.getD_cons_zero, List.getD_cons_succ, List.drop_zero, List.drop_succ_cons, List.map_cons, List.map_nil, List.cons_append, List.nil_append, List.append_nil, List.head?_cons, Int.toNat_natCast, Nat.zero_le, and_self, true_and, and_true, Bool.not_true, Bool.not_false, Option.map_some, true_implies, Bool.true_eq_false, Bool.false_eq_true, reduceCtorEq, false_implies, List.mem_cons, List.not_mem_nil, Prod.mk.injEq, false_and, and_false, or_false, false_or, or_true, true_or, if_false, ty3, ty3k, ty3s, ty3t, ty3z, ty3o, ty3b, ty23, ty23k, ty23s, ty23t, ty23z, ty23o, ty23b, ty24, ty24k, ty24s, ty24t, ty24z, ty24o, ty24b, ty32, ty32k, ty32s, ty32t, ty32z, ty32o, ty32b, ty35, ty35k, ty35s, ty35t, ty35z, ty35o, ty35b, ty37, ty37k, ty37s, ty37t, ty37z, ty37o, ty37b, ty41, ty41k, ty41s, ty41t, ty41z, ty41o, ty41b, ty43, ty43k, ty43s, ty43t, ty43z, ty43o, ty43b, ty52, ty52k, ty52s, ty52t, ty52z, ty52o, ty52b, ty54, ty54k, ty54s, ty54t, ty54z, ty54o, ty54b, cz]
    | refine And.intro (a := drawOk _ _ = true) (by kernel_rfl) ?_
    | (refine id (α := drawOk _ _ = true) ?_; kernel_rfl))
  all_goals first
    | (refine B_eq ?_; simp [rightK] <;> simp_all; done)
    | (refine B_eq ?_; simp [rightK] <;> simp_all <;> (intros; omega); done)
    | skip
  all_goals
    have hk : n.kind ≠ 1 ∧ (n.kind = 2 ∨ n.kind = 3) ∧ n.neg = 0 := by simp_all
    have hs0 : same1 n.e ex0 = true := by assumption
    have hl2 : 2 ≤ n.l.length := by simp at *; omega
    refine L1_up n.l.length (fun i fr h => h = [] ∧ fr 2 = scR s ∧ fr 3 = ntR n ∧ fr 5 = I i ∧ ∀ x ∈ n.l.take i, x.kind ≠ n.kind ∧ rightN s x = true) ?_ ?_ 0 (Nat.zero_le _) _ _ ?_
    · rintro i hi fr h ⟨rfl, h2, h3, h5, hall⟩
      obtain ⟨x, hx⟩ : ∃ x, n.l[i]? = some x := ⟨n.l[i], by simp [hi]⟩
      have hxm := List.mem_of_getElem? hx
      have hlt : decide ((i : Int) < (n.l.length : Int)) = true := by simp; omega
      have hin : 0 ≤ (i : Int) ∧ (i : Int) < (n.l.length : Int) := by omega
      have hw : IntKind.i64.wrap ((i : Int) + 1) = ((i + 1 : Nat) : Int) := by rw [wrap64 (by unfold In64; omega)]; simp
      have hax := Nt.at hx
      have htk : n.l.take (i + 1) = n.l.take i ++ [x] := by rw [List.take_add_one, hx]; rfl
      have k := ih x hxm (hf.sub x hxm)
      repeat' (first
        | refine If1.split (fun hb => ?_) (fun hb => ?_)
        | refine C1.pure (k) (by simp [AV.closedL, AV.closed, vr_closed, bk_closed, sg_closed, ints_closed, ex_closed, nt_closed]) ?_
        | simp (config := { maxSteps := 1000000 }) only [W1_skip, W1_ret, W1_label, W1_exit, W1_seq, W1_cond, W1_block, W1_region, W1_draw, W1_loop, O1_nil, O1_n, O1_s, slotD_s, slotD_z, V1_s, U1_b, U1_u, If1_t, If1_f, If1_not, eqB_tt, eqB_tf, eqB_ft, eqB_ff, X1_eq, H1_f, H1_h, H1_c, how, B1_some, B1_none, B1_ite, D1_b, setT_t, setT_c, T1_n, T1_r, T1_x, K1_n, K1_r, K1_x, FinP_n, FinP_r, bindO_some, RetOk_lit, FinX_n, FinX_r, FinK_n, FinK_r, oneOrTup_1, RetX_lit, getCells, List.set_cons_zero, List.set_cons_succ, putAt, fillA, sizesOf, allTyped, List.all_cons, List.all_nil, Bool.and_self, Bool.true_and, Bool.and_true, Nat.reduceMul, Int.reduceLT, Int.reduceGT, Int.reduceGE, Int.cast_ofNat_Int, Int.reduceLE, Int.reduceToNat, Int.reduceAdd, Int.reduceNeg, Int.reduceEq, Int.reduceBNe, Int.reduceBEq, decide_false, zerosA, List.replicate_succ, List.replicate_zero, List.flatten_cons, List.flatten_nil, Option.isSome_some, dstOk, evRes, evRes1, evFree, evHeap, evA, upd_ne, upd_same, initF, updO_some, updO_none, kindOf, AV.storable, AV.cells, AV.one, Value.oneCell', mode, E_pol, pol, binA, unA, litInt, litBool, litStr, eqA, callee, evArgs, evParts, ne_eq, Nat.reduceEqDiff, Nat.reduceLT, not_false_eq_true, decide_true, if_true, reduceIte, List.take_zero, List.take_succ_cons, List.length_cons, List.length_nil, Nat.reduceAdd, Nat.reduceLeDiff, List.getElem?_cons_zero, List.getElem?_cons_succ, List.getD_cons_zero, List.getD_cons_succ, List.drop_zero, List.drop_succ_cons, List.map_cons, List.map_nil, List.cons_append, List.nil_append, List.append_nil, List.head?_cons, Int.toNat_natCast, Nat.zero_le, and_self, true_and, and_true, Bool.not_true, Bool.not_false, Option.map_some, true_implies, Bool.true_eq_false, Bool.false_eq_true, reduceCtorEq, false_implies, List.mem_cons, List.not_mem_nil, Prod.mk.injEq, false_and, and_false, or_false, false_or, or_true, true_or, if_false, ty3, ty3k, ty3s, ty3t, ty3z, ty3o, ty3b, ty23, ty23k, ty23s, ty23t, ty23z, ty23o, ty23b, ty24, ty24k, ty24s, ty24t, ty24z, ty24o, ty24b, ty32, ty32k, ty32s, ty32t, ty32z, ty32o, ty32b, ty35, ty35k, ty35s, ty35t, ty35z, ty35o, ty35b, ty37, ty37k, ty37s, ty37t, ty37z, ty37o, ty37b, ty41, ty41k, ty41s, ty41t, ty41z, ty41o, ty41b, ty43, ty43k, ty43s, ty43t, ty43z, ty43o, ty43b, ty52, ty52k, ty52s, ty52t, ty52z, ty52o, ty52b, ty54, ty54k, ty54s, ty54t, ty54z, ty54o, ty54b, h2, h3, h5, hlt, hin, hax, hw]
        | refine And.intro (a := drawOk _ _ = true) (by kernel_rfl) ?_
        | (refine id (α := drawOk _ _ = true) ?_; kernel_rfl))
      · rw [rightK_bad hk.1 hxm (.inl (by simpa using ‹(x.kind == n.kind) = true›))]
      · intro y hy
        rw [htk] at hy
        rcases List.mem_append.1 hy with hy | hy
        · exact hall y hy
        · rw [List.mem_singleton.1 hy]; exact ⟨by simpa using ‹(x.kind == n.kind) = false›, by assumption⟩
      · rw [rightK_bad hk.1 hxm (.inr (by assumption))]
    · rintro fr h ⟨rfl, h2, h3, h5, hall⟩
      have hlt : decide ((n.l.length : Int) < (n.l.length : Int)) = false := by simp
      have hgood := rightK_good (s := s) hk hs0 hl2 (by simpa using hall)
      repeat' (first
        | refine If1.split (fun hb => ?_) (fun hb => ?_)
        | simp (config := { maxSteps := 1000000 }) only [W1_skip, W1_ret, W1_label, W1_exit, W1_seq, W1_cond, W1_block, W1_region, W1_draw, W1_loop, O1_nil, O1_n, O1_s, slotD_s, slotD_z, V1_s, U1_b, U1_u, If1_t, If1_f, If1_not, eqB_tt, eqB_tf, eqB_ft, eqB_ff, X1_eq, H1_f, H1_h, H1_c, how, B1_some, B1_none, B1_ite, D1_b, setT_t, setT_c, T1_n, T1_r, T1_x, K1_n, K1_r, K1_x, FinP_n, FinP_r, bindO_some, RetOk_lit, FinX_n, FinX_r, FinK_n, FinK_r, oneOrTup_1, RetX_lit, getCells, List.set_cons_zero, List.set_cons_succ, putAt, fillA, sizesOf, allTyped, List.all_cons, List.all_nil, Bool.and_self, Bool.true_and, Bool.and_true, Nat.reduceMul, Int.reduceLT, Int.reduceGT, Int.reduceGE, Int.cast_ofNat_Int, Int.reduceLE, Int.reduceToNat, Int.reduceAdd, Int.reduceNeg, Int.reduceEq, Int.reduceBNe, Int.reduceBEq, decide_false, zerosA, List.replicate_succ, List.replicate_zero, List.flatten_cons, List.flatten_nil, Option.isSome_some, dstOk, evRes, evRes1, evFree, evHeap, evA, upd_ne, upd_same, initF, updO_some, updO_none, kindOf, AV.storable, AV.cells, AV.one, Value.oneCell', mode, E_pol, pol, binA, unA, litInt, litBool, litStr, eqA, callee, evArgs, evParts, ne_eq, Nat.reduceEqDiff, Nat.reduceLT, not_false_eq_true, decide_true, if_true, reduceIte, List.take_zero, List.take_succ_cons, List.length_cons, List.length_nil, Nat.reduceAdd, Nat.reduceLeDiff, List.getElem?_cons_zero, List.getElem?_cons_succ, List.getD_cons_zero, List.getD_cons_succ, List.drop_zero, List.drop_succ_cons, List.map_cons, List.map_nil, List.cons_append, List.nil_append, List.append_nil, List.head?_cons, Int.toNat_natCast, Nat.zero_le, and_self, true_and, and_true, Bool.not_true, Bool.not_false, Option.map_some, true_implies, Bool.true_eq_false, Bool.false_eq_true, reduceCtorEq, false_implies, List.mem_cons, List.not_mem_nil, Prod.mk.injEq, false_and, and_false, or_false, false_or, or_true, true_or, if_false, ty3, ty3k, ty3s, ty3t, ty3z, ty3o, ty3b, ty23, ty23k, ty23s, ty23t, ty23z, ty23o, ty23b, ty24, ty24k, ty24s, ty24t, ty24z, ty24o, ty24b, ty32, ty32k, ty32s, ty32t, ty32z, ty32o, ty32b, ty35, ty35k, ty35s, ty35t, ty35z, ty35o, ty35b, ty37, ty37k, ty37s, ty37t, ty37z, ty37o, ty37b, ty41, ty41k, ty41s, ty41t, ty41z, ty41o, ty41b, ty43, ty43k, ty43s, ty43t, ty43z, ty43o, ty43b, ty52, ty52k, ty52s, ty52t, ty52z, ty52o, ty52b, ty54, ty54k, ty54s, ty54t, ty54z, ty54o, ty54b, h2, h3, h5, hlt, hgood]
        | refine And.intro (a := drawOk _ _ = true) (by kernel_rfl) ?_
        | (refine id (α := drawOk _ _ = true) ?_; kernel_rfl))
    · repeat' (first
        | refine If1.split (fun hb => ?_) (fun hb => ?_)
        | simp (config := { maxSteps := 1000000 }) only [W1_skip, W1_ret, W1_label, W1_exit, W1_seq, W1_cond, W1_block, W1_region, W1_draw, W1_loop, O1_nil, O1_n, O1_s, slotD_s, slotD_z, V1_s, U1_b, U1_u, If1_t, If1_f, If1_not, eqB_tt, eqB_tf, eqB_ft, eqB_ff, X1_eq, H1_f, H1_h, H1_c, how, B1_some, B1_none, B1_ite, D1_b, setT_t, setT_c, T1_n, T1_r, T1_x, K1_n, K1_r, K1_x, FinP_n, FinP_r, bindO_some, RetOk_lit, FinX_n, FinX_r, FinK_n, FinK_r, oneOrTup_1, RetX_lit, getCells, List.set_cons_zero, List.set_cons_succ, putAt, fillA, sizesOf, allTyped, List.all_cons, List.all_nil, Bool.and_self, Bool.true_and, Bool.and_true, Nat.reduceMul, Int.reduceLT, Int.reduceGT, Int.reduceGE, Int.cast_ofNat_Int, Int.reduceLE, Int.reduceToNat, Int.reduceAdd, Int.reduceNeg, Int.reduceEq, Int.reduceBNe, Int.reduceBEq, decide_false, zerosA, List.replicate_succ, List.replicate_zero, List.flatten_cons, List.flatten_nil, Option.isSome_some, dstOk, evRes, evRes1, evFree, evHeap, evA, upd_ne, upd_same, initF, updO_some, updO_none, kindOf, AV.storable, AV.cells, AV.one, Value.oneCell', mode, E_pol, pol, binA, unA, litInt, litBool, litStr, eqA, callee, evArgs, evParts, ne_eq, Nat.reduceEqDiff, Nat.reduceLT, not_false_eq_true, decide_true, if_true, reduceIte, List.take_zero, List.take_succ_cons, List.length_cons, List.length_nil, Nat.reduceAdd, Nat.reduceLeDiff, List.getElem?_cons_zero, List.getElem?_cons_succ, List.getD_cons_zero, List.getD_cons_succ, List.drop_zero, List.drop_succ_cons, List.map_cons, List.map_nil, List.cons_append, List.nil_append, List.append_nil, List.head?_cons, Int.toNat_natCast, Nat.zero_le, and_self, true_and, and_true, Bool.not_true, Bool.not_false, Option.map_some, true_implies, Bool.true_eq_false, Bool.false_eq_true, reduceCtorEq, false_implies, List.mem_cons, List.not_mem_nil, Prod.mk.injEq, false_and, and_false, or_false, false_or, or_true, true_or, if_false, ty3, ty3k, ty3s, ty3t, ty3z, ty3o, ty3b, ty23, ty23k, ty23s, ty23t, ty23z, ty23o, ty23b, ty24, ty24k, ty24s, ty24t, ty24z, ty24o, ty24b, ty32, ty32k, ty32s, ty32t, ty32z, ty32o, ty32b, ty35, ty35k, ty35s, ty35t, ty35z, ty35o, ty35b, ty37, ty37k, ty37s, ty37t, ty37z, ty37o, ty37b, ty41, ty41k, ty41s, ty41t, ty41z, ty41o, ty41b, ty43, ty43k, ty43s, ty43t, ty43z, ty43o, ty43b, ty52, ty52k, ty52s, ty52t, ty52z, ty52o, ty52b, ty54, ty54k, ty54s, ty54t, ty54z, ty54o, ty54b, cz]
        | refine And.intro (a := drawOk _ _ = true) (by kernel_rfl) ?_
        | (refine id (α := drawOk _ _ = true) ?_; kernel_rfl))
      simp
end Go.Abs

