/- Contract: where one may come behind an instruction. Conditions: none. -/
import Derived.Test.YtnjaedaofjkbnaaDoorT5
set_option maxRecDepth 100000
set_option linter.unusedVariables false
set_option linter.unusedSimpArgs false
namespace Go.Abs
open Go
/-- How many places there are behind a switch. -/
def manyB (a : Int) (n : Nat) : Nat := (max 0 (min a n)).toNat + 1
def stepsB (pc n : Nat) : List Int := (List.range n).map fun k => ((pc + 1 + k : Nat) : Int)
def rawB (l : List I3) (pc : Nat) (i : I3) : List Int :=
  if i.op = 34 then [] else if i.op = 30 then [i.a] else if i.op = 31 then [((pc + 1 : Nat) : Int), i.a] else if i.op = 32 then stepsB pc (manyB i.a l.length) else [((pc + 1 : Nat) : Int)]
def behindB (l : List I3) (pc : Nat) (i : I3) : List Int := if i.op = 34 then [] else packZ (sortZ (rawB l pc i))
theorem stepsB_succ (pc n : Nat) : stepsB pc (n + 1) = stepsB pc n ++ [((pc + 1 + n : Nat) : Int)] := by
  unfold stepsB
  rw [List.range_succ, List.map_append]
  rfl
theorem stepsB_len (pc n : Nat) : (stepsB pc n).length = n := by simp [stepsB]
set_option maxHeartbeats 2000000 in
theorem c36 (l : List I3) (pc : Nat) (hl : l.length ≤ 300) (i : I3) (hi : l[pc]? = some i) (ha : In64 i.a) : ∃ r, PFn E 36 [.ro l.length (recs I3.cs l), I pc] r ∧ NilOr r (behindB l pc i) := by
  have hlt : pc < l.length := (List.getElem?_eq_some_iff.1 hi).1
  have h1 : decide ((pc : Int) < 0) = false := by simp
  have h2 : decide ((pc : Int) ≥ (l.length : Int)) = false := by simp; omega
  have hin : 0 ≤ (pc : Int) ∧ (pc : Int) < (l.length : Int) := by omega
  have hax := I3.at hi
  have hw : IntKind.i64.wrap ((pc : Int) + 1) = ((pc + 1 : Nat) : Int) := by rw [wrap64 (by unfold In64; omega)]; simp
  have fin : ∀ {h : AHeap} {ver : Nat} {zs : List Int}, zs ≠ [] → zs.length < 4611686018427387904 → h[1]? = some (.cells ver (recs intC zs)) →
      RetX ((h.set 1 (.cells ver (recs intC (sortZ zs)))).set 1 (.cells ver (recs intC (padZ (sortZ zs))))) [.ms 1 ver 0 (packZ (sortZ zs)).length 1] (fun r => NilOr r (packZ (sortZ zs))) := fun {h ver zs} _ _ hb =>
    RetX_rdb (rdb_pack (set_self (set_self hb))) (by simpa [AV.closed] using ints_closed _) (.inl rfl)
  by_cases e34 : i.op = 34
  · have o : (i.op == 34) = true := by simpa using e34
    have eb : behindB l pc i = [] := by simp [behindB, e34]
    rw [eb]
    refine px_F fn36 (by simp) ?_
    simp only [Go.Proofs.Tryd.f36, Option.getD_some, List.append_eq, List.cons_append, List.nil_append]
    repeat' (first
      | refine If1.split (fun hb => ?_) (fun hb => ?_)
      | refine sort_none ?_
      | refine pack_none ?_
      | simp (config := { maxSteps := 1000000 }) only [W1_scope, W1_skip, W1_ret, W1_label, W1_exit, W1_seq, W1_cond, W1_block, W1_region, W1_draw, W1_loop, O1_nil, O1_n, O1_s, slotD_s, slotD_z, V1_s, U1_b, U1_u, If1_t, If1_f, If1_not, eqB_tt, eqB_tf, eqB_ft, eqB_ff, X1_eq, H1_f, H1_h, H1_c, how, B1_some, B1_none, B1_ite, D1_b, setT_t, setT_c, T1_n, T1_r, T1_x, K1_n, K1_r, K1_x, FinP_n, FinP_r, bindO_some, RetOk_lit, FinX_n, FinX_r, FinK_n, FinK_r, oneOrTup_1, RetX_lit, getCells, List.set_cons_zero, List.set_cons_succ, putAt, fillA, sizesOf, allTyped, List.all_cons, List.all_nil, Bool.and_self, Bool.true_and, Bool.and_true, Nat.reduceMul, Int.reduceLT, Int.reduceGT, Int.reduceGE, Int.cast_ofNat_Int, Int.reduceLE, Int.reduceToNat, Int.reduceAdd, Int.reduceNeg, Int.reduceEq, Int.reduceBNe, Int.reduceBEq, decide_false, zerosA, List.replicate_succ, List.replicate_zero, List.flatten_cons, List.flatten_nil, Option.isSome_some, dstOk, evRes, evRes1, evFree, evHeap, evA, upd_ne, upd_same, initF, updO_some, updO_none, kindOf, AV.storable, AV.cells, AV.one, Value.oneCell', mode, E_pol, pol, binA, unA, litInt, litBool, litStr, eqA, callee, evArgs, evParts, ne_eq, Nat.reduceEqDiff, Nat.reduceLT, not_false_eq_true, decide_true, if_true, reduceIte, List.take_zero, List.take_succ_cons, List.length_cons, List.length_nil, Nat.reduceAdd, Nat.reduceLeDiff, List.getElem?_cons_zero, List.getElem?_cons_succ, List.getD_cons_zero, List.getD_cons_succ, List.drop_zero, List.drop_succ_cons, List.map_cons, List.map_nil, List.cons_append, List.nil_append, List.append_nil, List.head?_cons, Int.toNat_natCast, Nat.zero_le, and_self, true_and, and_true, Bool.not_true, Bool.not_false, Option.map_some, true_implies, Bool.true_eq_false, Bool.false_eq_true, reduceCtorEq, false_implies, List.mem_cons, List.not_mem_nil, Prod.mk.injEq, false_and, and_false, or_false, false_or, or_true, true_or, if_false, ty3, ty3k, ty3s, ty3t, ty3z, ty3o, ty3b, ty32, ty32k, ty32s, ty32t, ty32z, ty32o, ty32b, ty70, ty70k, ty70s, ty70t, ty70z, ty70o, ty70b, ty76, ty76k, ty76s, ty76t, ty76z, ty76o, ty76b, cz, h1, h2, hin, hax, at_end, set_end, hw, o]
      | refine And.intro (a := drawOk _ _ = true) (by kernel_rfl) ?_
      | (refine id (α := drawOk _ _ = true) ?_; kernel_rfl))
    exact nilOr_0
  have o34 : (i.op == 34) = false := by simpa using e34
  have hb0 : behindB l pc i = packZ (sortZ (rawB l pc i)) := by simp [behindB, e34]
  rw [hb0]
  by_cases e30 : i.op = 30
  · have o : (i.op == 30) = true := by simpa using e30
    have eb : rawB l pc i = [i.a] := by simp [rawB, e30]
    rw [eb]
    refine px_F fn36 (by simp) ?_
    simp only [Go.Proofs.Tryd.f36, Option.getD_some, List.append_eq, List.cons_append, List.nil_append]
    repeat' (first
      | refine If1.split (fun hb => ?_) (fun hb => ?_)
      | refine sort_call (zs := [i.a]) rfl rfl (by simp) (by simp) ?_
      | refine pack_call (zs := sortZ [i.a]) rfl (by rw [sort_len]; rfl) (sortZ_pos (by simp)) (by rw [sort_len]; simp) ?_
      | simp (config := { maxSteps := 1000000 }) only [W1_scope, W1_skip, W1_ret, W1_label, W1_exit, W1_seq, W1_cond, W1_block, W1_region, W1_draw, W1_loop, O1_nil, O1_n, O1_s, slotD_s, slotD_z, V1_s, U1_b, U1_u, If1_t, If1_f, If1_not, eqB_tt, eqB_tf, eqB_ft, eqB_ff, X1_eq, H1_f, H1_h, H1_c, how, B1_some, B1_none, B1_ite, D1_b, setT_t, setT_c, T1_n, T1_r, T1_x, K1_n, K1_r, K1_x, FinP_n, FinP_r, bindO_some, RetOk_lit, FinX_n, FinX_r, FinK_n, FinK_r, oneOrTup_1, RetX_lit, getCells, List.set_cons_zero, List.set_cons_succ, putAt, fillA, sizesOf, allTyped, List.all_cons, List.all_nil, Bool.and_self, Bool.true_and, Bool.and_true, Nat.reduceMul, Int.reduceLT, Int.reduceGT, Int.reduceGE, Int.cast_ofNat_Int, Int.reduceLE, Int.reduceToNat, Int.reduceAdd, Int.reduceNeg, Int.reduceEq, Int.reduceBNe, Int.reduceBEq, decide_false, zerosA, List.replicate_succ, List.replicate_zero, List.flatten_cons, List.flatten_nil, Option.isSome_some, dstOk, evRes, evRes1, evFree, evHeap, evA, upd_ne, upd_same, initF, updO_some, updO_none, kindOf, AV.storable, AV.cells, AV.one, Value.oneCell', mode, E_pol, pol, binA, unA, litInt, litBool, litStr, eqA, callee, evArgs, evParts, ne_eq, Nat.reduceEqDiff, Nat.reduceLT, not_false_eq_true, decide_true, if_true, reduceIte, List.take_zero, List.take_succ_cons, List.length_cons, List.length_nil, Nat.reduceAdd, Nat.reduceLeDiff, List.getElem?_cons_zero, List.getElem?_cons_succ, List.getD_cons_zero, List.getD_cons_succ, List.drop_zero, List.drop_succ_cons, List.map_cons, List.map_nil, List.cons_append, List.nil_append, List.append_nil, List.head?_cons, Int.toNat_natCast, Nat.zero_le, and_self, true_and, and_true, Bool.not_true, Bool.not_false, Option.map_some, true_implies, Bool.true_eq_false, Bool.false_eq_true, reduceCtorEq, false_implies, List.mem_cons, List.not_mem_nil, Prod.mk.injEq, false_and, and_false, or_false, false_or, or_true, true_or, if_false, ty3, ty3k, ty3s, ty3t, ty3z, ty3o, ty3b, ty32, ty32k, ty32s, ty32t, ty32z, ty32o, ty32b, ty70, ty70k, ty70s, ty70t, ty70z, ty70o, ty70b, ty76, ty76k, ty76s, ty76t, ty76z, ty76o, ty76b, cz, h1, h2, hin, hax, at_end, set_end, hw, o34, o]
      | refine And.intro (a := drawOk _ _ = true) (by kernel_rfl) ?_
      | (refine id (α := drawOk _ _ = true) ?_; kernel_rfl))
    exact fin (zs := [i.a]) (ver := 0) (h := [_, .cells 0 [I i.a]]) (by simp) (by simp) rfl
  have o30 : (i.op == 30) = false := by simpa using e30
  by_cases e31 : i.op = 31
  · have o : (i.op == 31) = true := by simpa using e31
    have eb : rawB l pc i = [((pc + 1 : Nat) : Int), i.a] := by simp [rawB, e31]
    rw [eb]
    refine px_F fn36 (by simp) ?_
    simp only [Go.Proofs.Tryd.f36, Option.getD_some, List.append_eq, List.cons_append, List.nil_append]
    repeat' (first
      | refine If1.split (fun hb => ?_) (fun hb => ?_)
      | refine sort_call (zs := [((pc + 1 : Nat) : Int), i.a]) rfl rfl (by simp) (by simp) ?_
      | refine pack_call (zs := sortZ [((pc + 1 : Nat) : Int), i.a]) rfl (by rw [sort_len]; rfl) (sortZ_pos (by simp)) (by rw [sort_len]; simp) ?_
      | simp (config := { maxSteps := 1000000 }) only [W1_scope, W1_skip, W1_ret, W1_label, W1_exit, W1_seq, W1_cond, W1_block, W1_region, W1_draw, W1_loop, O1_nil, O1_n, O1_s, slotD_s, slotD_z, V1_s, U1_b, U1_u, If1_t, If1_f, If1_not, eqB_tt, eqB_tf, eqB_ft, eqB_ff, X1_eq, H1_f, H1_h, H1_c, how, B1_some, B1_none, B1_ite, D1_b, setT_t, setT_c, T1_n, T1_r, T1_x, K1_n, K1_r, K1_x, FinP_n, FinP_r, bindO_some, RetOk_lit, FinX_n, FinX_r, FinK_n, FinK_r, oneOrTup_1, RetX_lit, getCells, List.set_cons_zero, List.set_cons_succ, putAt, fillA, sizesOf, allTyped, List.all_cons, List.all_nil, Bool.and_self, Bool.true_and, Bool.and_true, Nat.reduceMul, Int.reduceLT, Int.reduceGT, Int.reduceGE, Int.cast_ofNat_Int, Int.reduceLE, Int.reduceToNat, Int.reduceAdd, Int.reduceNeg, Int.reduceEq, Int.reduceBNe, Int.reduceBEq, decide_false, zerosA, List.replicate_succ, List.replicate_zero, List.flatten_cons, List.flatten_nil, Option.isSome_some, dstOk, evRes, evRes1, evFree, evHeap, evA, upd_ne, upd_same, initF, updO_some, updO_none, kindOf, AV.storable, AV.cells, AV.one, Value.oneCell', mode, E_pol, pol, binA, unA, litInt, litBool, litStr, eqA, callee, evArgs, evParts, ne_eq, Nat.reduceEqDiff, Nat.reduceLT, not_false_eq_true, decide_true, if_true, reduceIte, List.take_zero, List.take_succ_cons, List.length_cons, List.length_nil, Nat.reduceAdd, Nat.reduceLeDiff, List.getElem?_cons_zero, List.getElem?_cons_succ, List.getD_cons_zero, List.getD_cons_succ, List.drop_zero, List.drop_succ_cons, List.map_cons, List.map_nil, List.cons_append, List.nil_append, List.append_nil, List.head?_cons, Int.toNat_natCast, Nat.zero_le, and_self, true_and, and_true, Bool.not_true, Bool.not_false, Option.map_some, true_implies, Bool.true_eq_false, Bool.false_eq_true, reduceCtorEq, false_implies, List.mem_cons, List.not_mem_nil, Prod.mk.injEq, false_and, and_false, or_false, false_or, or_true, true_or, if_false, ty3, ty3k, ty3s, ty3t, ty3z, ty3o, ty3b, ty32, ty32k, ty32s, ty32t, ty32z, ty32o, ty32b, ty70, ty70k, ty70s, ty70t, ty70z, ty70o, ty70b, ty76, ty76k, ty76s, ty76t, ty76z, ty76o, ty76b, cz, h1, h2, hin, hax, at_end, set_end, hw, o34, o30, o]
      | refine And.intro (a := drawOk _ _ = true) (by kernel_rfl) ?_
      | (refine id (α := drawOk _ _ = true) ?_; kernel_rfl))
    exact fin (zs := [((pc + 1 : Nat) : Int), i.a]) (ver := 0) (h := [_, .cells 0 [I ((pc + 1 : Nat) : Int), I i.a]]) (by simp) (by simp) rfl
  have o31 : (i.op == 31) = false := by simpa using e31
  by_cases e32 : i.op = 32
  · have o : (i.op == 32) = true := by simpa using e32
    have eb : rawB l pc i = stepsB pc (manyB i.a l.length) := by simp [rawB, e32]
    rw [eb]
    have hm1 : manyB i.a l.length ≤ 301 := by unfold manyB; omega
    have hm2 : 1 ≤ manyB i.a l.length := by unfold manyB; omega
    have hmm : IntKind.i64.wrap ((if (if (l.length : Int) < i.a then (l.length : Int) else i.a) > 0 then if (l.length : Int) < i.a then (l.length : Int) else i.a else 0) + 1) = (manyB i.a l.length : Int) := by
      unfold manyB
      rw [wrap64]
      · split <;> split <;> omega
      · unfold In64 at *; split <;> split <;> omega
    refine px_F fn36 (by simp) ?_
    simp only [Go.Proofs.Tryd.f36, Option.getD_some, List.append_eq, List.cons_append, List.nil_append]
    repeat' (first
      | refine If1.split (fun hb => ?_) (fun hb => ?_)
      | simp (config := { maxSteps := 1000000 }) only [W1_scope, W1_skip, W1_ret, W1_label, W1_exit, W1_seq, W1_cond, W1_block, W1_region, W1_draw, W1_loop, O1_nil, O1_n, O1_s, slotD_s, slotD_z, V1_s, U1_b, U1_u, If1_t, If1_f, If1_not, eqB_tt, eqB_tf, eqB_ft, eqB_ff, X1_eq, H1_f, H1_h, H1_c, how, B1_some, B1_none, B1_ite, D1_b, setT_t, setT_c, T1_n, T1_r, T1_x, K1_n, K1_r, K1_x, FinP_n, FinP_r, bindO_some, RetOk_lit, FinX_n, FinX_r, FinK_n, FinK_r, oneOrTup_1, RetX_lit, getCells, List.set_cons_zero, List.set_cons_succ, putAt, fillA, sizesOf, allTyped, List.all_cons, List.all_nil, Bool.and_self, Bool.true_and, Bool.and_true, Nat.reduceMul, Int.reduceLT, Int.reduceGT, Int.reduceGE, Int.cast_ofNat_Int, Int.reduceLE, Int.reduceToNat, Int.reduceAdd, Int.reduceNeg, Int.reduceEq, Int.reduceBNe, Int.reduceBEq, decide_false, zerosA, List.replicate_succ, List.replicate_zero, List.flatten_cons, List.flatten_nil, Option.isSome_some, dstOk, evRes, evRes1, evFree, evHeap, evA, upd_ne, upd_same, initF, updO_some, updO_none, kindOf, AV.storable, AV.cells, AV.one, Value.oneCell', mode, E_pol, pol, binA, unA, litInt, litBool, litStr, eqA, callee, evArgs, evParts, ne_eq, Nat.reduceEqDiff, Nat.reduceLT, not_false_eq_true, decide_true, if_true, reduceIte, List.take_zero, List.take_succ_cons, List.length_cons, List.length_nil, Nat.reduceAdd, Nat.reduceLeDiff, List.getElem?_cons_zero, List.getElem?_cons_succ, List.getD_cons_zero, List.getD_cons_succ, List.drop_zero, List.drop_succ_cons, List.map_cons, List.map_nil, List.cons_append, List.nil_append, List.append_nil, List.head?_cons, Int.toNat_natCast, Nat.zero_le, and_self, true_and, and_true, Bool.not_true, Bool.not_false, Option.map_some, true_implies, Bool.true_eq_false, Bool.false_eq_true, reduceCtorEq, false_implies, List.mem_cons, List.not_mem_nil, Prod.mk.injEq, false_and, and_false, or_false, false_or, or_true, true_or, if_false, ty3, ty3k, ty3s, ty3t, ty3z, ty3o, ty3b, ty32, ty32k, ty32s, ty32t, ty32z, ty32o, ty32b, ty70, ty70k, ty70s, ty70t, ty70z, ty70o, ty70b, ty76, ty76k, ty76s, ty76t, ty76z, ty76o, ty76b, cz, h1, h2, hin, hax, at_end, set_end, hw, o34, o30, o31, o, evArgs, foldA, minA, maxA, hmm]
      | refine And.intro (a := drawOk _ _ = true) (by kernel_rfl) ?_
      | (refine id (α := drawOk _ _ = true) ?_; kernel_rfl))
    refine L1_up (manyB i.a l.length) (fun j fr h => fr 1 = I pc ∧ fr 47 = I (manyB i.a l.length) ∧ fr 48 = I j ∧ ((j = 0 ∧ fr 6 = .lit (.slice none 0 0) ∧ h.length = 1) ∨ (0 < j ∧ ∃ ver, fr 6 = .ms 1 ver 0 j 1 ∧ h[1]? = some (.cells ver (recs intC (stepsB pc j)))))) ?_ ?_ 0 (Nat.zero_le _) _ _ ?_
    · rintro j hj fr h ⟨f1, f47, f48, hc⟩
      have hlt : decide ((j : Int) < (manyB i.a l.length : Int)) = true := by simp; omega
      have hw1 : IntKind.i64.wrap ((j : Int) + 1) = ((j + 1 : Nat) : Int) := by rw [wrap64 (by unfold In64; omega)]; simp
      have hw2 : IntKind.i64.wrap (((pc + 1 : Nat) : Int) + (j : Int)) = ((pc + 1 + j : Nat) : Int) := by rw [wrap64 (by unfold In64; omega)]; simp
      rcases hc with ⟨rfl, f6, hh⟩ | ⟨hpos, ver, f6, hh⟩
      · have hw3 : IntKind.i64.wrap (0 + 1) = ((0 + 1 : Nat) : Int) := rfl
        have hw4 : IntKind.i64.wrap (((pc + 1 : Nat) : Int) + 0) = ((pc + 1 : Nat) : Int) := by rw [wrap64 (by unfold In64; omega)]; omega
        simp only [cz] at hlt f48
        repeat' (first
          | refine If1.split (fun hb => ?_) (fun hb => ?_)
          | simp (config := { maxSteps := 1000000 }) only [W1_scope, W1_skip, W1_ret, W1_label, W1_exit, W1_seq, W1_cond, W1_block, W1_region, W1_draw, W1_loop, O1_nil, O1_n, O1_s, slotD_s, slotD_z, V1_s, U1_b, U1_u, If1_t, If1_f, If1_not, eqB_tt, eqB_tf, eqB_ft, eqB_ff, X1_eq, H1_f, H1_h, H1_c, how, B1_some, B1_none, B1_ite, D1_b, setT_t, setT_c, T1_n, T1_r, T1_x, K1_n, K1_r, K1_x, FinP_n, FinP_r, bindO_some, RetOk_lit, FinX_n, FinX_r, FinK_n, FinK_r, oneOrTup_1, RetX_lit, getCells, List.set_cons_zero, List.set_cons_succ, putAt, fillA, sizesOf, allTyped, List.all_cons, List.all_nil, Bool.and_self, Bool.true_and, Bool.and_true, Nat.reduceMul, Int.reduceLT, Int.reduceGT, Int.reduceGE, Int.cast_ofNat_Int, Int.reduceLE, Int.reduceToNat, Int.reduceAdd, Int.reduceNeg, Int.reduceEq, Int.reduceBNe, Int.reduceBEq, decide_false, zerosA, List.replicate_succ, List.replicate_zero, List.flatten_cons, List.flatten_nil, Option.isSome_some, dstOk, evRes, evRes1, evFree, evHeap, evA, upd_ne, upd_same, initF, updO_some, updO_none, kindOf, AV.storable, AV.cells, AV.one, Value.oneCell', mode, E_pol, pol, binA, unA, litInt, litBool, litStr, eqA, callee, evArgs, evParts, ne_eq, Nat.reduceEqDiff, Nat.reduceLT, not_false_eq_true, decide_true, if_true, reduceIte, List.take_zero, List.take_succ_cons, List.length_cons, List.length_nil, Nat.reduceAdd, Nat.reduceLeDiff, List.getElem?_cons_zero, List.getElem?_cons_succ, List.getD_cons_zero, List.getD_cons_succ, List.drop_zero, List.drop_succ_cons, List.map_cons, List.map_nil, List.cons_append, List.nil_append, List.append_nil, List.head?_cons, Int.toNat_natCast, Nat.zero_le, and_self, true_and, and_true, Bool.not_true, Bool.not_false, Option.map_some, true_implies, Bool.true_eq_false, Bool.false_eq_true, reduceCtorEq, false_implies, List.mem_cons, List.not_mem_nil, Prod.mk.injEq, false_and, and_false, or_false, false_or, or_true, true_or, if_false, ty3, ty3k, ty3s, ty3t, ty3z, ty3o, ty3b, ty32, ty32k, ty32s, ty32t, ty32z, ty32o, ty32b, ty70, ty70k, ty70s, ty70t, ty70z, ty70o, ty70b, ty76, ty76k, ty76s, ty76t, ty76z, ty76o, ty76b, f1, f47, f48, f6, hlt, hw, hw3, hw4, hh, cellsS, appendA, cz]
          | refine And.intro (a := drawOk _ _ = true) (by kernel_rfl) ?_
          | (refine id (α := drawOk _ _ = true) ?_; kernel_rfl))
        refine ⟨rfl, 0, rfl, ?_⟩
        have hz := at_end (h := h) (x := .cells 0 (recs intC (stepsB pc 1)))
        rw [hh] at hz
        exact hz
      · have hb1 : (j + 1) * 8 ≤ 140737488355328 ∧ j + 1 ≤ 9223372036854775807 := by omega
        have e1 : (stepsB pc j).length = j := stepsB_len pc j
        have e2 : List.take j (recs intC (stepsB pc j)) = recs intC (stepsB pc j) := List.take_of_length_le (by rw [intC_len', e1]; exact Nat.le_refl _)
        repeat' (first
          | refine If1.split (fun hb => ?_) (fun hb => ?_)
          | simp (config := { maxSteps := 1000000 }) only [W1_scope, W1_skip, W1_ret, W1_label, W1_exit, W1_seq, W1_cond, W1_block, W1_region, W1_draw, W1_loop, O1_nil, O1_n, O1_s, slotD_s, slotD_z, V1_s, U1_b, U1_u, If1_t, If1_f, If1_not, eqB_tt, eqB_tf, eqB_ft, eqB_ff, X1_eq, H1_f, H1_h, H1_c, how, B1_some, B1_none, B1_ite, D1_b, setT_t, setT_c, T1_n, T1_r, T1_x, K1_n, K1_r, K1_x, FinP_n, FinP_r, bindO_some, RetOk_lit, FinX_n, FinX_r, FinK_n, FinK_r, oneOrTup_1, RetX_lit, getCells, List.set_cons_zero, List.set_cons_succ, putAt, fillA, sizesOf, allTyped, List.all_cons, List.all_nil, Bool.and_self, Bool.true_and, Bool.and_true, Nat.reduceMul, Int.reduceLT, Int.reduceGT, Int.reduceGE, Int.cast_ofNat_Int, Int.reduceLE, Int.reduceToNat, Int.reduceAdd, Int.reduceNeg, Int.reduceEq, Int.reduceBNe, Int.reduceBEq, decide_false, zerosA, List.replicate_succ, List.replicate_zero, List.flatten_cons, List.flatten_nil, Option.isSome_some, dstOk, evRes, evRes1, evFree, evHeap, evA, upd_ne, upd_same, initF, updO_some, updO_none, kindOf, AV.storable, AV.cells, AV.one, Value.oneCell', mode, E_pol, pol, binA, unA, litInt, litBool, litStr, eqA, callee, evArgs, evParts, ne_eq, Nat.reduceEqDiff, Nat.reduceLT, not_false_eq_true, decide_true, if_true, reduceIte, List.take_zero, List.take_succ_cons, List.length_cons, List.length_nil, Nat.reduceAdd, Nat.reduceLeDiff, List.getElem?_cons_zero, List.getElem?_cons_succ, List.getD_cons_zero, List.getD_cons_succ, List.drop_zero, List.drop_succ_cons, List.map_cons, List.map_nil, List.cons_append, List.nil_append, List.append_nil, List.head?_cons, Int.toNat_natCast, Nat.zero_le, and_self, true_and, and_true, Bool.not_true, Bool.not_false, Option.map_some, true_implies, Bool.true_eq_false, Bool.false_eq_true, reduceCtorEq, false_implies, List.mem_cons, List.not_mem_nil, Prod.mk.injEq, false_and, and_false, or_false, false_or, or_true, true_or, if_false, ty3, ty3k, ty3s, ty3t, ty3z, ty3o, ty3b, ty32, ty32k, ty32s, ty32t, ty32z, ty32o, ty32b, ty70, ty70k, ty70s, ty70t, ty70z, ty70o, ty70b, ty76, ty76k, ty76s, ty76t, ty76z, ty76o, ty76b, f1, f47, f48, f6, hlt, hw, hw1, hw2, hh, cellsS, appendA, hb1, intC_len', Nat.mul_one, e1, e2, Nat.le_refl]
          | refine And.intro (a := drawOk _ _ = true) (by kernel_rfl) ?_
          | (refine id (α := drawOk _ _ = true) ?_; kernel_rfl))
        refine ⟨by omega, ver + 1, rfl, ?_⟩
        rw [set_self hh, stepsB_succ, recs_append]
        rfl
    · rintro fr h ⟨f1, f47, f48, hc⟩
      have hlt : decide ((manyB i.a l.length : Int) < (manyB i.a l.length : Int)) = false := by simp
      rcases hc with ⟨h0, _⟩ | ⟨_, ver, f6, hh⟩
      · omega
      · have e1 : (stepsB pc (manyB i.a l.length)).length = manyB i.a l.length := stepsB_len pc _
        have hne : stepsB pc (manyB i.a l.length) ≠ [] := fun h => by rw [h] at e1; simp at e1; omega
        repeat' (first
          | refine If1.split (fun hb => ?_) (fun hb => ?_)
          | refine sort_call (zs := stepsB pc (manyB i.a l.length)) hh e1.symm hne (by omega) ?_
          | refine pack_call (zs := sortZ (stepsB pc (manyB i.a l.length))) (set_self hh) (by rw [sort_len, e1]) (sortZ_pos hne) (by rw [sort_len]; omega) ?_
          | simp (config := { maxSteps := 1000000 }) only [W1_scope, W1_skip, W1_ret, W1_label, W1_exit, W1_seq, W1_cond, W1_block, W1_region, W1_draw, W1_loop, O1_nil, O1_n, O1_s, slotD_s, slotD_z, V1_s, U1_b, U1_u, If1_t, If1_f, If1_not, eqB_tt, eqB_tf, eqB_ft, eqB_ff, X1_eq, H1_f, H1_h, H1_c, how, B1_some, B1_none, B1_ite, D1_b, setT_t, setT_c, T1_n, T1_r, T1_x, K1_n, K1_r, K1_x, FinP_n, FinP_r, bindO_some, RetOk_lit, FinX_n, FinX_r, FinK_n, FinK_r, oneOrTup_1, RetX_lit, getCells, List.set_cons_zero, List.set_cons_succ, putAt, fillA, sizesOf, allTyped, List.all_cons, List.all_nil, Bool.and_self, Bool.true_and, Bool.and_true, Nat.reduceMul, Int.reduceLT, Int.reduceGT, Int.reduceGE, Int.cast_ofNat_Int, Int.reduceLE, Int.reduceToNat, Int.reduceAdd, Int.reduceNeg, Int.reduceEq, Int.reduceBNe, Int.reduceBEq, decide_false, zerosA, List.replicate_succ, List.replicate_zero, List.flatten_cons, List.flatten_nil, Option.isSome_some, dstOk, evRes, evRes1, evFree, evHeap, evA, upd_ne, upd_same, initF, updO_some, updO_none, kindOf, AV.storable, AV.cells, AV.one, Value.oneCell', mode, E_pol, pol, binA, unA, litInt, litBool, litStr, eqA, callee, evArgs, evParts, ne_eq, Nat.reduceEqDiff, Nat.reduceLT, not_false_eq_true, decide_true, if_true, reduceIte, List.take_zero, List.take_succ_cons, List.length_cons, List.length_nil, Nat.reduceAdd, Nat.reduceLeDiff, List.getElem?_cons_zero, List.getElem?_cons_succ, List.getD_cons_zero, List.getD_cons_succ, List.drop_zero, List.drop_succ_cons, List.map_cons, List.map_nil, List.cons_append, List.nil_append, List.append_nil, List.head?_cons, Int.toNat_natCast, Nat.zero_le, and_self, true_and, and_true, Bool.not_true, Bool.not_false, Option.map_some, true_implies, Bool.true_eq_false, Bool.false_eq_true, reduceCtorEq, false_implies, List.mem_cons, List.not_mem_nil, Prod.mk.injEq, false_and, and_false, or_false, false_or, or_true, true_or, if_false, ty3, ty3k, ty3s, ty3t, ty3z, ty3o, ty3b, ty32, ty32k, ty32s, ty32t, ty32z, ty32o, ty32b, ty70, ty70k, ty70s, ty70t, ty70z, ty70o, ty70b, ty76, ty76k, ty76s, ty76t, ty76z, ty76o, ty76b, f1, f47, f48, f6, hlt]
          | refine And.intro (a := drawOk _ _ = true) (by kernel_rfl) ?_
          | (refine id (α := drawOk _ _ = true) ?_; kernel_rfl))
        exact fin (zs := stepsB pc (manyB i.a l.length)) (ver := ver) hne (by omega) hh
    · repeat' (first
        | refine If1.split (fun hb => ?_) (fun hb => ?_)
        | simp (config := { maxSteps := 1000000 }) only [W1_scope, W1_skip, W1_ret, W1_label, W1_exit, W1_seq, W1_cond, W1_block, W1_region, W1_draw, W1_loop, O1_nil, O1_n, O1_s, slotD_s, slotD_z, V1_s, U1_b, U1_u, If1_t, If1_f, If1_not, eqB_tt, eqB_tf, eqB_ft, eqB_ff, X1_eq, H1_f, H1_h, H1_c, how, B1_some, B1_none, B1_ite, D1_b, setT_t, setT_c, T1_n, T1_r, T1_x, K1_n, K1_r, K1_x, FinP_n, FinP_r, bindO_some, RetOk_lit, FinX_n, FinX_r, FinK_n, FinK_r, oneOrTup_1, RetX_lit, getCells, List.set_cons_zero, List.set_cons_succ, putAt, fillA, sizesOf, allTyped, List.all_cons, List.all_nil, Bool.and_self, Bool.true_and, Bool.and_true, Nat.reduceMul, Int.reduceLT, Int.reduceGT, Int.reduceGE, Int.cast_ofNat_Int, Int.reduceLE, Int.reduceToNat, Int.reduceAdd, Int.reduceNeg, Int.reduceEq, Int.reduceBNe, Int.reduceBEq, decide_false, zerosA, List.replicate_succ, List.replicate_zero, List.flatten_cons, List.flatten_nil, Option.isSome_some, dstOk, evRes, evRes1, evFree, evHeap, evA, upd_ne, upd_same, initF, updO_some, updO_none, kindOf, AV.storable, AV.cells, AV.one, Value.oneCell', mode, E_pol, pol, binA, unA, litInt, litBool, litStr, eqA, callee, evArgs, evParts, ne_eq, Nat.reduceEqDiff, Nat.reduceLT, not_false_eq_true, decide_true, if_true, reduceIte, List.take_zero, List.take_succ_cons, List.length_cons, List.length_nil, Nat.reduceAdd, Nat.reduceLeDiff, List.getElem?_cons_zero, List.getElem?_cons_succ, List.getD_cons_zero, List.getD_cons_succ, List.drop_zero, List.drop_succ_cons, List.map_cons, List.map_nil, List.cons_append, List.nil_append, List.append_nil, List.head?_cons, Int.toNat_natCast, Nat.zero_le, and_self, true_and, and_true, Bool.not_true, Bool.not_false, Option.map_some, true_implies, Bool.true_eq_false, Bool.false_eq_true, reduceCtorEq, false_implies, List.mem_cons, List.not_mem_nil, Prod.mk.injEq, false_and, and_false, or_false, false_or, or_true, true_or, if_false, ty3, ty3k, ty3s, ty3t, ty3z, ty3o, ty3b, ty32, ty32k, ty32s, ty32t, ty32z, ty32o, ty32b, ty70, ty70k, ty70s, ty70t, ty70z, ty70o, ty70b, ty76, ty76k, ty76s, ty76t, ty76z, ty76o, ty76b, cz]
        | refine And.intro (a := drawOk _ _ = true) (by kernel_rfl) ?_
        | (refine id (α := drawOk _ _ = true) ?_; kernel_rfl))
  · have o32 : (i.op == 32) = false := by simpa using e32
    have eb : rawB l pc i = [((pc + 1 : Nat) : Int)] := by simp [rawB, e34, e30, e31, e32]
    rw [eb]
    refine px_F fn36 (by simp) ?_
    simp only [Go.Proofs.Tryd.f36, Option.getD_some, List.append_eq, List.cons_append, List.nil_append]
    repeat' (first
      | refine If1.split (fun hb => ?_) (fun hb => ?_)
      | refine sort_call (zs := [((pc + 1 : Nat) : Int)]) rfl rfl (by simp) (by simp) ?_
      | refine pack_call (zs := sortZ [((pc + 1 : Nat) : Int)]) rfl (by rw [sort_len]; rfl) (sortZ_pos (by simp)) (by rw [sort_len]; simp) ?_
      | simp (config := { maxSteps := 1000000 }) only [W1_scope, W1_skip, W1_ret, W1_label, W1_exit, W1_seq, W1_cond, W1_block, W1_region, W1_draw, W1_loop, O1_nil, O1_n, O1_s, slotD_s, slotD_z, V1_s, U1_b, U1_u, If1_t, If1_f, If1_not, eqB_tt, eqB_tf, eqB_ft, eqB_ff, X1_eq, H1_f, H1_h, H1_c, how, B1_some, B1_none, B1_ite, D1_b, setT_t, setT_c, T1_n, T1_r, T1_x, K1_n, K1_r, K1_x, FinP_n, FinP_r, bindO_some, RetOk_lit, FinX_n, FinX_r, FinK_n, FinK_r, oneOrTup_1, RetX_lit, getCells, List.set_cons_zero, List.set_cons_succ, putAt, fillA, sizesOf, allTyped, List.all_cons, List.all_nil, Bool.and_self, Bool.true_and, Bool.and_true, Nat.reduceMul, Int.reduceLT, Int.reduceGT, Int.reduceGE, Int.cast_ofNat_Int, Int.reduceLE, Int.reduceToNat, Int.reduceAdd, Int.reduceNeg, Int.reduceEq, Int.reduceBNe, Int.reduceBEq, decide_false, zerosA, List.replicate_succ, List.replicate_zero, List.flatten_cons, List.flatten_nil, Option.isSome_some, dstOk, evRes, evRes1, evFree, evHeap, evA, upd_ne, upd_same, initF, updO_some, updO_none, kindOf, AV.storable, AV.cells, AV.one, Value.oneCell', mode, E_pol, pol, binA, unA, litInt, litBool, litStr, eqA, callee, evArgs, evParts, ne_eq, Nat.reduceEqDiff, Nat.reduceLT, not_false_eq_true, decide_true, if_true, reduceIte, List.take_zero, List.take_succ_cons, List.length_cons, List.length_nil, Nat.reduceAdd, Nat.reduceLeDiff, List.getElem?_cons_zero, List.getElem?_cons_succ, List.getD_cons_zero, List.getD_cons_succ, List.drop_zero, List.drop_succ_cons, List.map_cons, List.map_nil, List.cons_append, List.nil_append, List.append_nil, List.head?_cons, Int.toNat_natCast, Nat.zero_le, and_self, true_and, and_true, Bool.not_true, Bool.not_false, Option.map_some, true_implies, Bool.true_eq_false, Bool.false_eq_true, reduceCtorEq, false_implies, List.mem_cons, List.not_mem_nil, Prod.mk.injEq, false_and, and_false, or_false, false_or, or_true, true_or, if_false, ty3, ty3k, ty3s, ty3t, ty3z, ty3o, ty3b, ty32, ty32k, ty32s, ty32t, ty32z, ty32o, ty32b, ty70, ty70k, ty70s, ty70t, ty70z, ty70o, ty70b, ty76, ty76k, ty76s, ty76t, ty76z, ty76o, ty76b, cz, h1, h2, hin, hax, at_end, set_end, hw, o34, o30, o31, o32]
      | refine And.intro (a := drawOk _ _ = true) (by kernel_rfl) ?_
      | (refine id (α := drawOk _ _ = true) ?_; kernel_rfl))
    exact fin (zs := [((pc + 1 : Nat) : Int)]) (ver := 0) (h := [_, .cells 0 [I ((pc + 1 : Nat) : Int)]]) (by simp) (by simp) rfl
end Go.Abs

