/- Contract: do two graphs go together, by the program. Conditions: none. -/
import Derived.Test.YtnjaedaofjkbnaaG1
set_option maxRecDepth 100000
set_option linter.unusedVariables false
set_option linter.unusedSimpArgs false
namespace Go.Abs
open Go
def pairC (x : Nat × Nat) : List AV := [I x.1, I x.2]
theorem pairC_len (W : PL) : (recs pairC W).length = W.length * 2 := recs_length (w := 2) (fun _ => rfl) W
theorem mapTI40 : mapTI E 40 = some (.i64, .i64) := by kernel_rfl
theorem key_i {i k : Int} (h1 : In64 i) (h2 : In64 k) : keyA .i64 (.agg [I i, I k]) = some (i, k) := by
  have wf : ∀ n : Int, In64 n → (Lit.int .i64 n).wf = true := by
    intro n h
    unfold In64 at h
    simp [Lit.wf, IntKind.min, IntKind.max, IntKind.signed, IntKind.bits]
    omega
  simp only [keyA]
  rw [if_pos (by simp [wf i h1, wf k h2])]
theorem get_map {kd vd : IntKind} {f : Int → Int → Int} {h : AHeap} : getMap (.map kd vd f :: h) 0 kd vd = some f := by simp [getMap]
/-- A statement that charges nothing. -/
def free (s : Sm) : Sm := .mk { s.b with cost := 0 } s.body s.els s.arms
theorem c13f {x y : Sm} (hf : x.b.Fit) (hx : Bare x) (hy : Bare y) : PFn E 13 [.ro 1 (free x).cells, .ro 1 (free y).cells] (B (alike x.b y.b)) := by
  have := c13s (free x) (free y) ⟨hf.kind, by show In64 0; unfold In64; omega, hf.n, hf.m, hf.e, hf.i, hf.ll, hf.l, hf.al, hf.a⟩ ⟨hx.body, hx.els, hx.arms⟩ ⟨hy.body, hy.els, hy.arms⟩
  have e : (decide ((free x).b.cost = (free y).b.cost) && alike (free x).b (free y).b) = alike x.b y.b := by
    rw [alike_eq, alike_eq]
    simp [free, Sm.b]
  rw [e] at this
  exact this
theorem at_end2 {h : AHeap} {x y : ABlock} : ((h ++ [x]) ++ [y])[h.length]? = some x := by
  rw [List.getElem?_append_left (by simp)]; simp
theorem set_end2 {h : AHeap} {x y z : ABlock} : ((h ++ [x]) ++ [y]).set h.length z = (h ++ [z]) ++ [y] := by
  rw [List.set_append_left _ _ (by simp)]; simp
def lenS (h : AHeap) : Nat := h.length + 1
theorem len1 {h : AHeap} {x : ABlock} : (h ++ [x]).length = lenS h := by simp [lenS]
theorem getS {h : AHeap} {x y : ABlock} : ((h ++ [x]) ++ [y])[lenS h]? = some y := by
  rw [← len1 (x := x)]; simp
theorem setS {h : AHeap} {x y z : ABlock} : ((h ++ [x]) ++ [y]).set (lenS h) z = (h ++ [x]) ++ [z] := by
  rw [← len1 (x := x)]; exact set_end
theorem getS2 {h : AHeap} {x y z : ABlock} : (((h ++ [x]) ++ [y]) ++ [z])[lenS h]? = some y := by
  rw [← len1 (x := x)]; exact at_end2
theorem setS2 {h : AHeap} {x y z w : ABlock} : (((h ++ [x]) ++ [y]) ++ [z]).set (lenS h) w = ((h ++ [x]) ++ [w]) ++ [z] := by
  rw [← len1 (x := x)]; exact set_end2
theorem max_a {m n : Nat} : foldA maxA (I m) [I n] = some (I ((max m n : Nat) : Int)) := by
  simp only [foldA, maxA]
  by_cases h : (n : Int) > (m : Int)
  · rw [if_pos h, show max m n = n by omega]
  · rw [if_neg h, show max m n = m by omega]
theorem succs_succ {a b : List Nd} {i k c : Nat} : succs a b i k (c + 1) = succs a b i k c ++ [(nextAt a i c, nextAt b k c)] := by simp [succs, List.range_succ]
theorem succs_len {a b : List Nd} {i k c : Nat} : (succs a b i k c).length = c := by simp [succs]
set_option maxHeartbeats 8000000 in
theorem c6 (a b : List Nd) (ha : Fine a) (hb : Fine b) : PFn E 6 [ndsA a, ndsA b] (B (goB a b)) := by
  have la := ha.len
  have lb := hb.len
  have k7 := c7 a (by omega) ha.fit
  have k7' := c7 b (by omega) hb.fit
  rw [ha.right] at k7
  rw [hb.right] at k7'
  refine pfn_F fn6 (by simp) ?_
  simp only [Go.Proofs.Try.f6, Option.getD_some, List.append_eq, List.cons_append, List.nil_append]
  repeat' (first
    | refine If1.split (fun hb => ?_) (fun hb => ?_)
    | refine C1.pure (k7) (by simp [AV.closedL, AV.closed, ints_closed, ex_closed, ag_closed, sm_closed, arm_closed, nd_closed]) ?_
    | refine C1.pure (k7') (by simp [AV.closedL, AV.closed, ints_closed, ex_closed, ag_closed, sm_closed, arm_closed, nd_closed]) ?_
    | simp (config := { maxSteps := 1000000 }) only [W1_skip, W1_ret, W1_label, W1_exit, W1_seq, W1_cond, W1_block, W1_region, W1_draw, W1_loop, O1_nil, O1_n, O1_s, slotD_s, slotD_z, V1_s, U1_b, U1_u, If1_t, If1_f, If1_not, eqB_tt, eqB_tf, eqB_ft, eqB_ff, X1_eq, H1_f, H1_h, H1_c, how, B1_some, B1_none, B1_ite, D1_b, setT_t, setT_c, T1_n, T1_r, T1_x, K1_n, K1_r, K1_x, FinP_n, FinP_r, bindO_some, RetOk_lit, FinX_n, FinX_r, FinK_n, FinK_r, oneOrTup_1, RetX_lit, getCells, List.set_cons_zero, List.set_cons_succ, putAt, fillA, sizesOf, allTyped, List.all_cons, List.all_nil, Bool.and_self, Bool.true_and, Bool.and_true, Nat.reduceMul, Int.reduceLT, Int.reduceGT, Int.reduceGE, Int.cast_ofNat_Int, Int.reduceLE, Int.reduceToNat, Int.reduceAdd, Int.reduceNeg, Int.reduceEq, Int.reduceBNe, Int.reduceBEq, decide_false, zerosA, List.replicate_succ, List.replicate_zero, List.flatten_cons, List.flatten_nil, Option.isSome_some, dstOk, evRes, evRes1, evFree, evHeap, evA, upd_ne, upd_same, initF, updO_some, updO_none, kindOf, AV.storable, AV.cells, AV.one, Value.oneCell', mode, E_pol, pol, binA, unA, litInt, litBool, litStr, eqA, callee, evArgs, evParts, ne_eq, Nat.reduceEqDiff, Nat.reduceLT, not_false_eq_true, decide_true, if_true, reduceIte, List.take_zero, List.take_succ_cons, List.length_cons, List.length_nil, Nat.reduceAdd, Nat.reduceLeDiff, List.getElem?_cons_zero, List.getElem?_cons_succ, List.getD_cons_zero, List.getD_cons_succ, List.drop_zero, List.drop_succ_cons, List.map_cons, List.map_nil, List.cons_append, List.nil_append, List.append_nil, List.head?_cons, Int.toNat_natCast, Nat.zero_le, and_self, true_and, and_true, Bool.not_true, Bool.not_false, Option.map_some, true_implies, Bool.true_eq_false, Bool.false_eq_true, reduceCtorEq, false_implies, List.mem_cons, List.not_mem_nil, Prod.mk.injEq, false_and, and_false, or_false, false_or, or_true, true_or, if_false, ty3, ty3k, ty3s, ty3t, ty3z, ty3o, ty3b, ty22, ty22k, ty22s, ty22t, ty22z, ty22o, ty22b, ty27, ty27k, ty27s, ty27t, ty27z, ty27o, ty27b, ty29, ty29k, ty29s, ty29t, ty29z, ty29o, ty29b, ty30, ty30k, ty30s, ty30t, ty30z, ty30o, ty30b, ty31, ty31k, ty31s, ty31t, ty31z, ty31o, ty31b, ty32, ty32k, ty32s, ty32t, ty32z, ty32o, ty32b, ty34, ty34k, ty34s, ty34t, ty34z, ty34o, ty34b, ty35, ty35k, ty35s, ty35t, ty35z, ty35o, ty35b, ty37, ty37k, ty37s, ty37t, ty37z, ty37o, ty37b, ty41, ty41k, ty41s, ty41t, ty41z, ty41o, ty41b, ty42, ty42k, ty42s, ty42t, ty42z, ty42o, ty42b, cz, at_end, set_end, mapTI40]
    | refine And.intro (a := drawOk _ _ = true) (by kernel_rfl) ?_
    | (refine id (α := drawOk _ _ = true) ?_; kernel_rfl))
  refine L1_wf (fun kk fr h => fr 0 = ndsA a ∧ fr 1 = ndsA b ∧ fr 5 = .mref 0 ∧ ∃ (M W : PL) (ver : Nat) (f : Int → Int → Int) (xs : List AV) (hr : AHeap), h = .map .i64 .i64 f :: .cells ver xs :: hr ∧ fr 6 = .ms 1 ver 0 W.length 2 ∧ W.length * 2 ≤ xs.length ∧ xs.take (W.length * 2) = recs pairC W ∧
    (∀ i k : Nat, f i k = if (i, k) ∈ M then 1 else 0) ∧ Law a b M W ∧ kk = (576 - M.length) * 41 + W.length ∧ kk ≤ 23617) ?_ 23617 _ _ ?_
  · rintro kk fr h ⟨f0, f1, f5, M, W, ver, f, xs, hr, rfl, f6, hle, htk, hf, hlaw, hkk, hkb⟩
    rcases List.eq_nil_or_concat W with rfl | ⟨W', x, rfl⟩
    · have d1 : decide ((([] : PL).length : Int) > 0) = false := rfl
      rw [goB_t (law_end hlaw)]
      repeat' (first
        | refine If1.split (fun hb => ?_) (fun hb => ?_)
        | simp (config := { maxSteps := 1000000 }) only [W1_skip, W1_ret, W1_label, W1_exit, W1_seq, W1_cond, W1_block, W1_region, W1_draw, W1_loop, O1_nil, O1_n, O1_s, slotD_s, slotD_z, V1_s, U1_b, U1_u, If1_t, If1_f, If1_not, eqB_tt, eqB_tf, eqB_ft, eqB_ff, X1_eq, H1_f, H1_h, H1_c, how, B1_some, B1_none, B1_ite, D1_b, setT_t, setT_c, T1_n, T1_r, T1_x, K1_n, K1_r, K1_x, FinP_n, FinP_r, bindO_some, RetOk_lit, FinX_n, FinX_r, FinK_n, FinK_r, oneOrTup_1, RetX_lit, getCells, List.set_cons_zero, List.set_cons_succ, putAt, fillA, sizesOf, allTyped, List.all_cons, List.all_nil, Bool.and_self, Bool.true_and, Bool.and_true, Nat.reduceMul, Int.reduceLT, Int.reduceGT, Int.reduceGE, Int.cast_ofNat_Int, Int.reduceLE, Int.reduceToNat, Int.reduceAdd, Int.reduceNeg, Int.reduceEq, Int.reduceBNe, Int.reduceBEq, decide_false, zerosA, List.replicate_succ, List.replicate_zero, List.flatten_cons, List.flatten_nil, Option.isSome_some, dstOk, evRes, evRes1, evFree, evHeap, evA, upd_ne, upd_same, initF, updO_some, updO_none, kindOf, AV.storable, AV.cells, AV.one, Value.oneCell', mode, E_pol, pol, binA, unA, litInt, litBool, litStr, eqA, callee, evArgs, evParts, ne_eq, Nat.reduceEqDiff, Nat.reduceLT, not_false_eq_true, decide_true, if_true, reduceIte, List.take_zero, List.take_succ_cons, List.length_cons, List.length_nil, Nat.reduceAdd, Nat.reduceLeDiff, List.getElem?_cons_zero, List.getElem?_cons_succ, List.getD_cons_zero, List.getD_cons_succ, List.drop_zero, List.drop_succ_cons, List.map_cons, List.map_nil, List.cons_append, List.nil_append, List.append_nil, List.head?_cons, Int.toNat_natCast, Nat.zero_le, and_self, true_and, and_true, Bool.not_true, Bool.not_false, Option.map_some, true_implies, Bool.true_eq_false, Bool.false_eq_true, reduceCtorEq, false_implies, List.mem_cons, List.not_mem_nil, Prod.mk.injEq, false_and, and_false, or_false, false_or, or_true, true_or, if_false, ty3, ty3k, ty3s, ty3t, ty3z, ty3o, ty3b, ty22, ty22k, ty22s, ty22t, ty22z, ty22o, ty22b, ty27, ty27k, ty27s, ty27t, ty27z, ty27o, ty27b, ty29, ty29k, ty29s, ty29t, ty29z, ty29o, ty29b, ty30, ty30k, ty30s, ty30t, ty30z, ty30o, ty30b, ty31, ty31k, ty31s, ty31t, ty31z, ty31o, ty31b, ty32, ty32k, ty32s, ty32t, ty32z, ty32o, ty32b, ty34, ty34k, ty34s, ty34t, ty34z, ty34o, ty34b, ty35, ty35k, ty35s, ty35t, ty35z, ty35o, ty35b, ty37, ty37k, ty37s, ty37t, ty37z, ty37o, ty37b, ty41, ty41k, ty41s, ty41t, ty41z, ty41o, ty41b, ty42, ty42k, ty42s, ty42t, ty42z, ty42o, ty42b, cz, f0, f1, f5, f6, d1]
        | refine And.intro (a := drawOk _ _ = true) (by kernel_rfl) ?_
        | (refine id (α := drawOk _ _ = true) ?_; kernel_rfl))
    obtain ⟨p, q⟩ := x
    have hWl : (W' ++ [(p, q)]).length = W'.length + 1 := by simp
    rw [List.concat_eq_append] at *
    rw [hWl] at f6 hle htk hkk
    have d1 : decide (((W'.length + 1 : Nat) : Int) > 0) = true := decide_eq_true (by omega)
    have hwm : IntKind.i64.wrap (((W'.length + 1 : Nat) : Int) - 1) = (W'.length : Int) := by rw [wrap64 (by unfold In64; omega)]; omega
    have hin : 0 ≤ (W'.length : Int) ∧ (W'.length : Int) < ((W'.length + 1 : Nat) : Int) := by omega
    have hxs : xs = recs pairC W' ++ ([I p, I q] ++ xs.drop ((W'.length + 1) * 2)) := by
      rw [← List.append_assoc]
      conv => lhs; rw [← List.take_append_drop ((W'.length + 1) * 2) xs]
      rw [htk, recs_append]
      rfl
    have hdr : xs.drop (W'.length * 2) = [I p, I q] ++ xs.drop ((W'.length + 1) * 2) := by
      conv => lhs; rw [hxs]
      rw [List.drop_left' (pairC_len W')]
    have htw : xs.take (W'.length * 2) = recs pairC W' := by
      rw [hxs, List.take_left' (pairC_len W')]
    have hlw : W'.length * 2 ≤ xs.length := by omega
    have hsl : sliceLH (W'.length + 1) (W'.length + 1) none (some (some (.lit (.int .i64 (W'.length : Int))))) = some (0, W'.length) := by
      simp only [sliceLH]
      rw [if_pos (by omega)]
      rfl
    have hreach := hlaw.w (p, q) (by simp)
    obtain ⟨hp, hq⟩ := hreach.in ha hb
    have k1 := c12 a ha p hp
    have k2 := c12 b hb q hq
    cases e1 : behindL a p with
    | none =>
      rw [e1, pairA] at k1
      cases e2 : behindL b q with
      | none =>
        rw [e2, pairA] at k2
        repeat' (first
          | refine If1.split (fun hb => ?_) (fun hb => ?_)
          | refine C1.pure (k1) (by simp [AV.closedL, AV.closed, ints_closed, ex_closed, ag_closed, sm_closed, arm_closed, nd_closed]) ?_
          | refine C1.pure (k2) (by simp [AV.closedL, AV.closed, ints_closed, ex_closed, ag_closed, sm_closed, arm_closed, nd_closed]) ?_
          | simp (config := { maxSteps := 1000000 }) only [W1_skip, W1_ret, W1_label, W1_exit, W1_seq, W1_cond, W1_block, W1_region, W1_draw, W1_loop, O1_nil, O1_n, O1_s, slotD_s, slotD_z, V1_s, U1_b, U1_u, If1_t, If1_f, If1_not, eqB_tt, eqB_tf, eqB_ft, eqB_ff, X1_eq, H1_f, H1_h, H1_c, how, B1_some, B1_none, B1_ite, D1_b, setT_t, setT_c, T1_n, T1_r, T1_x, K1_n, K1_r, K1_x, FinP_n, FinP_r, bindO_some, RetOk_lit, FinX_n, FinX_r, FinK_n, FinK_r, oneOrTup_1, RetX_lit, getCells, List.set_cons_zero, List.set_cons_succ, putAt, fillA, sizesOf, allTyped, List.all_cons, List.all_nil, Bool.and_self, Bool.true_and, Bool.and_true, Nat.reduceMul, Int.reduceLT, Int.reduceGT, Int.reduceGE, Int.cast_ofNat_Int, Int.reduceLE, Int.reduceToNat, Int.reduceAdd, Int.reduceNeg, Int.reduceEq, Int.reduceBNe, Int.reduceBEq, decide_false, zerosA, List.replicate_succ, List.replicate_zero, List.flatten_cons, List.flatten_nil, Option.isSome_some, dstOk, evRes, evRes1, evFree, evHeap, evA, upd_ne, upd_same, initF, updO_some, updO_none, kindOf, AV.storable, AV.cells, AV.one, Value.oneCell', mode, E_pol, pol, binA, unA, litInt, litBool, litStr, eqA, callee, evArgs, evParts, ne_eq, Nat.reduceEqDiff, Nat.reduceLT, not_false_eq_true, decide_true, if_true, reduceIte, List.take_zero, List.take_succ_cons, List.length_cons, List.length_nil, Nat.reduceAdd, Nat.reduceLeDiff, List.getElem?_cons_zero, List.getElem?_cons_succ, List.getD_cons_zero, List.getD_cons_succ, List.drop_zero, List.drop_succ_cons, List.map_cons, List.map_nil, List.cons_append, List.nil_append, List.append_nil, List.head?_cons, Int.toNat_natCast, Nat.zero_le, and_self, true_and, and_true, Bool.not_true, Bool.not_false, Option.map_some, true_implies, Bool.true_eq_false, Bool.false_eq_true, reduceCtorEq, false_implies, List.mem_cons, List.not_mem_nil, Prod.mk.injEq, false_and, and_false, or_false, false_or, or_true, true_or, if_false, ty3, ty3k, ty3s, ty3t, ty3z, ty3o, ty3b, ty22, ty22k, ty22s, ty22t, ty22z, ty22o, ty22b, ty27, ty27k, ty27s, ty27t, ty27z, ty27o, ty27b, ty29, ty29k, ty29s, ty29t, ty29z, ty29o, ty29b, ty30, ty30k, ty30s, ty30t, ty30z, ty30o, ty30b, ty31, ty31k, ty31s, ty31t, ty31z, ty31o, ty31b, ty32, ty32k, ty32s, ty32t, ty32z, ty32o, ty32b, ty34, ty34k, ty34s, ty34t, ty34z, ty34o, ty34b, ty35, ty35k, ty35s, ty35t, ty35z, ty35o, ty35b, ty37, ty37k, ty37s, ty37t, ty37z, ty37o, ty37b, ty41, ty41k, ty41s, ty41t, ty41z, ty41o, ty41b, ty42, ty42k, ty42s, ty42t, ty42z, ty42o, ty42b, cz, f0, f1, f5, f6, d1, hwm, hin, hdr, hsl, Nat.zero_add, at_end, set_end, Option.map_some, Option.map_none]
          | refine And.intro (a := drawOk _ _ = true) (by kernel_rfl) ?_
          | (refine id (α := drawOk _ _ = true) ?_; kernel_rfl))
        exact ⟨(576 - M.length) * 41 + W'.length, by omega, M, W', ver, f, xs, _, rfl, rfl, hlw, htw, hf, law_none hlaw e1 e2, rfl, by omega⟩
      | some r =>
        obtain ⟨k, m⟩ := r
        rw [e2, pairA] at k2
        have hne : ((-1 : Int) != (k : Int)) = true := by simp
        rw [goB_f (law_bad hlaw (by unfold Good; rw [e1, e2]; exact id))]
        repeat' (first
          | refine If1.split (fun hb => ?_) (fun hb => ?_)
          | refine C1.pure (k1) (by simp [AV.closedL, AV.closed, ints_closed, ex_closed, ag_closed, sm_closed, arm_closed, nd_closed]) ?_
          | refine C1.pure (k2) (by simp [AV.closedL, AV.closed, ints_closed, ex_closed, ag_closed, sm_closed, arm_closed, nd_closed]) ?_
          | simp (config := { maxSteps := 1000000 }) only [W1_skip, W1_ret, W1_label, W1_exit, W1_seq, W1_cond, W1_block, W1_region, W1_draw, W1_loop, O1_nil, O1_n, O1_s, slotD_s, slotD_z, V1_s, U1_b, U1_u, If1_t, If1_f, If1_not, eqB_tt, eqB_tf, eqB_ft, eqB_ff, X1_eq, H1_f, H1_h, H1_c, how, B1_some, B1_none, B1_ite, D1_b, setT_t, setT_c, T1_n, T1_r, T1_x, K1_n, K1_r, K1_x, FinP_n, FinP_r, bindO_some, RetOk_lit, FinX_n, FinX_r, FinK_n, FinK_r, oneOrTup_1, RetX_lit, getCells, List.set_cons_zero, List.set_cons_succ, putAt, fillA, sizesOf, allTyped, List.all_cons, List.all_nil, Bool.and_self, Bool.true_and, Bool.and_true, Nat.reduceMul, Int.reduceLT, Int.reduceGT, Int.reduceGE, Int.cast_ofNat_Int, Int.reduceLE, Int.reduceToNat, Int.reduceAdd, Int.reduceNeg, Int.reduceEq, Int.reduceBNe, Int.reduceBEq, decide_false, zerosA, List.replicate_succ, List.replicate_zero, List.flatten_cons, List.flatten_nil, Option.isSome_some, dstOk, evRes, evRes1, evFree, evHeap, evA, upd_ne, upd_same, initF, updO_some, updO_none, kindOf, AV.storable, AV.cells, AV.one, Value.oneCell', mode, E_pol, pol, binA, unA, litInt, litBool, litStr, eqA, callee, evArgs, evParts, ne_eq, Nat.reduceEqDiff, Nat.reduceLT, not_false_eq_true, decide_true, if_true, reduceIte, List.take_zero, List.take_succ_cons, List.length_cons, List.length_nil, Nat.reduceAdd, Nat.reduceLeDiff, List.getElem?_cons_zero, List.getElem?_cons_succ, List.getD_cons_zero, List.getD_cons_succ, List.drop_zero, List.drop_succ_cons, List.map_cons, List.map_nil, List.cons_append, List.nil_append, List.append_nil, List.head?_cons, Int.toNat_natCast, Nat.zero_le, and_self, true_and, and_true, Bool.not_true, Bool.not_false, Option.map_some, true_implies, Bool.true_eq_false, Bool.false_eq_true, reduceCtorEq, false_implies, List.mem_cons, List.not_mem_nil, Prod.mk.injEq, false_and, and_false, or_false, false_or, or_true, true_or, if_false, ty3, ty3k, ty3s, ty3t, ty3z, ty3o, ty3b, ty22, ty22k, ty22s, ty22t, ty22z, ty22o, ty22b, ty27, ty27k, ty27s, ty27t, ty27z, ty27o, ty27b, ty29, ty29k, ty29s, ty29t, ty29z, ty29o, ty29b, ty30, ty30k, ty30s, ty30t, ty30z, ty30o, ty30b, ty31, ty31k, ty31s, ty31t, ty31z, ty31o, ty31b, ty32, ty32k, ty32s, ty32t, ty32z, ty32o, ty32b, ty34, ty34k, ty34s, ty34t, ty34z, ty34o, ty34b, ty35, ty35k, ty35s, ty35t, ty35z, ty35o, ty35b, ty37, ty37k, ty37s, ty37t, ty37z, ty37o, ty37b, ty41, ty41k, ty41s, ty41t, ty41z, ty41o, ty41b, ty42, ty42k, ty42s, ty42t, ty42z, ty42o, ty42b, cz, f0, f1, f5, f6, d1, hwm, hin, hdr, hsl, hne, Nat.zero_add, at_end, set_end, Option.map_some, Option.map_none]
          | refine And.intro (a := drawOk _ _ = true) (by kernel_rfl) ?_
          | (refine id (α := drawOk _ _ = true) ?_; kernel_rfl))
    | some r =>
      obtain ⟨i, n⟩ := r
      rw [e1, pairA] at k1
      have hi0 : decide ((i : Int) < 0) = false := by simp
      cases e2 : behindL b q with
      | none =>
        rw [e2, pairA] at k2
        have hne : ((i : Int) != (-1 : Int)) = true := by simp
        rw [goB_f (law_bad hlaw (by unfold Good; rw [e1, e2]; exact id))]
        repeat' (first
          | refine If1.split (fun hb => ?_) (fun hb => ?_)
          | refine C1.pure (k1) (by simp [AV.closedL, AV.closed, ints_closed, ex_closed, ag_closed, sm_closed, arm_closed, nd_closed]) ?_
          | refine C1.pure (k2) (by simp [AV.closedL, AV.closed, ints_closed, ex_closed, ag_closed, sm_closed, arm_closed, nd_closed]) ?_
          | simp (config := { maxSteps := 1000000 }) only [W1_skip, W1_ret, W1_label, W1_exit, W1_seq, W1_cond, W1_block, W1_region, W1_draw, W1_loop, O1_nil, O1_n, O1_s, slotD_s, slotD_z, V1_s, U1_b, U1_u, If1_t, If1_f, If1_not, eqB_tt, eqB_tf, eqB_ft, eqB_ff, X1_eq, H1_f, H1_h, H1_c, how, B1_some, B1_none, B1_ite, D1_b, setT_t, setT_c, T1_n, T1_r, T1_x, K1_n, K1_r, K1_x, FinP_n, FinP_r, bindO_some, RetOk_lit, FinX_n, FinX_r, FinK_n, FinK_r, oneOrTup_1, RetX_lit, getCells, List.set_cons_zero, List.set_cons_succ, putAt, fillA, sizesOf, allTyped, List.all_cons, List.all_nil, Bool.and_self, Bool.true_and, Bool.and_true, Nat.reduceMul, Int.reduceLT, Int.reduceGT, Int.reduceGE, Int.cast_ofNat_Int, Int.reduceLE, Int.reduceToNat, Int.reduceAdd, Int.reduceNeg, Int.reduceEq, Int.reduceBNe, Int.reduceBEq, decide_false, zerosA, List.replicate_succ, List.replicate_zero, List.flatten_cons, List.flatten_nil, Option.isSome_some, dstOk, evRes, evRes1, evFree, evHeap, evA, upd_ne, upd_same, initF, updO_some, updO_none, kindOf, AV.storable, AV.cells, AV.one, Value.oneCell', mode, E_pol, pol, binA, unA, litInt, litBool, litStr, eqA, callee, evArgs, evParts, ne_eq, Nat.reduceEqDiff, Nat.reduceLT, not_false_eq_true, decide_true, if_true, reduceIte, List.take_zero, List.take_succ_cons, List.length_cons, List.length_nil, Nat.reduceAdd, Nat.reduceLeDiff, List.getElem?_cons_zero, List.getElem?_cons_succ, List.getD_cons_zero, List.getD_cons_succ, List.drop_zero, List.drop_succ_cons, List.map_cons, List.map_nil, List.cons_append, List.nil_append, List.append_nil, List.head?_cons, Int.toNat_natCast, Nat.zero_le, and_self, true_and, and_true, Bool.not_true, Bool.not_false, Option.map_some, true_implies, Bool.true_eq_false, Bool.false_eq_true, reduceCtorEq, false_implies, List.mem_cons, List.not_mem_nil, Prod.mk.injEq, false_and, and_false, or_false, false_or, or_true, true_or, if_false, ty3, ty3k, ty3s, ty3t, ty3z, ty3o, ty3b, ty22, ty22k, ty22s, ty22t, ty22z, ty22o, ty22b, ty27, ty27k, ty27s, ty27t, ty27z, ty27o, ty27b, ty29, ty29k, ty29s, ty29t, ty29z, ty29o, ty29b, ty30, ty30k, ty30s, ty30t, ty30z, ty30o, ty30b, ty31, ty31k, ty31s, ty31t, ty31z, ty31o, ty31b, ty32, ty32k, ty32s, ty32t, ty32z, ty32o, ty32b, ty34, ty34k, ty34s, ty34t, ty34z, ty34o, ty34b, ty35, ty35k, ty35s, ty35t, ty35z, ty35o, ty35b, ty37, ty37k, ty37s, ty37t, ty37z, ty37o, ty37b, ty41, ty41k, ty41s, ty41t, ty41z, ty41o, ty41b, ty42, ty42k, ty42s, ty42t, ty42z, ty42o, ty42b, cz, f0, f1, f5, f6, d1, hwm, hin, hdr, hsl, hne, hi0, Nat.zero_add, at_end, set_end, Option.map_some, Option.map_none]
          | refine And.intro (a := drawOk _ _ = true) (by kernel_rfl) ?_
          | (refine id (α := drawOk _ _ = true) ?_; kernel_rfl))
      | some r =>
        obtain ⟨k, m⟩ := r
        rw [e2, pairA] at k2
        have hk0 : decide ((k : Int) < 0) = false := by simp
        have hii := (behind_in ha hp e1).1
        have hki := (behind_in hb hq e2).1
        have hkey := key_i (i := (i : Int)) (k := (k : Int)) (by unfold In64; omega) (by unfold In64; omega)
        have hfik := hf i k
        by_cases hm : (i, k) ∈ M
        · rw [if_pos hm] at hfik
          by_cases hnm : n = m
          · subst hnm
            have hne : (n != n) = false := by simp
            repeat' (first
              | refine If1.split (fun hb => ?_) (fun hb => ?_)
              | refine C1.pure (k1) (by simp [AV.closedL, AV.closed, ints_closed, ex_closed, ag_closed, sm_closed, arm_closed, nd_closed]) ?_
              | refine C1.pure (k2) (by simp [AV.closedL, AV.closed, ints_closed, ex_closed, ag_closed, sm_closed, arm_closed, nd_closed]) ?_
              | simp (config := { maxSteps := 1000000 }) only [W1_skip, W1_ret, W1_label, W1_exit, W1_seq, W1_cond, W1_block, W1_region, W1_draw, W1_loop, O1_nil, O1_n, O1_s, slotD_s, slotD_z, V1_s, U1_b, U1_u, If1_t, If1_f, If1_not, eqB_tt, eqB_tf, eqB_ft, eqB_ff, X1_eq, H1_f, H1_h, H1_c, how, B1_some, B1_none, B1_ite, D1_b, setT_t, setT_c, T1_n, T1_r, T1_x, K1_n, K1_r, K1_x, FinP_n, FinP_r, bindO_some, RetOk_lit, FinX_n, FinX_r, FinK_n, FinK_r, oneOrTup_1, RetX_lit, getCells, List.set_cons_zero, List.set_cons_succ, putAt, fillA, sizesOf, allTyped, List.all_cons, List.all_nil, Bool.and_self, Bool.true_and, Bool.and_true, Nat.reduceMul, Int.reduceLT, Int.reduceGT, Int.reduceGE, Int.cast_ofNat_Int, Int.reduceLE, Int.reduceToNat, Int.reduceAdd, Int.reduceNeg, Int.reduceEq, Int.reduceBNe, Int.reduceBEq, decide_false, zerosA, List.replicate_succ, List.replicate_zero, List.flatten_cons, List.flatten_nil, Option.isSome_some, dstOk, evRes, evRes1, evFree, evHeap, evA, upd_ne, upd_same, initF, updO_some, updO_none, kindOf, AV.storable, AV.cells, AV.one, Value.oneCell', mode, E_pol, pol, binA, unA, litInt, litBool, litStr, eqA, callee, evArgs, evParts, ne_eq, Nat.reduceEqDiff, Nat.reduceLT, not_false_eq_true, decide_true, if_true, reduceIte, List.take_zero, List.take_succ_cons, List.length_cons, List.length_nil, Nat.reduceAdd, Nat.reduceLeDiff, List.getElem?_cons_zero, List.getElem?_cons_succ, List.getD_cons_zero, List.getD_cons_succ, List.drop_zero, List.drop_succ_cons, List.map_cons, List.map_nil, List.cons_append, List.nil_append, List.append_nil, List.head?_cons, Int.toNat_natCast, Nat.zero_le, and_self, true_and, and_true, Bool.not_true, Bool.not_false, Option.map_some, true_implies, Bool.true_eq_false, Bool.false_eq_true, reduceCtorEq, false_implies, List.mem_cons, List.not_mem_nil, Prod.mk.injEq, false_and, and_false, or_false, false_or, or_true, true_or, if_false, ty3, ty3k, ty3s, ty3t, ty3z, ty3o, ty3b, ty22, ty22k, ty22s, ty22t, ty22z, ty22o, ty22b, ty27, ty27k, ty27s, ty27t, ty27z, ty27o, ty27b, ty29, ty29k, ty29s, ty29t, ty29z, ty29o, ty29b, ty30, ty30k, ty30s, ty30t, ty30z, ty30o, ty30b, ty31, ty31k, ty31s, ty31t, ty31z, ty31o, ty31b, ty32, ty32k, ty32s, ty32t, ty32z, ty32o, ty32b, ty34, ty34k, ty34s, ty34t, ty34z, ty34o, ty34b, ty35, ty35k, ty35s, ty35t, ty35z, ty35o, ty35b, ty37, ty37k, ty37s, ty37t, ty37z, ty37o, ty37b, ty41, ty41k, ty41s, ty41t, ty41z, ty41o, ty41b, ty42, ty42k, ty42s, ty42t, ty42z, ty42o, ty42b, cz, f0, f1, f5, f6, d1, hwm, hin, hdr, hsl, hi0, hk0, hkey, hfik, hne, mapTI40, get_map, Nat.zero_add, at_end, set_end, Option.map_some, Option.map_none]
              | refine And.intro (a := drawOk _ _ = true) (by kernel_rfl) ?_
              | (refine id (α := drawOk _ _ = true) ?_; kernel_rfl))
            exact ⟨(576 - M.length) * 41 + W'.length, by omega, M, W', ver, f, xs, _, rfl, rfl, hlw, htw, hf, law_met hlaw e1 e2 hm, rfl, by omega⟩
          · have hne : (n != m) = true := by simp [hnm]
            rw [goB_f (law_bad hlaw (by unfold Good; rw [e1, e2]; exact fun h => hnm h.1))]
            repeat' (first
              | refine If1.split (fun hb => ?_) (fun hb => ?_)
              | refine C1.pure (k1) (by simp [AV.closedL, AV.closed, ints_closed, ex_closed, ag_closed, sm_closed, arm_closed, nd_closed]) ?_
              | refine C1.pure (k2) (by simp [AV.closedL, AV.closed, ints_closed, ex_closed, ag_closed, sm_closed, arm_closed, nd_closed]) ?_
              | simp (config := { maxSteps := 1000000 }) only [W1_skip, W1_ret, W1_label, W1_exit, W1_seq, W1_cond, W1_block, W1_region, W1_draw, W1_loop, O1_nil, O1_n, O1_s, slotD_s, slotD_z, V1_s, U1_b, U1_u, If1_t, If1_f, If1_not, eqB_tt, eqB_tf, eqB_ft, eqB_ff, X1_eq, H1_f, H1_h, H1_c, how, B1_some, B1_none, B1_ite, D1_b, setT_t, setT_c, T1_n, T1_r, T1_x, K1_n, K1_r, K1_x, FinP_n, FinP_r, bindO_some, RetOk_lit, FinX_n, FinX_r, FinK_n, FinK_r, oneOrTup_1, RetX_lit, getCells, List.set_cons_zero, List.set_cons_succ, putAt, fillA, sizesOf, allTyped, List.all_cons, List.all_nil, Bool.and_self, Bool.true_and, Bool.and_true, Nat.reduceMul, Int.reduceLT, Int.reduceGT, Int.reduceGE, Int.cast_ofNat_Int, Int.reduceLE, Int.reduceToNat, Int.reduceAdd, Int.reduceNeg, Int.reduceEq, Int.reduceBNe, Int.reduceBEq, decide_false, zerosA, List.replicate_succ, List.replicate_zero, List.flatten_cons, List.flatten_nil, Option.isSome_some, dstOk, evRes, evRes1, evFree, evHeap, evA, upd_ne, upd_same, initF, updO_some, updO_none, kindOf, AV.storable, AV.cells, AV.one, Value.oneCell', mode, E_pol, pol, binA, unA, litInt, litBool, litStr, eqA, callee, evArgs, evParts, ne_eq, Nat.reduceEqDiff, Nat.reduceLT, not_false_eq_true, decide_true, if_true, reduceIte, List.take_zero, List.take_succ_cons, List.length_cons, List.length_nil, Nat.reduceAdd, Nat.reduceLeDiff, List.getElem?_cons_zero, List.getElem?_cons_succ, List.getD_cons_zero, List.getD_cons_succ, List.drop_zero, List.drop_succ_cons, List.map_cons, List.map_nil, List.cons_append, List.nil_append, List.append_nil, List.head?_cons, Int.toNat_natCast, Nat.zero_le, and_self, true_and, and_true, Bool.not_true, Bool.not_false, Option.map_some, true_implies, Bool.true_eq_false, Bool.false_eq_true, reduceCtorEq, false_implies, List.mem_cons, List.not_mem_nil, Prod.mk.injEq, false_and, and_false, or_false, false_or, or_true, true_or, if_false, ty3, ty3k, ty3s, ty3t, ty3z, ty3o, ty3b, ty22, ty22k, ty22s, ty22t, ty22z, ty22o, ty22b, ty27, ty27k, ty27s, ty27t, ty27z, ty27o, ty27b, ty29, ty29k, ty29s, ty29t, ty29z, ty29o, ty29b, ty30, ty30k, ty30s, ty30t, ty30z, ty30o, ty30b, ty31, ty31k, ty31s, ty31t, ty31z, ty31o, ty31b, ty32, ty32k, ty32s, ty32t, ty32z, ty32o, ty32b, ty34, ty34k, ty34s, ty34t, ty34z, ty34o, ty34b, ty35, ty35k, ty35s, ty35t, ty35z, ty35o, ty35b, ty37, ty37k, ty37s, ty37t, ty37z, ty37o, ty37b, ty41, ty41k, ty41s, ty41t, ty41z, ty41o, ty41b, ty42, ty42k, ty42s, ty42t, ty42z, ty42o, ty42b, cz, f0, f1, f5, f6, d1, hwm, hin, hdr, hsl, hi0, hk0, hkey, hfik, hne, mapTI40, get_map, Nat.zero_add, at_end, set_end, Option.map_some, Option.map_none]
              | refine And.intro (a := drawOk _ _ = true) (by kernel_rfl) ?_
              | (refine id (α := drawOk _ _ = true) ?_; kernel_rfl))
        · rw [if_neg hm] at hfik
          have hx : a[i]? = some a[i] := by simp [hii]
          have hy : b[k]? = some b[k] := by simp [hki]
          have hxm := List.getElem_mem hii
          have hym := List.getElem_mem hki
          have hax := Nd.at hx
          have hay := Nd.at hy
          obtain ⟨xb1, xb2, xb3⟩ := ha.bare hxm
          obtain ⟨yb1, yb2, yb3⟩ := hb.bare hym
          have k13 := c13f (x := a[i].s) (y := b[k].s) (ha.fit _ hxm).s.ba ⟨xb1, xb2, xb3⟩ ⟨yb1, yb2, yb3⟩
          have hini : 0 ≤ (i : Int) ∧ (i : Int) < (a.length : Int) := by omega
          have hink : 0 ≤ (k : Int) ∧ (k : Int) < (b.length : Int) := by omega
          have hal : alike a[i].s.b b[k].s.b = true ↔ AlikeAt a b i k := by
            rw [alike_iff]
            constructor
            · exact fun h => ⟨_, _, hx, hy, h⟩
            · rintro ⟨x, y, h1, h2, h3⟩
              rw [hx] at h1
              rw [hy] at h2
              cases h1
              cases h2
              exact h3
          by_cases hnm : n = m
          · subst hnm
            have hne : (n != n) = false := by simp
            cases hA : alike a[i].s.b b[k].s.b with
            | false =>
              rw [hA] at k13
              rw [goB_f (law_bad hlaw (by unfold Good; rw [e1, e2]; exact fun h => by rw [hal.2 h.2] at hA; cases hA))]
              repeat' (first
                | refine If1.split (fun hb => ?_) (fun hb => ?_)
                | refine C1.pure (k1) (by simp [AV.closedL, AV.closed, ints_closed, ex_closed, ag_closed, sm_closed, arm_closed, nd_closed]) ?_
                | refine C1.pure (k2) (by simp [AV.closedL, AV.closed, ints_closed, ex_closed, ag_closed, sm_closed, arm_closed, nd_closed]) ?_
                | refine C1.pure (k13) (by simp [AV.closedL, AV.closed, ints_closed, ex_closed, ag_closed, sm_closed, arm_closed, nd_closed]) ?_
                | simp (config := { maxSteps := 1000000 }) only [W1_skip, W1_ret, W1_label, W1_exit, W1_seq, W1_cond, W1_block, W1_region, W1_draw, W1_loop, O1_nil, O1_n, O1_s, slotD_s, slotD_z, V1_s, U1_b, U1_u, If1_t, If1_f, If1_not, eqB_tt, eqB_tf, eqB_ft, eqB_ff, X1_eq, H1_f, H1_h, H1_c, how, B1_some, B1_none, B1_ite, D1_b, setT_t, setT_c, T1_n, T1_r, T1_x, K1_n, K1_r, K1_x, FinP_n, FinP_r, bindO_some, RetOk_lit, FinX_n, FinX_r, FinK_n, FinK_r, oneOrTup_1, RetX_lit, getCells, List.set_cons_zero, List.set_cons_succ, putAt, fillA, sizesOf, allTyped, List.all_cons, List.all_nil, Bool.and_self, Bool.true_and, Bool.and_true, Nat.reduceMul, Int.reduceLT, Int.reduceGT, Int.reduceGE, Int.cast_ofNat_Int, Int.reduceLE, Int.reduceToNat, Int.reduceAdd, Int.reduceNeg, Int.reduceEq, Int.reduceBNe, Int.reduceBEq, decide_false, zerosA, List.replicate_succ, List.replicate_zero, List.flatten_cons, List.flatten_nil, Option.isSome_some, dstOk, evRes, evRes1, evFree, evHeap, evA, upd_ne, upd_same, initF, updO_some, updO_none, kindOf, AV.storable, AV.cells, AV.one, Value.oneCell', mode, E_pol, pol, binA, unA, litInt, litBool, litStr, eqA, callee, evArgs, evParts, ne_eq, Nat.reduceEqDiff, Nat.reduceLT, not_false_eq_true, decide_true, if_true, reduceIte, List.take_zero, List.take_succ_cons, List.length_cons, List.length_nil, Nat.reduceAdd, Nat.reduceLeDiff, List.getElem?_cons_zero, List.getElem?_cons_succ, List.getD_cons_zero, List.getD_cons_succ, List.drop_zero, List.drop_succ_cons, List.map_cons, List.map_nil, List.cons_append, List.nil_append, List.append_nil, List.head?_cons, Int.toNat_natCast, Nat.zero_le, and_self, true_and, and_true, Bool.not_true, Bool.not_false, Option.map_some, true_implies, Bool.true_eq_false, Bool.false_eq_true, reduceCtorEq, false_implies, List.mem_cons, List.not_mem_nil, Prod.mk.injEq, false_and, and_false, or_false, false_or, or_true, true_or, if_false, ty3, ty3k, ty3s, ty3t, ty3z, ty3o, ty3b, ty22, ty22k, ty22s, ty22t, ty22z, ty22o, ty22b, ty27, ty27k, ty27s, ty27t, ty27z, ty27o, ty27b, ty29, ty29k, ty29s, ty29t, ty29z, ty29o, ty29b, ty30, ty30k, ty30s, ty30t, ty30z, ty30o, ty30b, ty31, ty31k, ty31s, ty31t, ty31z, ty31o, ty31b, ty32, ty32k, ty32s, ty32t, ty32z, ty32o, ty32b, ty34, ty34k, ty34s, ty34t, ty34z, ty34o, ty34b, ty35, ty35k, ty35s, ty35t, ty35z, ty35o, ty35b, ty37, ty37k, ty37s, ty37t, ty37z, ty37o, ty37b, ty41, ty41k, ty41s, ty41t, ty41z, ty41o, ty41b, ty42, ty42k, ty42s, ty42t, ty42z, ty42o, ty42b, cz, f0, f1, f5, f6, d1, hwm, hin, hdr, hsl, hi0, hk0, hkey, hfik, hne, hax, hay, hini, hink, mapTI40, get_map, Nat.zero_add, at_end, set_end, len1, getS, setS, getS2, setS2, Option.map_some, Option.map_none]
                | refine And.intro (a := drawOk _ _ = true) (by kernel_rfl) ?_
                | (refine id (α := drawOk _ _ = true) ?_; kernel_rfl))
            | true =>
              rw [hA] at k13
              have hl := hal.1 hA
              have w1 : IntKind.i64.wrap 1 = 1 := by decide
              repeat' (first
                | refine If1.split (fun hb => ?_) (fun hb => ?_)
                | refine C1.pure (k1) (by simp [AV.closedL, AV.closed, ints_closed, ex_closed, ag_closed, sm_closed, arm_closed, nd_closed]) ?_
                | refine C1.pure (k2) (by simp [AV.closedL, AV.closed, ints_closed, ex_closed, ag_closed, sm_closed, arm_closed, nd_closed]) ?_
                | refine C1.pure (k13) (by simp [AV.closedL, AV.closed, ints_closed, ex_closed, ag_closed, sm_closed, arm_closed, nd_closed]) ?_
                | simp (config := { maxSteps := 1000000 }) only [W1_skip, W1_ret, W1_label, W1_exit, W1_seq, W1_cond, W1_block, W1_region, W1_draw, W1_loop, O1_nil, O1_n, O1_s, slotD_s, slotD_z, V1_s, U1_b, U1_u, If1_t, If1_f, If1_not, eqB_tt, eqB_tf, eqB_ft, eqB_ff, X1_eq, H1_f, H1_h, H1_c, how, B1_some, B1_none, B1_ite, D1_b, setT_t, setT_c, T1_n, T1_r, T1_x, K1_n, K1_r, K1_x, FinP_n, FinP_r, bindO_some, RetOk_lit, FinX_n, FinX_r, FinK_n, FinK_r, oneOrTup_1, RetX_lit, getCells, List.set_cons_zero, List.set_cons_succ, putAt, fillA, sizesOf, allTyped, List.all_cons, List.all_nil, Bool.and_self, Bool.true_and, Bool.and_true, Nat.reduceMul, Int.reduceLT, Int.reduceGT, Int.reduceGE, Int.cast_ofNat_Int, Int.reduceLE, Int.reduceToNat, Int.reduceAdd, Int.reduceNeg, Int.reduceEq, Int.reduceBNe, Int.reduceBEq, decide_false, zerosA, List.replicate_succ, List.replicate_zero, List.flatten_cons, List.flatten_nil, Option.isSome_some, dstOk, evRes, evRes1, evFree, evHeap, evA, upd_ne, upd_same, initF, updO_some, updO_none, kindOf, AV.storable, AV.cells, AV.one, Value.oneCell', mode, E_pol, pol, binA, unA, litInt, litBool, litStr, eqA, callee, evArgs, evParts, ne_eq, Nat.reduceEqDiff, Nat.reduceLT, not_false_eq_true, decide_true, if_true, reduceIte, List.take_zero, List.take_succ_cons, List.length_cons, List.length_nil, Nat.reduceAdd, Nat.reduceLeDiff, List.getElem?_cons_zero, List.getElem?_cons_succ, List.getD_cons_zero, List.getD_cons_succ, List.drop_zero, List.drop_succ_cons, List.map_cons, List.map_nil, List.cons_append, List.nil_append, List.append_nil, List.head?_cons, Int.toNat_natCast, Nat.zero_le, and_self, true_and, and_true, Bool.not_true, Bool.not_false, Option.map_some, true_implies, Bool.true_eq_false, Bool.false_eq_true, reduceCtorEq, false_implies, List.mem_cons, List.not_mem_nil, Prod.mk.injEq, false_and, and_false, or_false, false_or, or_true, true_or, if_false, ty3, ty3k, ty3s, ty3t, ty3z, ty3o, ty3b, ty22, ty22k, ty22s, ty22t, ty22z, ty22o, ty22b, ty27, ty27k, ty27s, ty27t, ty27z, ty27o, ty27b, ty29, ty29k, ty29s, ty29t, ty29z, ty29o, ty29b, ty30, ty30k, ty30s, ty30t, ty30z, ty30o, ty30b, ty31, ty31k, ty31s, ty31t, ty31z, ty31o, ty31b, ty32, ty32k, ty32s, ty32t, ty32z, ty32o, ty32b, ty34, ty34k, ty34s, ty34t, ty34z, ty34o, ty34b, ty35, ty35k, ty35s, ty35t, ty35z, ty35o, ty35b, ty37, ty37k, ty37s, ty37t, ty37z, ty37o, ty37b, ty41, ty41k, ty41s, ty41t, ty41z, ty41o, ty41b, ty42, ty42k, ty42s, ty42t, ty42z, ty42o, ty42b, cz, f0, f1, f5, f6, d1, hwm, hin, hdr, hsl, hi0, hk0, hkey, hfik, hne, hax, hay, hini, hink, w1, max_a, mapTI40, get_map, Nat.zero_add, at_end, set_end, len1, getS, setS, getS2, setS2, Option.map_some, Option.map_none]
                | refine And.intro (a := drawOk _ _ = true) (by kernel_rfl) ?_
                | (refine id (α := drawOk _ _ = true) ?_; kernel_rfl))
              have hxn : lenAt a i = a[i].next.length := lenAt_eq hx
              have hyn : lenAt b k = b[k].next.length := lenAt_eq hy
              have hpush := law_push ha hb hlaw e1 e2 hm hl
              rw [hxn, hyn] at hpush
              have hlens := lens_of ha hb hl
              rw [hxn, hyn] at hlens
              have qx := (ha.few _ hxm).1
              have qy := (hb.few _ hym).1
              have hMf := law_few ha hb hpush
              simp only [List.length_cons] at hMf
              refine L1_up (max a[i].next.length b[k].next.length) (fun c fr h => fr 0 = ndsA a ∧ fr 1 = ndsA b ∧ fr 5 = .mref 0 ∧ fr 8 = I i ∧ fr 10 = I k ∧ fr 115 = I (max a[i].next.length b[k].next.length : Nat) ∧ fr 116 = I c ∧
                ∃ (ver : Nat) (xs : List AV) (hr : AHeap), h = .map .i64 .i64 (mput f i k 1) :: .cells ver xs :: hr ∧ fr 6 = .ms 1 ver 0 (W'.length + c) 2 ∧ (W'.length + c) * 2 ≤ xs.length ∧ xs.take ((W'.length + c) * 2) = recs pairC (W' ++ succs a b i k c)) ?_ ?_ 0 (Nat.zero_le _) _ _ ?_
              · rintro c hc fr h ⟨f0, f1, f5, f8, f10, f115, f116, ver, xs, hr, rfl, f6, hle, htk⟩
                have hcx : 0 < a[i].next.length := by omega
                have hcy : 0 < b[k].next.length := by omega
                have k14 := c14 a[i] c hcx qx (by omega)
                have k14' := c14 b[k] c hcy qy (by omega)
                have nx1 : nx a[i] c = (nextAt a i c : Int) := by rw [nextAt_eq hx, Int.toNat_of_nonneg (nx_in ha hxm hcx c).1]
                have nx2 : nx b[k] c = (nextAt b k c : Int) := by rw [nextAt_eq hy, Int.toNat_of_nonneg (nx_in hb hym hcy c).1]
                rw [nx1] at k14
                rw [nx2] at k14'
                have hlt : decide ((c : Int) < ((max a[i].next.length b[k].next.length : Nat) : Int)) = true := decide_eq_true (by omega)
                have hw : IntKind.i64.wrap ((c : Int) + 1) = ((c + 1 : Nat) : Int) := by rw [wrap64 (by unfold In64; omega)]; simp
                have hbnd : (W'.length + c + 1) * 16 ≤ 140737488355328 ∧ W'.length + c + 1 ≤ 9223372036854775807 := by omega
                repeat' (first
                  | refine If1.split (fun hb => ?_) (fun hb => ?_)
                  | refine C1.pure (k14) (by simp [AV.closedL, AV.closed, ints_closed, ex_closed, ag_closed, sm_closed, arm_closed, nd_closed]) ?_
                  | refine C1.pure (k14') (by simp [AV.closedL, AV.closed, ints_closed, ex_closed, ag_closed, sm_closed, arm_closed, nd_closed]) ?_
                  | simp (config := { maxSteps := 1000000 }) only [W1_skip, W1_ret, W1_label, W1_exit, W1_seq, W1_cond, W1_block, W1_region, W1_draw, W1_loop, O1_nil, O1_n, O1_s, slotD_s, slotD_z, V1_s, U1_b, U1_u, If1_t, If1_f, If1_not, eqB_tt, eqB_tf, eqB_ft, eqB_ff, X1_eq, H1_f, H1_h, H1_c, how, B1_some, B1_none, B1_ite, D1_b, setT_t, setT_c, T1_n, T1_r, T1_x, K1_n, K1_r, K1_x, FinP_n, FinP_r, bindO_some, RetOk_lit, FinX_n, FinX_r, FinK_n, FinK_r, oneOrTup_1, RetX_lit, getCells, List.set_cons_zero, List.set_cons_succ, putAt, fillA, sizesOf, allTyped, List.all_cons, List.all_nil, Bool.and_self, Bool.true_and, Bool.and_true, Nat.reduceMul, Int.reduceLT, Int.reduceGT, Int.reduceGE, Int.cast_ofNat_Int, Int.reduceLE, Int.reduceToNat, Int.reduceAdd, Int.reduceNeg, Int.reduceEq, Int.reduceBNe, Int.reduceBEq, decide_false, zerosA, List.replicate_succ, List.replicate_zero, List.flatten_cons, List.flatten_nil, Option.isSome_some, dstOk, evRes, evRes1, evFree, evHeap, evA, upd_ne, upd_same, initF, updO_some, updO_none, kindOf, AV.storable, AV.cells, AV.one, Value.oneCell', mode, E_pol, pol, binA, unA, litInt, litBool, litStr, eqA, callee, evArgs, evParts, ne_eq, Nat.reduceEqDiff, Nat.reduceLT, not_false_eq_true, decide_true, if_true, reduceIte, List.take_zero, List.take_succ_cons, List.length_cons, List.length_nil, Nat.reduceAdd, Nat.reduceLeDiff, List.getElem?_cons_zero, List.getElem?_cons_succ, List.getD_cons_zero, List.getD_cons_succ, List.drop_zero, List.drop_succ_cons, List.map_cons, List.map_nil, List.cons_append, List.nil_append, List.append_nil, List.head?_cons, Int.toNat_natCast, Nat.zero_le, and_self, true_and, and_true, Bool.not_true, Bool.not_false, Option.map_some, true_implies, Bool.true_eq_false, Bool.false_eq_true, reduceCtorEq, false_implies, List.mem_cons, List.not_mem_nil, Prod.mk.injEq, false_and, and_false, or_false, false_or, or_true, true_or, if_false, ty3, ty3k, ty3s, ty3t, ty3z, ty3o, ty3b, ty22, ty22k, ty22s, ty22t, ty22z, ty22o, ty22b, ty27, ty27k, ty27s, ty27t, ty27z, ty27o, ty27b, ty29, ty29k, ty29s, ty29t, ty29z, ty29o, ty29b, ty30, ty30k, ty30s, ty30t, ty30z, ty30o, ty30b, ty31, ty31k, ty31s, ty31t, ty31z, ty31o, ty31b, ty32, ty32k, ty32s, ty32t, ty32z, ty32o, ty32b, ty34, ty34k, ty34s, ty34t, ty34z, ty34o, ty34b, ty35, ty35k, ty35s, ty35t, ty35z, ty35o, ty35b, ty37, ty37k, ty37s, ty37t, ty37z, ty37o, ty37b, ty41, ty41k, ty41s, ty41t, ty41z, ty41o, ty41b, ty42, ty42k, ty42s, ty42t, ty42z, ty42o, ty42b, cz, f0, f1, f5, f6, f8, f10, f115, f116, hlt, hw, hax, hay, hini, hink, cellsS, appendA, hle, hbnd]
                  | refine And.intro (a := drawOk _ _ = true) (by kernel_rfl) ?_
                  | (refine id (α := drawOk _ _ = true) ?_; kernel_rfl))
                have hln : (xs.take ((W'.length + c) * 2)).length = (W'.length + c) * 2 := by rw [List.length_take]; omega
                refine ⟨ver + 1, _, hr, rfl, rfl, by rw [List.length_append, hln]; simp; omega, ?_⟩
                rw [List.take_of_length_le (by rw [List.length_append, hln]; simp; omega), htk, succs_succ, ← List.append_assoc, recs_append (m := [_])]
                rfl
              · rintro fr h ⟨f0, f1, f5, f8, f10, f115, f116, ver, xs, hr, rfl, f6, hle, htk⟩
                have hlt : decide (((max a[i].next.length b[k].next.length : Nat) : Int) < ((max a[i].next.length b[k].next.length : Nat) : Int)) = false := by simp
                repeat' (first
                  | refine If1.split (fun hb => ?_) (fun hb => ?_)
                  | simp (config := { maxSteps := 1000000 }) only [W1_skip, W1_ret, W1_label, W1_exit, W1_seq, W1_cond, W1_block, W1_region, W1_draw, W1_loop, O1_nil, O1_n, O1_s, slotD_s, slotD_z, V1_s, U1_b, U1_u, If1_t, If1_f, If1_not, eqB_tt, eqB_tf, eqB_ft, eqB_ff, X1_eq, H1_f, H1_h, H1_c, how, B1_some, B1_none, B1_ite, D1_b, setT_t, setT_c, T1_n, T1_r, T1_x, K1_n, K1_r, K1_x, FinP_n, FinP_r, bindO_some, RetOk_lit, FinX_n, FinX_r, FinK_n, FinK_r, oneOrTup_1, RetX_lit, getCells, List.set_cons_zero, List.set_cons_succ, putAt, fillA, sizesOf, allTyped, List.all_cons, List.all_nil, Bool.and_self, Bool.true_and, Bool.and_true, Nat.reduceMul, Int.reduceLT, Int.reduceGT, Int.reduceGE, Int.cast_ofNat_Int, Int.reduceLE, Int.reduceToNat, Int.reduceAdd, Int.reduceNeg, Int.reduceEq, Int.reduceBNe, Int.reduceBEq, decide_false, zerosA, List.replicate_succ, List.replicate_zero, List.flatten_cons, List.flatten_nil, Option.isSome_some, dstOk, evRes, evRes1, evFree, evHeap, evA, upd_ne, upd_same, initF, updO_some, updO_none, kindOf, AV.storable, AV.cells, AV.one, Value.oneCell', mode, E_pol, pol, binA, unA, litInt, litBool, litStr, eqA, callee, evArgs, evParts, ne_eq, Nat.reduceEqDiff, Nat.reduceLT, not_false_eq_true, decide_true, if_true, reduceIte, List.take_zero, List.take_succ_cons, List.length_cons, List.length_nil, Nat.reduceAdd, Nat.reduceLeDiff, List.getElem?_cons_zero, List.getElem?_cons_succ, List.getD_cons_zero, List.getD_cons_succ, List.drop_zero, List.drop_succ_cons, List.map_cons, List.map_nil, List.cons_append, List.nil_append, List.append_nil, List.head?_cons, Int.toNat_natCast, Nat.zero_le, and_self, true_and, and_true, Bool.not_true, Bool.not_false, Option.map_some, true_implies, Bool.true_eq_false, Bool.false_eq_true, reduceCtorEq, false_implies, List.mem_cons, List.not_mem_nil, Prod.mk.injEq, false_and, and_false, or_false, false_or, or_true, true_or, if_false, ty3, ty3k, ty3s, ty3t, ty3z, ty3o, ty3b, ty22, ty22k, ty22s, ty22t, ty22z, ty22o, ty22b, ty27, ty27k, ty27s, ty27t, ty27z, ty27o, ty27b, ty29, ty29k, ty29s, ty29t, ty29z, ty29o, ty29b, ty30, ty30k, ty30s, ty30t, ty30z, ty30o, ty30b, ty31, ty31k, ty31s, ty31t, ty31z, ty31o, ty31b, ty32, ty32k, ty32s, ty32t, ty32z, ty32o, ty32b, ty34, ty34k, ty34s, ty34t, ty34z, ty34o, ty34b, ty35, ty35k, ty35s, ty35t, ty35z, ty35o, ty35b, ty37, ty37k, ty37s, ty37t, ty37z, ty37o, ty37b, ty41, ty41k, ty41s, ty41t, ty41z, ty41o, ty41b, ty42, ty42k, ty42s, ty42t, ty42z, ty42o, ty42b, cz, f0, f1, f5, f6, f8, f10, f115, f116, hlt]
                  | refine And.intro (a := drawOk _ _ = true) (by kernel_rfl) ?_
                  | (refine id (α := drawOk _ _ = true) ?_; kernel_rfl))
                refine ⟨(576 - (M.length + 1)) * 41 + (W'.length + max a[i].next.length b[k].next.length), by omega, (i, k) :: M, _, ver, _, xs, hr, rfl, by rw [List.length_append, succs_len], by rw [List.length_append, succs_len]; exact hle, by rw [List.length_append, succs_len]; exact htk, ?_, hpush, by rw [List.length_append, succs_len, List.length_cons], by omega⟩
                intro i' k'
                unfold mput
                by_cases hik : i' = i ∧ k' = k
                · rw [if_pos (by omega), if_pos (by rw [hik.1, hik.2]; exact List.mem_cons_self ..)]
                · rw [if_neg (by omega), hf i' k']
                  have : (i', k') ∈ (i, k) :: M ↔ (i', k') ∈ M := by
                    simp only [List.mem_cons, Prod.mk.injEq]
                    exact ⟨fun h => h.resolve_left hik, Or.inr⟩
                  simp only [this]
              · repeat' (first
                  | refine If1.split (fun hb => ?_) (fun hb => ?_)
                  | simp (config := { maxSteps := 1000000 }) only [W1_skip, W1_ret, W1_label, W1_exit, W1_seq, W1_cond, W1_block, W1_region, W1_draw, W1_loop, O1_nil, O1_n, O1_s, slotD_s, slotD_z, V1_s, U1_b, U1_u, If1_t, If1_f, If1_not, eqB_tt, eqB_tf, eqB_ft, eqB_ff, X1_eq, H1_f, H1_h, H1_c, how, B1_some, B1_none, B1_ite, D1_b, setT_t, setT_c, T1_n, T1_r, T1_x, K1_n, K1_r, K1_x, FinP_n, FinP_r, bindO_some, RetOk_lit, FinX_n, FinX_r, FinK_n, FinK_r, oneOrTup_1, RetX_lit, getCells, List.set_cons_zero, List.set_cons_succ, putAt, fillA, sizesOf, allTyped, List.all_cons, List.all_nil, Bool.and_self, Bool.true_and, Bool.and_true, Nat.reduceMul, Int.reduceLT, Int.reduceGT, Int.reduceGE, Int.cast_ofNat_Int, Int.reduceLE, Int.reduceToNat, Int.reduceAdd, Int.reduceNeg, Int.reduceEq, Int.reduceBNe, Int.reduceBEq, decide_false, zerosA, List.replicate_succ, List.replicate_zero, List.flatten_cons, List.flatten_nil, Option.isSome_some, dstOk, evRes, evRes1, evFree, evHeap, evA, upd_ne, upd_same, initF, updO_some, updO_none, kindOf, AV.storable, AV.cells, AV.one, Value.oneCell', mode, E_pol, pol, binA, unA, litInt, litBool, litStr, eqA, callee, evArgs, evParts, ne_eq, Nat.reduceEqDiff, Nat.reduceLT, not_false_eq_true, decide_true, if_true, reduceIte, List.take_zero, List.take_succ_cons, List.length_cons, List.length_nil, Nat.reduceAdd, Nat.reduceLeDiff, List.getElem?_cons_zero, List.getElem?_cons_succ, List.getD_cons_zero, List.getD_cons_succ, List.drop_zero, List.drop_succ_cons, List.map_cons, List.map_nil, List.cons_append, List.nil_append, List.append_nil, List.head?_cons, Int.toNat_natCast, Nat.zero_le, and_self, true_and, and_true, Bool.not_true, Bool.not_false, Option.map_some, true_implies, Bool.true_eq_false, Bool.false_eq_true, reduceCtorEq, false_implies, List.mem_cons, List.not_mem_nil, Prod.mk.injEq, false_and, and_false, or_false, false_or, or_true, true_or, if_false, ty3, ty3k, ty3s, ty3t, ty3z, ty3o, ty3b, ty22, ty22k, ty22s, ty22t, ty22z, ty22o, ty22b, ty27, ty27k, ty27s, ty27t, ty27z, ty27o, ty27b, ty29, ty29k, ty29s, ty29t, ty29z, ty29o, ty29b, ty30, ty30k, ty30s, ty30t, ty30z, ty30o, ty30b, ty31, ty31k, ty31s, ty31t, ty31z, ty31o, ty31b, ty32, ty32k, ty32s, ty32t, ty32z, ty32o, ty32b, ty34, ty34k, ty34s, ty34t, ty34z, ty34o, ty34b, ty35, ty35k, ty35s, ty35t, ty35z, ty35o, ty35b, ty37, ty37k, ty37s, ty37t, ty37z, ty37o, ty37b, ty41, ty41k, ty41s, ty41t, ty41z, ty41o, ty41b, ty42, ty42k, ty42s, ty42t, ty42z, ty42o, ty42b, cz, f0, f1, f5]
                  | refine And.intro (a := drawOk _ _ = true) (by kernel_rfl) ?_
                  | (refine id (α := drawOk _ _ = true) ?_; kernel_rfl))
                refine ⟨ver, xs, _, rfl, rfl, hlw, ?_⟩
                rw [show succs a b i k 0 = [] from rfl, List.append_nil]
                exact htw
          · have hne : (n != m) = true := by simp [hnm]
            rw [goB_f (law_bad hlaw (by unfold Good; rw [e1, e2]; exact fun h => hnm h.1))]
            repeat' (first
              | refine If1.split (fun hb => ?_) (fun hb => ?_)
              | refine C1.pure (k1) (by simp [AV.closedL, AV.closed, ints_closed, ex_closed, ag_closed, sm_closed, arm_closed, nd_closed]) ?_
              | refine C1.pure (k2) (by simp [AV.closedL, AV.closed, ints_closed, ex_closed, ag_closed, sm_closed, arm_closed, nd_closed]) ?_
              | simp (config := { maxSteps := 1000000 }) only [W1_skip, W1_ret, W1_label, W1_exit, W1_seq, W1_cond, W1_block, W1_region, W1_draw, W1_loop, O1_nil, O1_n, O1_s, slotD_s, slotD_z, V1_s, U1_b, U1_u, If1_t, If1_f, If1_not, eqB_tt, eqB_tf, eqB_ft, eqB_ff, X1_eq, H1_f, H1_h, H1_c, how, B1_some, B1_none, B1_ite, D1_b, setT_t, setT_c, T1_n, T1_r, T1_x, K1_n, K1_r, K1_x, FinP_n, FinP_r, bindO_some, RetOk_lit, FinX_n, FinX_r, FinK_n, FinK_r, oneOrTup_1, RetX_lit, getCells, List.set_cons_zero, List.set_cons_succ, putAt, fillA, sizesOf, allTyped, List.all_cons, List.all_nil, Bool.and_self, Bool.true_and, Bool.and_true, Nat.reduceMul, Int.reduceLT, Int.reduceGT, Int.reduceGE, Int.cast_ofNat_Int, Int.reduceLE, Int.reduceToNat, Int.reduceAdd, Int.reduceNeg, Int.reduceEq, Int.reduceBNe, Int.reduceBEq, decide_false, zerosA, List.replicate_succ, List.replicate_zero, List.flatten_cons, List.flatten_nil, Option.isSome_some, dstOk, evRes, evRes1, evFree, evHeap, evA, upd_ne, upd_same, initF, updO_some, updO_none, kindOf, AV.storable, AV.cells, AV.one, Value.oneCell', mode, E_pol, pol, binA, unA, litInt, litBool, litStr, eqA, callee, evArgs, evParts, ne_eq, Nat.reduceEqDiff, Nat.reduceLT, not_false_eq_true, decide_true, if_true, reduceIte, List.take_zero, List.take_succ_cons, List.length_cons, List.length_nil, Nat.reduceAdd, Nat.reduceLeDiff, List.getElem?_cons_zero, List.getElem?_cons_succ, List.getD_cons_zero, List.getD_cons_succ, List.drop_zero, List.drop_succ_cons, List.map_cons, List.map_nil, List.cons_append, List.nil_append, List.append_nil, List.head?_cons, Int.toNat_natCast, Nat.zero_le, and_self, true_and, and_true, Bool.not_true, Bool.not_false, Option.map_some, true_implies, Bool.true_eq_false, Bool.false_eq_true, reduceCtorEq, false_implies, List.mem_cons, List.not_mem_nil, Prod.mk.injEq, false_and, and_false, or_false, false_or, or_true, true_or, if_false, ty3, ty3k, ty3s, ty3t, ty3z, ty3o, ty3b, ty22, ty22k, ty22s, ty22t, ty22z, ty22o, ty22b, ty27, ty27k, ty27s, ty27t, ty27z, ty27o, ty27b, ty29, ty29k, ty29s, ty29t, ty29z, ty29o, ty29b, ty30, ty30k, ty30s, ty30t, ty30z, ty30o, ty30b, ty31, ty31k, ty31s, ty31t, ty31z, ty31o, ty31b, ty32, ty32k, ty32s, ty32t, ty32z, ty32o, ty32b, ty34, ty34k, ty34s, ty34t, ty34z, ty34o, ty34b, ty35, ty35k, ty35s, ty35t, ty35z, ty35o, ty35b, ty37, ty37k, ty37s, ty37t, ty37z, ty37o, ty37b, ty41, ty41k, ty41s, ty41t, ty41z, ty41o, ty41b, ty42, ty42k, ty42s, ty42t, ty42z, ty42o, ty42b, cz, f0, f1, f5, f6, d1, hwm, hin, hdr, hsl, hi0, hk0, hkey, hfik, hne, hax, hay, hini, hink, mapTI40, get_map, Nat.zero_add, at_end, set_end, len1, getS, setS, getS2, setS2, Option.map_some, Option.map_none]
              | refine And.intro (a := drawOk _ _ = true) (by kernel_rfl) ?_
              | (refine id (α := drawOk _ _ = true) ?_; kernel_rfl))
  · repeat' (first
      | refine If1.split (fun hb => ?_) (fun hb => ?_)
      | simp (config := { maxSteps := 1000000 }) only [W1_skip, W1_ret, W1_label, W1_exit, W1_seq, W1_cond, W1_block, W1_region, W1_draw, W1_loop, O1_nil, O1_n, O1_s, slotD_s, slotD_z, V1_s, U1_b, U1_u, If1_t, If1_f, If1_not, eqB_tt, eqB_tf, eqB_ft, eqB_ff, X1_eq, H1_f, H1_h, H1_c, how, B1_some, B1_none, B1_ite, D1_b, setT_t, setT_c, T1_n, T1_r, T1_x, K1_n, K1_r, K1_x, FinP_n, FinP_r, bindO_some, RetOk_lit, FinX_n, FinX_r, FinK_n, FinK_r, oneOrTup_1, RetX_lit, getCells, List.set_cons_zero, List.set_cons_succ, putAt, fillA, sizesOf, allTyped, List.all_cons, List.all_nil, Bool.and_self, Bool.true_and, Bool.and_true, Nat.reduceMul, Int.reduceLT, Int.reduceGT, Int.reduceGE, Int.cast_ofNat_Int, Int.reduceLE, Int.reduceToNat, Int.reduceAdd, Int.reduceNeg, Int.reduceEq, Int.reduceBNe, Int.reduceBEq, decide_false, zerosA, List.replicate_succ, List.replicate_zero, List.flatten_cons, List.flatten_nil, Option.isSome_some, dstOk, evRes, evRes1, evFree, evHeap, evA, upd_ne, upd_same, initF, updO_some, updO_none, kindOf, AV.storable, AV.cells, AV.one, Value.oneCell', mode, E_pol, pol, binA, unA, litInt, litBool, litStr, eqA, callee, evArgs, evParts, ne_eq, Nat.reduceEqDiff, Nat.reduceLT, not_false_eq_true, decide_true, if_true, reduceIte, List.take_zero, List.take_succ_cons, List.length_cons, List.length_nil, Nat.reduceAdd, Nat.reduceLeDiff, List.getElem?_cons_zero, List.getElem?_cons_succ, List.getD_cons_zero, List.getD_cons_succ, List.drop_zero, List.drop_succ_cons, List.map_cons, List.map_nil, List.cons_append, List.nil_append, List.append_nil, List.head?_cons, Int.toNat_natCast, Nat.zero_le, and_self, true_and, and_true, Bool.not_true, Bool.not_false, Option.map_some, true_implies, Bool.true_eq_false, Bool.false_eq_true, reduceCtorEq, false_implies, List.mem_cons, List.not_mem_nil, Prod.mk.injEq, false_and, and_false, or_false, false_or, or_true, true_or, if_false, ty3, ty3k, ty3s, ty3t, ty3z, ty3o, ty3b, ty22, ty22k, ty22s, ty22t, ty22z, ty22o, ty22b, ty27, ty27k, ty27s, ty27t, ty27z, ty27o, ty27b, ty29, ty29k, ty29s, ty29t, ty29z, ty29o, ty29b, ty30, ty30k, ty30s, ty30t, ty30z, ty30o, ty30b, ty31, ty31k, ty31s, ty31t, ty31z, ty31o, ty31b, ty32, ty32k, ty32s, ty32t, ty32z, ty32o, ty32b, ty34, ty34k, ty34s, ty34t, ty34z, ty34o, ty34b, ty35, ty35k, ty35s, ty35t, ty35z, ty35o, ty35b, ty37, ty37k, ty37s, ty37t, ty37z, ty37o, ty37b, ty41, ty41k, ty41s, ty41t, ty41z, ty41o, ty41b, ty42, ty42k, ty42s, ty42t, ty42z, ty42o, ty42b, cz]
      | refine And.intro (a := drawOk _ _ = true) (by kernel_rfl) ?_
      | (refine id (α := drawOk _ _ = true) ?_; kernel_rfl))
    exact ⟨[], [(0, 0)], 0, _, _, [], rfl, rfl, by simp, rfl, by simp, law_init, rfl⟩
end Go.Abs

