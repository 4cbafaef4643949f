/- Contract: do two graphs go together, by the document. Conditions: none. -/
import Derived.Test.YtnjaedaofjkbnaaG1
set_option maxRecDepth 100000
set_option linter.unusedVariables false
set_option linter.unusedSimpArgs false
namespace Go.Abs
open Go
theorem flat_false : ∀ n : Nat, (List.replicate n [AV.lit (Value.bool false)]).flatten = (List.replicate n false).map B
  | 0 => rfl
  | n + 1 => by rw [List.replicate_succ, List.flatten_cons, flat_false n, List.replicate_succ, List.map_cons]; rfl
theorem mapB_at {t : List Bool} {j : Nat} {x : Bool} (h : t[j]? = some x) : (t.map B).drop j = B x :: (t.map B).drop (j + 1) := by
  rw [List.drop_eq_getElem?_toList_append, List.getElem?_map, h]
  rfl
theorem setB {t : List Bool} {j : Nat} (hj : j < t.length) : (t.map B).take j ++ ([B true] ++ (t.map B).drop (j + 1)) = (t.set j true).map B := by
  rw [List.map_set, List.set_eq_take_append_cons_drop, if_pos (by simpa using hj)]
  rfl
theorem nat_tdiv {i n : Nat} : (i : Int).tdiv (n : Int) = ((i / n : Nat) : Int) := by
  rw [Int.tdiv_eq_ediv_of_nonneg (by omega)]
  simp
theorem nat_tmod {i n : Nat} : (i : Int).tmod (n : Int) = ((i % n : Nat) : Int) := by
  rw [Int.tmod_eq_emod_of_nonneg (by omega)]
  simp
theorem lack_false : ∀ n : Nat, lack (List.replicate n false) = n
  | 0 => rfl
  | n + 1 => by
    have := lack_false n
    unfold lack at *
    rw [List.replicate_succ, List.filter_cons]
    simp
theorem met_first {a b : List Nd} (ha : Fine a) (hb : Fine b) : Met a b (true :: List.replicate (a.length * b.length - 1) false) := by
  have hpos : 0 < a.length * b.length := Nat.mul_pos ha.pos hb.pos
  refine ⟨by simp; omega, by simp [isT], fun j hj => ?_⟩
  cases j with
  | zero =>
    rw [Nat.zero_div, Nat.zero_mod]
    exact .zero
  | succ j =>
    exfalso
    simp only [isT, List.getElem?_cons_succ, List.getElem?_replicate] at hj
    split at hj <;> cases hj
set_option maxHeartbeats 8000000 in
theorem c9 (a b : List Nd) (ha : Fine a) (hb : Fine b) : PFn E 9 [ndsA a, ndsA b] (B (goB a b)) := by
  have la := ha.len
  have lb := hb.len
  have pa := ha.pos
  have pb := hb.pos
  have k8 := c8 a (by omega) ha.fit ha.few
  have k8' := c8 b (by omega) hb.fit hb.few
  rw [ha.right] at k8
  rw [hb.right] at k8'
  have hprod : a.length * b.length ≤ 576 := Nat.mul_le_mul la lb
  have hpos : 0 < a.length * b.length := Nat.mul_pos pa pb
  have hmul : IntKind.i64.wrap ((a.length : Int) * (b.length : Int)) = ((a.length * b.length : Nat) : Int) := by
    rw [← Int.natCast_mul]
    exact wrap64 (by unfold In64; omega)
  generalize hn : a.length * b.length = n at *
  have hone : 1 ≤ (List.map B (List.replicate n false)).length := by simp; omega
  have hdrop : List.drop 1 (List.map B (List.replicate n false)) = List.map B (List.replicate (n - 1) false) := by simp
  have d1 : decide ((0 : Int) ≤ (n : Int)) = true := by simp
  have d2 : decide ((n : Int) ≤ (n : Int)) = true := by simp
  have d3 : decide ((1 : Int) * (n : Int) ≤ 281474976710656) = true := decide_eq_true (by omega)
  have d4 : decide ((n : Int) ≤ 9223372036854775807) = true := decide_eq_true (by omega)
  have p0 : (0 : Int) < (n : Int) := by omega
  have hb0 : ¬ (b.length : Int) = 0 := by omega
  refine pfn_F fn9 (by simp) ?_
  simp only [Go.Proofs.Try.f9, Option.getD_some, List.append_eq, List.cons_append, List.nil_append]
  repeat' (first
    | refine If1.split (fun hb => ?_) (fun hb => ?_)
    | refine C1.pure (k8) (by simp [AV.closedL, AV.closed, ints_closed, ex_closed, ag_closed, sm_closed, arm_closed, nd_closed]) ?_
    | refine C1.pure (k8') (by simp [AV.closedL, AV.closed, ints_closed, ex_closed, ag_closed, sm_closed, arm_closed, nd_closed]) ?_
    | simp (config := { maxSteps := 1000000 }) only [W1_skip, W1_ret, W1_label, W1_exit, W1_seq, W1_cond, W1_block, W1_region, W1_draw, W1_loop, O1_nil, O1_n, O1_s, slotD_s, slotD_z, V1_s, U1_b, U1_u, If1_t, If1_f, If1_not, eqB_tt, eqB_tf, eqB_ft, eqB_ff, X1_eq, H1_f, H1_h, H1_c, how, B1_some, B1_none, B1_ite, D1_b, setT_t, setT_c, T1_n, T1_r, T1_x, K1_n, K1_r, K1_x, FinP_n, FinP_r, bindO_some, RetOk_lit, FinX_n, FinX_r, FinK_n, FinK_r, oneOrTup_1, RetX_lit, getCells, List.set_cons_zero, List.set_cons_succ, putAt, fillA, sizesOf, allTyped, List.all_cons, List.all_nil, Bool.and_self, Bool.true_and, Bool.and_true, Nat.reduceMul, Int.reduceLT, Int.reduceGT, Int.reduceGE, Int.cast_ofNat_Int, Int.reduceLE, Int.reduceToNat, Int.reduceAdd, Int.reduceNeg, Int.reduceEq, Int.reduceBNe, Int.reduceBEq, decide_false, zerosA, List.replicate_succ, List.replicate_zero, List.flatten_cons, List.flatten_nil, Option.isSome_some, dstOk, evRes, evRes1, evFree, evHeap, evA, upd_ne, upd_same, initF, updO_some, updO_none, kindOf, AV.storable, AV.cells, AV.one, Value.oneCell', mode, E_pol, pol, binA, unA, litInt, litBool, litStr, eqA, callee, evArgs, evParts, ne_eq, Nat.reduceEqDiff, Nat.reduceLT, not_false_eq_true, decide_true, if_true, reduceIte, List.take_zero, List.take_succ_cons, List.length_cons, List.length_nil, Nat.reduceAdd, Nat.reduceLeDiff, List.getElem?_cons_zero, List.getElem?_cons_succ, List.getD_cons_zero, List.getD_cons_succ, List.drop_zero, List.drop_succ_cons, List.map_cons, List.map_nil, List.cons_append, List.nil_append, List.append_nil, List.head?_cons, Int.toNat_natCast, Nat.zero_le, and_self, true_and, and_true, Bool.not_true, Bool.not_false, Option.map_some, true_implies, Bool.true_eq_false, Bool.false_eq_true, reduceCtorEq, false_implies, List.mem_cons, List.not_mem_nil, Prod.mk.injEq, false_and, and_false, or_false, false_or, or_true, true_or, if_false, ty3, ty3k, ty3s, ty3t, ty3z, ty3o, ty3b, ty4, ty4k, ty4s, ty4t, ty4z, ty4o, ty4b, ty22, ty22k, ty22s, ty22t, ty22z, ty22o, ty22b, ty27, ty27k, ty27s, ty27t, ty27z, ty27o, ty27b, ty29, ty29k, ty29s, ty29t, ty29z, ty29o, ty29b, ty30, ty30k, ty30s, ty30t, ty30z, ty30o, ty30b, ty31, ty31k, ty31s, ty31t, ty31z, ty31o, ty31b, ty32, ty32k, ty32s, ty32t, ty32z, ty32o, ty32b, ty34, ty34k, ty34s, ty34t, ty34z, ty34o, ty34b, ty35, ty35k, ty35s, ty35t, ty35z, ty35o, ty35b, ty37, ty37k, ty37s, ty37t, ty37z, ty37o, ty37b, ty47, ty47k, ty47s, ty47t, ty47z, ty47o, ty47b, cz, at_end, set_end, hmul, flat_false, hone, hdrop, d1, d2, d3, d4, p0]
    | refine And.intro (a := drawOk _ _ = true) (by kernel_rfl) ?_
    | (refine id (α := drawOk _ _ = true) ?_; kernel_rfl))
  refine ⟨decide_eq_true (by simp; omega), ?_⟩
  refine L1_wf (fun kk fr h => fr 0 = ndsA a ∧ fr 1 = ndsA b ∧ fr 5 = .ms 0 0 0 n 1 ∧ ∃ (turn : Nat) (t : List Bool), fr 6 = I turn ∧ h = [.cells 0 (t.map B)] ∧ Met a b t ∧ kk = lack t ∧ turn + lack t + 1 ≤ n) ?_ (n - 1) _ _ ?_
  · rintro kk fr h ⟨f0, f1, f5, turn, t, f6, rfl, hmet, hkk, hturn⟩
    have hle : decide ((turn : Int) ≤ (n : Int)) = true := decide_eq_true (by omega)
    have hwt : IntKind.i64.wrap ((turn : Int) + 1) = ((turn + 1 : Nat) : Int) := by rw [wrap64 (by unfold In64; omega)]; simp
    repeat' (first
      | refine If1.split (fun hb => ?_) (fun hb => ?_)
      | simp (config := { maxSteps := 1000000 }) only [W1_skip, W1_ret, W1_label, W1_exit, W1_seq, W1_cond, W1_block, W1_region, W1_draw, W1_loop, O1_nil, O1_n, O1_s, slotD_s, slotD_z, V1_s, U1_b, U1_u, If1_t, If1_f, If1_not, eqB_tt, eqB_tf, eqB_ft, eqB_ff, X1_eq, H1_f, H1_h, H1_c, how, B1_some, B1_none, B1_ite, D1_b, setT_t, setT_c, T1_n, T1_r, T1_x, K1_n, K1_r, K1_x, FinP_n, FinP_r, bindO_some, RetOk_lit, FinX_n, FinX_r, FinK_n, FinK_r, oneOrTup_1, RetX_lit, getCells, List.set_cons_zero, List.set_cons_succ, putAt, fillA, sizesOf, allTyped, List.all_cons, List.all_nil, Bool.and_self, Bool.true_and, Bool.and_true, Nat.reduceMul, Int.reduceLT, Int.reduceGT, Int.reduceGE, Int.cast_ofNat_Int, Int.reduceLE, Int.reduceToNat, Int.reduceAdd, Int.reduceNeg, Int.reduceEq, Int.reduceBNe, Int.reduceBEq, decide_false, zerosA, List.replicate_succ, List.replicate_zero, List.flatten_cons, List.flatten_nil, Option.isSome_some, dstOk, evRes, evRes1, evFree, evHeap, evA, upd_ne, upd_same, initF, updO_some, updO_none, kindOf, AV.storable, AV.cells, AV.one, Value.oneCell', mode, E_pol, pol, binA, unA, litInt, litBool, litStr, eqA, callee, evArgs, evParts, ne_eq, Nat.reduceEqDiff, Nat.reduceLT, not_false_eq_true, decide_true, if_true, reduceIte, List.take_zero, List.take_succ_cons, List.length_cons, List.length_nil, Nat.reduceAdd, Nat.reduceLeDiff, List.getElem?_cons_zero, List.getElem?_cons_succ, List.getD_cons_zero, List.getD_cons_succ, List.drop_zero, List.drop_succ_cons, List.map_cons, List.map_nil, List.cons_append, List.nil_append, List.append_nil, List.head?_cons, Int.toNat_natCast, Nat.zero_le, and_self, true_and, and_true, Bool.not_true, Bool.not_false, Option.map_some, true_implies, Bool.true_eq_false, Bool.false_eq_true, reduceCtorEq, false_implies, List.mem_cons, List.not_mem_nil, Prod.mk.injEq, false_and, and_false, or_false, false_or, or_true, true_or, if_false, ty3, ty3k, ty3s, ty3t, ty3z, ty3o, ty3b, ty4, ty4k, ty4s, ty4t, ty4z, ty4o, ty4b, ty22, ty22k, ty22s, ty22t, ty22z, ty22o, ty22b, ty27, ty27k, ty27s, ty27t, ty27z, ty27o, ty27b, ty29, ty29k, ty29s, ty29t, ty29z, ty29o, ty29b, ty30, ty30k, ty30s, ty30t, ty30z, ty30o, ty30b, ty31, ty31k, ty31s, ty31t, ty31z, ty31o, ty31b, ty32, ty32k, ty32s, ty32t, ty32z, ty32o, ty32b, ty34, ty34k, ty34s, ty34t, ty34z, ty34o, ty34b, ty35, ty35k, ty35s, ty35t, ty35z, ty35o, ty35b, ty37, ty37k, ty37s, ty37t, ty37z, ty37o, ty37b, ty47, ty47k, ty47s, ty47t, ty47z, ty47o, ty47b, cz, f0, f1, f5, f6, hle]
      | refine And.intro (a := drawOk _ _ = true) (by kernel_rfl) ?_
      | (refine id (α := drawOk _ _ = true) ?_; kernel_rfl))
    refine L1_up n (fun at' fr h => fr 0 = ndsA a ∧ fr 1 = ndsA b ∧ fr 5 = .ms 0 0 0 n 1 ∧ fr 6 = I turn ∧ fr 8 = I at' ∧ ∃ (t' : List Bool) (more : Bool), fr 7 = B more ∧ h = [.cells 0 (t'.map B)] ∧ Met a b t' ∧
      (more = false → t' = t ∧ ∀ j, j < at' → isT t j → DoneT a b t j) ∧ (more = true → lack t' < lack t)) ?_ ?_ 0 (Nat.zero_le _) _ _ ?_
    · rintro at' hat fr h ⟨f0, f1, f5, f6, f8, t', more, f7, rfl, hmet', hno, hyes⟩
      have htl : t'.length = n := by rw [hmet'.len, hn]
      obtain ⟨bit, hbit⟩ : ∃ bit, t'[at']? = some bit := ⟨t'[at'], by simp⟩
      have hat1 := mapB_at hbit
      have hlt : decide ((at' : Int) < (n : Int)) = true := decide_eq_true (by omega)
      have hin : 0 ≤ (at' : Int) ∧ (at' : Int) < (n : Int) := by omega
      have hwa : IntKind.i64.wrap ((at' : Int) + 1) = ((at' + 1 : Nat) : Int) := by rw [wrap64 (by unfold In64; omega)]; simp
      have hstep : (more = false → DoneT a b t at' ∨ ¬ isT t at') → (more = false → t' = t ∧ ∀ j, j < at' + 1 → isT t j → DoneT a b t j) := fun hd hm => by
        refine ⟨(hno hm).1, fun j hj hT => ?_⟩
        rcases Nat.lt_succ_iff_lt_or_eq.1 hj with h | rfl
        · exact (hno hm).2 j h hT
        · exact (hd hm).resolve_right (fun h => h hT)
      cases bit with
      | false =>
        repeat' (first
          | refine If1.split (fun hb => ?_) (fun hb => ?_)
          | simp (config := { maxSteps := 1000000 }) only [W1_skip, W1_ret, W1_label, W1_exit, W1_seq, W1_cond, W1_block, W1_region, W1_draw, W1_loop, O1_nil, O1_n, O1_s, slotD_s, slotD_z, V1_s, U1_b, U1_u, If1_t, If1_f, If1_not, eqB_tt, eqB_tf, eqB_ft, eqB_ff, X1_eq, H1_f, H1_h, H1_c, how, B1_some, B1_none, B1_ite, D1_b, setT_t, setT_c, T1_n, T1_r, T1_x, K1_n, K1_r, K1_x, FinP_n, FinP_r, bindO_some, RetOk_lit, FinX_n, FinX_r, FinK_n, FinK_r, oneOrTup_1, RetX_lit, getCells, List.set_cons_zero, List.set_cons_succ, putAt, fillA, sizesOf, allTyped, List.all_cons, List.all_nil, Bool.and_self, Bool.true_and, Bool.and_true, Nat.reduceMul, Int.reduceLT, Int.reduceGT, Int.reduceGE, Int.cast_ofNat_Int, Int.reduceLE, Int.reduceToNat, Int.reduceAdd, Int.reduceNeg, Int.reduceEq, Int.reduceBNe, Int.reduceBEq, decide_false, zerosA, List.replicate_succ, List.replicate_zero, List.flatten_cons, List.flatten_nil, Option.isSome_some, dstOk, evRes, evRes1, evFree, evHeap, evA, upd_ne, upd_same, initF, updO_some, updO_none, kindOf, AV.storable, AV.cells, AV.one, Value.oneCell', mode, E_pol, pol, binA, unA, litInt, litBool, litStr, eqA, callee, evArgs, evParts, ne_eq, Nat.reduceEqDiff, Nat.reduceLT, not_false_eq_true, decide_true, if_true, reduceIte, List.take_zero, List.take_succ_cons, List.length_cons, List.length_nil, Nat.reduceAdd, Nat.reduceLeDiff, List.getElem?_cons_zero, List.getElem?_cons_succ, List.getD_cons_zero, List.getD_cons_succ, List.drop_zero, List.drop_succ_cons, List.map_cons, List.map_nil, List.cons_append, List.nil_append, List.append_nil, List.head?_cons, Int.toNat_natCast, Nat.zero_le, and_self, true_and, and_true, Bool.not_true, Bool.not_false, Option.map_some, true_implies, Bool.true_eq_false, Bool.false_eq_true, reduceCtorEq, false_implies, List.mem_cons, List.not_mem_nil, Prod.mk.injEq, false_and, and_false, or_false, false_or, or_true, true_or, if_false, ty3, ty3k, ty3s, ty3t, ty3z, ty3o, ty3b, ty4, ty4k, ty4s, ty4t, ty4z, ty4o, ty4b, ty22, ty22k, ty22s, ty22t, ty22z, ty22o, ty22b, ty27, ty27k, ty27s, ty27t, ty27z, ty27o, ty27b, ty29, ty29k, ty29s, ty29t, ty29z, ty29o, ty29b, ty30, ty30k, ty30s, ty30t, ty30z, ty30o, ty30b, ty31, ty31k, ty31s, ty31t, ty31z, ty31o, ty31b, ty32, ty32k, ty32s, ty32t, ty32z, ty32o, ty32b, ty34, ty34k, ty34s, ty34t, ty34z, ty34o, ty34b, ty35, ty35k, ty35s, ty35t, ty35z, ty35o, ty35b, ty37, ty37k, ty37s, ty37t, ty37z, ty37o, ty37b, ty47, ty47k, ty47s, ty47t, ty47z, ty47o, ty47b, cz, f0, f1, f5, f6, f7, f8, hlt, hin, hwa, hat1, Nat.zero_add, Nat.mul_one]
          | refine And.intro (a := drawOk _ _ = true) (by kernel_rfl) ?_
          | (refine id (α := drawOk _ _ = true) ?_; kernel_rfl))
        exact ⟨t', more, rfl, rfl, hmet', hstep fun hm => Or.inr (by rw [← (hno hm).1]; unfold isT; rw [hbit]; simp), hyes⟩
      | true =>
        have hT : isT t' at' := hbit
        have hreach := hmet'.reach at' hT
        obtain ⟨hp, hq⟩ := hreach.in ha hb
        have k1 := c15 a ha (at' / b.length) hp
        have k2 := c15 b hb (at' % b.length) hq
        have hw1 : IntKind.i64.wrap (((at' / b.length : Nat) : Int)) = ((at' / b.length : Nat) : Int) := by
          generalize at' / b.length = z at *
          exact wrap64 (by unfold In64; omega)
        have bad : ¬ Good a b (at' / b.length) (at' % b.length) → goB a b = false := fun h => goB_f (met_bad hmet' hT h)
        cases e1 : behindL a (at' / b.length) with
        | none =>
          rw [e1, pairA] at k1
          cases e2 : behindL b (at' % b.length) with
          | none =>
            rw [e2, pairA] at k2
            have hD : more = false → DoneT a b t at' ∨ ¬ isT t at' := fun hm => Or.inl ⟨by unfold Good; rw [e1, e2]; trivial, fun i n k m q1 => by rw [e1] at q1; cases q1⟩
            repeat' (first
              | refine If1.split (fun hb => ?_) (fun hb => ?_)
              | refine C1.pure (k1) (by simp [AV.closedL, AV.closed, ints_closed, ex_closed, ag_closed, sm_closed, arm_closed, nd_closed]) ?_
              | refine C1.pure (k2) (by simp [AV.closedL, AV.closed, ints_closed, ex_closed, ag_closed, sm_closed, arm_closed, nd_closed]) ?_
              | simp (config := { maxSteps := 1000000 }) only [W1_skip, W1_ret, W1_label, W1_exit, W1_seq, W1_cond, W1_block, W1_region, W1_draw, W1_loop, O1_nil, O1_n, O1_s, slotD_s, slotD_z, V1_s, U1_b, U1_u, If1_t, If1_f, If1_not, eqB_tt, eqB_tf, eqB_ft, eqB_ff, X1_eq, H1_f, H1_h, H1_c, how, B1_some, B1_none, B1_ite, D1_b, setT_t, setT_c, T1_n, T1_r, T1_x, K1_n, K1_r, K1_x, FinP_n, FinP_r, bindO_some, RetOk_lit, FinX_n, FinX_r, FinK_n, FinK_r, oneOrTup_1, RetX_lit, getCells, List.set_cons_zero, List.set_cons_succ, putAt, fillA, sizesOf, allTyped, List.all_cons, List.all_nil, Bool.and_self, Bool.true_and, Bool.and_true, Nat.reduceMul, Int.reduceLT, Int.reduceGT, Int.reduceGE, Int.cast_ofNat_Int, Int.reduceLE, Int.reduceToNat, Int.reduceAdd, Int.reduceNeg, Int.reduceEq, Int.reduceBNe, Int.reduceBEq, decide_false, zerosA, List.replicate_succ, List.replicate_zero, List.flatten_cons, List.flatten_nil, Option.isSome_some, dstOk, evRes, evRes1, evFree, evHeap, evA, upd_ne, upd_same, initF, updO_some, updO_none, kindOf, AV.storable, AV.cells, AV.one, Value.oneCell', mode, E_pol, pol, binA, unA, litInt, litBool, litStr, eqA, callee, evArgs, evParts, ne_eq, Nat.reduceEqDiff, Nat.reduceLT, not_false_eq_true, decide_true, if_true, reduceIte, List.take_zero, List.take_succ_cons, List.length_cons, List.length_nil, Nat.reduceAdd, Nat.reduceLeDiff, List.getElem?_cons_zero, List.getElem?_cons_succ, List.getD_cons_zero, List.getD_cons_succ, List.drop_zero, List.drop_succ_cons, List.map_cons, List.map_nil, List.cons_append, List.nil_append, List.append_nil, List.head?_cons, Int.toNat_natCast, Nat.zero_le, and_self, true_and, and_true, Bool.not_true, Bool.not_false, Option.map_some, true_implies, Bool.true_eq_false, Bool.false_eq_true, reduceCtorEq, false_implies, List.mem_cons, List.not_mem_nil, Prod.mk.injEq, false_and, and_false, or_false, false_or, or_true, true_or, if_false, ty3, ty3k, ty3s, ty3t, ty3z, ty3o, ty3b, ty4, ty4k, ty4s, ty4t, ty4z, ty4o, ty4b, ty22, ty22k, ty22s, ty22t, ty22z, ty22o, ty22b, ty27, ty27k, ty27s, ty27t, ty27z, ty27o, ty27b, ty29, ty29k, ty29s, ty29t, ty29z, ty29o, ty29b, ty30, ty30k, ty30s, ty30t, ty30z, ty30o, ty30b, ty31, ty31k, ty31s, ty31t, ty31z, ty31o, ty31b, ty32, ty32k, ty32s, ty32t, ty32z, ty32o, ty32b, ty34, ty34k, ty34s, ty34t, ty34z, ty34o, ty34b, ty35, ty35k, ty35s, ty35t, ty35z, ty35o, ty35b, ty37, ty37k, ty37s, ty37t, ty37z, ty37o, ty37b, ty47, ty47k, ty47s, ty47t, ty47z, ty47o, ty47b, cz, f0, f1, f5, f6, f7, f8, hlt, hin, hwa, hat1, hw1, hb0, nat_tdiv, nat_tmod, Nat.zero_add, Nat.mul_one]
              | refine And.intro (a := drawOk _ _ = true) (by kernel_rfl) ?_
              | (refine id (α := drawOk _ _ = true) ?_; kernel_rfl))
            exact ⟨t', more, rfl, rfl, hmet', hstep hD, hyes⟩
          | some r =>
            obtain ⟨k, m⟩ := r
            rw [e2, pairA] at k2
            have hk0 : decide ((k : Int) < 0) = false := by simp
            rw [bad (by unfold Good; rw [e1, e2]; exact id)]
            repeat' (first
              | refine If1.split (fun hb => ?_) (fun hb => ?_)
              | refine C1.pure (k1) (by simp [AV.closedL, AV.closed, ints_closed, ex_closed, ag_closed, sm_closed, arm_closed, nd_closed]) ?_
              | refine C1.pure (k2) (by simp [AV.closedL, AV.closed, ints_closed, ex_closed, ag_closed, sm_closed, arm_closed, nd_closed]) ?_
              | simp (config := { maxSteps := 1000000 }) only [W1_skip, W1_ret, W1_label, W1_exit, W1_seq, W1_cond, W1_block, W1_region, W1_draw, W1_loop, O1_nil, O1_n, O1_s, slotD_s, slotD_z, V1_s, U1_b, U1_u, If1_t, If1_f, If1_not, eqB_tt, eqB_tf, eqB_ft, eqB_ff, X1_eq, H1_f, H1_h, H1_c, how, B1_some, B1_none, B1_ite, D1_b, setT_t, setT_c, T1_n, T1_r, T1_x, K1_n, K1_r, K1_x, FinP_n, FinP_r, bindO_some, RetOk_lit, FinX_n, FinX_r, FinK_n, FinK_r, oneOrTup_1, RetX_lit, getCells, List.set_cons_zero, List.set_cons_succ, putAt, fillA, sizesOf, allTyped, List.all_cons, List.all_nil, Bool.and_self, Bool.true_and, Bool.and_true, Nat.reduceMul, Int.reduceLT, Int.reduceGT, Int.reduceGE, Int.cast_ofNat_Int, Int.reduceLE, Int.reduceToNat, Int.reduceAdd, Int.reduceNeg, Int.reduceEq, Int.reduceBNe, Int.reduceBEq, decide_false, zerosA, List.replicate_succ, List.replicate_zero, List.flatten_cons, List.flatten_nil, Option.isSome_some, dstOk, evRes, evRes1, evFree, evHeap, evA, upd_ne, upd_same, initF, updO_some, updO_none, kindOf, AV.storable, AV.cells, AV.one, Value.oneCell', mode, E_pol, pol, binA, unA, litInt, litBool, litStr, eqA, callee, evArgs, evParts, ne_eq, Nat.reduceEqDiff, Nat.reduceLT, not_false_eq_true, decide_true, if_true, reduceIte, List.take_zero, List.take_succ_cons, List.length_cons, List.length_nil, Nat.reduceAdd, Nat.reduceLeDiff, List.getElem?_cons_zero, List.getElem?_cons_succ, List.getD_cons_zero, List.getD_cons_succ, List.drop_zero, List.drop_succ_cons, List.map_cons, List.map_nil, List.cons_append, List.nil_append, List.append_nil, List.head?_cons, Int.toNat_natCast, Nat.zero_le, and_self, true_and, and_true, Bool.not_true, Bool.not_false, Option.map_some, true_implies, Bool.true_eq_false, Bool.false_eq_true, reduceCtorEq, false_implies, List.mem_cons, List.not_mem_nil, Prod.mk.injEq, false_and, and_false, or_false, false_or, or_true, true_or, if_false, ty3, ty3k, ty3s, ty3t, ty3z, ty3o, ty3b, ty4, ty4k, ty4s, ty4t, ty4z, ty4o, ty4b, ty22, ty22k, ty22s, ty22t, ty22z, ty22o, ty22b, ty27, ty27k, ty27s, ty27t, ty27z, ty27o, ty27b, ty29, ty29k, ty29s, ty29t, ty29z, ty29o, ty29b, ty30, ty30k, ty30s, ty30t, ty30z, ty30o, ty30b, ty31, ty31k, ty31s, ty31t, ty31z, ty31o, ty31b, ty32, ty32k, ty32s, ty32t, ty32z, ty32o, ty32b, ty34, ty34k, ty34s, ty34t, ty34z, ty34o, ty34b, ty35, ty35k, ty35s, ty35t, ty35z, ty35o, ty35b, ty37, ty37k, ty37s, ty37t, ty37z, ty37o, ty37b, ty47, ty47k, ty47s, ty47t, ty47z, ty47o, ty47b, cz, f0, f1, f5, f6, f7, f8, hlt, hin, hwa, hat1, hw1, hb0, hk0, nat_tdiv, nat_tmod, Nat.zero_add, Nat.mul_one]
              | refine And.intro (a := drawOk _ _ = true) (by kernel_rfl) ?_
              | (refine id (α := drawOk _ _ = true) ?_; kernel_rfl))
        | some r =>
          obtain ⟨i, c1⟩ := r
          rw [e1, pairA] at k1
          have hi0 : decide ((i : Int) < 0) = false := by simp
          cases e2 : behindL b (at' % b.length) with
          | none =>
            rw [e2, pairA] at k2
            rw [bad (by unfold Good; rw [e1, e2]; exact id)]
            repeat' (first
              | refine If1.split (fun hb => ?_) (fun hb => ?_)
              | refine C1.pure (k1) (by simp [AV.closedL, AV.closed, ints_closed, ex_closed, ag_closed, sm_closed, arm_closed, nd_closed]) ?_
              | refine C1.pure (k2) (by simp [AV.closedL, AV.closed, ints_closed, ex_closed, ag_closed, sm_closed, arm_closed, nd_closed]) ?_
              | simp (config := { maxSteps := 1000000 }) only [W1_skip, W1_ret, W1_label, W1_exit, W1_seq, W1_cond, W1_block, W1_region, W1_draw, W1_loop, O1_nil, O1_n, O1_s, slotD_s, slotD_z, V1_s, U1_b, U1_u, If1_t, If1_f, If1_not, eqB_tt, eqB_tf, eqB_ft, eqB_ff, X1_eq, H1_f, H1_h, H1_c, how, B1_some, B1_none, B1_ite, D1_b, setT_t, setT_c, T1_n, T1_r, T1_x, K1_n, K1_r, K1_x, FinP_n, FinP_r, bindO_some, RetOk_lit, FinX_n, FinX_r, FinK_n, FinK_r, oneOrTup_1, RetX_lit, getCells, List.set_cons_zero, List.set_cons_succ, putAt, fillA, sizesOf, allTyped, List.all_cons, List.all_nil, Bool.and_self, Bool.true_and, Bool.and_true, Nat.reduceMul, Int.reduceLT, Int.reduceGT, Int.reduceGE, Int.cast_ofNat_Int, Int.reduceLE, Int.reduceToNat, Int.reduceAdd, Int.reduceNeg, Int.reduceEq, Int.reduceBNe, Int.reduceBEq, decide_false, zerosA, List.replicate_succ, List.replicate_zero, List.flatten_cons, List.flatten_nil, Option.isSome_some, dstOk, evRes, evRes1, evFree, evHeap, evA, upd_ne, upd_same, initF, updO_some, updO_none, kindOf, AV.storable, AV.cells, AV.one, Value.oneCell', mode, E_pol, pol, binA, unA, litInt, litBool, litStr, eqA, callee, evArgs, evParts, ne_eq, Nat.reduceEqDiff, Nat.reduceLT, not_false_eq_true, decide_true, if_true, reduceIte, List.take_zero, List.take_succ_cons, List.length_cons, List.length_nil, Nat.reduceAdd, Nat.reduceLeDiff, List.getElem?_cons_zero, List.getElem?_cons_succ, List.getD_cons_zero, List.getD_cons_succ, List.drop_zero, List.drop_succ_cons, List.map_cons, List.map_nil, List.cons_append, List.nil_append, List.append_nil, List.head?_cons, Int.toNat_natCast, Nat.zero_le, and_self, true_and, and_true, Bool.not_true, Bool.not_false, Option.map_some, true_implies, Bool.true_eq_false, Bool.false_eq_true, reduceCtorEq, false_implies, List.mem_cons, List.not_mem_nil, Prod.mk.injEq, false_and, and_false, or_false, false_or, or_true, true_or, if_false, ty3, ty3k, ty3s, ty3t, ty3z, ty3o, ty3b, ty4, ty4k, ty4s, ty4t, ty4z, ty4o, ty4b, ty22, ty22k, ty22s, ty22t, ty22z, ty22o, ty22b, ty27, ty27k, ty27s, ty27t, ty27z, ty27o, ty27b, ty29, ty29k, ty29s, ty29t, ty29z, ty29o, ty29b, ty30, ty30k, ty30s, ty30t, ty30z, ty30o, ty30b, ty31, ty31k, ty31s, ty31t, ty31z, ty31o, ty31b, ty32, ty32k, ty32s, ty32t, ty32z, ty32o, ty32b, ty34, ty34k, ty34s, ty34t, ty34z, ty34o, ty34b, ty35, ty35k, ty35s, ty35t, ty35z, ty35o, ty35b, ty37, ty37k, ty37s, ty37t, ty37z, ty37o, ty37b, ty47, ty47k, ty47s, ty47t, ty47z, ty47o, ty47b, cz, f0, f1, f5, f6, f7, f8, hlt, hin, hwa, hat1, hw1, hb0, hi0, nat_tdiv, nat_tmod, Nat.zero_add, Nat.mul_one]
              | refine And.intro (a := drawOk _ _ = true) (by kernel_rfl) ?_
              | (refine id (α := drawOk _ _ = true) ?_; kernel_rfl))
          | some r =>
            obtain ⟨k, c2⟩ := r
            rw [e2, pairA] at k2
            have hk0 : decide ((k : Int) < 0) = false := by simp
            have hii := (behind_in ha hp e1).1
            have hki := (behind_in hb hq e2).1
            by_cases hnm : c1 = c2
            · subst hnm
              have hne : (c1 != c1) = false := by simp
              have hx : a[i]? = some a[i] := by simp [hii]
              have hy : b[k]? = some b[k] := by simp [hki]
              have hxm := List.getElem_mem hii
              have hym := List.getElem_mem hki
              have hax := Nd.at hx
              have hay := Nd.at hy
              obtain ⟨xb1, xb2, xb3⟩ := ha.bare hxm
              obtain ⟨yb1, yb2, yb3⟩ := hb.bare hym
              have k16 := c16 a[i].s b[k].s (ha.fit _ hxm).s.ba ⟨xb1, xb2, xb3⟩ ⟨yb1, yb2, yb3⟩
              have hini : 0 ≤ (i : Int) ∧ (i : Int) < (a.length : Int) := by omega
              have hink : 0 ≤ (k : Int) ∧ (k : Int) < (b.length : Int) := by omega
              have hal : alike a[i].s.b b[k].s.b = true ↔ AlikeAt a b i k := by
                rw [alike_iff]
                constructor
                · exact fun h => ⟨_, _, hx, hy, h⟩
                · rintro ⟨x, y, h1, h2, h3⟩
                  rw [hx] at h1
                  rw [hy] at h2
                  cases h1
                  cases h2
                  exact h3
              cases hA : alike a[i].s.b b[k].s.b with
              | false =>
                rw [hA] at k16
                rw [bad (by unfold Good; rw [e1, e2]; exact fun h => by rw [hal.2 h.2] at hA; cases hA)]
                repeat' (first
                  | refine If1.split (fun hb => ?_) (fun hb => ?_)
                  | refine C1.pure (k1) (by simp [AV.closedL, AV.closed, ints_closed, ex_closed, ag_closed, sm_closed, arm_closed, nd_closed]) ?_
                  | refine C1.pure (k2) (by simp [AV.closedL, AV.closed, ints_closed, ex_closed, ag_closed, sm_closed, arm_closed, nd_closed]) ?_
                  | refine C1.pure (k16) (by simp [AV.closedL, AV.closed, ints_closed, ex_closed, ag_closed, sm_closed, arm_closed, nd_closed]) ?_
                  | simp (config := { maxSteps := 1000000 }) only [W1_skip, W1_ret, W1_label, W1_exit, W1_seq, W1_cond, W1_block, W1_region, W1_draw, W1_loop, O1_nil, O1_n, O1_s, slotD_s, slotD_z, V1_s, U1_b, U1_u, If1_t, If1_f, If1_not, eqB_tt, eqB_tf, eqB_ft, eqB_ff, X1_eq, H1_f, H1_h, H1_c, how, B1_some, B1_none, B1_ite, D1_b, setT_t, setT_c, T1_n, T1_r, T1_x, K1_n, K1_r, K1_x, FinP_n, FinP_r, bindO_some, RetOk_lit, FinX_n, FinX_r, FinK_n, FinK_r, oneOrTup_1, RetX_lit, getCells, List.set_cons_zero, List.set_cons_succ, putAt, fillA, sizesOf, allTyped, List.all_cons, List.all_nil, Bool.and_self, Bool.true_and, Bool.and_true, Nat.reduceMul, Int.reduceLT, Int.reduceGT, Int.reduceGE, Int.cast_ofNat_Int, Int.reduceLE, Int.reduceToNat, Int.reduceAdd, Int.reduceNeg, Int.reduceEq, Int.reduceBNe, Int.reduceBEq, decide_false, zerosA, List.replicate_succ, List.replicate_zero, List.flatten_cons, List.flatten_nil, Option.isSome_some, dstOk, evRes, evRes1, evFree, evHeap, evA, upd_ne, upd_same, initF, updO_some, updO_none, kindOf, AV.storable, AV.cells, AV.one, Value.oneCell', mode, E_pol, pol, binA, unA, litInt, litBool, litStr, eqA, callee, evArgs, evParts, ne_eq, Nat.reduceEqDiff, Nat.reduceLT, not_false_eq_true, decide_true, if_true, reduceIte, List.take_zero, List.take_succ_cons, List.length_cons, List.length_nil, Nat.reduceAdd, Nat.reduceLeDiff, List.getElem?_cons_zero, List.getElem?_cons_succ, List.getD_cons_zero, List.getD_cons_succ, List.drop_zero, List.drop_succ_cons, List.map_cons, List.map_nil, List.cons_append, List.nil_append, List.append_nil, List.head?_cons, Int.toNat_natCast, Nat.zero_le, and_self, true_and, and_true, Bool.not_true, Bool.not_false, Option.map_some, true_implies, Bool.true_eq_false, Bool.false_eq_true, reduceCtorEq, false_implies, List.mem_cons, List.not_mem_nil, Prod.mk.injEq, false_and, and_false, or_false, false_or, or_true, true_or, if_false, ty3, ty3k, ty3s, ty3t, ty3z, ty3o, ty3b, ty4, ty4k, ty4s, ty4t, ty4z, ty4o, ty4b, ty22, ty22k, ty22s, ty22t, ty22z, ty22o, ty22b, ty27, ty27k, ty27s, ty27t, ty27z, ty27o, ty27b, ty29, ty29k, ty29s, ty29t, ty29z, ty29o, ty29b, ty30, ty30k, ty30s, ty30t, ty30z, ty30o, ty30b, ty31, ty31k, ty31s, ty31t, ty31z, ty31o, ty31b, ty32, ty32k, ty32s, ty32t, ty32z, ty32o, ty32b, ty34, ty34k, ty34s, ty34t, ty34z, ty34o, ty34b, ty35, ty35k, ty35s, ty35t, ty35z, ty35o, ty35b, ty37, ty37k, ty37s, ty37t, ty37z, ty37o, ty37b, ty47, ty47k, ty47s, ty47t, ty47z, ty47o, ty47b, cz, f0, f1, f5, f6, f7, f8, hlt, hin, hwa, hat1, hw1, hb0, hi0, hk0, hne, hax, hay, hini, hink, nat_tdiv, nat_tmod, Nat.zero_add, Nat.mul_one]
                  | refine And.intro (a := drawOk _ _ = true) (by kernel_rfl) ?_
                  | (refine id (α := drawOk _ _ = true) ?_; kernel_rfl))
              | true =>
                rw [hA] at k16
                have hl := hal.1 hA
                have hxn : lenAt a i = a[i].next.length := lenAt_eq hx
                have hyn : lenAt b k = b[k].next.length := lenAt_eq hy
                have hlens := lens_of ha hb hl
                rw [hxn, hyn] at hlens
                have qx := (ha.few _ hxm).1
                have qy := (hb.few _ hym).1
                repeat' (first
                  | refine If1.split (fun hb => ?_) (fun hb => ?_)
                  | refine C1.pure (k1) (by simp [AV.closedL, AV.closed, ints_closed, ex_closed, ag_closed, sm_closed, arm_closed, nd_closed]) ?_
                  | refine C1.pure (k2) (by simp [AV.closedL, AV.closed, ints_closed, ex_closed, ag_closed, sm_closed, arm_closed, nd_closed]) ?_
                  | refine C1.pure (k16) (by simp [AV.closedL, AV.closed, ints_closed, ex_closed, ag_closed, sm_closed, arm_closed, nd_closed]) ?_
                  | simp (config := { maxSteps := 1000000 }) only [W1_skip, W1_ret, W1_label, W1_exit, W1_seq, W1_cond, W1_block, W1_region, W1_draw, W1_loop, O1_nil, O1_n, O1_s, slotD_s, slotD_z, V1_s, U1_b, U1_u, If1_t, If1_f, If1_not, eqB_tt, eqB_tf, eqB_ft, eqB_ff, X1_eq, H1_f, H1_h, H1_c, how, B1_some, B1_none, B1_ite, D1_b, setT_t, setT_c, T1_n, T1_r, T1_x, K1_n, K1_r, K1_x, FinP_n, FinP_r, bindO_some, RetOk_lit, FinX_n, FinX_r, FinK_n, FinK_r, oneOrTup_1, RetX_lit, getCells, List.set_cons_zero, List.set_cons_succ, putAt, fillA, sizesOf, allTyped, List.all_cons, List.all_nil, Bool.and_self, Bool.true_and, Bool.and_true, Nat.reduceMul, Int.reduceLT, Int.reduceGT, Int.reduceGE, Int.cast_ofNat_Int, Int.reduceLE, Int.reduceToNat, Int.reduceAdd, Int.reduceNeg, Int.reduceEq, Int.reduceBNe, Int.reduceBEq, decide_false, zerosA, List.replicate_succ, List.replicate_zero, List.flatten_cons, List.flatten_nil, Option.isSome_some, dstOk, evRes, evRes1, evFree, evHeap, evA, upd_ne, upd_same, initF, updO_some, updO_none, kindOf, AV.storable, AV.cells, AV.one, Value.oneCell', mode, E_pol, pol, binA, unA, litInt, litBool, litStr, eqA, callee, evArgs, evParts, ne_eq, Nat.reduceEqDiff, Nat.reduceLT, not_false_eq_true, decide_true, if_true, reduceIte, List.take_zero, List.take_succ_cons, List.length_cons, List.length_nil, Nat.reduceAdd, Nat.reduceLeDiff, List.getElem?_cons_zero, List.getElem?_cons_succ, List.getD_cons_zero, List.getD_cons_succ, List.drop_zero, List.drop_succ_cons, List.map_cons, List.map_nil, List.cons_append, List.nil_append, List.append_nil, List.head?_cons, Int.toNat_natCast, Nat.zero_le, and_self, true_and, and_true, Bool.not_true, Bool.not_false, Option.map_some, true_implies, Bool.true_eq_false, Bool.false_eq_true, reduceCtorEq, false_implies, List.mem_cons, List.not_mem_nil, Prod.mk.injEq, false_and, and_false, or_false, false_or, or_true, true_or, if_false, ty3, ty3k, ty3s, ty3t, ty3z, ty3o, ty3b, ty4, ty4k, ty4s, ty4t, ty4z, ty4o, ty4b, ty22, ty22k, ty22s, ty22t, ty22z, ty22o, ty22b, ty27, ty27k, ty27s, ty27t, ty27z, ty27o, ty27b, ty29, ty29k, ty29s, ty29t, ty29z, ty29o, ty29b, ty30, ty30k, ty30s, ty30t, ty30z, ty30o, ty30b, ty31, ty31k, ty31s, ty31t, ty31z, ty31o, ty31b, ty32, ty32k, ty32s, ty32t, ty32z, ty32o, ty32b, ty34, ty34k, ty34s, ty34t, ty34z, ty34o, ty34b, ty35, ty35k, ty35s, ty35t, ty35z, ty35o, ty35b, ty37, ty37k, ty37s, ty37t, ty37z, ty37o, ty37b, ty47, ty47k, ty47s, ty47t, ty47z, ty47o, ty47b, cz, f0, f1, f5, f6, f7, f8, hlt, hin, hwa, hat1, hw1, hb0, hi0, hk0, hne, hax, hay, hini, hink, nat_tdiv, nat_tmod, Nat.zero_add, Nat.mul_one]
                  | refine And.intro (a := drawOk _ _ = true) (by kernel_rfl) ?_
                  | (refine id (α := drawOk _ _ = true) ?_; kernel_rfl))
                refine L1_up (max a[i].next.length b[k].next.length) (fun c fr h => fr 0 = ndsA a ∧ fr 1 = ndsA b ∧ fr 5 = .ms 0 0 0 n 1 ∧ fr 6 = I turn ∧ fr 8 = I at' ∧ fr 9 = I i ∧ fr 11 = I k ∧ fr 13 = I c ∧
                  ∃ (t2 : List Bool) (more2 : Bool), fr 7 = B more2 ∧ h = [.cells 0 (t2.map B)] ∧ Met a b t2 ∧ isT t2 at' ∧ (more2 = false → t2 = t ∧ (∀ j, j < at' → isT t j → DoneT a b t j) ∧ ∀ c', c' < c → isT t (toAt a b i k c')) ∧ (more2 = true → lack t2 < lack t)) ?_ ?_ 0 (Nat.zero_le _) _ _ ?_
                · rintro c hc fr h ⟨f0, f1, f5, f6, f8, f9, f11, f13, t2, more2, f7, rfl, hmet2, hT2, hno2, hyes2⟩
                  have htl2 : t2.length = n := by rw [hmet2.len, hn]
                  have hcx : 0 < a[i].next.length := by omega
                  have hcy : 0 < b[k].next.length := by omega
                  have k17 := c17 a[i] c hcx qx (by omega)
                  have k17' := c17 b[k] c hcy qy (by omega)
                  have nx1 : nx a[i] c = (nextAt a i c : Int) := by rw [nextAt_eq hx, Int.toNat_of_nonneg (nx_in ha hxm hcx c).1]
                  have nx2 : nx b[k] c = (nextAt b k c : Int) := by rw [nextAt_eq hy, Int.toNat_of_nonneg (nx_in hb hym hcy c).1]
                  rw [nx1] at k17
                  rw [nx2] at k17'
                  have hto := toAt_lt ha hb i k c
                  rw [hn] at hto
                  have hto2 : toAt a b i k c = nextAt a i c * b.length + nextAt b k c := rfl
                  have hm1 : IntKind.i64.wrap ((nextAt a i c : Int) * (b.length : Int)) = ((nextAt a i c * b.length : Nat) : Int) := by
                    rw [← Int.natCast_mul]
                    generalize nextAt a i c * b.length = z at *
                    exact wrap64 (by unfold In64; omega)
                  have hm2 : IntKind.i64.wrap (((nextAt a i c * b.length : Nat) : Int) + (nextAt b k c : Int)) = ((toAt a b i k c : Nat) : Int) := by
                    rw [hto2]
                    rw [hto2] at hto
                    generalize nextAt a i c * b.length = z at *
                    rw [wrap64 (by unfold In64; omega)]
                    simp
                  obtain ⟨bit2, hbit2⟩ : ∃ bit2, t2[toAt a b i k c]? = some bit2 := ⟨t2[toAt a b i k c], by simp⟩
                  have hto1 := mapB_at hbit2
                  have hin2 : 0 ≤ ((toAt a b i k c : Nat) : Int) ∧ ((toAt a b i k c : Nat) : Int) < (n : Int) := by omega
                  have hput : toAt a b i k c + 1 ≤ (List.map B t2).length := by rw [List.length_map]; omega
                  have hwc : IntKind.i64.wrap ((c : Int) + 1) = ((c + 1 : Nat) : Int) := by rw [wrap64 (by unfold In64; omega)]; simp
                  have go : decide ((c : Int) < (a[i].next.length : Int)) = true ∨ (decide ((c : Int) < (a[i].next.length : Int)) = false ∧ decide ((c : Int) < (b[k].next.length : Int)) = true) := by
                    by_cases hcl : c < a[i].next.length
                    · exact Or.inl (decide_eq_true (by omega))
                    · exact Or.inr ⟨decide_eq_false (by omega), decide_eq_true (by omega)⟩
                  rcases go with g1 | ⟨g1, g2⟩
                  · cases bit2 with
                    | true =>
                      repeat' (first
                        | refine If1.split (fun hb => ?_) (fun hb => ?_)
                        | refine C1.pure (k17) (by simp [AV.closedL, AV.closed, ints_closed, ex_closed, ag_closed, sm_closed, arm_closed, nd_closed]) ?_
                        | refine C1.pure (k17') (by simp [AV.closedL, AV.closed, ints_closed, ex_closed, ag_closed, sm_closed, arm_closed, nd_closed]) ?_
                        | simp (config := { maxSteps := 1000000 }) only [W1_skip, W1_ret, W1_label, W1_exit, W1_seq, W1_cond, W1_block, W1_region, W1_draw, W1_loop, O1_nil, O1_n, O1_s, slotD_s, slotD_z, V1_s, U1_b, U1_u, If1_t, If1_f, If1_not, eqB_tt, eqB_tf, eqB_ft, eqB_ff, X1_eq, H1_f, H1_h, H1_c, how, B1_some, B1_none, B1_ite, D1_b, setT_t, setT_c, T1_n, T1_r, T1_x, K1_n, K1_r, K1_x, FinP_n, FinP_r, bindO_some, RetOk_lit, FinX_n, FinX_r, FinK_n, FinK_r, oneOrTup_1, RetX_lit, getCells, List.set_cons_zero, List.set_cons_succ, putAt, fillA, sizesOf, allTyped, List.all_cons, List.all_nil, Bool.and_self, Bool.true_and, Bool.and_true, Nat.reduceMul, Int.reduceLT, Int.reduceGT, Int.reduceGE, Int.cast_ofNat_Int, Int.reduceLE, Int.reduceToNat, Int.reduceAdd, Int.reduceNeg, Int.reduceEq, Int.reduceBNe, Int.reduceBEq, decide_false, zerosA, List.replicate_succ, List.replicate_zero, List.flatten_cons, List.flatten_nil, Option.isSome_some, dstOk, evRes, evRes1, evFree, evHeap, evA, upd_ne, upd_same, initF, updO_some, updO_none, kindOf, AV.storable, AV.cells, AV.one, Value.oneCell', mode, E_pol, pol, binA, unA, litInt, litBool, litStr, eqA, callee, evArgs, evParts, ne_eq, Nat.reduceEqDiff, Nat.reduceLT, not_false_eq_true, decide_true, if_true, reduceIte, List.take_zero, List.take_succ_cons, List.length_cons, List.length_nil, Nat.reduceAdd, Nat.reduceLeDiff, List.getElem?_cons_zero, List.getElem?_cons_succ, List.getD_cons_zero, List.getD_cons_succ, List.drop_zero, List.drop_succ_cons, List.map_cons, List.map_nil, List.cons_append, List.nil_append, List.append_nil, List.head?_cons, Int.toNat_natCast, Nat.zero_le, and_self, true_and, and_true, Bool.not_true, Bool.not_false, Option.map_some, true_implies, Bool.true_eq_false, Bool.false_eq_true, reduceCtorEq, false_implies, List.mem_cons, List.not_mem_nil, Prod.mk.injEq, false_and, and_false, or_false, false_or, or_true, true_or, if_false, ty3, ty3k, ty3s, ty3t, ty3z, ty3o, ty3b, ty4, ty4k, ty4s, ty4t, ty4z, ty4o, ty4b, ty22, ty22k, ty22s, ty22t, ty22z, ty22o, ty22b, ty27, ty27k, ty27s, ty27t, ty27z, ty27o, ty27b, ty29, ty29k, ty29s, ty29t, ty29z, ty29o, ty29b, ty30, ty30k, ty30s, ty30t, ty30z, ty30o, ty30b, ty31, ty31k, ty31s, ty31t, ty31z, ty31o, ty31b, ty32, ty32k, ty32s, ty32t, ty32z, ty32o, ty32b, ty34, ty34k, ty34s, ty34t, ty34z, ty34o, ty34b, ty35, ty35k, ty35s, ty35t, ty35z, ty35o, ty35b, ty37, ty37k, ty37s, ty37t, ty37z, ty37o, ty37b, ty47, ty47k, ty47s, ty47t, ty47z, ty47o, ty47b, cz, f0, f1, f5, f6, f7, f8, f9, f11, f13, hwc, hax, hay, hini, hink, g1, hm1, hm2, hto1, hin2, Nat.zero_add, Nat.mul_one]
                        | refine And.intro (a := drawOk _ _ = true) (by kernel_rfl) ?_
                        | (refine id (α := drawOk _ _ = true) ?_; kernel_rfl))
                      exact ⟨t2, more2, rfl, rfl, hmet2, hT2, fun hm => ⟨(hno2 hm).1, (hno2 hm).2.1, fun c' hc' => by
                        rcases Nat.lt_succ_iff_lt_or_eq.1 hc' with h | rfl
                        · exact (hno2 hm).2.2 c' h
                        · rw [← (hno2 hm).1]; exact hbit2⟩, hyes2⟩
                    | false =>
                      repeat' (first
                        | refine If1.split (fun hb => ?_) (fun hb => ?_)
                        | refine C1.pure (k17) (by simp [AV.closedL, AV.closed, ints_closed, ex_closed, ag_closed, sm_closed, arm_closed, nd_closed]) ?_
                        | refine C1.pure (k17') (by simp [AV.closedL, AV.closed, ints_closed, ex_closed, ag_closed, sm_closed, arm_closed, nd_closed]) ?_
                        | simp (config := { maxSteps := 1000000 }) only [W1_skip, W1_ret, W1_label, W1_exit, W1_seq, W1_cond, W1_block, W1_region, W1_draw, W1_loop, O1_nil, O1_n, O1_s, slotD_s, slotD_z, V1_s, U1_b, U1_u, If1_t, If1_f, If1_not, eqB_tt, eqB_tf, eqB_ft, eqB_ff, X1_eq, H1_f, H1_h, H1_c, how, B1_some, B1_none, B1_ite, D1_b, setT_t, setT_c, T1_n, T1_r, T1_x, K1_n, K1_r, K1_x, FinP_n, FinP_r, bindO_some, RetOk_lit, FinX_n, FinX_r, FinK_n, FinK_r, oneOrTup_1, RetX_lit, getCells, List.set_cons_zero, List.set_cons_succ, putAt, fillA, sizesOf, allTyped, List.all_cons, List.all_nil, Bool.and_self, Bool.true_and, Bool.and_true, Nat.reduceMul, Int.reduceLT, Int.reduceGT, Int.reduceGE, Int.cast_ofNat_Int, Int.reduceLE, Int.reduceToNat, Int.reduceAdd, Int.reduceNeg, Int.reduceEq, Int.reduceBNe, Int.reduceBEq, decide_false, zerosA, List.replicate_succ, List.replicate_zero, List.flatten_cons, List.flatten_nil, Option.isSome_some, dstOk, evRes, evRes1, evFree, evHeap, evA, upd_ne, upd_same, initF, updO_some, updO_none, kindOf, AV.storable, AV.cells, AV.one, Value.oneCell', mode, E_pol, pol, binA, unA, litInt, litBool, litStr, eqA, callee, evArgs, evParts, ne_eq, Nat.reduceEqDiff, Nat.reduceLT, not_false_eq_true, decide_true, if_true, reduceIte, List.take_zero, List.take_succ_cons, List.length_cons, List.length_nil, Nat.reduceAdd, Nat.reduceLeDiff, List.getElem?_cons_zero, List.getElem?_cons_succ, List.getD_cons_zero, List.getD_cons_succ, List.drop_zero, List.drop_succ_cons, List.map_cons, List.map_nil, List.cons_append, List.nil_append, List.append_nil, List.head?_cons, Int.toNat_natCast, Nat.zero_le, and_self, true_and, and_true, Bool.not_true, Bool.not_false, Option.map_some, true_implies, Bool.true_eq_false, Bool.false_eq_true, reduceCtorEq, false_implies, List.mem_cons, List.not_mem_nil, Prod.mk.injEq, false_and, and_false, or_false, false_or, or_true, true_or, if_false, ty3, ty3k, ty3s, ty3t, ty3z, ty3o, ty3b, ty4, ty4k, ty4s, ty4t, ty4z, ty4o, ty4b, ty22, ty22k, ty22s, ty22t, ty22z, ty22o, ty22b, ty27, ty27k, ty27s, ty27t, ty27z, ty27o, ty27b, ty29, ty29k, ty29s, ty29t, ty29z, ty29o, ty29b, ty30, ty30k, ty30s, ty30t, ty30z, ty30o, ty30b, ty31, ty31k, ty31s, ty31t, ty31z, ty31o, ty31b, ty32, ty32k, ty32s, ty32t, ty32z, ty32o, ty32b, ty34, ty34k, ty34s, ty34t, ty34z, ty34o, ty34b, ty35, ty35k, ty35s, ty35t, ty35z, ty35o, ty35b, ty37, ty37k, ty37s, ty37t, ty37z, ty37o, ty37b, ty47, ty47k, ty47s, ty47t, ty47z, ty47o, ty47b, cz, f0, f1, f5, f6, f7, f8, f9, f11, f13, hwc, hax, hay, hini, hink, g1, hm1, hm2, hto1, hin2, hput, Nat.zero_add, Nat.mul_one]
                        | refine And.intro (a := drawOk _ _ = true) (by kernel_rfl) ?_
                        | (refine id (α := drawOk _ _ = true) ?_; kernel_rfl))
                      refine ⟨t2.set (toAt a b i k c) true, true, rfl, ?_, met_set ha hb hmet2 hT2 e1 e2 (by rw [hxn, hyn]; exact hc), ?_, (fun h => by cases h), fun _ => ?_⟩
                      · rw [← setB (by omega)]
                        simp
                      · unfold isT
                        rw [List.getElem?_set]
                        split
                        · rw [if_pos (by omega)]
                        · exact hT2
                      · have := lack_set hbit2
                        cases more2 with
                        | false => have := (hno2 rfl).1; subst this; omega
                        | true => have := hyes2 rfl; omega
                  · cases bit2 with
                    | true =>
                      repeat' (first
                        | refine If1.split (fun hb => ?_) (fun hb => ?_)
                        | refine C1.pure (k17) (by simp [AV.closedL, AV.closed, ints_closed, ex_closed, ag_closed, sm_closed, arm_closed, nd_closed]) ?_
                        | refine C1.pure (k17') (by simp [AV.closedL, AV.closed, ints_closed, ex_closed, ag_closed, sm_closed, arm_closed, nd_closed]) ?_
                        | simp (config := { maxSteps := 1000000 }) only [W1_skip, W1_ret, W1_label, W1_exit, W1_seq, W1_cond, W1_block, W1_region, W1_draw, W1_loop, O1_nil, O1_n, O1_s, slotD_s, slotD_z, V1_s, U1_b, U1_u, If1_t, If1_f, If1_not, eqB_tt, eqB_tf, eqB_ft, eqB_ff, X1_eq, H1_f, H1_h, H1_c, how, B1_some, B1_none, B1_ite, D1_b, setT_t, setT_c, T1_n, T1_r, T1_x, K1_n, K1_r, K1_x, FinP_n, FinP_r, bindO_some, RetOk_lit, FinX_n, FinX_r, FinK_n, FinK_r, oneOrTup_1, RetX_lit, getCells, List.set_cons_zero, List.set_cons_succ, putAt, fillA, sizesOf, allTyped, List.all_cons, List.all_nil, Bool.and_self, Bool.true_and, Bool.and_true, Nat.reduceMul, Int.reduceLT, Int.reduceGT, Int.reduceGE, Int.cast_ofNat_Int, Int.reduceLE, Int.reduceToNat, Int.reduceAdd, Int.reduceNeg, Int.reduceEq, Int.reduceBNe, Int.reduceBEq, decide_false, zerosA, List.replicate_succ, List.replicate_zero, List.flatten_cons, List.flatten_nil, Option.isSome_some, dstOk, evRes, evRes1, evFree, evHeap, evA, upd_ne, upd_same, initF, updO_some, updO_none, kindOf, AV.storable, AV.cells, AV.one, Value.oneCell', mode, E_pol, pol, binA, unA, litInt, litBool, litStr, eqA, callee, evArgs, evParts, ne_eq, Nat.reduceEqDiff, Nat.reduceLT, not_false_eq_true, decide_true, if_true, reduceIte, List.take_zero, List.take_succ_cons, List.length_cons, List.length_nil, Nat.reduceAdd, Nat.reduceLeDiff, List.getElem?_cons_zero, List.getElem?_cons_succ, List.getD_cons_zero, List.getD_cons_succ, List.drop_zero, List.drop_succ_cons, List.map_cons, List.map_nil, List.cons_append, List.nil_append, List.append_nil, List.head?_cons, Int.toNat_natCast, Nat.zero_le, and_self, true_and, and_true, Bool.not_true, Bool.not_false, Option.map_some, true_implies, Bool.true_eq_false, Bool.false_eq_true, reduceCtorEq, false_implies, List.mem_cons, List.not_mem_nil, Prod.mk.injEq, false_and, and_false, or_false, false_or, or_true, true_or, if_false, ty3, ty3k, ty3s, ty3t, ty3z, ty3o, ty3b, ty4, ty4k, ty4s, ty4t, ty4z, ty4o, ty4b, ty22, ty22k, ty22s, ty22t, ty22z, ty22o, ty22b, ty27, ty27k, ty27s, ty27t, ty27z, ty27o, ty27b, ty29, ty29k, ty29s, ty29t, ty29z, ty29o, ty29b, ty30, ty30k, ty30s, ty30t, ty30z, ty30o, ty30b, ty31, ty31k, ty31s, ty31t, ty31z, ty31o, ty31b, ty32, ty32k, ty32s, ty32t, ty32z, ty32o, ty32b, ty34, ty34k, ty34s, ty34t, ty34z, ty34o, ty34b, ty35, ty35k, ty35s, ty35t, ty35z, ty35o, ty35b, ty37, ty37k, ty37s, ty37t, ty37z, ty37o, ty37b, ty47, ty47k, ty47s, ty47t, ty47z, ty47o, ty47b, cz, f0, f1, f5, f6, f7, f8, f9, f11, f13, hwc, hax, hay, hini, hink, g1, g2, hm1, hm2, hto1, hin2, Nat.zero_add, Nat.mul_one]
                        | refine And.intro (a := drawOk _ _ = true) (by kernel_rfl) ?_
                        | (refine id (α := drawOk _ _ = true) ?_; kernel_rfl))
                      exact ⟨t2, more2, rfl, rfl, hmet2, hT2, fun hm => ⟨(hno2 hm).1, (hno2 hm).2.1, fun c' hc' => by
                        rcases Nat.lt_succ_iff_lt_or_eq.1 hc' with h | rfl
                        · exact (hno2 hm).2.2 c' h
                        · rw [← (hno2 hm).1]; exact hbit2⟩, hyes2⟩
                    | false =>
                      repeat' (first
                        | refine If1.split (fun hb => ?_) (fun hb => ?_)
                        | refine C1.pure (k17) (by simp [AV.closedL, AV.closed, ints_closed, ex_closed, ag_closed, sm_closed, arm_closed, nd_closed]) ?_
                        | refine C1.pure (k17') (by simp [AV.closedL, AV.closed, ints_closed, ex_closed, ag_closed, sm_closed, arm_closed, nd_closed]) ?_
                        | simp (config := { maxSteps := 1000000 }) only [W1_skip, W1_ret, W1_label, W1_exit, W1_seq, W1_cond, W1_block, W1_region, W1_draw, W1_loop, O1_nil, O1_n, O1_s, slotD_s, slotD_z, V1_s, U1_b, U1_u, If1_t, If1_f, If1_not, eqB_tt, eqB_tf, eqB_ft, eqB_ff, X1_eq, H1_f, H1_h, H1_c, how, B1_some, B1_none, B1_ite, D1_b, setT_t, setT_c, T1_n, T1_r, T1_x, K1_n, K1_r, K1_x, FinP_n, FinP_r, bindO_some, RetOk_lit, FinX_n, FinX_r, FinK_n, FinK_r, oneOrTup_1, RetX_lit, getCells, List.set_cons_zero, List.set_cons_succ, putAt, fillA, sizesOf, allTyped, List.all_cons, List.all_nil, Bool.and_self, Bool.true_and, Bool.and_true, Nat.reduceMul, Int.reduceLT, Int.reduceGT, Int.reduceGE, Int.cast_ofNat_Int, Int.reduceLE, Int.reduceToNat, Int.reduceAdd, Int.reduceNeg, Int.reduceEq, Int.reduceBNe, Int.reduceBEq, decide_false, zerosA, List.replicate_succ, List.replicate_zero, List.flatten_cons, List.flatten_nil, Option.isSome_some, dstOk, evRes, evRes1, evFree, evHeap, evA, upd_ne, upd_same, initF, updO_some, updO_none, kindOf, AV.storable, AV.cells, AV.one, Value.oneCell', mode, E_pol, pol, binA, unA, litInt, litBool, litStr, eqA, callee, evArgs, evParts, ne_eq, Nat.reduceEqDiff, Nat.reduceLT, not_false_eq_true, decide_true, if_true, reduceIte, List.take_zero, List.take_succ_cons, List.length_cons, List.length_nil, Nat.reduceAdd, Nat.reduceLeDiff, List.getElem?_cons_zero, List.getElem?_cons_succ, List.getD_cons_zero, List.getD_cons_succ, List.drop_zero, List.drop_succ_cons, List.map_cons, List.map_nil, List.cons_append, List.nil_append, List.append_nil, List.head?_cons, Int.toNat_natCast, Nat.zero_le, and_self, true_and, and_true, Bool.not_true, Bool.not_false, Option.map_some, true_implies, Bool.true_eq_false, Bool.false_eq_true, reduceCtorEq, false_implies, List.mem_cons, List.not_mem_nil, Prod.mk.injEq, false_and, and_false, or_false, false_or, or_true, true_or, if_false, ty3, ty3k, ty3s, ty3t, ty3z, ty3o, ty3b, ty4, ty4k, ty4s, ty4t, ty4z, ty4o, ty4b, ty22, ty22k, ty22s, ty22t, ty22z, ty22o, ty22b, ty27, ty27k, ty27s, ty27t, ty27z, ty27o, ty27b, ty29, ty29k, ty29s, ty29t, ty29z, ty29o, ty29b, ty30, ty30k, ty30s, ty30t, ty30z, ty30o, ty30b, ty31, ty31k, ty31s, ty31t, ty31z, ty31o, ty31b, ty32, ty32k, ty32s, ty32t, ty32z, ty32o, ty32b, ty34, ty34k, ty34s, ty34t, ty34z, ty34o, ty34b, ty35, ty35k, ty35s, ty35t, ty35z, ty35o, ty35b, ty37, ty37k, ty37s, ty37t, ty37z, ty37o, ty37b, ty47, ty47k, ty47s, ty47t, ty47z, ty47o, ty47b, cz, f0, f1, f5, f6, f7, f8, f9, f11, f13, hwc, hax, hay, hini, hink, g1, g2, hm1, hm2, hto1, hin2, hput, Nat.zero_add, Nat.mul_one]
                        | refine And.intro (a := drawOk _ _ = true) (by kernel_rfl) ?_
                        | (refine id (α := drawOk _ _ = true) ?_; kernel_rfl))
                      refine ⟨t2.set (toAt a b i k c) true, true, rfl, ?_, met_set ha hb hmet2 hT2 e1 e2 (by rw [hxn, hyn]; exact hc), ?_, (fun h => by cases h), fun _ => ?_⟩
                      · rw [← setB (by omega)]
                        simp
                      · unfold isT
                        rw [List.getElem?_set]
                        split
                        · rw [if_pos (by omega)]
                        · exact hT2
                      · have := lack_set hbit2
                        cases more2 with
                        | false => have := (hno2 rfl).1; subst this; omega
                        | true => have := hyes2 rfl; omega
                · rintro fr h ⟨f0, f1, f5, f6, f8, f9, f11, f13, t2, more2, f7, rfl, hmet2, hT2, hno2, hyes2⟩
                  have hlt1 : decide (((max a[i].next.length b[k].next.length : Nat) : Int) < (a[i].next.length : Int)) = false := decide_eq_false (by omega)
                  have hlt2 : decide (((max a[i].next.length b[k].next.length : Nat) : Int) < (b[k].next.length : Int)) = false := decide_eq_false (by omega)
                  repeat' (first
                    | refine If1.split (fun hb => ?_) (fun hb => ?_)
                    | simp (config := { maxSteps := 1000000 }) only [W1_skip, W1_ret, W1_label, W1_exit, W1_seq, W1_cond, W1_block, W1_region, W1_draw, W1_loop, O1_nil, O1_n, O1_s, slotD_s, slotD_z, V1_s, U1_b, U1_u, If1_t, If1_f, If1_not, eqB_tt, eqB_tf, eqB_ft, eqB_ff, X1_eq, H1_f, H1_h, H1_c, how, B1_some, B1_none, B1_ite, D1_b, setT_t, setT_c, T1_n, T1_r, T1_x, K1_n, K1_r, K1_x, FinP_n, FinP_r, bindO_some, RetOk_lit, FinX_n, FinX_r, FinK_n, FinK_r, oneOrTup_1, RetX_lit, getCells, List.set_cons_zero, List.set_cons_succ, putAt, fillA, sizesOf, allTyped, List.all_cons, List.all_nil, Bool.and_self, Bool.true_and, Bool.and_true, Nat.reduceMul, Int.reduceLT, Int.reduceGT, Int.reduceGE, Int.cast_ofNat_Int, Int.reduceLE, Int.reduceToNat, Int.reduceAdd, Int.reduceNeg, Int.reduceEq, Int.reduceBNe, Int.reduceBEq, decide_false, zerosA, List.replicate_succ, List.replicate_zero, List.flatten_cons, List.flatten_nil, Option.isSome_some, dstOk, evRes, evRes1, evFree, evHeap, evA, upd_ne, upd_same, initF, updO_some, updO_none, kindOf, AV.storable, AV.cells, AV.one, Value.oneCell', mode, E_pol, pol, binA, unA, litInt, litBool, litStr, eqA, callee, evArgs, evParts, ne_eq, Nat.reduceEqDiff, Nat.reduceLT, not_false_eq_true, decide_true, if_true, reduceIte, List.take_zero, List.take_succ_cons, List.length_cons, List.length_nil, Nat.reduceAdd, Nat.reduceLeDiff, List.getElem?_cons_zero, List.getElem?_cons_succ, List.getD_cons_zero, List.getD_cons_succ, List.drop_zero, List.drop_succ_cons, List.map_cons, List.map_nil, List.cons_append, List.nil_append, List.append_nil, List.head?_cons, Int.toNat_natCast, Nat.zero_le, and_self, true_and, and_true, Bool.not_true, Bool.not_false, Option.map_some, true_implies, Bool.true_eq_false, Bool.false_eq_true, reduceCtorEq, false_implies, List.mem_cons, List.not_mem_nil, Prod.mk.injEq, false_and, and_false, or_false, false_or, or_true, true_or, if_false, ty3, ty3k, ty3s, ty3t, ty3z, ty3o, ty3b, ty4, ty4k, ty4s, ty4t, ty4z, ty4o, ty4b, ty22, ty22k, ty22s, ty22t, ty22z, ty22o, ty22b, ty27, ty27k, ty27s, ty27t, ty27z, ty27o, ty27b, ty29, ty29k, ty29s, ty29t, ty29z, ty29o, ty29b, ty30, ty30k, ty30s, ty30t, ty30z, ty30o, ty30b, ty31, ty31k, ty31s, ty31t, ty31z, ty31o, ty31b, ty32, ty32k, ty32s, ty32t, ty32z, ty32o, ty32b, ty34, ty34k, ty34s, ty34t, ty34z, ty34o, ty34b, ty35, ty35k, ty35s, ty35t, ty35z, ty35o, ty35b, ty37, ty37k, ty37s, ty37t, ty37z, ty37o, ty37b, ty47, ty47k, ty47s, ty47t, ty47z, ty47o, ty47b, cz, f0, f1, f5, f6, f7, f8, f9, f11, f13, hwa, hax, hay, hini, hink, hlt1, hlt2]
                    | refine And.intro (a := drawOk _ _ = true) (by kernel_rfl) ?_
                    | (refine id (α := drawOk _ _ = true) ?_; kernel_rfl))
                  refine ⟨t2, more2, rfl, rfl, hmet2, fun hm => ⟨(hno2 hm).1, fun j hj hTj => ?_⟩, hyes2⟩
                  rcases Nat.lt_succ_iff_lt_or_eq.1 hj with h | rfl
                  · exact (hno2 hm).2.1 j h hTj
                  · refine ⟨by unfold Good; rw [e1, e2]; exact ⟨rfl, hl⟩, fun i' n' k' m' q1 q2 c hc => ?_⟩
                    rw [e1] at q1
                    rw [e2] at q2
                    injection q1 with q1
                    injection q2 with q2
                    injection q1 with q1 _
                    injection q2 with q2 _
                    subst q1
                    subst q2
                    rw [hxn, hyn] at hc
                    exact (hno2 hm).2.2 c hc
                · repeat' (first
                    | refine If1.split (fun hb => ?_) (fun hb => ?_)
                    | simp (config := { maxSteps := 1000000 }) only [W1_skip, W1_ret, W1_label, W1_exit, W1_seq, W1_cond, W1_block, W1_region, W1_draw, W1_loop, O1_nil, O1_n, O1_s, slotD_s, slotD_z, V1_s, U1_b, U1_u, If1_t, If1_f, If1_not, eqB_tt, eqB_tf, eqB_ft, eqB_ff, X1_eq, H1_f, H1_h, H1_c, how, B1_some, B1_none, B1_ite, D1_b, setT_t, setT_c, T1_n, T1_r, T1_x, K1_n, K1_r, K1_x, FinP_n, FinP_r, bindO_some, RetOk_lit, FinX_n, FinX_r, FinK_n, FinK_r, oneOrTup_1, RetX_lit, getCells, List.set_cons_zero, List.set_cons_succ, putAt, fillA, sizesOf, allTyped, List.all_cons, List.all_nil, Bool.and_self, Bool.true_and, Bool.and_true, Nat.reduceMul, Int.reduceLT, Int.reduceGT, Int.reduceGE, Int.cast_ofNat_Int, Int.reduceLE, Int.reduceToNat, Int.reduceAdd, Int.reduceNeg, Int.reduceEq, Int.reduceBNe, Int.reduceBEq, decide_false, zerosA, List.replicate_succ, List.replicate_zero, List.flatten_cons, List.flatten_nil, Option.isSome_some, dstOk, evRes, evRes1, evFree, evHeap, evA, upd_ne, upd_same, initF, updO_some, updO_none, kindOf, AV.storable, AV.cells, AV.one, Value.oneCell', mode, E_pol, pol, binA, unA, litInt, litBool, litStr, eqA, callee, evArgs, evParts, ne_eq, Nat.reduceEqDiff, Nat.reduceLT, not_false_eq_true, decide_true, if_true, reduceIte, List.take_zero, List.take_succ_cons, List.length_cons, List.length_nil, Nat.reduceAdd, Nat.reduceLeDiff, List.getElem?_cons_zero, List.getElem?_cons_succ, List.getD_cons_zero, List.getD_cons_succ, List.drop_zero, List.drop_succ_cons, List.map_cons, List.map_nil, List.cons_append, List.nil_append, List.append_nil, List.head?_cons, Int.toNat_natCast, Nat.zero_le, and_self, true_and, and_true, Bool.not_true, Bool.not_false, Option.map_some, true_implies, Bool.true_eq_false, Bool.false_eq_true, reduceCtorEq, false_implies, List.mem_cons, List.not_mem_nil, Prod.mk.injEq, false_and, and_false, or_false, false_or, or_true, true_or, if_false, ty3, ty3k, ty3s, ty3t, ty3z, ty3o, ty3b, ty4, ty4k, ty4s, ty4t, ty4z, ty4o, ty4b, ty22, ty22k, ty22s, ty22t, ty22z, ty22o, ty22b, ty27, ty27k, ty27s, ty27t, ty27z, ty27o, ty27b, ty29, ty29k, ty29s, ty29t, ty29z, ty29o, ty29b, ty30, ty30k, ty30s, ty30t, ty30z, ty30o, ty30b, ty31, ty31k, ty31s, ty31t, ty31z, ty31o, ty31b, ty32, ty32k, ty32s, ty32t, ty32z, ty32o, ty32b, ty34, ty34k, ty34s, ty34t, ty34z, ty34o, ty34b, ty35, ty35k, ty35s, ty35t, ty35z, ty35o, ty35b, ty37, ty37k, ty37s, ty37t, ty37z, ty37o, ty37b, ty47, ty47k, ty47s, ty47t, ty47z, ty47o, ty47b, cz, f0, f1, f5, f6, f8]
                    | refine And.intro (a := drawOk _ _ = true) (by kernel_rfl) ?_
                    | (refine id (α := drawOk _ _ = true) ?_; kernel_rfl))
                  exact ⟨t', more, f7, rfl, hmet', hT, fun hm => ⟨(hno hm).1, (hno hm).2, fun c' h => by omega⟩, hyes⟩
            · have hne : (c1 != c2) = true := by simp [hnm]
              rw [bad (by unfold Good; rw [e1, e2]; exact fun h => hnm h.1)]
              repeat' (first
                | refine If1.split (fun hb => ?_) (fun hb => ?_)
                | refine C1.pure (k1) (by simp [AV.closedL, AV.closed, ints_closed, ex_closed, ag_closed, sm_closed, arm_closed, nd_closed]) ?_
                | refine C1.pure (k2) (by simp [AV.closedL, AV.closed, ints_closed, ex_closed, ag_closed, sm_closed, arm_closed, nd_closed]) ?_
                | simp (config := { maxSteps := 1000000 }) only [W1_skip, W1_ret, W1_label, W1_exit, W1_seq, W1_cond, W1_block, W1_region, W1_draw, W1_loop, O1_nil, O1_n, O1_s, slotD_s, slotD_z, V1_s, U1_b, U1_u, If1_t, If1_f, If1_not, eqB_tt, eqB_tf, eqB_ft, eqB_ff, X1_eq, H1_f, H1_h, H1_c, how, B1_some, B1_none, B1_ite, D1_b, setT_t, setT_c, T1_n, T1_r, T1_x, K1_n, K1_r, K1_x, FinP_n, FinP_r, bindO_some, RetOk_lit, FinX_n, FinX_r, FinK_n, FinK_r, oneOrTup_1, RetX_lit, getCells, List.set_cons_zero, List.set_cons_succ, putAt, fillA, sizesOf, allTyped, List.all_cons, List.all_nil, Bool.and_self, Bool.true_and, Bool.and_true, Nat.reduceMul, Int.reduceLT, Int.reduceGT, Int.reduceGE, Int.cast_ofNat_Int, Int.reduceLE, Int.reduceToNat, Int.reduceAdd, Int.reduceNeg, Int.reduceEq, Int.reduceBNe, Int.reduceBEq, decide_false, zerosA, List.replicate_succ, List.replicate_zero, List.flatten_cons, List.flatten_nil, Option.isSome_some, dstOk, evRes, evRes1, evFree, evHeap, evA, upd_ne, upd_same, initF, updO_some, updO_none, kindOf, AV.storable, AV.cells, AV.one, Value.oneCell', mode, E_pol, pol, binA, unA, litInt, litBool, litStr, eqA, callee, evArgs, evParts, ne_eq, Nat.reduceEqDiff, Nat.reduceLT, not_false_eq_true, decide_true, if_true, reduceIte, List.take_zero, List.take_succ_cons, List.length_cons, List.length_nil, Nat.reduceAdd, Nat.reduceLeDiff, List.getElem?_cons_zero, List.getElem?_cons_succ, List.getD_cons_zero, List.getD_cons_succ, List.drop_zero, List.drop_succ_cons, List.map_cons, List.map_nil, List.cons_append, List.nil_append, List.append_nil, List.head?_cons, Int.toNat_natCast, Nat.zero_le, and_self, true_and, and_true, Bool.not_true, Bool.not_false, Option.map_some, true_implies, Bool.true_eq_false, Bool.false_eq_true, reduceCtorEq, false_implies, List.mem_cons, List.not_mem_nil, Prod.mk.injEq, false_and, and_false, or_false, false_or, or_true, true_or, if_false, ty3, ty3k, ty3s, ty3t, ty3z, ty3o, ty3b, ty4, ty4k, ty4s, ty4t, ty4z, ty4o, ty4b, ty22, ty22k, ty22s, ty22t, ty22z, ty22o, ty22b, ty27, ty27k, ty27s, ty27t, ty27z, ty27o, ty27b, ty29, ty29k, ty29s, ty29t, ty29z, ty29o, ty29b, ty30, ty30k, ty30s, ty30t, ty30z, ty30o, ty30b, ty31, ty31k, ty31s, ty31t, ty31z, ty31o, ty31b, ty32, ty32k, ty32s, ty32t, ty32z, ty32o, ty32b, ty34, ty34k, ty34s, ty34t, ty34z, ty34o, ty34b, ty35, ty35k, ty35s, ty35t, ty35z, ty35o, ty35b, ty37, ty37k, ty37s, ty37t, ty37z, ty37o, ty37b, ty47, ty47k, ty47s, ty47t, ty47z, ty47o, ty47b, cz, f0, f1, f5, f6, f7, f8, hlt, hin, hwa, hat1, hw1, hb0, hi0, hk0, hne, nat_tdiv, nat_tmod, Nat.zero_add, Nat.mul_one]
                | refine And.intro (a := drawOk _ _ = true) (by kernel_rfl) ?_
                | (refine id (α := drawOk _ _ = true) ?_; kernel_rfl))
    · rintro fr h ⟨f0, f1, f5, f6, f8, t', more, f7, rfl, hmet', hno, hyes⟩
      have hlt : decide ((n : Int) < (n : Int)) = false := by simp
      cases more with
      | false =>
        obtain ⟨rfl, hd⟩ := hno rfl
        rw [goB_t (met_end ha hb hmet' fun j hj hT => hd j (by omega) hT)]
        repeat' (first
          | refine If1.split (fun hb => ?_) (fun hb => ?_)
          | simp (config := { maxSteps := 1000000 }) only [W1_skip, W1_ret, W1_label, W1_exit, W1_seq, W1_cond, W1_block, W1_region, W1_draw, W1_loop, O1_nil, O1_n, O1_s, slotD_s, slotD_z, V1_s, U1_b, U1_u, If1_t, If1_f, If1_not, eqB_tt, eqB_tf, eqB_ft, eqB_ff, X1_eq, H1_f, H1_h, H1_c, how, B1_some, B1_none, B1_ite, D1_b, setT_t, setT_c, T1_n, T1_r, T1_x, K1_n, K1_r, K1_x, FinP_n, FinP_r, bindO_some, RetOk_lit, FinX_n, FinX_r, FinK_n, FinK_r, oneOrTup_1, RetX_lit, getCells, List.set_cons_zero, List.set_cons_succ, putAt, fillA, sizesOf, allTyped, List.all_cons, List.all_nil, Bool.and_self, Bool.true_and, Bool.and_true, Nat.reduceMul, Int.reduceLT, Int.reduceGT, Int.reduceGE, Int.cast_ofNat_Int, Int.reduceLE, Int.reduceToNat, Int.reduceAdd, Int.reduceNeg, Int.reduceEq, Int.reduceBNe, Int.reduceBEq, decide_false, zerosA, List.replicate_succ, List.replicate_zero, List.flatten_cons, List.flatten_nil, Option.isSome_some, dstOk, evRes, evRes1, evFree, evHeap, evA, upd_ne, upd_same, initF, updO_some, updO_none, kindOf, AV.storable, AV.cells, AV.one, Value.oneCell', mode, E_pol, pol, binA, unA, litInt, litBool, litStr, eqA, callee, evArgs, evParts, ne_eq, Nat.reduceEqDiff, Nat.reduceLT, not_false_eq_true, decide_true, if_true, reduceIte, List.take_zero, List.take_succ_cons, List.length_cons, List.length_nil, Nat.reduceAdd, Nat.reduceLeDiff, List.getElem?_cons_zero, List.getElem?_cons_succ, List.getD_cons_zero, List.getD_cons_succ, List.drop_zero, List.drop_succ_cons, List.map_cons, List.map_nil, List.cons_append, List.nil_append, List.append_nil, List.head?_cons, Int.toNat_natCast, Nat.zero_le, and_self, true_and, and_true, Bool.not_true, Bool.not_false, Option.map_some, true_implies, Bool.true_eq_false, Bool.false_eq_true, reduceCtorEq, false_implies, List.mem_cons, List.not_mem_nil, Prod.mk.injEq, false_and, and_false, or_false, false_or, or_true, true_or, if_false, ty3, ty3k, ty3s, ty3t, ty3z, ty3o, ty3b, ty4, ty4k, ty4s, ty4t, ty4z, ty4o, ty4b, ty22, ty22k, ty22s, ty22t, ty22z, ty22o, ty22b, ty27, ty27k, ty27s, ty27t, ty27z, ty27o, ty27b, ty29, ty29k, ty29s, ty29t, ty29z, ty29o, ty29b, ty30, ty30k, ty30s, ty30t, ty30z, ty30o, ty30b, ty31, ty31k, ty31s, ty31t, ty31z, ty31o, ty31b, ty32, ty32k, ty32s, ty32t, ty32z, ty32o, ty32b, ty34, ty34k, ty34s, ty34t, ty34z, ty34o, ty34b, ty35, ty35k, ty35s, ty35t, ty35z, ty35o, ty35b, ty37, ty37k, ty37s, ty37t, ty37z, ty37o, ty37b, ty47, ty47k, ty47s, ty47t, ty47z, ty47o, ty47b, cz, f0, f1, f5, f6, f7, f8, hlt, hwt]
          | refine And.intro (a := drawOk _ _ = true) (by kernel_rfl) ?_
          | (refine id (α := drawOk _ _ = true) ?_; kernel_rfl))
      | true =>
        have := hyes rfl
        repeat' (first
          | refine If1.split (fun hb => ?_) (fun hb => ?_)
          | simp (config := { maxSteps := 1000000 }) only [W1_skip, W1_ret, W1_label, W1_exit, W1_seq, W1_cond, W1_block, W1_region, W1_draw, W1_loop, O1_nil, O1_n, O1_s, slotD_s, slotD_z, V1_s, U1_b, U1_u, If1_t, If1_f, If1_not, eqB_tt, eqB_tf, eqB_ft, eqB_ff, X1_eq, H1_f, H1_h, H1_c, how, B1_some, B1_none, B1_ite, D1_b, setT_t, setT_c, T1_n, T1_r, T1_x, K1_n, K1_r, K1_x, FinP_n, FinP_r, bindO_some, RetOk_lit, FinX_n, FinX_r, FinK_n, FinK_r, oneOrTup_1, RetX_lit, getCells, List.set_cons_zero, List.set_cons_succ, putAt, fillA, sizesOf, allTyped, List.all_cons, List.all_nil, Bool.and_self, Bool.true_and, Bool.and_true, Nat.reduceMul, Int.reduceLT, Int.reduceGT, Int.reduceGE, Int.cast_ofNat_Int, Int.reduceLE, Int.reduceToNat, Int.reduceAdd, Int.reduceNeg, Int.reduceEq, Int.reduceBNe, Int.reduceBEq, decide_false, zerosA, List.replicate_succ, List.replicate_zero, List.flatten_cons, List.flatten_nil, Option.isSome_some, dstOk, evRes, evRes1, evFree, evHeap, evA, upd_ne, upd_same, initF, updO_some, updO_none, kindOf, AV.storable, AV.cells, AV.one, Value.oneCell', mode, E_pol, pol, binA, unA, litInt, litBool, litStr, eqA, callee, evArgs, evParts, ne_eq, Nat.reduceEqDiff, Nat.reduceLT, not_false_eq_true, decide_true, if_true, reduceIte, List.take_zero, List.take_succ_cons, List.length_cons, List.length_nil, Nat.reduceAdd, Nat.reduceLeDiff, List.getElem?_cons_zero, List.getElem?_cons_succ, List.getD_cons_zero, List.getD_cons_succ, List.drop_zero, List.drop_succ_cons, List.map_cons, List.map_nil, List.cons_append, List.nil_append, List.append_nil, List.head?_cons, Int.toNat_natCast, Nat.zero_le, and_self, true_and, and_true, Bool.not_true, Bool.not_false, Option.map_some, true_implies, Bool.true_eq_false, Bool.false_eq_true, reduceCtorEq, false_implies, List.mem_cons, List.not_mem_nil, Prod.mk.injEq, false_and, and_false, or_false, false_or, or_true, true_or, if_false, ty3, ty3k, ty3s, ty3t, ty3z, ty3o, ty3b, ty4, ty4k, ty4s, ty4t, ty4z, ty4o, ty4b, ty22, ty22k, ty22s, ty22t, ty22z, ty22o, ty22b, ty27, ty27k, ty27s, ty27t, ty27z, ty27o, ty27b, ty29, ty29k, ty29s, ty29t, ty29z, ty29o, ty29b, ty30, ty30k, ty30s, ty30t, ty30z, ty30o, ty30b, ty31, ty31k, ty31s, ty31t, ty31z, ty31o, ty31b, ty32, ty32k, ty32s, ty32t, ty32z, ty32o, ty32b, ty34, ty34k, ty34s, ty34t, ty34z, ty34o, ty34b, ty35, ty35k, ty35s, ty35t, ty35z, ty35o, ty35b, ty37, ty37k, ty37s, ty37t, ty37z, ty37o, ty37b, ty47, ty47k, ty47s, ty47t, ty47z, ty47o, ty47b, cz, f0, f1, f5, f6, f7, f8, hlt, hwt]
          | refine And.intro (a := drawOk _ _ = true) (by kernel_rfl) ?_
          | (refine id (α := drawOk _ _ = true) ?_; kernel_rfl))
        exact ⟨lack t', by omega, turn + 1, t', rfl, rfl, hmet', rfl, by omega⟩
    · repeat' (first
        | refine If1.split (fun hb => ?_) (fun hb => ?_)
        | simp (config := { maxSteps := 1000000 }) only [W1_skip, W1_ret, W1_label, W1_exit, W1_seq, W1_cond, W1_block, W1_region, W1_draw, W1_loop, O1_nil, O1_n, O1_s, slotD_s, slotD_z, V1_s, U1_b, U1_u, If1_t, If1_f, If1_not, eqB_tt, eqB_tf, eqB_ft, eqB_ff, X1_eq, H1_f, H1_h, H1_c, how, B1_some, B1_none, B1_ite, D1_b, setT_t, setT_c, T1_n, T1_r, T1_x, K1_n, K1_r, K1_x, FinP_n, FinP_r, bindO_some, RetOk_lit, FinX_n, FinX_r, FinK_n, FinK_r, oneOrTup_1, RetX_lit, getCells, List.set_cons_zero, List.set_cons_succ, putAt, fillA, sizesOf, allTyped, List.all_cons, List.all_nil, Bool.and_self, Bool.true_and, Bool.and_true, Nat.reduceMul, Int.reduceLT, Int.reduceGT, Int.reduceGE, Int.cast_ofNat_Int, Int.reduceLE, Int.reduceToNat, Int.reduceAdd, Int.reduceNeg, Int.reduceEq, Int.reduceBNe, Int.reduceBEq, decide_false, zerosA, List.replicate_succ, List.replicate_zero, List.flatten_cons, List.flatten_nil, Option.isSome_some, dstOk, evRes, evRes1, evFree, evHeap, evA, upd_ne, upd_same, initF, updO_some, updO_none, kindOf, AV.storable, AV.cells, AV.one, Value.oneCell', mode, E_pol, pol, binA, unA, litInt, litBool, litStr, eqA, callee, evArgs, evParts, ne_eq, Nat.reduceEqDiff, Nat.reduceLT, not_false_eq_true, decide_true, if_true, reduceIte, List.take_zero, List.take_succ_cons, List.length_cons, List.length_nil, Nat.reduceAdd, Nat.reduceLeDiff, List.getElem?_cons_zero, List.getElem?_cons_succ, List.getD_cons_zero, List.getD_cons_succ, List.drop_zero, List.drop_succ_cons, List.map_cons, List.map_nil, List.cons_append, List.nil_append, List.append_nil, List.head?_cons, Int.toNat_natCast, Nat.zero_le, and_self, true_and, and_true, Bool.not_true, Bool.not_false, Option.map_some, true_implies, Bool.true_eq_false, Bool.false_eq_true, reduceCtorEq, false_implies, List.mem_cons, List.not_mem_nil, Prod.mk.injEq, false_and, and_false, or_false, false_or, or_true, true_or, if_false, ty3, ty3k, ty3s, ty3t, ty3z, ty3o, ty3b, ty4, ty4k, ty4s, ty4t, ty4z, ty4o, ty4b, ty22, ty22k, ty22s, ty22t, ty22z, ty22o, ty22b, ty27, ty27k, ty27s, ty27t, ty27z, ty27o, ty27b, ty29, ty29k, ty29s, ty29t, ty29z, ty29o, ty29b, ty30, ty30k, ty30s, ty30t, ty30z, ty30o, ty30b, ty31, ty31k, ty31s, ty31t, ty31z, ty31o, ty31b, ty32, ty32k, ty32s, ty32t, ty32z, ty32o, ty32b, ty34, ty34k, ty34s, ty34t, ty34z, ty34o, ty34b, ty35, ty35k, ty35s, ty35t, ty35z, ty35o, ty35b, ty37, ty37k, ty37s, ty37t, ty37z, ty37o, ty37b, ty47, ty47k, ty47s, ty47t, ty47z, ty47o, ty47b, cz, f0, f1, f5, f6]
        | refine And.intro (a := drawOk _ _ = true) (by kernel_rfl) ?_
        | (refine id (α := drawOk _ _ = true) ?_; kernel_rfl))
      exact ⟨t, false, rfl, rfl, hmet, fun _ => ⟨rfl, fun j hj => by omega⟩, fun h => by cases h⟩
  · repeat' (first
      | refine If1.split (fun hb => ?_) (fun hb => ?_)
      | simp (config := { maxSteps := 1000000 }) only [W1_skip, W1_ret, W1_label, W1_exit, W1_seq, W1_cond, W1_block, W1_region, W1_draw, W1_loop, O1_nil, O1_n, O1_s, slotD_s, slotD_z, V1_s, U1_b, U1_u, If1_t, If1_f, If1_not, eqB_tt, eqB_tf, eqB_ft, eqB_ff, X1_eq, H1_f, H1_h, H1_c, how, B1_some, B1_none, B1_ite, D1_b, setT_t, setT_c, T1_n, T1_r, T1_x, K1_n, K1_r, K1_x, FinP_n, FinP_r, bindO_some, RetOk_lit, FinX_n, FinX_r, FinK_n, FinK_r, oneOrTup_1, RetX_lit, getCells, List.set_cons_zero, List.set_cons_succ, putAt, fillA, sizesOf, allTyped, List.all_cons, List.all_nil, Bool.and_self, Bool.true_and, Bool.and_true, Nat.reduceMul, Int.reduceLT, Int.reduceGT, Int.reduceGE, Int.cast_ofNat_Int, Int.reduceLE, Int.reduceToNat, Int.reduceAdd, Int.reduceNeg, Int.reduceEq, Int.reduceBNe, Int.reduceBEq, decide_false, zerosA, List.replicate_succ, List.replicate_zero, List.flatten_cons, List.flatten_nil, Option.isSome_some, dstOk, evRes, evRes1, evFree, evHeap, evA, upd_ne, upd_same, initF, updO_some, updO_none, kindOf, AV.storable, AV.cells, AV.one, Value.oneCell', mode, E_pol, pol, binA, unA, litInt, litBool, litStr, eqA, callee, evArgs, evParts, ne_eq, Nat.reduceEqDiff, Nat.reduceLT, not_false_eq_true, decide_true, if_true, reduceIte, List.take_zero, List.take_succ_cons, List.length_cons, List.length_nil, Nat.reduceAdd, Nat.reduceLeDiff, List.getElem?_cons_zero, List.getElem?_cons_succ, List.getD_cons_zero, List.getD_cons_succ, List.drop_zero, List.drop_succ_cons, List.map_cons, List.map_nil, List.cons_append, List.nil_append, List.append_nil, List.head?_cons, Int.toNat_natCast, Nat.zero_le, and_self, true_and, and_true, Bool.not_true, Bool.not_false, Option.map_some, true_implies, Bool.true_eq_false, Bool.false_eq_true, reduceCtorEq, false_implies, List.mem_cons, List.not_mem_nil, Prod.mk.injEq, false_and, and_false, or_false, false_or, or_true, true_or, if_false, ty3, ty3k, ty3s, ty3t, ty3z, ty3o, ty3b, ty4, ty4k, ty4s, ty4t, ty4z, ty4o, ty4b, ty22, ty22k, ty22s, ty22t, ty22z, ty22o, ty22b, ty27, ty27k, ty27s, ty27t, ty27z, ty27o, ty27b, ty29, ty29k, ty29s, ty29t, ty29z, ty29o, ty29b, ty30, ty30k, ty30s, ty30t, ty30z, ty30o, ty30b, ty31, ty31k, ty31s, ty31t, ty31z, ty31o, ty31b, ty32, ty32k, ty32s, ty32t, ty32z, ty32o, ty32b, ty34, ty34k, ty34s, ty34t, ty34z, ty34o, ty34b, ty35, ty35k, ty35s, ty35t, ty35z, ty35o, ty35b, ty37, ty37k, ty37s, ty37t, ty37z, ty37o, ty37b, ty47, ty47k, ty47s, ty47t, ty47z, ty47o, ty47b, cz]
      | refine And.intro (a := drawOk _ _ = true) (by kernel_rfl) ?_
      | (refine id (α := drawOk _ _ = true) ?_; kernel_rfl))
    refine ⟨0, true :: List.replicate (n - 1) false, rfl, rfl, by rw [← hn]; exact met_first ha hb, ?_, ?_⟩
    · show n - 1 = lack (true :: List.replicate (n - 1) false)
      have := lack_false (n - 1)
      unfold lack at *
      simp [this]
    · have := lack_false (n - 1)
      have e : lack (true :: List.replicate (n - 1) false) = n - 1 := by
        unfold lack at *
        simp [this]
      rw [e]
      omega
end Go.Abs

