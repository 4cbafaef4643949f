/- Contracts: slots and scopes. Conditions: none. -/
import Derived.Test.YtnjaedaofjkbnaaDoorC21
set_option maxRecDepth 100000
set_option linter.unusedVariables false
set_option linter.unusedSimpArgs false
namespace Go.Abs
open Go
/-- Read whole, in all so many steps or more. -/
def Rdb (h : AHeap) (x y : AV) : Prop := ∃ N, ∀ n, N ≤ n → rdv h n x = some y
def RdbL (h : AHeap) (x y : List AV) : Prop := ∃ N, ∀ n, N ≤ n → rdvL h n x = some y
theorem Rdb.closed {h : AHeap} {x : AV} (hx : x.closed = true) : Rdb h x x := ⟨1, fun n hn => by
  cases n with
  | zero => omega
  | succ n => simp [rdv, hx]⟩
theorem RdbL.nil {h : AHeap} : RdbL h [] [] := ⟨1, fun n hn => by
  cases n with
  | zero => omega
  | succ n => simp [rdvL]⟩
theorem RdbL.cons {h : AHeap} {x y : AV} {xs ys : List AV} (h1 : Rdb h x y) (h2 : RdbL h xs ys) : RdbL h (x :: xs) (y :: ys) := by
  obtain ⟨a, ha⟩ := h1
  obtain ⟨b, hb⟩ := h2
  refine ⟨a + b + 1, fun n hn => ?_⟩
  cases n with
  | zero => omega
  | succ n => simp [rdvL, ha n (by omega), hb n (by omega)]
theorem RdbL.closed {h : AHeap} : ∀ {xs : List AV}, AV.closedL xs = true → RdbL h xs xs
  | [], _ => .nil
  | x :: xs, hc => by
    simp only [AV.closedL, Bool.and_eq_true] at hc
    exact .cons (.closed hc.1) (.closed hc.2)
theorem Rdb.ms {h : AHeap} {b ver off k sz : Nat} {xs ys : List AV} (hb : h[b]? = some (.cells ver xs)) (hl : off + k * sz ≤ xs.length) (hy : RdbL h ((xs.drop off).take (k * sz)) ys) : Rdb h (.ms b ver off k sz) (.ro k ys) := by
  obtain ⟨N, hN⟩ := hy
  refine ⟨N + 1, fun n hn => ?_⟩
  cases n with
  | zero => omega
  | succ n => simp [rdv, AV.closed, getCells, hb, hl, hN n (by omega)]
theorem Rdb.agg {h : AHeap} {xs ys : List AV} (hy : RdbL h xs ys) : Rdb h (.agg xs) (.agg ys) := by
  by_cases hc : AV.closedL xs = true
  · obtain ⟨N, hN⟩ := hy
    have h2 := RdbL.closed (h := h) hc
    obtain ⟨M, hM⟩ := h2
    have e : xs = ys := by
      have a := hN (N + M) (by omega)
      have b := hM (N + M) (by omega)
      rw [a] at b
      injection b with b
      exact b.symm
    subst e
    exact .closed (by simpa [AV.closed] using hc)
  · obtain ⟨N, hN⟩ := hy
    refine ⟨N + 1, fun n hn => ?_⟩
    cases n with
    | zero => omega
    | succ n => simp [rdv, AV.closed, hc, hN n (by omega)]
theorem Rdb.tup {h : AHeap} {xs ys : List AV} (hy : RdbL h xs ys) : Rdb h (.tup xs) (.tup ys) := by
  by_cases hc : AV.closedL xs = true
  · obtain ⟨N, hN⟩ := hy
    have h2 := RdbL.closed (h := h) hc
    obtain ⟨M, hM⟩ := h2
    have e : xs = ys := by
      have a := hN (N + M) (by omega)
      have b := hM (N + M) (by omega)
      rw [a] at b
      injection b with b
      exact b.symm
    subst e
    exact .closed (by simpa [AV.closed] using hc)
  · obtain ⟨N, hN⟩ := hy
    refine ⟨N + 1, fun n hn => ?_⟩
    cases n with
    | zero => omega
    | succ n => simp [rdv, AV.closed, hc, hN n (by omega)]
theorem RetOk_rdb {h : AHeap} {vs : List AV} {r : AV} (h1 : Rdb h (oneOrTup vs) r) (h2 : r.closed = true) : RetOk h vs r := by
  obtain ⟨N, hN⟩ := h1
  exact ⟨N, hN N (Nat.le_refl _), h2⟩
theorem RetX_rdb {h : AHeap} {vs : List AV} {Φ : AV → Prop} {r : AV} (h1 : Rdb h (oneOrTup vs) r) (h2 : r.closed = true) (h3 : Φ r) : RetX h vs Φ := ⟨r, RetOk_rdb h1 h2, h3⟩
theorem intC_len (l : List Int) : (recs intC l).length = l.length * 1 := recs_length (w := 1) (fun _ => rfl) l
theorem intC_len' (l : List Int) : (recs intC l).length = l.length := by rw [intC_len]; omega
theorem set_self {h : AHeap} {b : Nat} {x y : ABlock} (hb : h[b]? = some x) : (h.set b y)[b]? = some y := by
  rw [List.getElem?_set_self (List.getElem?_eq_some_iff.1 hb).1]
theorem intC_at' {l : List Int} {i : Nat} {x : Int} (h : l[i]? = some x) : (recs intC l).drop i = I x :: recs intC (l.drop (i + 1)) := by
  have := intC_at h
  rwa [Nat.mul_one] at this
theorem take_ints {l : List Int} : (recs intC l).take l.length = recs intC l := List.take_of_length_le (by rw [intC_len']; exact Nat.le_refl _)
theorem c43 (u : Un) (hp : u.params.length ≤ 20) (hl : u.locals.length ≤ 1100) : ∃ r, PFn E 43 [uniA u] r ∧ ∃ l, r = intsA l ∧ l.length ≤ 1200 := by
  have hb1 : u.params.length * 8 ≤ 140737488355328 ∧ u.params.length ≤ 9223372036854775807 := by omega
  have hb2 : (u.params.length + 1) * 8 ≤ 140737488355328 ∧ u.params.length + 1 ≤ 9223372036854775807 := by omega
  refine px_F fn43 (by simp) ?_
  simp only [Go.Proofs.Tryd.f43, Option.getD_some, List.append_eq, List.cons_append, List.nil_append]
  repeat' (first
    | refine If1.split (fun hb => ?_) (fun hb => ?_)
    | simp (config := { maxSteps := 1000000 }) only [W1_skip, W1_ret, W1_label, W1_exit, W1_seq, W1_cond, W1_block, W1_region, W1_draw, W1_loop, O1_nil, O1_n, O1_s, slotD_s, slotD_z, V1_s, U1_b, U1_u, If1_t, If1_f, If1_not, eqB_tt, eqB_tf, eqB_ft, eqB_ff, X1_eq, H1_f, H1_h, H1_c, how, B1_some, B1_none, B1_ite, D1_b, setT_t, setT_c, T1_n, T1_r, T1_x, K1_n, K1_r, K1_x, FinP_n, FinP_r, bindO_some, RetOk_lit, FinX_n, FinX_r, FinK_n, FinK_r, oneOrTup_1, RetX_lit, getCells, List.set_cons_zero, List.set_cons_succ, putAt, fillA, sizesOf, allTyped, List.all_cons, List.all_nil, Bool.and_self, Bool.true_and, Bool.and_true, Nat.reduceMul, Int.reduceLT, Int.reduceGT, Int.reduceGE, Int.cast_ofNat_Int, Int.reduceLE, Int.reduceToNat, Int.reduceAdd, Int.reduceNeg, Int.reduceEq, Int.reduceBNe, Int.reduceBEq, decide_false, zerosA, List.replicate_succ, List.replicate_zero, List.flatten_cons, List.flatten_nil, Option.isSome_some, dstOk, evRes, evRes1, evFree, evHeap, evA, upd_ne, upd_same, initF, updO_some, updO_none, kindOf, AV.storable, AV.cells, AV.one, Value.oneCell', mode, E_pol, pol, binA, unA, litInt, litBool, litStr, eqA, callee, evArgs, evParts, ne_eq, Nat.reduceEqDiff, Nat.reduceLT, not_false_eq_true, decide_true, if_true, reduceIte, List.take_zero, List.take_succ_cons, List.length_cons, List.length_nil, Nat.reduceAdd, Nat.reduceLeDiff, List.getElem?_cons_zero, List.getElem?_cons_succ, List.getD_cons_zero, List.getD_cons_succ, List.drop_zero, List.drop_succ_cons, List.map_cons, List.map_nil, List.cons_append, List.nil_append, List.append_nil, List.head?_cons, Int.toNat_natCast, Nat.zero_le, and_self, true_and, and_true, Bool.not_true, Bool.not_false, Option.map_some, true_implies, Bool.true_eq_false, Bool.false_eq_true, reduceCtorEq, false_implies, List.mem_cons, List.not_mem_nil, Prod.mk.injEq, false_and, and_false, or_false, false_or, or_true, true_or, if_false, ty3, ty3k, ty3s, ty3t, ty3z, ty3o, ty3b, ty9, ty9k, ty9s, ty9t, ty9z, ty9o, ty9b, ty32, ty32k, ty32s, ty32t, ty32z, ty32o, ty32b, ty70, ty70k, ty70s, ty70t, ty70z, ty70o, ty70b, ty72, ty72k, ty72s, ty72t, ty72z, ty72o, ty72b, cz, cellsS, appendA, hb1, hb2, intC_len', Nat.mul_one, Nat.zero_add, Nat.le_refl, take_ints, List.take_nil]
    | refine And.intro (a := drawOk _ _ = true) (by kernel_rfl) ?_
    | (refine id (α := drawOk _ _ = true) ?_; kernel_rfl))
  all_goals
    refine L1_up u.locals.length (fun i fr h => fr 1 = .rp [.lit (.string u.name), intsA u.params, I u.result, intsA u.locals, .ro u.code.length (recs I3.cs u.code)] ∧ fr 4 = I i ∧ ∃ (l : List Int) (ver : Nat), fr 3 = .ms 0 ver 0 l.length 1 ∧ h[0]? = some (.cells ver (recs intC l)) ∧ l.length ≤ 21 + i) ?_ ?_ 0 (Nat.zero_le _) _ _ ?_
    · rintro i hi fr h ⟨h1, h4, l, ver, h3, hh, hll⟩
      obtain ⟨x, hx⟩ : ∃ x, u.locals[i]? = some x := ⟨u.locals[i], by simp [hi]⟩
      have hlt : decide ((i : Int) < (u.locals.length : Int)) = true := by simp; omega
      have hin : 0 ≤ (i : Int) ∧ (i : Int) < (u.locals.length : Int) := by omega
      have hw : IntKind.i64.wrap ((i : Int) + 1) = ((i + 1 : Nat) : Int) := by rw [wrap64 (by unfold In64; omega)]; simp
      have hax := intC_at' hx
      have hb : (l.length + 1) * 8 ≤ 140737488355328 ∧ l.length + 1 ≤ 9223372036854775807 := by omega
      repeat' (first
        | refine If1.split (fun hb => ?_) (fun hb => ?_)
        | simp (config := { maxSteps := 1000000 }) only [W1_skip, W1_ret, W1_label, W1_exit, W1_seq, W1_cond, W1_block, W1_region, W1_draw, W1_loop, O1_nil, O1_n, O1_s, slotD_s, slotD_z, V1_s, U1_b, U1_u, If1_t, If1_f, If1_not, eqB_tt, eqB_tf, eqB_ft, eqB_ff, X1_eq, H1_f, H1_h, H1_c, how, B1_some, B1_none, B1_ite, D1_b, setT_t, setT_c, T1_n, T1_r, T1_x, K1_n, K1_r, K1_x, FinP_n, FinP_r, bindO_some, RetOk_lit, FinX_n, FinX_r, FinK_n, FinK_r, oneOrTup_1, RetX_lit, getCells, List.set_cons_zero, List.set_cons_succ, putAt, fillA, sizesOf, allTyped, List.all_cons, List.all_nil, Bool.and_self, Bool.true_and, Bool.and_true, Nat.reduceMul, Int.reduceLT, Int.reduceGT, Int.reduceGE, Int.cast_ofNat_Int, Int.reduceLE, Int.reduceToNat, Int.reduceAdd, Int.reduceNeg, Int.reduceEq, Int.reduceBNe, Int.reduceBEq, decide_false, zerosA, List.replicate_succ, List.replicate_zero, List.flatten_cons, List.flatten_nil, Option.isSome_some, dstOk, evRes, evRes1, evFree, evHeap, evA, upd_ne, upd_same, initF, updO_some, updO_none, kindOf, AV.storable, AV.cells, AV.one, Value.oneCell', mode, E_pol, pol, binA, unA, litInt, litBool, litStr, eqA, callee, evArgs, evParts, ne_eq, Nat.reduceEqDiff, Nat.reduceLT, not_false_eq_true, decide_true, if_true, reduceIte, List.take_zero, List.take_succ_cons, List.length_cons, List.length_nil, Nat.reduceAdd, Nat.reduceLeDiff, List.getElem?_cons_zero, List.getElem?_cons_succ, List.getD_cons_zero, List.getD_cons_succ, List.drop_zero, List.drop_succ_cons, List.map_cons, List.map_nil, List.cons_append, List.nil_append, List.append_nil, List.head?_cons, Int.toNat_natCast, Nat.zero_le, and_self, true_and, and_true, Bool.not_true, Bool.not_false, Option.map_some, true_implies, Bool.true_eq_false, Bool.false_eq_true, reduceCtorEq, false_implies, List.mem_cons, List.not_mem_nil, Prod.mk.injEq, false_and, and_false, or_false, false_or, or_true, true_or, if_false, ty3, ty3k, ty3s, ty3t, ty3z, ty3o, ty3b, ty9, ty9k, ty9s, ty9t, ty9z, ty9o, ty9b, ty32, ty32k, ty32s, ty32t, ty32z, ty32o, ty32b, ty70, ty70k, ty70s, ty70t, ty70z, ty70o, ty70b, ty72, ty72k, ty72s, ty72t, ty72z, ty72o, ty72b, h1, h3, h4, hlt, hin, hax, hw, cellsS, appendA, hh, hb, intC_len', Nat.mul_one, Nat.zero_add, Nat.le_refl, take_ints]
        | refine And.intro (a := drawOk _ _ = true) (by kernel_rfl) ?_
        | (refine id (α := drawOk _ _ = true) ?_; kernel_rfl))
      exact ⟨l ++ [x], ver + 1, by simp, by rw [set_self hh, recs_append]; rfl, by simp; omega⟩
    · rintro fr h ⟨h1, h4, l, ver, h3, hh, hll⟩
      have hlt : decide ((u.locals.length : Int) < (u.locals.length : Int)) = false := by simp
      repeat' (first
        | refine If1.split (fun hb => ?_) (fun hb => ?_)
        | simp (config := { maxSteps := 1000000 }) only [W1_skip, W1_ret, W1_label, W1_exit, W1_seq, W1_cond, W1_block, W1_region, W1_draw, W1_loop, O1_nil, O1_n, O1_s, slotD_s, slotD_z, V1_s, U1_b, U1_u, If1_t, If1_f, If1_not, eqB_tt, eqB_tf, eqB_ft, eqB_ff, X1_eq, H1_f, H1_h, H1_c, how, B1_some, B1_none, B1_ite, D1_b, setT_t, setT_c, T1_n, T1_r, T1_x, K1_n, K1_r, K1_x, FinP_n, FinP_r, bindO_some, RetOk_lit, FinX_n, FinX_r, FinK_n, FinK_r, oneOrTup_1, RetX_lit, getCells, List.set_cons_zero, List.set_cons_succ, putAt, fillA, sizesOf, allTyped, List.all_cons, List.all_nil, Bool.and_self, Bool.true_and, Bool.and_true, Nat.reduceMul, Int.reduceLT, Int.reduceGT, Int.reduceGE, Int.cast_ofNat_Int, Int.reduceLE, Int.reduceToNat, Int.reduceAdd, Int.reduceNeg, Int.reduceEq, Int.reduceBNe, Int.reduceBEq, decide_false, zerosA, List.replicate_succ, List.replicate_zero, List.flatten_cons, List.flatten_nil, Option.isSome_some, dstOk, evRes, evRes1, evFree, evHeap, evA, upd_ne, upd_same, initF, updO_some, updO_none, kindOf, AV.storable, AV.cells, AV.one, Value.oneCell', mode, E_pol, pol, binA, unA, litInt, litBool, litStr, eqA, callee, evArgs, evParts, ne_eq, Nat.reduceEqDiff, Nat.reduceLT, not_false_eq_true, decide_true, if_true, reduceIte, List.take_zero, List.take_succ_cons, List.length_cons, List.length_nil, Nat.reduceAdd, Nat.reduceLeDiff, List.getElem?_cons_zero, List.getElem?_cons_succ, List.getD_cons_zero, List.getD_cons_succ, List.drop_zero, List.drop_succ_cons, List.map_cons, List.map_nil, List.cons_append, List.nil_append, List.append_nil, List.head?_cons, Int.toNat_natCast, Nat.zero_le, and_self, true_and, and_true, Bool.not_true, Bool.not_false, Option.map_some, true_implies, Bool.true_eq_false, Bool.false_eq_true, reduceCtorEq, false_implies, List.mem_cons, List.not_mem_nil, Prod.mk.injEq, false_and, and_false, or_false, false_or, or_true, true_or, if_false, ty3, ty3k, ty3s, ty3t, ty3z, ty3o, ty3b, ty9, ty9k, ty9s, ty9t, ty9z, ty9o, ty9b, ty32, ty32k, ty32s, ty32t, ty32z, ty32o, ty32b, ty70, ty70k, ty70s, ty70t, ty70z, ty70o, ty70b, ty72, ty72k, ty72s, ty72t, ty72z, ty72o, ty72b, h1, h3, h4, hlt]
        | refine And.intro (a := drawOk _ _ = true) (by kernel_rfl) ?_
        | (refine id (α := drawOk _ _ = true) ?_; kernel_rfl))
      exact RetX_rdb (Rdb.ms hh (by rw [intC_len']; omega) (RdbL.closed (by simpa [take_ints] using ints_closed l))) (by simpa [AV.closed, take_ints] using ints_closed l) ⟨l, by simp [take_ints], by omega⟩
    · repeat' (first
        | refine If1.split (fun hb => ?_) (fun hb => ?_)
        | simp (config := { maxSteps := 1000000 }) only [W1_skip, W1_ret, W1_label, W1_exit, W1_seq, W1_cond, W1_block, W1_region, W1_draw, W1_loop, O1_nil, O1_n, O1_s, slotD_s, slotD_z, V1_s, U1_b, U1_u, If1_t, If1_f, If1_not, eqB_tt, eqB_tf, eqB_ft, eqB_ff, X1_eq, H1_f, H1_h, H1_c, how, B1_some, B1_none, B1_ite, D1_b, setT_t, setT_c, T1_n, T1_r, T1_x, K1_n, K1_r, K1_x, FinP_n, FinP_r, bindO_some, RetOk_lit, FinX_n, FinX_r, FinK_n, FinK_r, oneOrTup_1, RetX_lit, getCells, List.set_cons_zero, List.set_cons_succ, putAt, fillA, sizesOf, allTyped, List.all_cons, List.all_nil, Bool.and_self, Bool.true_and, Bool.and_true, Nat.reduceMul, Int.reduceLT, Int.reduceGT, Int.reduceGE, Int.cast_ofNat_Int, Int.reduceLE, Int.reduceToNat, Int.reduceAdd, Int.reduceNeg, Int.reduceEq, Int.reduceBNe, Int.reduceBEq, decide_false, zerosA, List.replicate_succ, List.replicate_zero, List.flatten_cons, List.flatten_nil, Option.isSome_some, dstOk, evRes, evRes1, evFree, evHeap, evA, upd_ne, upd_same, initF, updO_some, updO_none, kindOf, AV.storable, AV.cells, AV.one, Value.oneCell', mode, E_pol, pol, binA, unA, litInt, litBool, litStr, eqA, callee, evArgs, evParts, ne_eq, Nat.reduceEqDiff, Nat.reduceLT, not_false_eq_true, decide_true, if_true, reduceIte, List.take_zero, List.take_succ_cons, List.length_cons, List.length_nil, Nat.reduceAdd, Nat.reduceLeDiff, List.getElem?_cons_zero, List.getElem?_cons_succ, List.getD_cons_zero, List.getD_cons_succ, List.drop_zero, List.drop_succ_cons, List.map_cons, List.map_nil, List.cons_append, List.nil_append, List.append_nil, List.head?_cons, Int.toNat_natCast, Nat.zero_le, and_self, true_and, and_true, Bool.not_true, Bool.not_false, Option.map_some, true_implies, Bool.true_eq_false, Bool.false_eq_true, reduceCtorEq, false_implies, List.mem_cons, List.not_mem_nil, Prod.mk.injEq, false_and, and_false, or_false, false_or, or_true, true_or, if_false, ty3, ty3k, ty3s, ty3t, ty3z, ty3o, ty3b, ty9, ty9k, ty9s, ty9t, ty9z, ty9o, ty9b, ty32, ty32k, ty32s, ty32t, ty32z, ty32o, ty32b, ty70, ty70k, ty70s, ty70t, ty70z, ty70o, ty70b, ty72, ty72k, ty72s, ty72t, ty72z, ty72o, ty72b, cz]
        | refine And.intro (a := drawOk _ _ = true) (by kernel_rfl) ?_
        | (refine id (α := drawOk _ _ = true) ?_; kernel_rfl))
      first
        | exact ⟨u.params ++ [u.result], 2, by simp, by rw [recs_append]; rfl, by simp; omega⟩
        | exact ⟨u.params, 1, rfl, rfl, by omega⟩
        | (simp only [true_and]; first | exact ⟨u.params ++ [u.result], 2, by simp, by rw [recs_append]; rfl, by simp; omega⟩ | exact ⟨u.params, 1, rfl, rfl, by omega⟩)
        | trace_state
end Go.Abs

