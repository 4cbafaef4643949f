/- Contracts: the expression of a network. Conditions: none. -/
import Derived.Test.YtnjaedaofjkbnaaDoorC29
import Derived.Test.YtnjaedaofjkbnaaDoorC20
import Derived.Test.YtnjaedaofjkbnaaDoorC23
set_option maxRecDepth 100000
set_option linter.unusedVariables false
set_option linter.unusedSimpArgs false
namespace Go.Abs
open Go
def foldE (op : Int) : List Ex → Ex
  | [] => ex0
  | c :: cs => cs.foldl (fun a b => binE op a b) c
def notE (e : Ex) : Ex := .mk 6 0 0 17 [e]
def expK (n : Nt) (cs : List Ex) : Ex := if n.kind = 1 then (if n.neg = 1 then notE n.e else n.e) else foldE (n.kind + 12) cs
mutual
def expN : Nt → Ex
  | .mk k n e l => expK (.mk k n e l) (expL l)
def expL : List Nt → List Ex
  | [] => []
  | e :: l => expN e :: expL l
end
theorem expL_eq : ∀ l, expL l = l.map expN
  | [] => rfl
  | e :: l => by rw [expL, expL_eq l, List.map_cons]
theorem expN_eq (n : Nt) : expN n = expK n (n.l.map expN) := by
  cases n with
  | mk k n e l => rw [expN, expL_eq]; rfl
/-- A network, as far as its expression asks. -/
inductive Wf : Nt → Prop
  | con (n : Nt) : n.kind = 1 → n.l = [] → (n.neg = 0 ∨ n.neg = 1) → Wf n
  | ser (n x : Nt) (tl : List Nt) : (n.kind = 2 ∨ n.kind = 3) → n.l = x :: tl → (∀ z ∈ n.l, Wf z) → Wf n
theorem expN_con {n : Nt} (h : n.kind = 1) : expN n = if n.neg = 1 then notE n.e else n.e := by rw [expN_eq, expK, if_pos h]
theorem expN_ser {n x : Nt} {tl : List Nt} (h : n.kind = 2 ∨ n.kind = 3) (hl : n.l = x :: tl) : expN n = (tl.map expN).foldl (fun a b => binE (n.kind + 12) a b) (expN x) := by
  rw [expN_eq, expK, if_neg (by omega), hl]
  rfl
theorem Nt.take0 {l : List Nt} {x : Nt} (h : l[0]? = some x) : (recs Nt.cs l).take 8 = [I x.kind, I x.neg, I x.e.op, I x.e.t, I x.e.n, I x.e.m, .ro x.e.l.length (recs Ex.cs x.e.l), .ro x.l.length (recs Nt.cs x.l)] := by
  have := Nt.at h
  simp only [Nat.zero_mul, List.drop_zero] at this
  rw [this]
  rfl
theorem Nt.len0 {l : List Nt} {x : Nt} (h : l[0]? = some x) : 8 ≤ (recs Nt.cs l).length := by
  rw [recs_length Nt.cs_len]
  have := (List.getElem?_eq_some_iff.1 h).1
  omega
theorem tail_nt {x : Nt} {tl : List Nt} : ((recs Nt.cs (x :: tl)).drop 8).take (tl.length * 8) = recs Nt.cs tl := by
  rw [recs_cons, List.drop_left' (Nt.cs_len x), List.take_of_length_le (by rw [recs_length Nt.cs_len]; exact Nat.le_refl _)]
theorem c28 : ∀ n : Nt, n.Fit → Wf n → PFn E 28 [ntA n] (exA (expN n)) := by
  intro n
  induction n using Nt.ind with
  | _ n ih =>
  intro hf hw
  have hlen := hf.len
  cases hw with
  | con _ h1 hl hn =>
    rw [expN_con h1]
    refine pfn_F fn28 (by simp) ?_
    simp only [Go.Proofs.Tryd.f28, Option.getD_some, List.append_eq, List.cons_append, List.nil_append]
    by_cases hn1 : n.neg = 1
    · have e1 : (n.neg == 1) = true := by simp [hn1]
      rw [if_pos hn1]
      repeat' (first
        | refine If1.split (fun hb => ?_) (fun hb => ?_)
        | simp (config := { maxSteps := 1000000 }) only [W1_skip, W1_ret, W1_label, W1_exit, W1_seq, W1_cond, W1_block, W1_region, W1_draw, W1_loop, O1_nil, O1_n, O1_s, slotD_s, slotD_z, V1_s, U1_b, U1_u, If1_t, If1_f, If1_not, eqB_tt, eqB_tf, eqB_ft, eqB_ff, X1_eq, H1_f, H1_h, H1_c, how, B1_some, B1_none, B1_ite, D1_b, setT_t, setT_c, T1_n, T1_r, T1_x, K1_n, K1_r, K1_x, FinP_n, FinP_r, bindO_some, RetOk_lit, FinX_n, FinX_r, FinK_n, FinK_r, oneOrTup_1, RetX_lit, getCells, List.set_cons_zero, List.set_cons_succ, putAt, fillA, sizesOf, allTyped, List.all_cons, List.all_nil, Bool.and_self, Bool.true_and, Bool.and_true, Nat.reduceMul, Int.reduceLT, Int.reduceGT, Int.reduceGE, Int.cast_ofNat_Int, Int.reduceLE, Int.reduceToNat, Int.reduceAdd, Int.reduceNeg, Int.reduceEq, Int.reduceBNe, Int.reduceBEq, decide_false, zerosA, List.replicate_succ, List.replicate_zero, List.flatten_cons, List.flatten_nil, Option.isSome_some, dstOk, evRes, evRes1, evFree, evHeap, evA, upd_ne, upd_same, initF, updO_some, updO_none, kindOf, AV.storable, AV.cells, AV.one, Value.oneCell', mode, E_pol, pol, binA, unA, litInt, litBool, litStr, eqA, callee, evArgs, evParts, ne_eq, Nat.reduceEqDiff, Nat.reduceLT, not_false_eq_true, decide_true, if_true, reduceIte, List.take_zero, List.take_succ_cons, List.length_cons, List.length_nil, Nat.reduceAdd, Nat.reduceLeDiff, List.getElem?_cons_zero, List.getElem?_cons_succ, List.getD_cons_zero, List.getD_cons_succ, List.drop_zero, List.drop_succ_cons, List.map_cons, List.map_nil, List.cons_append, List.nil_append, List.append_nil, List.head?_cons, Int.toNat_natCast, Nat.zero_le, and_self, true_and, and_true, Bool.not_true, Bool.not_false, Option.map_some, true_implies, Bool.true_eq_false, Bool.false_eq_true, reduceCtorEq, false_implies, List.mem_cons, List.not_mem_nil, Prod.mk.injEq, false_and, and_false, or_false, false_or, or_true, true_or, if_false, ty3, ty3k, ty3s, ty3t, ty3z, ty3o, ty35, ty35k, ty35s, ty35t, ty35z, ty35o, ty37, ty37k, ty37s, ty37t, ty37z, ty37o, ty52, ty52k, ty52s, ty52t, ty52z, ty52o, ty54, ty54k, ty54s, ty54t, ty54z, ty54o, cz, at_end, set_end, h1, e1]
        | refine And.intro (a := drawOk _ _ = true) (by kernel_rfl) ?_
        | (refine id (α := drawOk _ _ = true) ?_; kernel_rfl))
      exact RetOk_closed (by simp [AV.closedL, AV.closed, ex_closed, oneOrTup]) (by simp [oneOrTup, recs_cons, recs_nil, Ex.cs_eq, Ex.op, Ex.t, Ex.n, Ex.m, Ex.l, notE])
    · have e1 : (n.neg == 1) = false := by simp [hn1]
      rw [if_neg hn1]
      repeat' (first
        | refine If1.split (fun hb => ?_) (fun hb => ?_)
        | simp (config := { maxSteps := 1000000 }) only [W1_skip, W1_ret, W1_label, W1_exit, W1_seq, W1_cond, W1_block, W1_region, W1_draw, W1_loop, O1_nil, O1_n, O1_s, slotD_s, slotD_z, V1_s, U1_b, U1_u, If1_t, If1_f, If1_not, eqB_tt, eqB_tf, eqB_ft, eqB_ff, X1_eq, H1_f, H1_h, H1_c, how, B1_some, B1_none, B1_ite, D1_b, setT_t, setT_c, T1_n, T1_r, T1_x, K1_n, K1_r, K1_x, FinP_n, FinP_r, bindO_some, RetOk_lit, FinX_n, FinX_r, FinK_n, FinK_r, oneOrTup_1, RetX_lit, getCells, List.set_cons_zero, List.set_cons_succ, putAt, fillA, sizesOf, allTyped, List.all_cons, List.all_nil, Bool.and_self, Bool.true_and, Bool.and_true, Nat.reduceMul, Int.reduceLT, Int.reduceGT, Int.reduceGE, Int.cast_ofNat_Int, Int.reduceLE, Int.reduceToNat, Int.reduceAdd, Int.reduceNeg, Int.reduceEq, Int.reduceBNe, Int.reduceBEq, decide_false, zerosA, List.replicate_succ, List.replicate_zero, List.flatten_cons, List.flatten_nil, Option.isSome_some, dstOk, evRes, evRes1, evFree, evHeap, evA, upd_ne, upd_same, initF, updO_some, updO_none, kindOf, AV.storable, AV.cells, AV.one, Value.oneCell', mode, E_pol, pol, binA, unA, litInt, litBool, litStr, eqA, callee, evArgs, evParts, ne_eq, Nat.reduceEqDiff, Nat.reduceLT, not_false_eq_true, decide_true, if_true, reduceIte, List.take_zero, List.take_succ_cons, List.length_cons, List.length_nil, Nat.reduceAdd, Nat.reduceLeDiff, List.getElem?_cons_zero, List.getElem?_cons_succ, List.getD_cons_zero, List.getD_cons_succ, List.drop_zero, List.drop_succ_cons, List.map_cons, List.map_nil, List.cons_append, List.nil_append, List.append_nil, List.head?_cons, Int.toNat_natCast, Nat.zero_le, and_self, true_and, and_true, Bool.not_true, Bool.not_false, Option.map_some, true_implies, Bool.true_eq_false, Bool.false_eq_true, reduceCtorEq, false_implies, List.mem_cons, List.not_mem_nil, Prod.mk.injEq, false_and, and_false, or_false, false_or, or_true, true_or, if_false, ty3, ty3k, ty3s, ty3t, ty3z, ty3o, ty35, ty35k, ty35s, ty35t, ty35z, ty35o, ty37, ty37k, ty37s, ty37t, ty37z, ty37o, ty52, ty52k, ty52s, ty52t, ty52z, ty52o, ty54, ty54k, ty54s, ty54t, ty54z, ty54o, cz, at_end, set_end, h1, e1]
        | refine And.intro (a := drawOk _ _ = true) (by kernel_rfl) ?_
        | (refine id (α := drawOk _ _ = true) ?_; kernel_rfl))
      exact RetOk_closed (by simp [AV.closedL, AV.closed, ex_closed, oneOrTup]) rfl
  | ser _ x tl hk hl hsub =>
    have hx : n.l[0]? = some x := by rw [hl]; rfl
    have t0 := Nt.take0 hx
    have l0 := Nt.len0 hx
    have ek : (n.kind == 1) = false := by simp; omega
    have hln : n.l.length = tl.length + 1 := by rw [hl]; rfl
    have el : ((n.l.length : Int) == 0) = false := by rw [hln]; simp; omega
    have i0 : (0 : Int) ≤ 0 ∧ (0 : Int) < (n.l.length : Int) := by omega
    have kx := ih x (by rw [hl]; simp) (hf.sub x (by rw [hl]; simp)) (hsub x (by rw [hl]; simp))
    have htl := tail_nt (x := x) (tl := tl)
    rw [← hl] at htl
    rw [expN_ser hk hl]
    have hsl : sliceLH n.l.length n.l.length (some (some (.lit (.int .i64 1)))) none = some (1, n.l.length) := by
      simp only [sliceLH]
      rw [if_pos (by omega)]
      rfl
    have hs1 : n.l.length - 1 = tl.length := by omega
    have htf : ∀ z ∈ tl, PFn E 28 [ntA z] (exA (expN z)) := fun z hz => ih z (by rw [hl]; simp [hz]) (hf.sub z (by rw [hl]; simp [hz])) (hsub z (by rw [hl]; simp [hz]))
    have hop : IntKind.i64.wrap (n.kind + 12) = n.kind + 12 := wrap64 (by unfold In64; omega)
    refine pfn_F fn28 (by simp) ?_
    simp only [Go.Proofs.Tryd.f28, Option.getD_some, List.append_eq, List.cons_append, List.nil_append]
    have hk3 : (n.kind == 3) = true ∨ (n.kind == 3) = false := by cases (n.kind == 3) <;> simp
    rcases hk3 with e3 | e3
    all_goals
      repeat' (first
        | refine If1.split (fun hb => ?_) (fun hb => ?_)
        | refine C1.pure (kx) (by simp [AV.closedL, AV.closed, vr_closed, bk_closed, sg_closed, ints_closed, ex_closed, nt_closed]) ?_
        | simp (config := { maxSteps := 1000000 }) only [W1_skip, W1_ret, W1_label, W1_exit, W1_seq, W1_cond, W1_block, W1_region, W1_draw, W1_loop, O1_nil, O1_n, O1_s, slotD_s, slotD_z, V1_s, U1_b, U1_u, If1_t, If1_f, If1_not, eqB_tt, eqB_tf, eqB_ft, eqB_ff, X1_eq, H1_f, H1_h, H1_c, how, B1_some, B1_none, B1_ite, D1_b, setT_t, setT_c, T1_n, T1_r, T1_x, K1_n, K1_r, K1_x, FinP_n, FinP_r, bindO_some, RetOk_lit, FinX_n, FinX_r, FinK_n, FinK_r, oneOrTup_1, RetX_lit, getCells, List.set_cons_zero, List.set_cons_succ, putAt, fillA, sizesOf, allTyped, List.all_cons, List.all_nil, Bool.and_self, Bool.true_and, Bool.and_true, Nat.reduceMul, Int.reduceLT, Int.reduceGT, Int.reduceGE, Int.cast_ofNat_Int, Int.reduceLE, Int.reduceToNat, Int.reduceAdd, Int.reduceNeg, Int.reduceEq, Int.reduceBNe, Int.reduceBEq, decide_false, zerosA, List.replicate_succ, List.replicate_zero, List.flatten_cons, List.flatten_nil, Option.isSome_some, dstOk, evRes, evRes1, evFree, evHeap, evA, upd_ne, upd_same, initF, updO_some, updO_none, kindOf, AV.storable, AV.cells, AV.one, Value.oneCell', mode, E_pol, pol, binA, unA, litInt, litBool, litStr, eqA, callee, evArgs, evParts, ne_eq, Nat.reduceEqDiff, Nat.reduceLT, not_false_eq_true, decide_true, if_true, reduceIte, List.take_zero, List.take_succ_cons, List.length_cons, List.length_nil, Nat.reduceAdd, Nat.reduceLeDiff, List.getElem?_cons_zero, List.getElem?_cons_succ, List.getD_cons_zero, List.getD_cons_succ, List.drop_zero, List.drop_succ_cons, List.map_cons, List.map_nil, List.cons_append, List.nil_append, List.append_nil, List.head?_cons, Int.toNat_natCast, Nat.zero_le, and_self, true_and, and_true, Bool.not_true, Bool.not_false, Option.map_some, true_implies, Bool.true_eq_false, Bool.false_eq_true, reduceCtorEq, false_implies, List.mem_cons, List.not_mem_nil, Prod.mk.injEq, false_and, and_false, or_false, false_or, or_true, true_or, if_false, ty3, ty3k, ty3s, ty3t, ty3z, ty3o, ty35, ty35k, ty35s, ty35t, ty35z, ty35o, ty37, ty37k, ty37s, ty37t, ty37z, ty37o, ty52, ty52k, ty52s, ty52t, ty52z, ty52o, ty54, ty54k, ty54s, ty54t, ty54z, ty54o, cz, at_end, set_end, ek, el, e3, t0, l0, i0, htl, Option.map_some, Option.map_none, hsl, hs1, Nat.one_mul]
        | refine And.intro (a := drawOk _ _ = true) (by kernel_rfl) ?_
        | (refine id (α := drawOk _ _ = true) ?_; kernel_rfl))
      refine L1_up tl.length (fun i fr h => fr 3 = I (n.kind + 12) ∧ fr 35 = .ro tl.length (recs Nt.cs tl) ∧ fr 36 = I tl.length ∧ fr 37 = I i ∧ fr 2 = .mp 0 0 0 ∧ fr 4 = .mp 1 0 0 ∧ h[0]? = some (.cells 0 [I 0, I 0, I 0, I 0, .lit (.slice none 0 0)]) ∧
        ∃ acc : Ex, acc = ((tl.take i).map expN).foldl (fun a b => binE (n.kind + 12) a b) (expN x) ∧ h[1]? = some (.cells 0 [I acc.op, I acc.t, I acc.n, I acc.m, .ro acc.l.length (recs Ex.cs acc.l)])) ?_ ?_ 0 (Nat.zero_le _) _ _ ?_
      · rintro i hi fr h ⟨f3, f35, f36, f37, f2, f4, hz, acc, hacc, hb1⟩
        obtain ⟨z, hz'⟩ : ∃ z, tl[i]? = some z := ⟨tl[i], by simp [hi]⟩
        have hlt : decide ((i : Int) < (tl.length : Int)) = true := by simp; omega
        have hin : 0 ≤ (i : Int) ∧ (i : Int) < (tl.length : Int) := by omega
        have hw : IntKind.i64.wrap ((i : Int) + 1) = ((i + 1 : Nat) : Int) := by rw [wrap64 (by unfold In64; omega)]; simp
        have hax := Nt.at hz'
        have htk : tl.take (i + 1) = tl.take i ++ [z] := by rw [List.take_add_one, hz']; rfl
        have k := htf z (List.mem_of_getElem? hz')
        have l1 : 1 < h.length := (List.getElem?_eq_some_iff.1 hb1).1
        have g1 : ∀ x, (h ++ [x])[1]? = some (ABlock.cells 0 [I acc.op, I acc.t, I acc.n, I acc.m, .ro acc.l.length (recs Ex.cs acc.l)]) := fun x => by rw [List.getElem?_append_left l1, hb1]
        repeat' (first
          | refine If1.split (fun hb => ?_) (fun hb => ?_)
          | refine C1.pure (k) (by simp [AV.closedL, AV.closed, vr_closed, bk_closed, sg_closed, ints_closed, ex_closed, nt_closed]) ?_
          | simp (config := { maxSteps := 1000000 }) only [W1_skip, W1_ret, W1_label, W1_exit, W1_seq, W1_cond, W1_block, W1_region, W1_draw, W1_loop, O1_nil, O1_n, O1_s, slotD_s, slotD_z, V1_s, U1_b, U1_u, If1_t, If1_f, If1_not, eqB_tt, eqB_tf, eqB_ft, eqB_ff, X1_eq, H1_f, H1_h, H1_c, how, B1_some, B1_none, B1_ite, D1_b, setT_t, setT_c, T1_n, T1_r, T1_x, K1_n, K1_r, K1_x, FinP_n, FinP_r, bindO_some, RetOk_lit, FinX_n, FinX_r, FinK_n, FinK_r, oneOrTup_1, RetX_lit, getCells, List.set_cons_zero, List.set_cons_succ, putAt, fillA, sizesOf, allTyped, List.all_cons, List.all_nil, Bool.and_self, Bool.true_and, Bool.and_true, Nat.reduceMul, Int.reduceLT, Int.reduceGT, Int.reduceGE, Int.cast_ofNat_Int, Int.reduceLE, Int.reduceToNat, Int.reduceAdd, Int.reduceNeg, Int.reduceEq, Int.reduceBNe, Int.reduceBEq, decide_false, zerosA, List.replicate_succ, List.replicate_zero, List.flatten_cons, List.flatten_nil, Option.isSome_some, dstOk, evRes, evRes1, evFree, evHeap, evA, upd_ne, upd_same, initF, updO_some, updO_none, kindOf, AV.storable, AV.cells, AV.one, Value.oneCell', mode, E_pol, pol, binA, unA, litInt, litBool, litStr, eqA, callee, evArgs, evParts, ne_eq, Nat.reduceEqDiff, Nat.reduceLT, not_false_eq_true, decide_true, if_true, reduceIte, List.take_zero, List.take_succ_cons, List.length_cons, List.length_nil, Nat.reduceAdd, Nat.reduceLeDiff, List.getElem?_cons_zero, List.getElem?_cons_succ, List.getD_cons_zero, List.getD_cons_succ, List.drop_zero, List.drop_succ_cons, List.map_cons, List.map_nil, List.cons_append, List.nil_append, List.append_nil, List.head?_cons, Int.toNat_natCast, Nat.zero_le, and_self, true_and, and_true, Bool.not_true, Bool.not_false, Option.map_some, true_implies, Bool.true_eq_false, Bool.false_eq_true, reduceCtorEq, false_implies, List.mem_cons, List.not_mem_nil, Prod.mk.injEq, false_and, and_false, or_false, false_or, or_true, true_or, if_false, ty3, ty3k, ty3s, ty3t, ty3z, ty3o, ty35, ty35k, ty35s, ty35t, ty35z, ty35o, ty37, ty37k, ty37s, ty37t, ty37z, ty37o, ty52, ty52k, ty52s, ty52t, ty52z, ty52o, ty54, ty54k, ty54s, ty54t, ty54z, ty54o, f3, f35, f36, f37, f2, f4, hb1, hlt, hin, hw, hax, at_end, set_end, g1]
          | refine And.intro (a := drawOk _ _ = true) (by kernel_rfl) ?_
          | (refine id (α := drawOk _ _ = true) ?_; kernel_rfl))
        refine ⟨by rw [List.getElem?_set_ne (by omega), List.getElem?_append_left (by omega), hz], binE (n.kind + 12) acc (expN z), by rw [htk, List.map_append, List.foldl_append, ← hacc]; rfl, ?_⟩
        rw [set_self (g1 _)]
        simp [binE, recs_cons, recs_nil, Ex.cs_eq, Ex.op, Ex.t, Ex.n, Ex.m, Ex.l]
      · rintro fr h ⟨f3, f35, f36, f37, f2, f4, hz, acc, hacc, hb1⟩
        have hlt : decide ((tl.length : Int) < (tl.length : Int)) = false := by simp
        have hs0 : ∀ y, (h.set 0 y)[0]? = some y := fun y => set_self hz
        rw [List.take_length] at hacc
        repeat' (first
          | refine If1.split (fun hb => ?_) (fun hb => ?_)
          | simp (config := { maxSteps := 1000000 }) only [W1_skip, W1_ret, W1_label, W1_exit, W1_seq, W1_cond, W1_block, W1_region, W1_draw, W1_loop, O1_nil, O1_n, O1_s, slotD_s, slotD_z, V1_s, U1_b, U1_u, If1_t, If1_f, If1_not, eqB_tt, eqB_tf, eqB_ft, eqB_ff, X1_eq, H1_f, H1_h, H1_c, how, B1_some, B1_none, B1_ite, D1_b, setT_t, setT_c, T1_n, T1_r, T1_x, K1_n, K1_r, K1_x, FinP_n, FinP_r, bindO_some, RetOk_lit, FinX_n, FinX_r, FinK_n, FinK_r, oneOrTup_1, RetX_lit, getCells, List.set_cons_zero, List.set_cons_succ, putAt, fillA, sizesOf, allTyped, List.all_cons, List.all_nil, Bool.and_self, Bool.true_and, Bool.and_true, Nat.reduceMul, Int.reduceLT, Int.reduceGT, Int.reduceGE, Int.cast_ofNat_Int, Int.reduceLE, Int.reduceToNat, Int.reduceAdd, Int.reduceNeg, Int.reduceEq, Int.reduceBNe, Int.reduceBEq, decide_false, zerosA, List.replicate_succ, List.replicate_zero, List.flatten_cons, List.flatten_nil, Option.isSome_some, dstOk, evRes, evRes1, evFree, evHeap, evA, upd_ne, upd_same, initF, updO_some, updO_none, kindOf, AV.storable, AV.cells, AV.one, Value.oneCell', mode, E_pol, pol, binA, unA, litInt, litBool, litStr, eqA, callee, evArgs, evParts, ne_eq, Nat.reduceEqDiff, Nat.reduceLT, not_false_eq_true, decide_true, if_true, reduceIte, List.take_zero, List.take_succ_cons, List.length_cons, List.length_nil, Nat.reduceAdd, Nat.reduceLeDiff, List.getElem?_cons_zero, List.getElem?_cons_succ, List.getD_cons_zero, List.getD_cons_succ, List.drop_zero, List.drop_succ_cons, List.map_cons, List.map_nil, List.cons_append, List.nil_append, List.append_nil, List.head?_cons, Int.toNat_natCast, Nat.zero_le, and_self, true_and, and_true, Bool.not_true, Bool.not_false, Option.map_some, true_implies, Bool.true_eq_false, Bool.false_eq_true, reduceCtorEq, false_implies, List.mem_cons, List.not_mem_nil, Prod.mk.injEq, false_and, and_false, or_false, false_or, or_true, true_or, if_false, ty3, ty3k, ty3s, ty3t, ty3z, ty3o, ty35, ty35k, ty35s, ty35t, ty35z, ty35o, ty37, ty37k, ty37s, ty37t, ty37z, ty37o, ty52, ty52k, ty52s, ty52t, ty52z, ty52o, ty54, ty54k, ty54s, ty54t, ty54z, ty54o, f3, f35, f36, f37, f2, f4, hb1, hz, hs0, hlt]
          | refine And.intro (a := drawOk _ _ = true) (by kernel_rfl) ?_
          | (refine id (α := drawOk _ _ = true) ?_; kernel_rfl))
        rw [← hacc]
        exact RetOk_closed (by simp [AV.closedL, AV.closed, ex_closed, oneOrTup]) rfl
      · repeat' (first
          | refine If1.split (fun hb => ?_) (fun hb => ?_)
          | simp (config := { maxSteps := 1000000 }) only [W1_skip, W1_ret, W1_label, W1_exit, W1_seq, W1_cond, W1_block, W1_region, W1_draw, W1_loop, O1_nil, O1_n, O1_s, slotD_s, slotD_z, V1_s, U1_b, U1_u, If1_t, If1_f, If1_not, eqB_tt, eqB_tf, eqB_ft, eqB_ff, X1_eq, H1_f, H1_h, H1_c, how, B1_some, B1_none, B1_ite, D1_b, setT_t, setT_c, T1_n, T1_r, T1_x, K1_n, K1_r, K1_x, FinP_n, FinP_r, bindO_some, RetOk_lit, FinX_n, FinX_r, FinK_n, FinK_r, oneOrTup_1, RetX_lit, getCells, List.set_cons_zero, List.set_cons_succ, putAt, fillA, sizesOf, allTyped, List.all_cons, List.all_nil, Bool.and_self, Bool.true_and, Bool.and_true, Nat.reduceMul, Int.reduceLT, Int.reduceGT, Int.reduceGE, Int.cast_ofNat_Int, Int.reduceLE, Int.reduceToNat, Int.reduceAdd, Int.reduceNeg, Int.reduceEq, Int.reduceBNe, Int.reduceBEq, decide_false, zerosA, List.replicate_succ, List.replicate_zero, List.flatten_cons, List.flatten_nil, Option.isSome_some, dstOk, evRes, evRes1, evFree, evHeap, evA, upd_ne, upd_same, initF, updO_some, updO_none, kindOf, AV.storable, AV.cells, AV.one, Value.oneCell', mode, E_pol, pol, binA, unA, litInt, litBool, litStr, eqA, callee, evArgs, evParts, ne_eq, Nat.reduceEqDiff, Nat.reduceLT, not_false_eq_true, decide_true, if_true, reduceIte, List.take_zero, List.take_succ_cons, List.length_cons, List.length_nil, Nat.reduceAdd, Nat.reduceLeDiff, List.getElem?_cons_zero, List.getElem?_cons_succ, List.getD_cons_zero, List.getD_cons_succ, List.drop_zero, List.drop_succ_cons, List.map_cons, List.map_nil, List.cons_append, List.nil_append, List.append_nil, List.head?_cons, Int.toNat_natCast, Nat.zero_le, and_self, true_and, and_true, Bool.not_true, Bool.not_false, Option.map_some, true_implies, Bool.true_eq_false, Bool.false_eq_true, reduceCtorEq, false_implies, List.mem_cons, List.not_mem_nil, Prod.mk.injEq, false_and, and_false, or_false, false_or, or_true, true_or, if_false, ty3, ty3k, ty3s, ty3t, ty3z, ty3o, ty35, ty35k, ty35s, ty35t, ty35z, ty35o, ty37, ty37k, ty37s, ty37t, ty37z, ty37o, ty52, ty52k, ty52s, ty52t, ty52z, ty52o, ty54, ty54k, ty54s, ty54t, ty54z, ty54o, cz, at_end, set_end]
          | refine And.intro (a := drawOk _ _ = true) (by kernel_rfl) ?_
          | (refine id (α := drawOk _ _ = true) ?_; kernel_rfl))
        refine ⟨?_, _, rfl, rfl⟩
        simp at e3
        first
          | (rw [e3]; done)
          | (rw [show n.kind = 2 by omega]; done)
          | (rw [e3]; rfl)
          | (rw [show n.kind = 2 by omega]; rfl)
theorem c30 : ∀ n : Nt, n.Fit → Wf n → PFn E 30 [ntA n] (exA (expN n)) := by
  intro n
  induction n using Nt.ind with
  | _ n ih =>
  intro hf hw
  have hlen := hf.len
  cases hw with
  | con _ h1 hl hn =>
    rw [expN_con h1]
    refine pfn_F fn30 (by simp) ?_
    simp only [Go.Proofs.Tryd.f30, Option.getD_some, List.append_eq, List.cons_append, List.nil_append]
    by_cases hn1 : n.neg = 1
    · have e1 : (n.neg == 0) = false := by simp [hn1]
      rw [if_pos hn1]
      repeat' (first
        | refine If1.split (fun hb => ?_) (fun hb => ?_)
        | simp (config := { maxSteps := 1000000 }) only [W1_skip, W1_ret, W1_label, W1_exit, W1_seq, W1_cond, W1_block, W1_region, W1_draw, W1_loop, O1_nil, O1_n, O1_s, slotD_s, slotD_z, V1_s, U1_b, U1_u, If1_t, If1_f, If1_not, eqB_tt, eqB_tf, eqB_ft, eqB_ff, X1_eq, H1_f, H1_h, H1_c, how, B1_some, B1_none, B1_ite, D1_b, setT_t, setT_c, T1_n, T1_r, T1_x, K1_n, K1_r, K1_x, FinP_n, FinP_r, bindO_some, RetOk_lit, FinX_n, FinX_r, FinK_n, FinK_r, oneOrTup_1, RetX_lit, getCells, List.set_cons_zero, List.set_cons_succ, putAt, fillA, sizesOf, allTyped, List.all_cons, List.all_nil, Bool.and_self, Bool.true_and, Bool.and_true, Nat.reduceMul, Int.reduceLT, Int.reduceGT, Int.reduceGE, Int.cast_ofNat_Int, Int.reduceLE, Int.reduceToNat, Int.reduceAdd, Int.reduceNeg, Int.reduceEq, Int.reduceBNe, Int.reduceBEq, decide_false, zerosA, List.replicate_succ, List.replicate_zero, List.flatten_cons, List.flatten_nil, Option.isSome_some, dstOk, evRes, evRes1, evFree, evHeap, evA, upd_ne, upd_same, initF, updO_some, updO_none, kindOf, AV.storable, AV.cells, AV.one, Value.oneCell', mode, E_pol, pol, binA, unA, litInt, litBool, litStr, eqA, callee, evArgs, evParts, ne_eq, Nat.reduceEqDiff, Nat.reduceLT, not_false_eq_true, decide_true, if_true, reduceIte, List.take_zero, List.take_succ_cons, List.length_cons, List.length_nil, Nat.reduceAdd, Nat.reduceLeDiff, List.getElem?_cons_zero, List.getElem?_cons_succ, List.getD_cons_zero, List.getD_cons_succ, List.drop_zero, List.drop_succ_cons, List.map_cons, List.map_nil, List.cons_append, List.nil_append, List.append_nil, List.head?_cons, Int.toNat_natCast, Nat.zero_le, and_self, true_and, and_true, Bool.not_true, Bool.not_false, Option.map_some, true_implies, Bool.true_eq_false, Bool.false_eq_true, reduceCtorEq, false_implies, List.mem_cons, List.not_mem_nil, Prod.mk.injEq, false_and, and_false, or_false, false_or, or_true, true_or, if_false, ty3, ty3k, ty3s, ty3t, ty3z, ty3o, ty35, ty35k, ty35s, ty35t, ty35z, ty35o, ty37, ty37k, ty37s, ty37t, ty37z, ty37o, ty52, ty52k, ty52s, ty52t, ty52z, ty52o, ty54, ty54k, ty54s, ty54t, ty54z, ty54o, cz, at_end, set_end, h1, e1]
        | refine And.intro (a := drawOk _ _ = true) (by kernel_rfl) ?_
        | (refine id (α := drawOk _ _ = true) ?_; kernel_rfl))
      exact RetOk_closed (by simp [AV.closedL, AV.closed, ex_closed, oneOrTup]) (by simp [oneOrTup, recs_cons, recs_nil, Ex.cs_eq, Ex.op, Ex.t, Ex.n, Ex.m, Ex.l, notE])
    · have e1 : (n.neg == 0) = true := by simp; omega
      rw [if_neg hn1]
      repeat' (first
        | refine If1.split (fun hb => ?_) (fun hb => ?_)
        | simp (config := { maxSteps := 1000000 }) only [W1_skip, W1_ret, W1_label, W1_exit, W1_seq, W1_cond, W1_block, W1_region, W1_draw, W1_loop, O1_nil, O1_n, O1_s, slotD_s, slotD_z, V1_s, U1_b, U1_u, If1_t, If1_f, If1_not, eqB_tt, eqB_tf, eqB_ft, eqB_ff, X1_eq, H1_f, H1_h, H1_c, how, B1_some, B1_none, B1_ite, D1_b, setT_t, setT_c, T1_n, T1_r, T1_x, K1_n, K1_r, K1_x, FinP_n, FinP_r, bindO_some, RetOk_lit, FinX_n, FinX_r, FinK_n, FinK_r, oneOrTup_1, RetX_lit, getCells, List.set_cons_zero, List.set_cons_succ, putAt, fillA, sizesOf, allTyped, List.all_cons, List.all_nil, Bool.and_self, Bool.true_and, Bool.and_true, Nat.reduceMul, Int.reduceLT, Int.reduceGT, Int.reduceGE, Int.cast_ofNat_Int, Int.reduceLE, Int.reduceToNat, Int.reduceAdd, Int.reduceNeg, Int.reduceEq, Int.reduceBNe, Int.reduceBEq, decide_false, zerosA, List.replicate_succ, List.replicate_zero, List.flatten_cons, List.flatten_nil, Option.isSome_some, dstOk, evRes, evRes1, evFree, evHeap, evA, upd_ne, upd_same, initF, updO_some, updO_none, kindOf, AV.storable, AV.cells, AV.one, Value.oneCell', mode, E_pol, pol, binA, unA, litInt, litBool, litStr, eqA, callee, evArgs, evParts, ne_eq, Nat.reduceEqDiff, Nat.reduceLT, not_false_eq_true, decide_true, if_true, reduceIte, List.take_zero, List.take_succ_cons, List.length_cons, List.length_nil, Nat.reduceAdd, Nat.reduceLeDiff, List.getElem?_cons_zero, List.getElem?_cons_succ, List.getD_cons_zero, List.getD_cons_succ, List.drop_zero, List.drop_succ_cons, List.map_cons, List.map_nil, List.cons_append, List.nil_append, List.append_nil, List.head?_cons, Int.toNat_natCast, Nat.zero_le, and_self, true_and, and_true, Bool.not_true, Bool.not_false, Option.map_some, true_implies, Bool.true_eq_false, Bool.false_eq_true, reduceCtorEq, false_implies, List.mem_cons, List.not_mem_nil, Prod.mk.injEq, false_and, and_false, or_false, false_or, or_true, true_or, if_false, ty3, ty3k, ty3s, ty3t, ty3z, ty3o, ty35, ty35k, ty35s, ty35t, ty35z, ty35o, ty37, ty37k, ty37s, ty37t, ty37z, ty37o, ty52, ty52k, ty52s, ty52t, ty52z, ty52o, ty54, ty54k, ty54s, ty54t, ty54z, ty54o, cz, at_end, set_end, h1, e1]
        | refine And.intro (a := drawOk _ _ = true) (by kernel_rfl) ?_
        | (refine id (α := drawOk _ _ = true) ?_; kernel_rfl))
      exact RetOk_closed (by simp [AV.closedL, AV.closed, ex_closed, oneOrTup]) rfl
  | ser _ x tl hk hl hsub =>
    have hx : n.l[0]? = some x := by rw [hl]; rfl
    have t0 := Nt.take0 hx
    have l0 := Nt.len0 hx
    have ek : (n.kind == 1) = false := by simp; omega
    have hln : n.l.length = tl.length + 1 := by rw [hl]; rfl
    have i0 : (0 : Int) ≤ 0 ∧ (0 : Int) < (n.l.length : Int) := by omega
    have kx := ih x (by rw [hl]; simp) (hf.sub x (by rw [hl]; simp)) (hsub x (by rw [hl]; simp))
    rw [expN_ser hk hl]
    have htf : ∀ z ∈ tl, PFn E 30 [ntA z] (exA (expN z)) := fun z hz => ih z (by rw [hl]; simp [hz]) (hf.sub z (by rw [hl]; simp [hz])) (hsub z (by rw [hl]; simp [hz]))
    have hop : IntKind.i64.wrap (n.kind + 12) = n.kind + 12 := wrap64 (by unfold In64; omega)
    refine pfn_F fn30 (by simp) ?_
    simp only [Go.Proofs.Tryd.f30, Option.getD_some, List.append_eq, List.cons_append, List.nil_append]
    repeat' (first
      | refine If1.split (fun hb => ?_) (fun hb => ?_)
      | refine C1.pure (kx) (by simp [AV.closedL, AV.closed, vr_closed, bk_closed, sg_closed, ints_closed, ex_closed, nt_closed]) ?_
      | simp (config := { maxSteps := 1000000 }) only [W1_skip, W1_ret, W1_label, W1_exit, W1_seq, W1_cond, W1_block, W1_region, W1_draw, W1_loop, O1_nil, O1_n, O1_s, slotD_s, slotD_z, V1_s, U1_b, U1_u, If1_t, If1_f, If1_not, eqB_tt, eqB_tf, eqB_ft, eqB_ff, X1_eq, H1_f, H1_h, H1_c, how, B1_some, B1_none, B1_ite, D1_b, setT_t, setT_c, T1_n, T1_r, T1_x, K1_n, K1_r, K1_x, FinP_n, FinP_r, bindO_some, RetOk_lit, FinX_n, FinX_r, FinK_n, FinK_r, oneOrTup_1, RetX_lit, getCells, List.set_cons_zero, List.set_cons_succ, putAt, fillA, sizesOf, allTyped, List.all_cons, List.all_nil, Bool.and_self, Bool.true_and, Bool.and_true, Nat.reduceMul, Int.reduceLT, Int.reduceGT, Int.reduceGE, Int.cast_ofNat_Int, Int.reduceLE, Int.reduceToNat, Int.reduceAdd, Int.reduceNeg, Int.reduceEq, Int.reduceBNe, Int.reduceBEq, decide_false, zerosA, List.replicate_succ, List.replicate_zero, List.flatten_cons, List.flatten_nil, Option.isSome_some, dstOk, evRes, evRes1, evFree, evHeap, evA, upd_ne, upd_same, initF, updO_some, updO_none, kindOf, AV.storable, AV.cells, AV.one, Value.oneCell', mode, E_pol, pol, binA, unA, litInt, litBool, litStr, eqA, callee, evArgs, evParts, ne_eq, Nat.reduceEqDiff, Nat.reduceLT, not_false_eq_true, decide_true, if_true, reduceIte, List.take_zero, List.take_succ_cons, List.length_cons, List.length_nil, Nat.reduceAdd, Nat.reduceLeDiff, List.getElem?_cons_zero, List.getElem?_cons_succ, List.getD_cons_zero, List.getD_cons_succ, List.drop_zero, List.drop_succ_cons, List.map_cons, List.map_nil, List.cons_append, List.nil_append, List.append_nil, List.head?_cons, Int.toNat_natCast, Nat.zero_le, and_self, true_and, and_true, Bool.not_true, Bool.not_false, Option.map_some, true_implies, Bool.true_eq_false, Bool.false_eq_true, reduceCtorEq, false_implies, List.mem_cons, List.not_mem_nil, Prod.mk.injEq, false_and, and_false, or_false, false_or, or_true, true_or, if_false, ty3, ty3k, ty3s, ty3t, ty3z, ty3o, ty35, ty35k, ty35s, ty35t, ty35z, ty35o, ty37, ty37k, ty37s, ty37t, ty37z, ty37o, ty52, ty52k, ty52s, ty52t, ty52z, ty52o, ty54, ty54k, ty54s, ty54t, ty54z, ty54o, cz, at_end, set_end, ek, t0, l0, i0]
      | refine And.intro (a := drawOk _ _ = true) (by kernel_rfl) ?_
      | (refine id (α := drawOk _ _ = true) ?_; kernel_rfl))
    refine L1_up tl.length (fun i fr h => fr 1 = ntR n ∧ fr 4 = I ((i + 1 : Nat) : Int) ∧ fr 2 = .mp 0 0 0 ∧ fr 3 = .mp 1 0 0 ∧ h[0]? = some (.cells 0 [I 0, I 0, I 0, I 0, .lit (.slice none 0 0)]) ∧
      ∃ acc : Ex, acc = ((tl.take i).map expN).foldl (fun a b => binE (n.kind + 12) a b) (expN x) ∧ h[1]? = some (.cells 0 [I acc.op, I acc.t, I acc.n, I acc.m, .ro acc.l.length (recs Ex.cs acc.l)])) ?_ ?_ 0 (Nat.zero_le _) _ _ ?_
    · rintro i hi fr h ⟨f1, f4, f2, f3, hz, acc, hacc, hb1⟩
      obtain ⟨z, hz'⟩ : ∃ z, tl[i]? = some z := ⟨tl[i], by simp [hi]⟩
      have hz2 : n.l[i + 1]? = some z := by rw [hl]; simpa using hz'
      have hlt : decide (((i + 1 : Nat) : Int) < (n.l.length : Int)) = true := by simp; omega
      have hin : 0 ≤ ((i + 1 : Nat) : Int) ∧ ((i + 1 : Nat) : Int) < (n.l.length : Int) := by omega
      have hw : IntKind.i64.wrap (((i + 1 : Nat) : Int) + 1) = ((i + 1 + 1 : Nat) : Int) := by rw [wrap64 (by unfold In64; omega)]; simp
      have hax := Nt.at hz2
      have htk : tl.take (i + 1) = tl.take i ++ [z] := by rw [List.take_add_one, hz']; rfl
      have k := htf z (List.mem_of_getElem? hz')
      have g1 : ∀ y, (h.set 1 y)[1]? = some y := fun y => set_self hb1
      repeat' (first
        | refine If1.split (fun hb => ?_) (fun hb => ?_)
        | refine C1.pure (k) (by simp [AV.closedL, AV.closed, vr_closed, bk_closed, sg_closed, ints_closed, ex_closed, nt_closed]) ?_
        | simp (config := { maxSteps := 1000000 }) only [W1_skip, W1_ret, W1_label, W1_exit, W1_seq, W1_cond, W1_block, W1_region, W1_draw, W1_loop, O1_nil, O1_n, O1_s, slotD_s, slotD_z, V1_s, U1_b, U1_u, If1_t, If1_f, If1_not, eqB_tt, eqB_tf, eqB_ft, eqB_ff, X1_eq, H1_f, H1_h, H1_c, how, B1_some, B1_none, B1_ite, D1_b, setT_t, setT_c, T1_n, T1_r, T1_x, K1_n, K1_r, K1_x, FinP_n, FinP_r, bindO_some, RetOk_lit, FinX_n, FinX_r, FinK_n, FinK_r, oneOrTup_1, RetX_lit, getCells, List.set_cons_zero, List.set_cons_succ, putAt, fillA, sizesOf, allTyped, List.all_cons, List.all_nil, Bool.and_self, Bool.true_and, Bool.and_true, Nat.reduceMul, Int.reduceLT, Int.reduceGT, Int.reduceGE, Int.cast_ofNat_Int, Int.reduceLE, Int.reduceToNat, Int.reduceAdd, Int.reduceNeg, Int.reduceEq, Int.reduceBNe, Int.reduceBEq, decide_false, zerosA, List.replicate_succ, List.replicate_zero, List.flatten_cons, List.flatten_nil, Option.isSome_some, dstOk, evRes, evRes1, evFree, evHeap, evA, upd_ne, upd_same, initF, updO_some, updO_none, kindOf, AV.storable, AV.cells, AV.one, Value.oneCell', mode, E_pol, pol, binA, unA, litInt, litBool, litStr, eqA, callee, evArgs, evParts, ne_eq, Nat.reduceEqDiff, Nat.reduceLT, not_false_eq_true, decide_true, if_true, reduceIte, List.take_zero, List.take_succ_cons, List.length_cons, List.length_nil, Nat.reduceAdd, Nat.reduceLeDiff, List.getElem?_cons_zero, List.getElem?_cons_succ, List.getD_cons_zero, List.getD_cons_succ, List.drop_zero, List.drop_succ_cons, List.map_cons, List.map_nil, List.cons_append, List.nil_append, List.append_nil, List.head?_cons, Int.toNat_natCast, Nat.zero_le, and_self, true_and, and_true, Bool.not_true, Bool.not_false, Option.map_some, true_implies, Bool.true_eq_false, Bool.false_eq_true, reduceCtorEq, false_implies, List.mem_cons, List.not_mem_nil, Prod.mk.injEq, false_and, and_false, or_false, false_or, or_true, true_or, if_false, ty3, ty3k, ty3s, ty3t, ty3z, ty3o, ty35, ty35k, ty35s, ty35t, ty35z, ty35o, ty37, ty37k, ty37s, ty37t, ty37z, ty37o, ty52, ty52k, ty52s, ty52t, ty52z, ty52o, ty54, ty54k, ty54s, ty54t, ty54z, ty54o, f1, f2, f3, f4, hb1, hlt, hin, hw, hax, hop, g1]
        | refine And.intro (a := drawOk _ _ = true) (by kernel_rfl) ?_
        | (refine id (α := drawOk _ _ = true) ?_; kernel_rfl))
      refine ⟨by rw [List.getElem?_set_ne (by omega), hz], binE (n.kind + 12) acc (expN z), by rw [htk, List.map_append, List.foldl_append, ← hacc]; rfl, ?_⟩
      simp [binE, recs_cons, recs_nil, Ex.cs_eq, Ex.op, Ex.t, Ex.n, Ex.m, Ex.l]
    · rintro fr h ⟨f1, f4, f2, f3, hz, acc, hacc, hb1⟩
      have hlt : decide (((tl.length + 1 : Nat) : Int) < (n.l.length : Int)) = false := by rw [hln]; simp
      have hs0 : ∀ y, (h.set 0 y)[0]? = some y := fun y => set_self hz
      rw [List.take_length] at hacc
      repeat' (first
        | refine If1.split (fun hb => ?_) (fun hb => ?_)
        | simp (config := { maxSteps := 1000000 }) only [W1_skip, W1_ret, W1_label, W1_exit, W1_seq, W1_cond, W1_block, W1_region, W1_draw, W1_loop, O1_nil, O1_n, O1_s, slotD_s, slotD_z, V1_s, U1_b, U1_u, If1_t, If1_f, If1_not, eqB_tt, eqB_tf, eqB_ft, eqB_ff, X1_eq, H1_f, H1_h, H1_c, how, B1_some, B1_none, B1_ite, D1_b, setT_t, setT_c, T1_n, T1_r, T1_x, K1_n, K1_r, K1_x, FinP_n, FinP_r, bindO_some, RetOk_lit, FinX_n, FinX_r, FinK_n, FinK_r, oneOrTup_1, RetX_lit, getCells, List.set_cons_zero, List.set_cons_succ, putAt, fillA, sizesOf, allTyped, List.all_cons, List.all_nil, Bool.and_self, Bool.true_and, Bool.and_true, Nat.reduceMul, Int.reduceLT, Int.reduceGT, Int.reduceGE, Int.cast_ofNat_Int, Int.reduceLE, Int.reduceToNat, Int.reduceAdd, Int.reduceNeg, Int.reduceEq, Int.reduceBNe, Int.reduceBEq, decide_false, zerosA, List.replicate_succ, List.replicate_zero, List.flatten_cons, List.flatten_nil, Option.isSome_some, dstOk, evRes, evRes1, evFree, evHeap, evA, upd_ne, upd_same, initF, updO_some, updO_none, kindOf, AV.storable, AV.cells, AV.one, Value.oneCell', mode, E_pol, pol, binA, unA, litInt, litBool, litStr, eqA, callee, evArgs, evParts, ne_eq, Nat.reduceEqDiff, Nat.reduceLT, not_false_eq_true, decide_true, if_true, reduceIte, List.take_zero, List.take_succ_cons, List.length_cons, List.length_nil, Nat.reduceAdd, Nat.reduceLeDiff, List.getElem?_cons_zero, List.getElem?_cons_succ, List.getD_cons_zero, List.getD_cons_succ, List.drop_zero, List.drop_succ_cons, List.map_cons, List.map_nil, List.cons_append, List.nil_append, List.append_nil, List.head?_cons, Int.toNat_natCast, Nat.zero_le, and_self, true_and, and_true, Bool.not_true, Bool.not_false, Option.map_some, true_implies, Bool.true_eq_false, Bool.false_eq_true, reduceCtorEq, false_implies, List.mem_cons, List.not_mem_nil, Prod.mk.injEq, false_and, and_false, or_false, false_or, or_true, true_or, if_false, ty3, ty3k, ty3s, ty3t, ty3z, ty3o, ty35, ty35k, ty35s, ty35t, ty35z, ty35o, ty37, ty37k, ty37s, ty37t, ty37z, ty37o, ty52, ty52k, ty52s, ty52t, ty52z, ty52o, ty54, ty54k, ty54s, ty54t, ty54z, ty54o, f1, f2, f3, f4, hb1, hz, hs0, hlt]
        | refine And.intro (a := drawOk _ _ = true) (by kernel_rfl) ?_
        | (refine id (α := drawOk _ _ = true) ?_; kernel_rfl))
      rw [← hacc]
      exact RetOk_closed (by simp [AV.closedL, AV.closed, ex_closed, oneOrTup]) rfl
    · repeat' (first
        | refine If1.split (fun hb => ?_) (fun hb => ?_)
        | simp (config := { maxSteps := 1000000 }) only [W1_skip, W1_ret, W1_label, W1_exit, W1_seq, W1_cond, W1_block, W1_region, W1_draw, W1_loop, O1_nil, O1_n, O1_s, slotD_s, slotD_z, V1_s, U1_b, U1_u, If1_t, If1_f, If1_not, eqB_tt, eqB_tf, eqB_ft, eqB_ff, X1_eq, H1_f, H1_h, H1_c, how, B1_some, B1_none, B1_ite, D1_b, setT_t, setT_c, T1_n, T1_r, T1_x, K1_n, K1_r, K1_x, FinP_n, FinP_r, bindO_some, RetOk_lit, FinX_n, FinX_r, FinK_n, FinK_r, oneOrTup_1, RetX_lit, getCells, List.set_cons_zero, List.set_cons_succ, putAt, fillA, sizesOf, allTyped, List.all_cons, List.all_nil, Bool.and_self, Bool.true_and, Bool.and_true, Nat.reduceMul, Int.reduceLT, Int.reduceGT, Int.reduceGE, Int.cast_ofNat_Int, Int.reduceLE, Int.reduceToNat, Int.reduceAdd, Int.reduceNeg, Int.reduceEq, Int.reduceBNe, Int.reduceBEq, decide_false, zerosA, List.replicate_succ, List.replicate_zero, List.flatten_cons, List.flatten_nil, Option.isSome_some, dstOk, evRes, evRes1, evFree, evHeap, evA, upd_ne, upd_same, initF, updO_some, updO_none, kindOf, AV.storable, AV.cells, AV.one, Value.oneCell', mode, E_pol, pol, binA, unA, litInt, litBool, litStr, eqA, callee, evArgs, evParts, ne_eq, Nat.reduceEqDiff, Nat.reduceLT, not_false_eq_true, decide_true, if_true, reduceIte, List.take_zero, List.take_succ_cons, List.length_cons, List.length_nil, Nat.reduceAdd, Nat.reduceLeDiff, List.getElem?_cons_zero, List.getElem?_cons_succ, List.getD_cons_zero, List.getD_cons_succ, List.drop_zero, List.drop_succ_cons, List.map_cons, List.map_nil, List.cons_append, List.nil_append, List.append_nil, List.head?_cons, Int.toNat_natCast, Nat.zero_le, and_self, true_and, and_true, Bool.not_true, Bool.not_false, Option.map_some, true_implies, Bool.true_eq_false, Bool.false_eq_true, reduceCtorEq, false_implies, List.mem_cons, List.not_mem_nil, Prod.mk.injEq, false_and, and_false, or_false, false_or, or_true, true_or, if_false, ty3, ty3k, ty3s, ty3t, ty3z, ty3o, ty35, ty35k, ty35s, ty35t, ty35z, ty35o, ty37, ty37k, ty37s, ty37t, ty37z, ty37o, ty52, ty52k, ty52s, ty52t, ty52z, ty52o, ty54, ty54k, ty54s, ty54t, ty54z, ty54o, cz, at_end, set_end]
        | refine And.intro (a := drawOk _ _ = true) (by kernel_rfl) ?_
        | (refine id (α := drawOk _ _ = true) ?_; kernel_rfl))
      exact ⟨_, rfl, rfl⟩
end Go.Abs

