/- Contract: does the program answer at all? Conditions: none. -/
import Derived.Test.YtnjaedaofjkbnaaC7
set_option maxRecDepth 100000
set_option linter.unusedVariables false
set_option linter.unusedSimpArgs false
namespace Go.Abs
open Go
instance (n : Int) : Decidable (In64 n) := by unfold In64; infer_instance
def exNil : Ex := .mk 0 0 0 0 []
def exOne : Ex := .mk 1 2 1 0 []
def bareN (k c : Int) (e : Ex) (next : List Int) : Nd := ⟨.mk ⟨k, c, 0, 0, e, exNil, [], []⟩ [] [] [], next⟩
def g1 : List Nd := [bareN 0 0 exNil [3], bareN 14 0 exNil [], bareN 1 2 exOne [1], bareN 0 1 exNil [2]]
def g2 : List Nd := [bareN 0 0 exNil [2], bareN 14 0 exNil [], bareN 1 3 exOne [1]]
def g3 : List Nd := [bareN 0 0 exNil [2], bareN 14 0 exNil [], bareN 1 2 exOne [1]]
theorem fit_nil : exNil.Fit := .mk _ (by simp [exNil, Ex.l]) (by decide) (by decide) (by decide) (by decide) (by simp [exNil, Ex.l])
theorem fit_one : exOne.Fit := .mk _ (by simp [exOne, Ex.l]) (by decide) (by decide) (by decide) (by decide) (by simp [exOne, Ex.l])
theorem bareN_fit {k c : Int} {e : Ex} {next : List Int} (hk : In64 k) (hc : In64 c) (he : e.Fit) (hl : next.length < 9223372036854775808) (hn : ∀ k ∈ next, In64 k) : (bareN k c e next).Fit :=
  ⟨.mk _ ⟨hk, hc, show In64 0 by decide, show In64 0 by decide, he, fit_nil, by simp [bareN, Sm.b], by simp [bareN, Sm.b], by simp [bareN, Sm.b], by simp [bareN, Sm.b]⟩ (by simp [bareN, Sm.body]) (by simp [bareN, Sm.els]) (by simp [bareN, Sm.arms]) (by simp [bareN, Sm.body]) (by simp [bareN, Sm.els]) (by simp [bareN, Sm.arms]) (by simp [bareN, Sm.arms]), hl, hn⟩
theorem bareN_few {k c : Int} {e : Ex} {next : List Int} (hl : next.length ≤ 40) (hc : 0 ≤ c ∧ c ≤ 1048576) : FewX (bareN k c e next) := ⟨hl, hc.1, hc.2, by simp [bareN, Sm.body], by simp [bareN, Sm.els], by simp [bareN, Sm.arms]⟩
theorem fine1 : Fine g1 := ⟨by decide, by
  intro x hx
  simp only [g1, List.mem_cons, List.not_mem_nil, or_false] at hx
  rcases hx with rfl | rfl | rfl | rfl
  · exact bareN_fit (by decide) (by decide) fit_nil (by simp) (by simp; decide)
  · exact bareN_fit (by decide) (by decide) fit_nil (by simp) (by simp)
  · exact bareN_fit (by decide) (by decide) fit_one (by simp) (by simp; decide)
  · exact bareN_fit (by decide) (by decide) fit_nil (by simp) (by simp; decide), by
  intro x hx
  simp only [g1, List.mem_cons, List.not_mem_nil, or_false] at hx
  rcases hx with rfl | rfl | rfl | rfl <;> exact bareN_few (by simp) (by decide), by kernel_rfl⟩
theorem fine2 : Fine g2 := ⟨by decide, by
  intro x hx
  simp only [g2, List.mem_cons, List.not_mem_nil, or_false] at hx
  rcases hx with rfl | rfl | rfl
  · exact bareN_fit (by decide) (by decide) fit_nil (by simp) (by simp; decide)
  · exact bareN_fit (by decide) (by decide) fit_nil (by simp) (by simp)
  · exact bareN_fit (by decide) (by decide) fit_one (by simp) (by simp; decide), by
  intro x hx
  simp only [g2, List.mem_cons, List.not_mem_nil, or_false] at hx
  rcases hx with rfl | rfl | rfl <;> exact bareN_few (by simp) (by decide), by kernel_rfl⟩
theorem fine3 : Fine g3 := ⟨by decide, by
  intro x hx
  simp only [g3, List.mem_cons, List.not_mem_nil, or_false] at hx
  rcases hx with rfl | rfl | rfl
  · exact bareN_fit (by decide) (by decide) fit_nil (by simp) (by simp; decide)
  · exact bareN_fit (by decide) (by decide) fit_nil (by simp) (by simp)
  · exact bareN_fit (by decide) (by decide) fit_one (by simp) (by simp; decide), by
  intro x hx
  simp only [g3, List.mem_cons, List.not_mem_nil, or_false] at hx
  rcases hx with rfl | rfl | rfl <;> exact bareN_few (by simp) (by decide), by kernel_rfl⟩
theorem b10 : behindL g1 0 = some (2, 3) := by kernel_rfl
theorem b11 : behindL g1 1 = some (1, 0) := by kernel_rfl
theorem b20 : behindL g2 0 = some (2, 3) := by kernel_rfl
theorem b21 : behindL g2 1 = some (1, 0) := by kernel_rfl
theorem b30 : behindL g3 0 = some (2, 2) := by kernel_rfl
theorem go12 : goB g1 g2 = true := by
  refine goB_t ?_
  have key : ∀ p q, Reach g1 g2 p q → (p = 0 ∧ q = 0) ∨ (p = 1 ∧ q = 1) := by
    intro p q h
    induction h with
    | zero => exact Or.inl ⟨rfl, rfl⟩
    | @step p q i k c n m hr h1 h2 h3 ih =>
      rcases ih with ⟨rfl, rfl⟩ | ⟨rfl, rfl⟩
      · rw [b10] at h1
        rw [b20] at h2
        injection h1 with h1
        injection h1 with h1 _
        injection h2 with h2
        injection h2 with h2 _
        subst h1
        subst h2
        have e : max (lenAt g1 2) (lenAt g2 2) = 1 := rfl
        rw [e] at h3
        obtain rfl : c = 0 := by omega
        exact Or.inr ⟨rfl, rfl⟩
      · rw [b11] at h1
        rw [b21] at h2
        injection h1 with h1
        injection h1 with h1 _
        injection h2 with h2
        injection h2 with h2 _
        subst h1
        subst h2
        have e : max (lenAt g1 1) (lenAt g2 1) = 0 := rfl
        rw [e] at h3
        omega
  intro p q h
  unfold Good
  rcases key p q h with ⟨rfl, rfl⟩ | ⟨rfl, rfl⟩
  · rw [b10, b20]
    exact ⟨rfl, _, _, rfl, rfl, rfl, rfl, rfl, rfl, rfl, rfl, rfl⟩
  · rw [b11, b21]
    exact ⟨rfl, _, _, rfl, rfl, rfl, rfl, rfl, rfl, rfl, rfl, rfl⟩
theorem go32 : goB g3 g2 = false := by
  refine goB_f fun h => ?_
  have := h 0 0 .zero
  unfold Good at this
  rw [b30, b20] at this
  exact absurd this.1 (by decide)
theorem k12 : PFn E 6 [ndsA g1, ndsA g2] (B true) := by have := c6 g1 g2 fine1 fine2; rwa [go12] at this
theorem k32 : PFn E 6 [ndsA g3, ndsA g2] (B false) := by have := c6 g3 g2 fine3 fine2; rwa [go32] at this
/-- What lies in memory: no slices where there is nothing. -/
abbrev nilS : AV := .lit (.slice none 0 0)
def rawE (e : Ex) : List AV := [I e.op, I e.t, I e.n, I e.m, nilS]
def rawS (k c : Int) (e : Ex) : List AV := [I k, I c, I 0, I 0] ++ rawE e ++ rawE exNil ++ [nilS, nilS, nilS, nilS, nilS]
def raw1 : List AV := rawS 0 0 exNil ++ [.ro 1 [I 3]] ++ (rawS 14 0 exNil ++ [nilS]) ++ (rawS 1 2 exOne ++ [.ro 1 [I 1]]) ++ (rawS 0 1 exNil ++ [.ro 1 [I 2]])
def raw2 : List AV := rawS 0 0 exNil ++ [.ro 1 [I 2]] ++ (rawS 14 0 exNil ++ [nilS]) ++ (rawS 1 3 exOne ++ [.ro 1 [I 1]])
def raw3 : List AV := rawS 0 0 exNil ++ [.ro 1 [I 2]] ++ (rawS 14 0 exNil ++ [nilS]) ++ (rawS 1 2 exOne ++ [.ro 1 [I 1]])
theorem wkr1 : WkL raw1 (recs Nd.cs g1) := by
  repeat (refine WkL.cons (by first | exact Wk.refl _ | exact Wk.nil) ?_)
  exact WkL.refl []
theorem wkr2 : WkL raw2 (recs Nd.cs g2) := by
  repeat (refine WkL.cons (by first | exact Wk.refl _ | exact Wk.nil) ?_)
  exact WkL.refl []
theorem wkr3 : WkL raw3 (recs Nd.cs g3) := by
  repeat (refine WkL.cons (by first | exact Wk.refl _ | exact Wk.nil) ?_)
  exact WkL.refl []
theorem kr12 : PFn E 6 [.ro 4 raw1, .ro 3 raw2] (B true) := k12.wk (.cons (.ro wkr1) (.cons (.ro wkr2) (.refl []))) (.refl _)
theorem kr32 : PFn E 6 [.ro 3 raw3, .ro 3 raw2] (B false) := k32.wk (.cons (.ro wkr3) (.cons (.ro wkr2) (.refl []))) (.refl _)
theorem C1.readN {E : Env} {h : AHeap} {g : FuncId} {ws ws' : List AV} {v : AV} {K : QK} {d : Dep K} (n : Nat) (hp : PFn E g ws' v) (hr : rdvL h n ws = some ws') (hc : AV.closedL ws' = true) (hf : v.flats = true) (hk : K v h .R) : C1 E K d h g ws :=
  ⟨v, h, .R, hk, Or.inr (Or.inr ⟨rfl, rfl, hf, n, ws', hr, hc, hp⟩)⟩
theorem wm1 : IntKind.i64.wrap (-1) = -1 := by decide
theorem w0 : IntKind.i64.wrap 0 = 0 := by decide
theorem w1 : IntKind.i64.wrap 1 = 1 := by decide
theorem w2 : IntKind.i64.wrap 2 = 2 := by decide
theorem w3 : IntKind.i64.wrap 3 = 3 := by decide
theorem w4 : IntKind.i64.wrap 4 = 4 := by decide
theorem n1 : ((1 : Nat) : Int) = 1 := rfl
set_option maxHeartbeats 8000000 in
theorem k11a : PFn E 11 [.ro 2 (rawS 0 1 exNil ++ rawS 1 2 exOne)] (.ro 4 raw1) := by
  refine pfn_F fn11 (by simp) ?_
  simp only [Go.Proofs.Try.f11, Option.getD_some, List.append_eq, List.cons_append, List.nil_append]
  simp only [rawS, rawE, exNil, exOne, Ex.op, Ex.t, Ex.n, Ex.m, List.cons_append, List.nil_append]
  repeat' (first
    | refine C1.body fn19 (by simp) ?_; simp only [Go.Proofs.Try.f19, Option.getD_some, List.append_eq, List.cons_append, List.nil_append]
    | refine C1.body fn20 (by simp) ?_; simp only [Go.Proofs.Try.f20, Option.getD_some, List.append_eq, List.cons_append, List.nil_append]
    | refine C1.body fn31 (by simp) ?_; simp only [Go.Proofs.Try.f31, Option.getD_some, List.append_eq, List.cons_append, List.nil_append]
    | refine L1_step ?_
    | simp (config := { maxSteps := 1000000 }) only [W1_skip, W1_ret, W1_label, W1_exit, W1_seq, W1_cond, W1_block, W1_region, W1_draw, W1_loop, O1_nil, O1_n, O1_s, slotD_s, slotD_z, V1_s, U1_b, U1_u, If1_t, If1_f, If1_not, eqB_tt, eqB_tf, eqB_ft, eqB_ff, X1_eq, H1_f, H1_h, H1_c, how, B1_some, B1_none, B1_ite, D1_b, setT_t, setT_c, T1_n, T1_r, T1_x, K1_n, K1_r, K1_x, FinP_n, FinP_r, bindO_some, RetOk_lit, FinX_n, FinX_r, FinK_n, FinK_r, oneOrTup_1, RetX_lit, getCells, List.set_cons_zero, List.set_cons_succ, putAt, fillA, sizesOf, allTyped, List.all_cons, List.all_nil, Bool.and_self, Bool.true_and, Bool.and_true, Nat.reduceMul, Int.reduceLT, Int.reduceGT, Int.reduceGE, Int.cast_ofNat_Int, Int.reduceLE, Int.reduceToNat, Int.reduceAdd, Int.reduceNeg, Int.reduceEq, Int.reduceBNe, Int.reduceBEq, decide_false, zerosA, List.replicate_succ, List.replicate_zero, List.flatten_cons, List.flatten_nil, Option.isSome_some, dstOk, evRes, evRes1, evFree, evHeap, evA, upd_ne, upd_same, initF, updO_some, updO_none, kindOf, AV.storable, AV.cells, AV.one, Value.oneCell', mode, E_pol, pol, binA, unA, litInt, litBool, litStr, eqA, callee, evArgs, evParts, ne_eq, Nat.reduceEqDiff, Nat.reduceLT, not_false_eq_true, decide_true, if_true, reduceIte, List.take_zero, List.take_succ_cons, List.length_cons, List.length_nil, Nat.reduceAdd, Nat.reduceLeDiff, List.getElem?_cons_zero, List.getElem?_cons_succ, List.getD_cons_zero, List.getD_cons_succ, List.drop_zero, List.drop_succ_cons, List.map_cons, List.map_nil, List.cons_append, List.nil_append, List.append_nil, List.head?_cons, Int.toNat_natCast, Nat.zero_le, and_self, true_and, and_true, Bool.not_true, Bool.not_false, Option.map_some, true_implies, Bool.true_eq_false, Bool.false_eq_true, reduceCtorEq, false_implies, List.mem_cons, List.not_mem_nil, Prod.mk.injEq, false_and, and_false, or_false, false_or, or_true, true_or, if_false, ty3, ty3k, ty3s, ty3t, ty3z, ty3o, ty3b, ty22, ty22k, ty22s, ty22t, ty22z, ty22o, ty22b, ty27, ty27k, ty27s, ty27t, ty27z, ty27o, ty27b, ty29, ty29k, ty29s, ty29t, ty29z, ty29o, ty29b, ty30, ty30k, ty30s, ty30t, ty30z, ty30o, ty30b, ty31, ty31k, ty31s, ty31t, ty31z, ty31o, ty31b, ty32, ty32k, ty32s, ty32t, ty32z, ty32o, ty32b, ty34, ty34k, ty34s, ty34t, ty34z, ty34o, ty34b, ty35, ty35k, ty35s, ty35t, ty35z, ty35o, ty35b, ty37, ty37k, ty37s, ty37t, ty37z, ty37o, ty37b, ty50, ty50k, ty50s, ty50t, ty50z, ty50o, ty50b, ty52, ty52k, ty52s, ty52t, ty52z, ty52o, ty52b, ty56, ty56k, ty56s, ty56t, ty56z, ty56o, ty56b, cz, cellsS, appendA, List.length_append, Nat.zero_add, Nat.mul_one, Nat.one_mul, Nat.le_refl, wm1, w0, w1, w2, w3, w4, n1, Int.reduceSub, List.getElem?_nil, emp]
    | refine And.intro (a := drawOk _ _ = true) (by kernel_rfl) ?_)
  exact ⟨200, by kernel_rfl, by kernel_rfl⟩
set_option maxHeartbeats 8000000 in
theorem k11b : PFn E 11 [.ro 1 (rawS 1 3 exOne)] (.ro 3 raw2) := by
  refine pfn_F fn11 (by simp) ?_
  simp only [Go.Proofs.Try.f11, Option.getD_some, List.append_eq, List.cons_append, List.nil_append]
  simp only [rawS, rawE, exNil, exOne, Ex.op, Ex.t, Ex.n, Ex.m, List.cons_append, List.nil_append]
  repeat' (first
    | refine C1.body fn19 (by simp) ?_; simp only [Go.Proofs.Try.f19, Option.getD_some, List.append_eq, List.cons_append, List.nil_append]
    | refine C1.body fn20 (by simp) ?_; simp only [Go.Proofs.Try.f20, Option.getD_some, List.append_eq, List.cons_append, List.nil_append]
    | refine C1.body fn31 (by simp) ?_; simp only [Go.Proofs.Try.f31, Option.getD_some, List.append_eq, List.cons_append, List.nil_append]
    | refine L1_step ?_
    | simp (config := { maxSteps := 1000000 }) only [W1_skip, W1_ret, W1_label, W1_exit, W1_seq, W1_cond, W1_block, W1_region, W1_draw, W1_loop, O1_nil, O1_n, O1_s, slotD_s, slotD_z, V1_s, U1_b, U1_u, If1_t, If1_f, If1_not, eqB_tt, eqB_tf, eqB_ft, eqB_ff, X1_eq, H1_f, H1_h, H1_c, how, B1_some, B1_none, B1_ite, D1_b, setT_t, setT_c, T1_n, T1_r, T1_x, K1_n, K1_r, K1_x, FinP_n, FinP_r, bindO_some, RetOk_lit, FinX_n, FinX_r, FinK_n, FinK_r, oneOrTup_1, RetX_lit, getCells, List.set_cons_zero, List.set_cons_succ, putAt, fillA, sizesOf, allTyped, List.all_cons, List.all_nil, Bool.and_self, Bool.true_and, Bool.and_true, Nat.reduceMul, Int.reduceLT, Int.reduceGT, Int.reduceGE, Int.cast_ofNat_Int, Int.reduceLE, Int.reduceToNat, Int.reduceAdd, Int.reduceNeg, Int.reduceEq, Int.reduceBNe, Int.reduceBEq, decide_false, zerosA, List.replicate_succ, List.replicate_zero, List.flatten_cons, List.flatten_nil, Option.isSome_some, dstOk, evRes, evRes1, evFree, evHeap, evA, upd_ne, upd_same, initF, updO_some, updO_none, kindOf, AV.storable, AV.cells, AV.one, Value.oneCell', mode, E_pol, pol, binA, unA, litInt, litBool, litStr, eqA, callee, evArgs, evParts, ne_eq, Nat.reduceEqDiff, Nat.reduceLT, not_false_eq_true, decide_true, if_true, reduceIte, List.take_zero, List.take_succ_cons, List.length_cons, List.length_nil, Nat.reduceAdd, Nat.reduceLeDiff, List.getElem?_cons_zero, List.getElem?_cons_succ, List.getD_cons_zero, List.getD_cons_succ, List.drop_zero, List.drop_succ_cons, List.map_cons, List.map_nil, List.cons_append, List.nil_append, List.append_nil, List.head?_cons, Int.toNat_natCast, Nat.zero_le, and_self, true_and, and_true, Bool.not_true, Bool.not_false, Option.map_some, true_implies, Bool.true_eq_false, Bool.false_eq_true, reduceCtorEq, false_implies, List.mem_cons, List.not_mem_nil, Prod.mk.injEq, false_and, and_false, or_false, false_or, or_true, true_or, if_false, ty3, ty3k, ty3s, ty3t, ty3z, ty3o, ty3b, ty22, ty22k, ty22s, ty22t, ty22z, ty22o, ty22b, ty27, ty27k, ty27s, ty27t, ty27z, ty27o, ty27b, ty29, ty29k, ty29s, ty29t, ty29z, ty29o, ty29b, ty30, ty30k, ty30s, ty30t, ty30z, ty30o, ty30b, ty31, ty31k, ty31s, ty31t, ty31z, ty31o, ty31b, ty32, ty32k, ty32s, ty32t, ty32z, ty32o, ty32b, ty34, ty34k, ty34s, ty34t, ty34z, ty34o, ty34b, ty35, ty35k, ty35s, ty35t, ty35z, ty35o, ty35b, ty37, ty37k, ty37s, ty37t, ty37z, ty37o, ty37b, ty50, ty50k, ty50s, ty50t, ty50z, ty50o, ty50b, ty52, ty52k, ty52s, ty52t, ty52z, ty52o, ty52b, ty56, ty56k, ty56s, ty56t, ty56z, ty56o, ty56b, cz, cellsS, appendA, List.length_append, Nat.zero_add, Nat.mul_one, Nat.one_mul, Nat.le_refl, wm1, w0, w1, w2, w3, w4, n1, Int.reduceSub, List.getElem?_nil, emp]
    | refine And.intro (a := drawOk _ _ = true) (by kernel_rfl) ?_)
  exact ⟨200, by kernel_rfl, by kernel_rfl⟩
set_option maxHeartbeats 8000000 in
theorem k11c : PFn E 11 [.ro 1 (rawS 1 2 exOne)] (.ro 3 raw3) := by
  refine pfn_F fn11 (by simp) ?_
  simp only [Go.Proofs.Try.f11, Option.getD_some, List.append_eq, List.cons_append, List.nil_append]
  simp only [rawS, rawE, exNil, exOne, Ex.op, Ex.t, Ex.n, Ex.m, List.cons_append, List.nil_append]
  repeat' (first
    | refine C1.body fn19 (by simp) ?_; simp only [Go.Proofs.Try.f19, Option.getD_some, List.append_eq, List.cons_append, List.nil_append]
    | refine C1.body fn20 (by simp) ?_; simp only [Go.Proofs.Try.f20, Option.getD_some, List.append_eq, List.cons_append, List.nil_append]
    | refine C1.body fn31 (by simp) ?_; simp only [Go.Proofs.Try.f31, Option.getD_some, List.append_eq, List.cons_append, List.nil_append]
    | refine L1_step ?_
    | simp (config := { maxSteps := 1000000 }) only [W1_skip, W1_ret, W1_label, W1_exit, W1_seq, W1_cond, W1_block, W1_region, W1_draw, W1_loop, O1_nil, O1_n, O1_s, slotD_s, slotD_z, V1_s, U1_b, U1_u, If1_t, If1_f, If1_not, eqB_tt, eqB_tf, eqB_ft, eqB_ff, X1_eq, H1_f, H1_h, H1_c, how, B1_some, B1_none, B1_ite, D1_b, setT_t, setT_c, T1_n, T1_r, T1_x, K1_n, K1_r, K1_x, FinP_n, FinP_r, bindO_some, RetOk_lit, FinX_n, FinX_r, FinK_n, FinK_r, oneOrTup_1, RetX_lit, getCells, List.set_cons_zero, List.set_cons_succ, putAt, fillA, sizesOf, allTyped, List.all_cons, List.all_nil, Bool.and_self, Bool.true_and, Bool.and_true, Nat.reduceMul, Int.reduceLT, Int.reduceGT, Int.reduceGE, Int.cast_ofNat_Int, Int.reduceLE, Int.reduceToNat, Int.reduceAdd, Int.reduceNeg, Int.reduceEq, Int.reduceBNe, Int.reduceBEq, decide_false, zerosA, List.replicate_succ, List.replicate_zero, List.flatten_cons, List.flatten_nil, Option.isSome_some, dstOk, evRes, evRes1, evFree, evHeap, evA, upd_ne, upd_same, initF, updO_some, updO_none, kindOf, AV.storable, AV.cells, AV.one, Value.oneCell', mode, E_pol, pol, binA, unA, litInt, litBool, litStr, eqA, callee, evArgs, evParts, ne_eq, Nat.reduceEqDiff, Nat.reduceLT, not_false_eq_true, decide_true, if_true, reduceIte, List.take_zero, List.take_succ_cons, List.length_cons, List.length_nil, Nat.reduceAdd, Nat.reduceLeDiff, List.getElem?_cons_zero, List.getElem?_cons_succ, List.getD_cons_zero, List.getD_cons_succ, List.drop_zero, List.drop_succ_cons, List.map_cons, List.map_nil, List.cons_append, List.nil_append, List.append_nil, List.head?_cons, Int.toNat_natCast, Nat.zero_le, and_self, true_and, and_true, Bool.not_true, Bool.not_false, Option.map_some, true_implies, Bool.true_eq_false, Bool.false_eq_true, reduceCtorEq, false_implies, List.mem_cons, List.not_mem_nil, Prod.mk.injEq, false_and, and_false, or_false, false_or, or_true, true_or, if_false, ty3, ty3k, ty3s, ty3t, ty3z, ty3o, ty3b, ty22, ty22k, ty22s, ty22t, ty22z, ty22o, ty22b, ty27, ty27k, ty27s, ty27t, ty27z, ty27o, ty27b, ty29, ty29k, ty29s, ty29t, ty29z, ty29o, ty29b, ty30, ty30k, ty30s, ty30t, ty30z, ty30o, ty30b, ty31, ty31k, ty31s, ty31t, ty31z, ty31o, ty31b, ty32, ty32k, ty32s, ty32t, ty32z, ty32o, ty32b, ty34, ty34k, ty34s, ty34t, ty34z, ty34o, ty34b, ty35, ty35k, ty35s, ty35t, ty35z, ty35o, ty35b, ty37, ty37k, ty37s, ty37t, ty37z, ty37o, ty37b, ty50, ty50k, ty50s, ty50t, ty50z, ty50o, ty50b, ty52, ty52k, ty52s, ty52t, ty52z, ty52o, ty52b, ty56, ty56k, ty56s, ty56t, ty56z, ty56o, ty56b, cz, cellsS, appendA, List.length_append, Nat.zero_add, Nat.mul_one, Nat.one_mul, Nat.le_refl, wm1, w0, w1, w2, w3, w4, n1, Int.reduceSub, List.getElem?_nil, emp]
    | refine And.intro (a := drawOk _ _ = true) (by kernel_rfl) ?_)
  exact ⟨200, by kernel_rfl, by kernel_rfl⟩
theorem c5 : PFn E 5 [] (B true) := by
  have k1 := k11a
  have k2 := k11b
  have k3 := k11c
  simp only [rawS, rawE, exNil, exOne, Ex.op, Ex.t, Ex.n, Ex.m, List.cons_append, List.nil_append] at k1 k2 k3
  refine pfn_F fn5 (by simp) ?_
  simp only [Go.Proofs.Try.f5, Option.getD_some, List.append_eq, List.cons_append, List.nil_append]
  repeat' (first
    | refine If1.split (fun hb => ?_) (fun hb => ?_)
    | refine C1.pure (k1) rfl ?_
    | refine C1.pure (k2) rfl ?_
    | refine C1.pure (k3) rfl ?_
    | refine C1.pure (kr12) rfl ?_
    | refine C1.pure (kr32) rfl ?_
    | simp (config := { maxSteps := 1000000 }) only [W1_skip, W1_ret, W1_label, W1_exit, W1_seq, W1_cond, W1_block, W1_region, W1_draw, W1_loop, O1_nil, O1_n, O1_s, slotD_s, slotD_z, V1_s, U1_b, U1_u, If1_t, If1_f, If1_not, eqB_tt, eqB_tf, eqB_ft, eqB_ff, X1_eq, H1_f, H1_h, H1_c, how, B1_some, B1_none, B1_ite, D1_b, setT_t, setT_c, T1_n, T1_r, T1_x, K1_n, K1_r, K1_x, FinP_n, FinP_r, bindO_some, RetOk_lit, FinX_n, FinX_r, FinK_n, FinK_r, oneOrTup_1, RetX_lit, getCells, List.set_cons_zero, List.set_cons_succ, putAt, fillA, sizesOf, allTyped, List.all_cons, List.all_nil, Bool.and_self, Bool.true_and, Bool.and_true, Nat.reduceMul, Int.reduceLT, Int.reduceGT, Int.reduceGE, Int.cast_ofNat_Int, Int.reduceLE, Int.reduceToNat, Int.reduceAdd, Int.reduceNeg, Int.reduceEq, Int.reduceBNe, Int.reduceBEq, decide_false, zerosA, List.replicate_succ, List.replicate_zero, List.flatten_cons, List.flatten_nil, Option.isSome_some, dstOk, evRes, evRes1, evFree, evHeap, evA, upd_ne, upd_same, initF, updO_some, updO_none, kindOf, AV.storable, AV.cells, AV.one, Value.oneCell', mode, E_pol, pol, binA, unA, litInt, litBool, litStr, eqA, callee, evArgs, evParts, ne_eq, Nat.reduceEqDiff, Nat.reduceLT, not_false_eq_true, decide_true, if_true, reduceIte, List.take_zero, List.take_succ_cons, List.length_cons, List.length_nil, Nat.reduceAdd, Nat.reduceLeDiff, List.getElem?_cons_zero, List.getElem?_cons_succ, List.getD_cons_zero, List.getD_cons_succ, List.drop_zero, List.drop_succ_cons, List.map_cons, List.map_nil, List.cons_append, List.nil_append, List.append_nil, List.head?_cons, Int.toNat_natCast, Nat.zero_le, and_self, true_and, and_true, Bool.not_true, Bool.not_false, Option.map_some, true_implies, Bool.true_eq_false, Bool.false_eq_true, reduceCtorEq, false_implies, List.mem_cons, List.not_mem_nil, Prod.mk.injEq, false_and, and_false, or_false, false_or, or_true, true_or, if_false, ty3, ty3k, ty3s, ty3t, ty3z, ty3o, ty22, ty22k, ty22s, ty22t, ty22z, ty22o, ty27, ty27k, ty27s, ty27t, ty27z, ty27o, ty29, ty29k, ty29s, ty29t, ty29z, ty29o, ty30, ty30k, ty30s, ty30t, ty30z, ty30o, ty31, ty31k, ty31s, ty31t, ty31z, ty31o, ty32, ty32k, ty32s, ty32t, ty32z, ty32o, ty34, ty34k, ty34s, ty34t, ty34z, ty34o, ty37, ty37k, ty37s, ty37t, ty37z, ty37o, cz]
    | refine And.intro (a := drawOk _ _ = true) (by kernel_rfl) ?_
    | (refine id (α := drawOk _ _ = true) ?_; kernel_rfl))
end Go.Abs

