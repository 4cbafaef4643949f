/- Contract: does the program answer at all? Conditions: none. -/
import Derived.Test.YtnjaedaofjkbnaaDoorC27
import Derived.Test.YtnjaedaofjkbnaaDoorC29
import Derived.Test.YtnjaedaofjkbnaaDoorC20
set_option maxRecDepth 100000
set_option linter.unusedVariables false
set_option linter.unusedSimpArgs false
namespace Go.Abs
open Go
def aw1 : Ex := .mk 3 0 0 0 []
def aw2 : Ex := .mk 7 0 0 14 [aw1, .mk 7 0 0 14 [aw1, aw1]]
def aw0 : Sc := ⟨[], [], [], [1]⟩
theorem aw_ok : okN aw0 aw2 = true := by kernel_rfl
theorem aw_nm : nm1 aw2 false = aw2 := by kernel_rfl
theorem aw_of : ofN aw2 = .mk 2 0 ex0 [.mk 1 0 aw1 [], .mk 1 0 aw1 [], .mk 1 0 aw1 []] := by kernel_rfl
theorem aw_con : con (.mk 2 0 ex0 [.mk 1 0 aw1 [], .mk 1 0 aw1 [], .mk 1 0 aw1 []]) = 3 := by kernel_rfl
theorem in_small {n : Int} (h : -100 ≤ n ∧ n ≤ 100) : In64 n := by unfold In64; omega
theorem fit1 : aw1.Fit := .mk _ (by decide) (in_small (by decide)) (in_small (by decide)) (in_small (by decide)) (in_small (by decide)) (by intro x hx; cases hx)
theorem fit2 : (Ex.mk 7 0 0 14 [aw1, aw1]).Fit := .mk _ (by decide) (in_small (by decide)) (in_small (by decide)) (in_small (by decide)) (in_small (by decide)) (by
  intro x hx
  have hx : x ∈ [aw1, aw1] := hx
  simp at hx
  subst hx
  exact fit1)
theorem fit3 : aw2.Fit := .mk _ (by decide) (in_small (by decide)) (in_small (by decide)) (in_small (by decide)) (in_small (by decide)) (by
  intro x hx
  have hx : x ∈ [aw1, .mk 7 0 0 14 [aw1, aw1]] := hx
  simp at hx
  rcases hx with rfl | rfl
  · exact fit1
  · exact fit2)
theorem small3 : aw2.Small := Ex.small_of _ (by decide)
theorem nn1 : Nn aw1 := .leaf _ (by decide) (by decide)
theorem nn2 : Nn (.mk 7 0 0 14 [aw1, aw1]) := .bin _ aw1 aw1 rfl rfl rfl nn1 nn1
theorem nn3 : Nn aw2 := .bin _ aw1 _ rfl rfl rfl nn1 nn2
def awN : Nt := .mk 2 0 ex0 [.mk 1 0 aw1 [], .mk 1 0 aw1 [], .mk 1 0 aw1 []]
def awX : List AV := recs Nt.cs awN.l
theorem aw_from : fromN aw0 aw2 = awN := by rw [fromN, aw_ok, if_pos rfl, aw_nm, aw_of]; rfl
abbrev awA : AV := .agg [I 2, I 0, I 0, I 0, I 0, I 0, .ro 0 [], .ro 3 awX]
theorem fit0 : ex0.Fit := .mk _ (by decide) (in_small (by decide)) (in_small (by decide)) (in_small (by decide)) (in_small (by decide)) (by intro x hx; cases hx)
theorem fitC : (Nt.mk 1 0 aw1 []).Fit := .mk _ (by decide) (in_small (by decide)) (in_small (by decide)) fit1 (by intro x hx; cases hx)
theorem fitN : awN.Fit := .mk _ (by decide) (in_small (by decide)) (in_small (by decide)) fit0 (by
  intro x hx
  have hx : x ∈ [Nt.mk 1 0 aw1 [], .mk 1 0 aw1 [], .mk 1 0 aw1 []] := hx
  simp at hx
  subst hx
  exact fitC)
theorem k24 : PFn E 24 [awA] (I 3) := by
  have h := c24 awN fitN
  rw [show con awN = 3 from aw_con] at h
  exact h
abbrev awE1 : List AV := [I 3, I 0, I 0, I 0, nilA]
abbrev awE2 : List AV := [I 7, I 0, I 0, I 14, .ro 2 [I 3, I 0, I 0, I 0, nilA, I 3, I 0, I 0, I 0, nilA]]
theorem wkE1 : WkL [I 3, I 0, I 0, I 0, nilA] aw1.cs := .cons (.refl _) (.cons (.refl _) (.cons (.refl _) (.cons (.refl _) (.cons .nil (.refl _)))))
theorem wkE2 : WkL [I 7, I 0, I 0, I 14, .ro 2 [I 3, I 0, I 0, I 0, nilA, I 3, I 0, I 0, I 0, nilA]] (Ex.mk 7 0 0 14 [aw1, aw1]).cs :=
  .cons (.refl _) (.cons (.refl _) (.cons (.refl _) (.cons (.refl _) (.cons (Wk.ro (WkL.append wkE1 (WkL.append wkE1 (.refl [])))) (.refl _)))))
theorem k29 : PFn E 29 [.agg [nilA, nilA, nilA, .ro 1 [I 1]], .agg [I 7, I 0, I 0, I 14, .ro 2 [I 3, I 0, I 0, I 0, nilA, I 7, I 0, I 0, I 14, .ro 2 [I 3, I 0, I 0, I 0, nilA, I 3, I 0, I 0, I 0, nilA]]]] (.tup [awA, B true]) := by
  have h := c29 aw0 aw2 fit3 small3 (fun _ => by rw [aw_nm]; exact ⟨nn3, by decide⟩)
  rw [aw_from, aw_ok] at h
  refine h.wk (.cons (Wk.agg (.cons .nil (.cons .nil (.cons .nil (.refl _))))) (.cons (Wk.agg (.cons (.refl _) (.cons (.refl _) (.cons (.refl _) (.cons (.refl _) (.cons (Wk.ro ?_) (.refl _))))))) (.refl _))) (.refl _)
  exact WkL.append wkE1 (WkL.append wkE2 (.refl []))
theorem awX_closed : AV.closedL awX = true := nt_closed _
theorem c21 : PFn E 21 [] (B true) := by
  have cl24 : AV.closedL [awA] = true := by simp [AV.closedL, AV.closed, awX_closed]
  refine pfn_F fn21 (by simp) ?_
  simp only [Go.Proofs.Tryd.f21, Option.getD_some, List.append_eq, List.cons_append, List.nil_append]
  repeat' (first
    | refine If1.split (fun hb => ?_) (fun hb => ?_)
    | refine C1.pure (k29) rfl ?_
    | refine C1.pure (k24) cl24 ?_
    | simp (config := { maxSteps := 1000000 }) only [W1_skip, W1_ret, W1_label, W1_exit, W1_seq, W1_cond, W1_block, W1_region, W1_draw, W1_loop, O1_nil, O1_n, O1_s, slotD_s, slotD_z, V1_s, U1_b, U1_u, If1_t, If1_f, If1_not, eqB_tt, eqB_tf, eqB_ft, eqB_ff, X1_eq, H1_f, H1_h, H1_c, how, B1_some, B1_none, B1_ite, D1_b, setT_t, setT_c, T1_n, T1_r, T1_x, K1_n, K1_r, K1_x, FinP_n, FinP_r, bindO_some, RetOk_lit, FinX_n, FinX_r, FinK_n, FinK_r, oneOrTup_1, RetX_lit, getCells, List.set_cons_zero, List.set_cons_succ, putAt, fillA, sizesOf, allTyped, List.all_cons, List.all_nil, Bool.and_self, Bool.true_and, Bool.and_true, Nat.reduceMul, Int.reduceLT, Int.reduceGT, Int.reduceGE, Int.cast_ofNat_Int, Int.reduceLE, Int.reduceToNat, Int.reduceAdd, Int.reduceNeg, Int.reduceEq, Int.reduceBNe, Int.reduceBEq, decide_false, zerosA, List.replicate_succ, List.replicate_zero, List.flatten_cons, List.flatten_nil, Option.isSome_some, dstOk, evRes, evRes1, evFree, evHeap, evA, upd_ne, upd_same, initF, updO_some, updO_none, kindOf, AV.storable, AV.cells, AV.one, Value.oneCell', mode, E_pol, pol, binA, unA, litInt, litBool, litStr, eqA, callee, evArgs, evParts, ne_eq, Nat.reduceEqDiff, Nat.reduceLT, not_false_eq_true, decide_true, if_true, reduceIte, List.take_zero, List.take_succ_cons, List.length_cons, List.length_nil, Nat.reduceAdd, Nat.reduceLeDiff, List.getElem?_cons_zero, List.getElem?_cons_succ, List.getD_cons_zero, List.getD_cons_succ, List.drop_zero, List.drop_succ_cons, List.map_cons, List.map_nil, List.cons_append, List.nil_append, List.append_nil, List.head?_cons, Int.toNat_natCast, Nat.zero_le, and_self, true_and, and_true, Bool.not_true, Bool.not_false, Option.map_some, true_implies, Bool.true_eq_false, Bool.false_eq_true, reduceCtorEq, false_implies, List.mem_cons, List.not_mem_nil, Prod.mk.injEq, false_and, and_false, or_false, false_or, or_true, true_or, if_false, ty3, ty3k, ty3s, ty3t, ty3z, ty3o, ty23, ty23k, ty23s, ty23t, ty23z, ty23o, ty24, ty24k, ty24s, ty24t, ty24z, ty24o, ty32, ty32k, ty32s, ty32t, ty32z, ty32o, ty35, ty35k, ty35s, ty35t, ty35z, ty35o, ty37, ty37k, ty37s, ty37t, ty37z, ty37o, ty41, ty41k, ty41s, ty41t, ty41z, ty41o, ty43, ty43k, ty43s, ty43t, ty43z, ty43o, ty52, ty52k, ty52s, ty52t, ty52z, ty52o, ty54, ty54k, ty54s, ty54t, ty54z, ty54o, cz, at_end, set_end]
    | refine And.intro (a := drawOk _ _ = true) (by kernel_rfl) ?_
    | (refine id (α := drawOk _ _ = true) ?_; kernel_rfl))
end Go.Abs

