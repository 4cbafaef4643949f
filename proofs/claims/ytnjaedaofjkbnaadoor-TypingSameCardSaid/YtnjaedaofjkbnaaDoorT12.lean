/- Contract: the stacks ahead of all places. Conditions: none. -/
import Derived.Test.YtnjaedaofjkbnaaDoorT11
set_option maxRecDepth 100000
set_option linter.unusedVariables false
set_option linter.unusedSimpArgs false
namespace Go.Abs
open Go
abbrev rowsA (ss : List (List Int)) : AV := .ro ss.length (ss.map intsA)
abbrev boolsA (rs : List Bool) : AV := .ro rs.length (rs.map B)
/-- All that is known of what was reached. -/
structure EntOk (p : Pr) (u : Int) (x : Un) (ss : List (List Int)) (rs : List Bool) : Prop where
  check : CheckOk p u x
  sl : ss.length = x.code.length
  rl : rs.length = x.code.length
  small : ∀ (i : Nat) s, ss[i]? = some s → s.length ≤ 32
  good : ∀ i : Nat, rs[i]? = some true → GoodAt p u x.code ss rs i
def EntR (p : Pr) (u : Int) (r : AV) : Prop := ∃ ss rs, ∃ pc e : Int, Wk r (.tup [rowsA ss, boolsA rs, I pc, I e]) ∧ ((e ≠ 0 ∧ ss = [] ∧ rs = []) ∨ (e = 0 ∧ ∃ x, EntOk p u x ss rs))
theorem flat_one {α : Type} {n : Nat} {x : α} : (List.replicate n [x]).flatten = List.replicate n x := by
  induction n with
  | zero => rfl
  | succ n ih => rw [List.replicate_succ, List.flatten_cons, ih]; rfl
theorem rep_get {α : Type} {n i : Nat} {x y : α} (h : (List.replicate n x)[i]? = some y) : y = x := by
  rw [List.getElem?_replicate] at h
  split at h
  · injection h with h; exact h.symm
  · cases h
theorem EntR.none {p : Pr} {u pc e : Int} (he : e ≠ 0) : EntR p u (.tup [.lit (.slice none 0 0), .lit (.slice none 0 0), I pc, I e]) :=
  ⟨[], [], pc, e, .tup (.cons Wk.nil (.cons Wk.nil (.refl _))), .inl ⟨he, rfl, rfl⟩⟩
theorem Ents.wk {es : List AV} {ss : List (List Int)} (h : Ents es ss) : WkL es (ss.map intsA) := by
  induction es generalizing ss with
  | nil =>
    have := h.1
    cases ss with
    | nil => exact .refl _
    | cons s ss => cases this
  | cons e es ih =>
    have := h.1
    cases ss with
    | nil => cases this
    | cons s ss =>
      refine .cons (h.2 0 e s rfl rfl).wk (ih ⟨by simpa using this, fun i a b ha hb => h.2 (i + 1) a b (by simpa using ha) (by simpa using hb)⟩)
set_option maxHeartbeats 2000000 in
theorem c33 (p : Pr) (u : Int) (hp : p.Fit) : ∃ r, PFn E 33 [prA p, I u] r ∧ EntR p u r := by
  obtain ⟨r0, k0, pc0, e0, rfl, g0⟩ := c58 p u hp
  by_cases he0 : e0 = 0
  · subst he0
    obtain ⟨x, hck⟩ := g0 rfl
    obtain ⟨hxf, hxi⟩ := hp.one hck.at'
    have hl := hxf.code
    have hu : 0 ≤ u ∧ u < (p.units.length : Int) := ⟨hck.lo, by have := (List.getElem?_eq_some_iff.1 hck.at').1; have := hck.lo; omega⟩
    have hax := Un.at hck.at'
    by_cases hx0 : x.code = []
    · have hlen : ((x.code.length : Int) == 0) = true := by rw [hx0]; rfl
      refine px_F fn33 (by simp) ?_
      simp only [Go.Proofs.Tryd.f33, Option.getD_some, List.append_eq, List.cons_append, List.nil_append]
      repeat' (first
        | refine If1.split (fun hb => ?_) (fun hb => ?_)
        | refine C1.pure (k0) (by simp [AV.closedL, AV.closed, vr_closed, bk_closed, sg_closed, ints_closed, ex_closed, i3_closed, cn_closed, un_closed]) ?_
        | simp (config := { maxSteps := 1000000 }) only [W1_scope, W1_skip, W1_ret, W1_label, W1_exit, W1_seq, W1_cond, W1_block, W1_region, W1_draw, W1_loop, O1_nil, O1_n, O1_s, slotD_s, slotD_z, V1_s, U1_b, U1_u, If1_t, If1_f, If1_not, eqB_tt, eqB_tf, eqB_ft, eqB_ff, X1_eq, H1_f, H1_h, H1_c, how, B1_some, B1_none, B1_ite, D1_b, setT_t, setT_c, T1_n, T1_r, T1_x, K1_n, K1_r, K1_x, FinP_n, FinP_r, bindO_some, RetOk_lit, FinX_n, FinX_r, FinK_n, FinK_r, oneOrTup_1, RetX_lit, getCells, List.set_cons_zero, List.set_cons_succ, putAt, fillA, sizesOf, allTyped, List.all_cons, List.all_nil, Bool.and_self, Bool.true_and, Bool.and_true, Nat.reduceMul, Int.reduceLT, Int.reduceGT, Int.reduceGE, Int.cast_ofNat_Int, Int.reduceLE, Int.reduceToNat, Int.reduceAdd, Int.reduceNeg, Int.reduceEq, Int.reduceBNe, Int.reduceBEq, decide_false, zerosA, List.replicate_succ, List.replicate_zero, List.flatten_cons, List.flatten_nil, Option.isSome_some, dstOk, evRes, evRes1, evFree, evHeap, evA, upd_ne, upd_same, initF, updO_some, updO_none, kindOf, AV.storable, AV.cells, AV.one, Value.oneCell', mode, E_pol, pol, binA, unA, litInt, litBool, litStr, eqA, callee, evArgs, evParts, ne_eq, Nat.reduceEqDiff, Nat.reduceLT, not_false_eq_true, decide_true, if_true, reduceIte, List.take_zero, List.take_succ_cons, List.length_cons, List.length_nil, Nat.reduceAdd, Nat.reduceLeDiff, List.getElem?_cons_zero, List.getElem?_cons_succ, List.getD_cons_zero, List.getD_cons_succ, List.drop_zero, List.drop_succ_cons, List.map_cons, List.map_nil, List.cons_append, List.nil_append, List.append_nil, List.head?_cons, Int.toNat_natCast, Nat.zero_le, and_self, true_and, and_true, Bool.not_true, Bool.not_false, Option.map_some, true_implies, Bool.true_eq_false, Bool.false_eq_true, reduceCtorEq, false_implies, List.mem_cons, List.not_mem_nil, Prod.mk.injEq, false_and, and_false, or_false, false_or, or_true, true_or, if_false, ty3, ty3k, ty3s, ty3t, ty3z, ty3o, ty3b, ty4, ty4k, ty4s, ty4t, ty4z, ty4o, ty4b, ty9, ty9k, ty9s, ty9t, ty9z, ty9o, ty9b, ty22, ty22k, ty22s, ty22t, ty22z, ty22o, ty22b, ty23, ty23k, ty23s, ty23t, ty23z, ty23o, ty23b, ty24, ty24k, ty24s, ty24t, ty24z, ty24o, ty24b, ty25, ty25k, ty25s, ty25t, ty25z, ty25o, ty25b, ty27, ty27k, ty27s, ty27t, ty27z, ty27o, ty27b, ty28, ty28k, ty28s, ty28t, ty28z, ty28o, ty28b, ty32, ty32k, ty32s, ty32t, ty32z, ty32o, ty32b, ty65, ty65k, ty65s, ty65t, ty65z, ty65o, ty65b, ty66, ty66k, ty66s, ty66t, ty66z, ty66o, ty66b, ty70, ty70k, ty70s, ty70t, ty70z, ty70o, ty70b, ty72, ty72k, ty72s, ty72t, ty72z, ty72o, ty72b, ty76, ty76k, ty76s, ty76t, ty76z, ty76o, ty76b, ty103, ty103k, ty103s, ty103t, ty103z, ty103o, ty103b, ty105, ty105k, ty105s, ty105t, ty105z, ty105o, ty105b, cz, hu, hax, hlen]
        | refine And.intro (a := drawOk _ _ = true) (by kernel_rfl) ?_
        | (refine id (α := drawOk _ _ = true) ?_; kernel_rfl))
      refine RetX_closed rfl ⟨[], [], 0, 0, .tup (.cons Wk.nil (.cons Wk.nil (.refl _))), .inr ⟨rfl, x, hck, by rw [hx0]; rfl, by rw [hx0]; rfl, by simp, by simp⟩⟩
    · have hpos : 0 < x.code.length := by cases hc : x.code with
        | nil => exact absurd hc hx0
        | cons y ys => simp
      have hlen : ((x.code.length : Int) == 0) = false := by simp; omega
      have hb1 : 24 * (x.code.length : Int) ≤ 281474976710656 ∧ (x.code.length : Int) ≤ 281474976710656 ∧ (x.code.length : Int) ≤ 9223372036854775807 := by omega
      refine px_F fn33 (by simp) ?_
      simp only [Go.Proofs.Tryd.f33, Option.getD_some, List.append_eq, List.cons_append, List.nil_append]
      have d1 : decide (0 ≤ (x.code.length : Int)) = true := by simp
      have d2 : decide ((x.code.length : Int) ≤ (x.code.length : Int)) = true := by simp
      have d3 : ∀ n : Int, 1 * n = n := fun n => by omega
      repeat' (first
        | refine If1.split (fun hb => ?_) (fun hb => ?_)
        | refine C1.pure (k0) (by simp [AV.closedL, AV.closed, vr_closed, bk_closed, sg_closed, ints_closed, ex_closed, i3_closed, cn_closed, un_closed]) ?_
        | simp (config := { maxSteps := 1000000 }) only [W1_scope, W1_skip, W1_ret, W1_label, W1_exit, W1_seq, W1_cond, W1_block, W1_region, W1_draw, W1_loop, O1_nil, O1_n, O1_s, slotD_s, slotD_z, V1_s, U1_b, U1_u, If1_t, If1_f, If1_not, eqB_tt, eqB_tf, eqB_ft, eqB_ff, X1_eq, H1_f, H1_h, H1_c, how, B1_some, B1_none, B1_ite, D1_b, setT_t, setT_c, T1_n, T1_r, T1_x, K1_n, K1_r, K1_x, FinP_n, FinP_r, bindO_some, RetOk_lit, FinX_n, FinX_r, FinK_n, FinK_r, oneOrTup_1, RetX_lit, getCells, List.set_cons_zero, List.set_cons_succ, putAt, fillA, sizesOf, allTyped, List.all_cons, List.all_nil, Bool.and_self, Bool.true_and, Bool.and_true, Nat.reduceMul, Int.reduceLT, Int.reduceGT, Int.reduceGE, Int.cast_ofNat_Int, Int.reduceLE, Int.reduceToNat, Int.reduceAdd, Int.reduceNeg, Int.reduceEq, Int.reduceBNe, Int.reduceBEq, decide_false, zerosA, List.replicate_succ, List.replicate_zero, List.flatten_cons, List.flatten_nil, Option.isSome_some, dstOk, evRes, evRes1, evFree, evHeap, evA, upd_ne, upd_same, initF, updO_some, updO_none, kindOf, AV.storable, AV.cells, AV.one, Value.oneCell', mode, E_pol, pol, binA, unA, litInt, litBool, litStr, eqA, callee, evArgs, evParts, ne_eq, Nat.reduceEqDiff, Nat.reduceLT, not_false_eq_true, decide_true, if_true, reduceIte, List.take_zero, List.take_succ_cons, List.length_cons, List.length_nil, Nat.reduceAdd, Nat.reduceLeDiff, List.getElem?_cons_zero, List.getElem?_cons_succ, List.getD_cons_zero, List.getD_cons_succ, List.drop_zero, List.drop_succ_cons, List.map_cons, List.map_nil, List.cons_append, List.nil_append, List.append_nil, List.head?_cons, Int.toNat_natCast, Nat.zero_le, and_self, true_and, and_true, Bool.not_true, Bool.not_false, Option.map_some, true_implies, Bool.true_eq_false, Bool.false_eq_true, reduceCtorEq, false_implies, List.mem_cons, List.not_mem_nil, Prod.mk.injEq, false_and, and_false, or_false, false_or, or_true, true_or, if_false, ty3, ty3k, ty3s, ty3t, ty3z, ty3o, ty3b, ty4, ty4k, ty4s, ty4t, ty4z, ty4o, ty4b, ty9, ty9k, ty9s, ty9t, ty9z, ty9o, ty9b, ty22, ty22k, ty22s, ty22t, ty22z, ty22o, ty22b, ty23, ty23k, ty23s, ty23t, ty23z, ty23o, ty23b, ty24, ty24k, ty24s, ty24t, ty24z, ty24o, ty24b, ty25, ty25k, ty25s, ty25t, ty25z, ty25o, ty25b, ty27, ty27k, ty27s, ty27t, ty27z, ty27o, ty27b, ty28, ty28k, ty28s, ty28t, ty28z, ty28o, ty28b, ty32, ty32k, ty32s, ty32t, ty32z, ty32o, ty32b, ty65, ty65k, ty65s, ty65t, ty65z, ty65o, ty65b, ty66, ty66k, ty66s, ty66t, ty66z, ty66o, ty66b, ty70, ty70k, ty70s, ty70t, ty70z, ty70o, ty70b, ty72, ty72k, ty72s, ty72t, ty72z, ty72o, ty72b, ty76, ty76k, ty76s, ty76t, ty76z, ty76o, ty76b, ty103, ty103k, ty103s, ty103t, ty103z, ty103o, ty103b, ty105, ty105k, ty105s, ty105t, ty105z, ty105o, ty105b, cz, hu, hax, hlen, hb1, flat_one, d1, d2, d3]
        | refine And.intro (a := drawOk _ _ = true) (by kernel_rfl) ?_
        | (refine id (α := drawOk _ _ = true) ?_; kernel_rfl))
      have hents : Ents (List.replicate x.code.length (AV.lit (.slice none 0 0))) (List.replicate x.code.length []) := ⟨by simp, fun i a b ha hb => by
        rw [List.getElem?_replicate] at ha hb
        split at ha
        · rename_i hlt
          rw [if_pos hlt] at hb
          injection ha with ha; injection hb with hb; subst ha; subst hb
          exact nilOr_0
        · cases ha⟩
      refine C1.body fn59 (by simp) ?_
      refine wait_W (p := p) (u := u) (l := x.code) (es := List.replicate x.code.length (AV.lit (.slice none 0 0))) (ss := List.replicate x.code.length []) (rs := List.replicate x.code.length false) (wv := .lit (.slice none 0 0)) (ws := []) (pc := 0) (e := .lit (.slice none 0 0)) (st := []) rfl rfl rfl nilOr_0 hl hpos ⟨hents, rfl, by rw [List.map_replicate]; rfl, rfl, .inl ⟨rfl, rfl⟩, by simp, by simp⟩ (by simp) fun h1 wv1 k1 hF1 => ?_
      repeat' (first
        | refine If1.split (fun hb => ?_) (fun hb => ?_)
        | simp (config := { maxSteps := 1000000 }) only [W1_scope, W1_skip, W1_ret, W1_label, W1_exit, W1_seq, W1_cond, W1_block, W1_region, W1_draw, W1_loop, O1_nil, O1_n, O1_s, slotD_s, slotD_z, V1_s, U1_b, U1_u, If1_t, If1_f, If1_not, eqB_tt, eqB_tf, eqB_ft, eqB_ff, X1_eq, H1_f, H1_h, H1_c, how, B1_some, B1_none, B1_ite, D1_b, setT_t, setT_c, T1_n, T1_r, T1_x, K1_n, K1_r, K1_x, FinP_n, FinP_r, bindO_some, RetOk_lit, FinX_n, FinX_r, FinK_n, FinK_r, oneOrTup_1, RetX_lit, getCells, List.set_cons_zero, List.set_cons_succ, putAt, fillA, sizesOf, allTyped, List.all_cons, List.all_nil, Bool.and_self, Bool.true_and, Bool.and_true, Nat.reduceMul, Int.reduceLT, Int.reduceGT, Int.reduceGE, Int.cast_ofNat_Int, Int.reduceLE, Int.reduceToNat, Int.reduceAdd, Int.reduceNeg, Int.reduceEq, Int.reduceBNe, Int.reduceBEq, decide_false, zerosA, List.replicate_succ, List.replicate_zero, List.flatten_cons, List.flatten_nil, Option.isSome_some, dstOk, evRes, evRes1, evFree, evHeap, evA, upd_ne, upd_same, initF, updO_some, updO_none, kindOf, AV.storable, AV.cells, AV.one, Value.oneCell', mode, E_pol, pol, binA, unA, litInt, litBool, litStr, eqA, callee, evArgs, evParts, ne_eq, Nat.reduceEqDiff, Nat.reduceLT, not_false_eq_true, decide_true, if_true, reduceIte, List.take_zero, List.take_succ_cons, List.length_cons, List.length_nil, Nat.reduceAdd, Nat.reduceLeDiff, List.getElem?_cons_zero, List.getElem?_cons_succ, List.getD_cons_zero, List.getD_cons_succ, List.drop_zero, List.drop_succ_cons, List.map_cons, List.map_nil, List.cons_append, List.nil_append, List.append_nil, List.head?_cons, Int.toNat_natCast, Nat.zero_le, and_self, true_and, and_true, Bool.not_true, Bool.not_false, Option.map_some, true_implies, Bool.true_eq_false, Bool.false_eq_true, reduceCtorEq, false_implies, List.mem_cons, List.not_mem_nil, Prod.mk.injEq, false_and, and_false, or_false, false_or, or_true, true_or, if_false, ty3, ty3k, ty3s, ty3t, ty3z, ty3o, ty3b, ty4, ty4k, ty4s, ty4t, ty4z, ty4o, ty4b, ty9, ty9k, ty9s, ty9t, ty9z, ty9o, ty9b, ty22, ty22k, ty22s, ty22t, ty22z, ty22o, ty22b, ty23, ty23k, ty23s, ty23t, ty23z, ty23o, ty23b, ty24, ty24k, ty24s, ty24t, ty24z, ty24o, ty24b, ty25, ty25k, ty25s, ty25t, ty25z, ty25o, ty25b, ty27, ty27k, ty27s, ty27t, ty27z, ty27o, ty27b, ty28, ty28k, ty28s, ty28t, ty28z, ty28o, ty28b, ty32, ty32k, ty32s, ty32t, ty32z, ty32o, ty32b, ty65, ty65k, ty65s, ty65t, ty65z, ty65o, ty65b, ty66, ty66k, ty66s, ty66t, ty66z, ty66o, ty66b, ty70, ty70k, ty70s, ty70t, ty70z, ty70o, ty70b, ty72, ty72k, ty72s, ty72t, ty72z, ty72o, ty72b, ty76, ty76k, ty76s, ty76t, ty76z, ty76o, ty76b, ty103, ty103k, ty103s, ty103t, ty103z, ty103o, ty103b, ty105, ty105k, ty105s, ty105t, ty105z, ty105o, ty105b, cz]
        | refine And.intro (a := drawOk _ _ = true) (by kernel_rfl) ?_
        | (refine id (α := drawOk _ _ = true) ?_; kernel_rfl))
      have hI0 : FlowInv p u x.code (List.replicate x.code.length []) (List.replicate x.code.length false) [] none := by
        refine ⟨fun i s hs => ?_, by simp, fun i hi => ?_, by simp [toDo]⟩
        · rw [rep_get hs]; simp
        · have := rep_get hi; cases this
      have hI1 := hI0.put (t := 0) (k := k1) (s := []) (by rw [List.getElem?_replicate, if_pos hpos]) hpos (by simp)
      refine L1_wf (fun k fr h => fr 11 = .mp 2 0 0 ∧ ∃ es ss rs wv ws, FlowH h p u x.code es ss rs wv ws ∧ FlowInv p u x.code ss rs ws none ∧ k = ws.length + 2 * toDo rs) ?_ _ _ _ ⟨by simp [upd], _, _, _, _, _, hF1, hI1, rfl⟩
      rintro k fr h ⟨f11, es, ss, rs, wv, ws, hF, hI, rfl⟩
      have hh2 := hF.h2
      have fin : ws = [] → RetX h [.ms 0 0 0 x.code.length 1, .ms 1 0 0 x.code.length 1, I 0, I 0] (EntR p u) := fun hw => by
        subst hw
        have hel : es.length = x.code.length := hF.ents.1.trans hF.sl
        have he : Rdb h (.ms 0 0 0 x.code.length 1) (.ro x.code.length es) := Rdb.ms hF.h0 (by omega) (by
          rw [List.drop_zero, List.take_of_length_le (by omega)]
          exact RdbL.closed hF.ents.closed)
        have hr : Rdb h (.ms 1 0 0 x.code.length 1) (.ro x.code.length (rs.map B)) := Rdb.ms hF.h1 (by simp [hF.rl]) (by
          rw [List.drop_zero, List.take_of_length_le (by simp [hF.rl])]
          exact RdbL.closed (bools_closed rs))
        refine ⟨.tup [.ro x.code.length es, .ro x.code.length (rs.map B), I 0, I 0], RetOk_rdb (Rdb.tup (.cons he (.cons hr (.cons (.closed rfl) (.cons (.closed rfl) .nil))))) (by simp [AV.closed, AV.closedL, hF.ents.closed, bools_closed]), ss, rs, 0, 0, ?_, .inr ⟨rfl, x, hck, hF.sl, hF.rl, hI.small, hI.done⟩⟩
        rw [show x.code.length = ss.length from hF.sl.symm]
        refine .tup (.cons (.ro hF.ents.wk) (.cons ?_ (.refl _)))
        rw [hF.sl, ← hF.rl]
        exact .refl _
      rcases hw : ws with _ | ⟨w0, wr⟩
      · subst hw
        rcases hF.wait with ⟨rfl, _⟩ | ⟨b, ver, off, xs, rfl, _⟩
        all_goals
          repeat' (first
            | refine If1.split (fun hb => ?_) (fun hb => ?_)
            | simp (config := { maxSteps := 1000000 }) only [W1_scope, W1_skip, W1_ret, W1_label, W1_exit, W1_seq, W1_cond, W1_block, W1_region, W1_draw, W1_loop, O1_nil, O1_n, O1_s, slotD_s, slotD_z, V1_s, U1_b, U1_u, If1_t, If1_f, If1_not, eqB_tt, eqB_tf, eqB_ft, eqB_ff, X1_eq, H1_f, H1_h, H1_c, how, B1_some, B1_none, B1_ite, D1_b, setT_t, setT_c, T1_n, T1_r, T1_x, K1_n, K1_r, K1_x, FinP_n, FinP_r, bindO_some, RetOk_lit, FinX_n, FinX_r, FinK_n, FinK_r, oneOrTup_1, RetX_lit, getCells, List.set_cons_zero, List.set_cons_succ, putAt, fillA, sizesOf, allTyped, List.all_cons, List.all_nil, Bool.and_self, Bool.true_and, Bool.and_true, Nat.reduceMul, Int.reduceLT, Int.reduceGT, Int.reduceGE, Int.cast_ofNat_Int, Int.reduceLE, Int.reduceToNat, Int.reduceAdd, Int.reduceNeg, Int.reduceEq, Int.reduceBNe, Int.reduceBEq, decide_false, zerosA, List.replicate_succ, List.replicate_zero, List.flatten_cons, List.flatten_nil, Option.isSome_some, dstOk, evRes, evRes1, evFree, evHeap, evA, upd_ne, upd_same, initF, updO_some, updO_none, kindOf, AV.storable, AV.cells, AV.one, Value.oneCell', mode, E_pol, pol, binA, unA, litInt, litBool, litStr, eqA, callee, evArgs, evParts, ne_eq, Nat.reduceEqDiff, Nat.reduceLT, not_false_eq_true, decide_true, if_true, reduceIte, List.take_zero, List.take_succ_cons, List.length_cons, List.length_nil, Nat.reduceAdd, Nat.reduceLeDiff, List.getElem?_cons_zero, List.getElem?_cons_succ, List.getD_cons_zero, List.getD_cons_succ, List.drop_zero, List.drop_succ_cons, List.map_cons, List.map_nil, List.cons_append, List.nil_append, List.append_nil, List.head?_cons, Int.toNat_natCast, Nat.zero_le, and_self, true_and, and_true, Bool.not_true, Bool.not_false, Option.map_some, true_implies, Bool.true_eq_false, Bool.false_eq_true, reduceCtorEq, false_implies, List.mem_cons, List.not_mem_nil, Prod.mk.injEq, false_and, and_false, or_false, false_or, or_true, true_or, if_false, ty3, ty3k, ty3s, ty3t, ty3z, ty3o, ty3b, ty4, ty4k, ty4s, ty4t, ty4z, ty4o, ty4b, ty9, ty9k, ty9s, ty9t, ty9z, ty9o, ty9b, ty22, ty22k, ty22s, ty22t, ty22z, ty22o, ty22b, ty23, ty23k, ty23s, ty23t, ty23z, ty23o, ty23b, ty24, ty24k, ty24s, ty24t, ty24z, ty24o, ty24b, ty25, ty25k, ty25s, ty25t, ty25z, ty25o, ty25b, ty27, ty27k, ty27s, ty27t, ty27z, ty27o, ty27b, ty28, ty28k, ty28s, ty28t, ty28z, ty28o, ty28b, ty32, ty32k, ty32s, ty32t, ty32z, ty32o, ty32b, ty65, ty65k, ty65s, ty65t, ty65z, ty65o, ty65b, ty66, ty66k, ty66s, ty66t, ty66z, ty66o, ty66b, ty70, ty70k, ty70s, ty70t, ty70z, ty70o, ty70b, ty72, ty72k, ty72s, ty72t, ty72z, ty72o, ty72b, ty76, ty76k, ty76s, ty76t, ty76z, ty76o, ty76b, ty103, ty103k, ty103s, ty103t, ty103z, ty103o, ty103b, ty105, ty105k, ty105s, ty105t, ty105z, ty105o, ty105b, f11, hh2, getCells, Option.map_some, cz]
            | refine And.intro (a := drawOk _ _ = true) (by kernel_rfl) ?_
            | (refine id (α := drawOk _ _ = true) ?_; kernel_rfl))
          exact fin rfl
      · subst hw
        rcases hF.wait with ⟨_, hc⟩ | ⟨b, ver, off, xs, rfl, _⟩
        · cases hc
        have hgt : decide (((wr.length + 1 : Nat) : Int) > 0) = true := by rw [decide_eq_true_eq]; omega
        repeat' (first
          | refine If1.split (fun hb => ?_) (fun hb => ?_)
          | simp (config := { maxSteps := 1000000 }) only [W1_scope, W1_skip, W1_ret, W1_label, W1_exit, W1_seq, W1_cond, W1_block, W1_region, W1_draw, W1_loop, O1_nil, O1_n, O1_s, slotD_s, slotD_z, V1_s, U1_b, U1_u, If1_t, If1_f, If1_not, eqB_tt, eqB_tf, eqB_ft, eqB_ff, X1_eq, H1_f, H1_h, H1_c, how, B1_some, B1_none, B1_ite, D1_b, setT_t, setT_c, T1_n, T1_r, T1_x, K1_n, K1_r, K1_x, FinP_n, FinP_r, bindO_some, RetOk_lit, FinX_n, FinX_r, FinK_n, FinK_r, oneOrTup_1, RetX_lit, getCells, List.set_cons_zero, List.set_cons_succ, putAt, fillA, sizesOf, allTyped, List.all_cons, List.all_nil, Bool.and_self, Bool.true_and, Bool.and_true, Nat.reduceMul, Int.reduceLT, Int.reduceGT, Int.reduceGE, Int.cast_ofNat_Int, Int.reduceLE, Int.reduceToNat, Int.reduceAdd, Int.reduceNeg, Int.reduceEq, Int.reduceBNe, Int.reduceBEq, decide_false, zerosA, List.replicate_succ, List.replicate_zero, List.flatten_cons, List.flatten_nil, Option.isSome_some, dstOk, evRes, evRes1, evFree, evHeap, evA, upd_ne, upd_same, initF, updO_some, updO_none, kindOf, AV.storable, AV.cells, AV.one, Value.oneCell', mode, E_pol, pol, binA, unA, litInt, litBool, litStr, eqA, callee, evArgs, evParts, ne_eq, Nat.reduceEqDiff, Nat.reduceLT, not_false_eq_true, decide_true, if_true, reduceIte, List.take_zero, List.take_succ_cons, List.length_cons, List.length_nil, Nat.reduceAdd, Nat.reduceLeDiff, List.getElem?_cons_zero, List.getElem?_cons_succ, List.getD_cons_zero, List.getD_cons_succ, List.drop_zero, List.drop_succ_cons, List.map_cons, List.map_nil, List.cons_append, List.nil_append, List.append_nil, List.head?_cons, Int.toNat_natCast, Nat.zero_le, and_self, true_and, and_true, Bool.not_true, Bool.not_false, Option.map_some, true_implies, Bool.true_eq_false, Bool.false_eq_true, reduceCtorEq, false_implies, List.mem_cons, List.not_mem_nil, Prod.mk.injEq, false_and, and_false, or_false, false_or, or_true, true_or, if_false, ty3, ty3k, ty3s, ty3t, ty3z, ty3o, ty3b, ty4, ty4k, ty4s, ty4t, ty4z, ty4o, ty4b, ty9, ty9k, ty9s, ty9t, ty9z, ty9o, ty9b, ty22, ty22k, ty22s, ty22t, ty22z, ty22o, ty22b, ty23, ty23k, ty23s, ty23t, ty23z, ty23o, ty23b, ty24, ty24k, ty24s, ty24t, ty24z, ty24o, ty24b, ty25, ty25k, ty25s, ty25t, ty25z, ty25o, ty25b, ty27, ty27k, ty27s, ty27t, ty27z, ty27o, ty27b, ty28, ty28k, ty28s, ty28t, ty28z, ty28o, ty28b, ty32, ty32k, ty32s, ty32t, ty32z, ty32o, ty32b, ty65, ty65k, ty65s, ty65t, ty65z, ty65o, ty65b, ty66, ty66k, ty66s, ty66t, ty66z, ty66o, ty66b, ty70, ty70k, ty70s, ty70t, ty70z, ty70o, ty70b, ty72, ty72k, ty72s, ty72t, ty72z, ty72o, ty72b, ty76, ty76k, ty76s, ty76t, ty76z, ty76o, ty76b, ty103, ty103k, ty103s, ty103t, ty103z, ty103o, ty103b, ty105, ty105k, ty105s, ty105t, ty105z, ty105o, ty105b, f11, hh2, getCells, Option.map_some, hgt]
          | refine And.intro (a := drawOk _ _ = true) (by kernel_rfl) ?_
          | (refine id (α := drawOk _ _ = true) ?_; kernel_rfl))
        refine C1.body fn60 (by simp) ?_
        refine visit_W (p := p) (u := u) (x := x) rfl hp hck hF hI (fun pc e h' he => ?_) (fun pc h' es' ss' rs' wv' ws' hF' hI' hm => ?_)
        · have h0 : (e != 0) = true := by simpa using he
          repeat' (first
            | refine If1.split (fun hb => ?_) (fun hb => ?_)
            | simp (config := { maxSteps := 1000000 }) only [W1_scope, W1_skip, W1_ret, W1_label, W1_exit, W1_seq, W1_cond, W1_block, W1_region, W1_draw, W1_loop, O1_nil, O1_n, O1_s, slotD_s, slotD_z, V1_s, U1_b, U1_u, If1_t, If1_f, If1_not, eqB_tt, eqB_tf, eqB_ft, eqB_ff, X1_eq, H1_f, H1_h, H1_c, how, B1_some, B1_none, B1_ite, D1_b, setT_t, setT_c, T1_n, T1_r, T1_x, K1_n, K1_r, K1_x, FinP_n, FinP_r, bindO_some, RetOk_lit, FinX_n, FinX_r, FinK_n, FinK_r, oneOrTup_1, RetX_lit, getCells, List.set_cons_zero, List.set_cons_succ, putAt, fillA, sizesOf, allTyped, List.all_cons, List.all_nil, Bool.and_self, Bool.true_and, Bool.and_true, Nat.reduceMul, Int.reduceLT, Int.reduceGT, Int.reduceGE, Int.cast_ofNat_Int, Int.reduceLE, Int.reduceToNat, Int.reduceAdd, Int.reduceNeg, Int.reduceEq, Int.reduceBNe, Int.reduceBEq, decide_false, zerosA, List.replicate_succ, List.replicate_zero, List.flatten_cons, List.flatten_nil, Option.isSome_some, dstOk, evRes, evRes1, evFree, evHeap, evA, upd_ne, upd_same, initF, updO_some, updO_none, kindOf, AV.storable, AV.cells, AV.one, Value.oneCell', mode, E_pol, pol, binA, unA, litInt, litBool, litStr, eqA, callee, evArgs, evParts, ne_eq, Nat.reduceEqDiff, Nat.reduceLT, not_false_eq_true, decide_true, if_true, reduceIte, List.take_zero, List.take_succ_cons, List.length_cons, List.length_nil, Nat.reduceAdd, Nat.reduceLeDiff, List.getElem?_cons_zero, List.getElem?_cons_succ, List.getD_cons_zero, List.getD_cons_succ, List.drop_zero, List.drop_succ_cons, List.map_cons, List.map_nil, List.cons_append, List.nil_append, List.append_nil, List.head?_cons, Int.toNat_natCast, Nat.zero_le, and_self, true_and, and_true, Bool.not_true, Bool.not_false, Option.map_some, true_implies, Bool.true_eq_false, Bool.false_eq_true, reduceCtorEq, false_implies, List.mem_cons, List.not_mem_nil, Prod.mk.injEq, false_and, and_false, or_false, false_or, or_true, true_or, if_false, ty3, ty3k, ty3s, ty3t, ty3z, ty3o, ty3b, ty4, ty4k, ty4s, ty4t, ty4z, ty4o, ty4b, ty9, ty9k, ty9s, ty9t, ty9z, ty9o, ty9b, ty22, ty22k, ty22s, ty22t, ty22z, ty22o, ty22b, ty23, ty23k, ty23s, ty23t, ty23z, ty23o, ty23b, ty24, ty24k, ty24s, ty24t, ty24z, ty24o, ty24b, ty25, ty25k, ty25s, ty25t, ty25z, ty25o, ty25b, ty27, ty27k, ty27s, ty27t, ty27z, ty27o, ty27b, ty28, ty28k, ty28s, ty28t, ty28z, ty28o, ty28b, ty32, ty32k, ty32s, ty32t, ty32z, ty32o, ty32b, ty65, ty65k, ty65s, ty65t, ty65z, ty65o, ty65b, ty66, ty66k, ty66s, ty66t, ty66z, ty66o, ty66b, ty70, ty70k, ty70s, ty70t, ty70z, ty70o, ty70b, ty72, ty72k, ty72s, ty72t, ty72z, ty72o, ty72b, ty76, ty76k, ty76s, ty76t, ty76z, ty76o, ty76b, ty103, ty103k, ty103s, ty103t, ty103z, ty103o, ty103b, ty105, ty105k, ty105s, ty105t, ty105z, ty105o, ty105b, f11, h0]
            | refine And.intro (a := drawOk _ _ = true) (by kernel_rfl) ?_
            | (refine id (α := drawOk _ _ = true) ?_; kernel_rfl))
          exact RetX_closed rfl (EntR.none he)
        · repeat' (first
            | refine If1.split (fun hb => ?_) (fun hb => ?_)
            | simp (config := { maxSteps := 1000000 }) only [W1_scope, W1_skip, W1_ret, W1_label, W1_exit, W1_seq, W1_cond, W1_block, W1_region, W1_draw, W1_loop, O1_nil, O1_n, O1_s, slotD_s, slotD_z, V1_s, U1_b, U1_u, If1_t, If1_f, If1_not, eqB_tt, eqB_tf, eqB_ft, eqB_ff, X1_eq, H1_f, H1_h, H1_c, how, B1_some, B1_none, B1_ite, D1_b, setT_t, setT_c, T1_n, T1_r, T1_x, K1_n, K1_r, K1_x, FinP_n, FinP_r, bindO_some, RetOk_lit, FinX_n, FinX_r, FinK_n, FinK_r, oneOrTup_1, RetX_lit, getCells, List.set_cons_zero, List.set_cons_succ, putAt, fillA, sizesOf, allTyped, List.all_cons, List.all_nil, Bool.and_self, Bool.true_and, Bool.and_true, Nat.reduceMul, Int.reduceLT, Int.reduceGT, Int.reduceGE, Int.cast_ofNat_Int, Int.reduceLE, Int.reduceToNat, Int.reduceAdd, Int.reduceNeg, Int.reduceEq, Int.reduceBNe, Int.reduceBEq, decide_false, zerosA, List.replicate_succ, List.replicate_zero, List.flatten_cons, List.flatten_nil, Option.isSome_some, dstOk, evRes, evRes1, evFree, evHeap, evA, upd_ne, upd_same, initF, updO_some, updO_none, kindOf, AV.storable, AV.cells, AV.one, Value.oneCell', mode, E_pol, pol, binA, unA, litInt, litBool, litStr, eqA, callee, evArgs, evParts, ne_eq, Nat.reduceEqDiff, Nat.reduceLT, not_false_eq_true, decide_true, if_true, reduceIte, List.take_zero, List.take_succ_cons, List.length_cons, List.length_nil, Nat.reduceAdd, Nat.reduceLeDiff, List.getElem?_cons_zero, List.getElem?_cons_succ, List.getD_cons_zero, List.getD_cons_succ, List.drop_zero, List.drop_succ_cons, List.map_cons, List.map_nil, List.cons_append, List.nil_append, List.append_nil, List.head?_cons, Int.toNat_natCast, Nat.zero_le, and_self, true_and, and_true, Bool.not_true, Bool.not_false, Option.map_some, true_implies, Bool.true_eq_false, Bool.false_eq_true, reduceCtorEq, false_implies, List.mem_cons, List.not_mem_nil, Prod.mk.injEq, false_and, and_false, or_false, false_or, or_true, true_or, if_false, ty3, ty3k, ty3s, ty3t, ty3z, ty3o, ty3b, ty4, ty4k, ty4s, ty4t, ty4z, ty4o, ty4b, ty9, ty9k, ty9s, ty9t, ty9z, ty9o, ty9b, ty22, ty22k, ty22s, ty22t, ty22z, ty22o, ty22b, ty23, ty23k, ty23s, ty23t, ty23z, ty23o, ty23b, ty24, ty24k, ty24s, ty24t, ty24z, ty24o, ty24b, ty25, ty25k, ty25s, ty25t, ty25z, ty25o, ty25b, ty27, ty27k, ty27s, ty27t, ty27z, ty27o, ty27b, ty28, ty28k, ty28s, ty28t, ty28z, ty28o, ty28b, ty32, ty32k, ty32s, ty32t, ty32z, ty32o, ty32b, ty65, ty65k, ty65s, ty65t, ty65z, ty65o, ty65b, ty66, ty66k, ty66s, ty66t, ty66z, ty66o, ty66b, ty70, ty70k, ty70s, ty70t, ty70z, ty70o, ty70b, ty72, ty72k, ty72s, ty72t, ty72z, ty72o, ty72b, ty76, ty76k, ty76s, ty76t, ty76z, ty76o, ty76b, ty103, ty103k, ty103s, ty103t, ty103z, ty103o, ty103b, ty105, ty105k, ty105s, ty105t, ty105z, ty105o, ty105b, f11, bne_self_eq_false]
            | refine And.intro (a := drawOk _ _ = true) (by kernel_rfl) ?_
            | (refine id (α := drawOk _ _ = true) ?_; kernel_rfl))
          exact ⟨_, hm, es', ss', rs', wv', ws', hF', hI', rfl⟩
  · have h0 : (e0 != 0) = true := by simpa using he0
    refine px_F fn33 (by simp) ?_
    simp only [Go.Proofs.Tryd.f33, Option.getD_some, List.append_eq, List.cons_append, List.nil_append]
    repeat' (first
      | refine If1.split (fun hb => ?_) (fun hb => ?_)
      | refine C1.pure (k0) (by simp [AV.closedL, AV.closed, vr_closed, bk_closed, sg_closed, ints_closed, ex_closed, i3_closed, cn_closed, un_closed]) ?_
      | simp (config := { maxSteps := 1000000 }) only [W1_scope, W1_skip, W1_ret, W1_label, W1_exit, W1_seq, W1_cond, W1_block, W1_region, W1_draw, W1_loop, O1_nil, O1_n, O1_s, slotD_s, slotD_z, V1_s, U1_b, U1_u, If1_t, If1_f, If1_not, eqB_tt, eqB_tf, eqB_ft, eqB_ff, X1_eq, H1_f, H1_h, H1_c, how, B1_some, B1_none, B1_ite, D1_b, setT_t, setT_c, T1_n, T1_r, T1_x, K1_n, K1_r, K1_x, FinP_n, FinP_r, bindO_some, RetOk_lit, FinX_n, FinX_r, FinK_n, FinK_r, oneOrTup_1, RetX_lit, getCells, List.set_cons_zero, List.set_cons_succ, putAt, fillA, sizesOf, allTyped, List.all_cons, List.all_nil, Bool.and_self, Bool.true_and, Bool.and_true, Nat.reduceMul, Int.reduceLT, Int.reduceGT, Int.reduceGE, Int.cast_ofNat_Int, Int.reduceLE, Int.reduceToNat, Int.reduceAdd, Int.reduceNeg, Int.reduceEq, Int.reduceBNe, Int.reduceBEq, decide_false, zerosA, List.replicate_succ, List.replicate_zero, List.flatten_cons, List.flatten_nil, Option.isSome_some, dstOk, evRes, evRes1, evFree, evHeap, evA, upd_ne, upd_same, initF, updO_some, updO_none, kindOf, AV.storable, AV.cells, AV.one, Value.oneCell', mode, E_pol, pol, binA, unA, litInt, litBool, litStr, eqA, callee, evArgs, evParts, ne_eq, Nat.reduceEqDiff, Nat.reduceLT, not_false_eq_true, decide_true, if_true, reduceIte, List.take_zero, List.take_succ_cons, List.length_cons, List.length_nil, Nat.reduceAdd, Nat.reduceLeDiff, List.getElem?_cons_zero, List.getElem?_cons_succ, List.getD_cons_zero, List.getD_cons_succ, List.drop_zero, List.drop_succ_cons, List.map_cons, List.map_nil, List.cons_append, List.nil_append, List.append_nil, List.head?_cons, Int.toNat_natCast, Nat.zero_le, and_self, true_and, and_true, Bool.not_true, Bool.not_false, Option.map_some, true_implies, Bool.true_eq_false, Bool.false_eq_true, reduceCtorEq, false_implies, List.mem_cons, List.not_mem_nil, Prod.mk.injEq, false_and, and_false, or_false, false_or, or_true, true_or, if_false, ty3, ty3k, ty3s, ty3t, ty3z, ty3o, ty3b, ty4, ty4k, ty4s, ty4t, ty4z, ty4o, ty4b, ty9, ty9k, ty9s, ty9t, ty9z, ty9o, ty9b, ty22, ty22k, ty22s, ty22t, ty22z, ty22o, ty22b, ty23, ty23k, ty23s, ty23t, ty23z, ty23o, ty23b, ty24, ty24k, ty24s, ty24t, ty24z, ty24o, ty24b, ty25, ty25k, ty25s, ty25t, ty25z, ty25o, ty25b, ty27, ty27k, ty27s, ty27t, ty27z, ty27o, ty27b, ty28, ty28k, ty28s, ty28t, ty28z, ty28o, ty28b, ty32, ty32k, ty32s, ty32t, ty32z, ty32o, ty32b, ty65, ty65k, ty65s, ty65t, ty65z, ty65o, ty65b, ty66, ty66k, ty66s, ty66t, ty66z, ty66o, ty66b, ty70, ty70k, ty70s, ty70t, ty70z, ty70o, ty70b, ty72, ty72k, ty72s, ty72t, ty72z, ty72o, ty72b, ty76, ty76k, ty76s, ty76t, ty76z, ty76o, ty76b, ty103, ty103k, ty103s, ty103t, ty103z, ty103o, ty103b, ty105, ty105k, ty105s, ty105t, ty105z, ty105o, ty105b, cz, h0]
      | refine And.intro (a := drawOk _ _ = true) (by kernel_rfl) ?_
      | (refine id (α := drawOk _ _ = true) ?_; kernel_rfl))
    exact RetX_closed rfl (EntR.none he0)
end Go.Abs

