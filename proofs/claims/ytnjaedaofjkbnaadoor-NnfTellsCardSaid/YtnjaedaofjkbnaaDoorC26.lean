/- Contract: networks joined. Conditions: none. -/
import Derived.Test.YtnjaedaofjkbnaaDoorC23
import Derived.Test.YtnjaedaofjkbnaaDoorC12
set_option maxRecDepth 100000
set_option linter.unusedVariables false
set_option linter.unusedSimpArgs false
namespace Go.Abs
open Go
def partN (kind : Int) (x : Nt) : List Nt := if x.kind = kind then x.l else [x]
def joinN (kind : Int) (l : List Nt) : Nt := .mk kind 0 ex0 (l.flatMap (partN kind))
theorem nt_len (l : List Nt) : (recs Nt.cs l).length = l.length * 8 := recs_length Nt.cs_len l
theorem take_nt {l : List Nt} : (recs Nt.cs l).take (l.length * 8) = recs Nt.cs l := List.take_of_length_le (by rw [nt_len]; exact Nat.le_refl _)
abbrev nilA : AV := .lit (.slice none 0 0)
theorem flat_take {kind : Int} {l : List Nt} {i : Nat} {x : Nt} (h : l[i]? = some x) : (l.take (i + 1)).flatMap (partN kind) = (l.take i).flatMap (partN kind) ++ partN kind x := by
  rw [List.take_add_one, h]; simp
theorem flat_le {kind : Int} {l : List Nt} {i : Nat} : ((l.take i).flatMap (partN kind)).length ≤ (l.flatMap (partN kind)).length := by
  conv => rhs; rw [← List.take_append_drop i l]
  rw [List.flatMap_append, List.length_append]
  omega
theorem c76 (kind : Int) (l : List Nt) (hl : l.length ≤ 1000000) (ht : (l.flatMap (partN kind)).length ≤ 1000000) : PFn E 76 [I kind, .ro l.length (recs Nt.cs l)] (ntA (joinN kind l)) := by
  have hX : ∃ r, PFn E 76 [I kind, .ro l.length (recs Nt.cs l)] r ∧ ∃ a, r = .agg [I kind, I 0, I 0, I 0, I 0, I 0, nilA, a] ∧ Wk a (.ro (l.flatMap (partN kind)).length (recs Nt.cs (l.flatMap (partN kind)))) := by
    refine px_F fn76 (by simp) ?_
    simp only [Go.Proofs.Tryd.f76, Option.getD_some, List.append_eq, List.cons_append, List.nil_append]
    repeat' (first
      | refine If1.split (fun hb => ?_) (fun hb => ?_)
      | simp (config := { maxSteps := 1000000 }) only [W1_skip, W1_ret, W1_label, W1_exit, W1_seq, W1_cond, W1_block, W1_region, W1_draw, W1_loop, O1_nil, O1_n, O1_s, slotD_s, slotD_z, V1_s, U1_b, U1_u, If1_t, If1_f, If1_not, eqB_tt, eqB_tf, eqB_ft, eqB_ff, X1_eq, H1_f, H1_h, H1_c, how, B1_some, B1_none, B1_ite, D1_b, setT_t, setT_c, T1_n, T1_r, T1_x, K1_n, K1_r, K1_x, FinP_n, FinP_r, bindO_some, RetOk_lit, FinX_n, FinX_r, FinK_n, FinK_r, oneOrTup_1, RetX_lit, getCells, List.set_cons_zero, List.set_cons_succ, putAt, fillA, sizesOf, allTyped, List.all_cons, List.all_nil, Bool.and_self, Bool.true_and, Bool.and_true, Nat.reduceMul, Int.reduceLT, Int.reduceGT, Int.reduceGE, Int.cast_ofNat_Int, Int.reduceLE, Int.reduceToNat, Int.reduceAdd, Int.reduceNeg, Int.reduceEq, Int.reduceBNe, Int.reduceBEq, decide_false, zerosA, List.replicate_succ, List.replicate_zero, List.flatten_cons, List.flatten_nil, Option.isSome_some, dstOk, evRes, evRes1, evFree, evHeap, evA, upd_ne, upd_same, initF, updO_some, updO_none, kindOf, AV.storable, AV.cells, AV.one, Value.oneCell', mode, E_pol, pol, binA, unA, litInt, litBool, litStr, eqA, callee, evArgs, evParts, ne_eq, Nat.reduceEqDiff, Nat.reduceLT, not_false_eq_true, decide_true, if_true, reduceIte, List.take_zero, List.take_succ_cons, List.length_cons, List.length_nil, Nat.reduceAdd, Nat.reduceLeDiff, List.getElem?_cons_zero, List.getElem?_cons_succ, List.getD_cons_zero, List.getD_cons_succ, List.drop_zero, List.drop_succ_cons, List.map_cons, List.map_nil, List.cons_append, List.nil_append, List.append_nil, List.head?_cons, Int.toNat_natCast, Nat.zero_le, and_self, true_and, and_true, Bool.not_true, Bool.not_false, Option.map_some, true_implies, Bool.true_eq_false, Bool.false_eq_true, reduceCtorEq, false_implies, List.mem_cons, List.not_mem_nil, Prod.mk.injEq, false_and, and_false, or_false, false_or, or_true, true_or, if_false, ty3, ty3k, ty3s, ty3t, ty3z, ty3o, ty3b, ty37, ty37k, ty37s, ty37t, ty37z, ty37o, ty37b, ty52, ty52k, ty52s, ty52t, ty52z, ty52o, ty52b, ty54, ty54k, ty54s, ty54t, ty54z, ty54o, ty54b, cz, at_end, set_end]
      | refine And.intro (a := drawOk _ _ = true) (by kernel_rfl) ?_
      | (refine id (α := drawOk _ _ = true) ?_; kernel_rfl))
    refine L1_up l.length (fun i fr h => fr 0 = I kind ∧ fr 4 = .mp 0 0 0 ∧ fr 5 = .mp 1 0 0 ∧ fr 10 = .ro l.length (recs Nt.cs l) ∧ fr 11 = I l.length ∧ fr 12 = I i ∧ h[0]? = some (.cells 0 [I 0, I 0, I 0, I 0, I 0, I 0, nilA, nilA]) ∧
      ∃ (v : AV) (m : List Nt), h[1]? = some (.cells 0 [I kind, I 0, I 0, I 0, I 0, I 0, nilA, v]) ∧ m = (l.take i).flatMap (partN kind) ∧ ((v = nilA ∧ m = []) ∨ ∃ b ver, v = .ms b ver 0 m.length 8 ∧ 1 < b ∧ h[b]? = some (.cells ver (recs Nt.cs m)))) ?_ ?_ 0 (Nat.zero_le _) _ _ ?_
    · rintro i hi fr h ⟨h0, h4, h5, h10, h11, h12, hz, v, m, hb1, hm, hv⟩
      obtain ⟨x, hx⟩ : ∃ x, l[i]? = some x := ⟨l[i], by simp [hi]⟩
      have hlt : decide ((i : Int) < (l.length : Int)) = true := by simp; omega
      have hin : 0 ≤ (i : Int) ∧ (i : Int) < (l.length : Int) := by omega
      have hw : IntKind.i64.wrap ((i : Int) + 1) = ((i + 1 : Nat) : Int) := by rw [wrap64 (by unfold In64; omega)]; simp
      have hax := Nt.at hx
      have hft := flat_take (kind := kind) hx
      have hle := flat_le (kind := kind) (l := l) (i := i + 1)
      rw [hft, List.length_append] at hle
      have l1 : 1 < h.length := (List.getElem?_eq_some_iff.1 hb1).1
      rcases hv with ⟨rfl, rfl⟩ | ⟨b, ver, rfl, hb2, hbb⟩
      · have g1 : ∀ x, (h ++ [x])[1]? = some (ABlock.cells 0 [I kind, I 0, I 0, I 0, I 0, I 0, nilA, nilA]) := fun x => by rw [List.getElem?_append_left l1, hb1]
        have g2 : ∀ x y, (h ++ [x] ++ [y])[1]? = some (ABlock.cells 0 [I kind, I 0, I 0, I 0, I 0, I 0, nilA, nilA]) := fun x y => by rw [List.getElem?_append_left (by simp; omega), g1]
        have s0 : ∀ x y, ((h ++ [x]).set 1 y)[0]? = some (ABlock.cells 0 [I 0, I 0, I 0, I 0, I 0, I 0, nilA, nilA]) := fun x y => by rw [List.getElem?_set_ne (by omega), List.getElem?_append_left (by omega), hz]
        have s1 : ∀ x y z, ((h ++ [x] ++ [y]).set 1 z)[0]? = some (ABlock.cells 0 [I 0, I 0, I 0, I 0, I 0, I 0, nilA, nilA]) := fun x y z => by rw [List.getElem?_set_ne (by omega), List.getElem?_append_left (by simp), List.getElem?_append_left (by omega), hz]
        by_cases hk : x.kind = kind
        · have hkb : (x.kind == kind) = true := by simp [hk]
          have hpx : partN kind x = x.l := by simp [partN, hk]
          rw [hpx] at hft hle
          by_cases hxl : x.l = []
          · repeat' (first
              | refine If1.split (fun hb => ?_) (fun hb => ?_)
              | simp (config := { maxSteps := 1000000 }) only [W1_skip, W1_ret, W1_label, W1_exit, W1_seq, W1_cond, W1_block, W1_region, W1_draw, W1_loop, O1_nil, O1_n, O1_s, slotD_s, slotD_z, V1_s, U1_b, U1_u, If1_t, If1_f, If1_not, eqB_tt, eqB_tf, eqB_ft, eqB_ff, X1_eq, H1_f, H1_h, H1_c, how, B1_some, B1_none, B1_ite, D1_b, setT_t, setT_c, T1_n, T1_r, T1_x, K1_n, K1_r, K1_x, FinP_n, FinP_r, bindO_some, RetOk_lit, FinX_n, FinX_r, FinK_n, FinK_r, oneOrTup_1, RetX_lit, getCells, List.set_cons_zero, List.set_cons_succ, putAt, fillA, sizesOf, allTyped, List.all_cons, List.all_nil, Bool.and_self, Bool.true_and, Bool.and_true, Nat.reduceMul, Int.reduceLT, Int.reduceGT, Int.reduceGE, Int.cast_ofNat_Int, Int.reduceLE, Int.reduceToNat, Int.reduceAdd, Int.reduceNeg, Int.reduceEq, Int.reduceBNe, Int.reduceBEq, decide_false, zerosA, List.replicate_succ, List.replicate_zero, List.flatten_cons, List.flatten_nil, Option.isSome_some, dstOk, evRes, evRes1, evFree, evHeap, evA, upd_ne, upd_same, initF, updO_some, updO_none, kindOf, AV.storable, AV.cells, AV.one, Value.oneCell', mode, E_pol, pol, binA, unA, litInt, litBool, litStr, eqA, callee, evArgs, evParts, ne_eq, Nat.reduceEqDiff, Nat.reduceLT, not_false_eq_true, decide_true, if_true, reduceIte, List.take_zero, List.take_succ_cons, List.length_cons, List.length_nil, Nat.reduceAdd, Nat.reduceLeDiff, List.getElem?_cons_zero, List.getElem?_cons_succ, List.getD_cons_zero, List.getD_cons_succ, List.drop_zero, List.drop_succ_cons, List.map_cons, List.map_nil, List.cons_append, List.nil_append, List.append_nil, List.head?_cons, Int.toNat_natCast, Nat.zero_le, and_self, true_and, and_true, Bool.not_true, Bool.not_false, Option.map_some, true_implies, Bool.true_eq_false, Bool.false_eq_true, reduceCtorEq, false_implies, List.mem_cons, List.not_mem_nil, Prod.mk.injEq, false_and, and_false, or_false, false_or, or_true, true_or, if_false, ty3, ty3k, ty3s, ty3t, ty3z, ty3o, ty3b, ty37, ty37k, ty37s, ty37t, ty37z, ty37o, ty37b, ty52, ty52k, ty52s, ty52t, ty52z, ty52o, ty52b, ty54, ty54k, ty54s, ty54t, ty54z, ty54o, ty54b, h0, h4, h5, h10, h11, h12, hlt, hin, hax, hw, hb1, at_end, set_end, cellsS, appendA, g1, g2, hkb, hxl, recs_nil]
              | refine And.intro (a := drawOk _ _ = true) (by kernel_rfl) ?_
              | (refine id (α := drawOk _ _ = true) ?_; kernel_rfl))
            exact ⟨s0 _ _, nilA, [], set_self (g1 _), by rw [hft, ← hm, hxl]; rfl, .inl ⟨rfl, rfl⟩⟩
          · have hne : ¬ (x.l.length = 0) := by simpa using hxl
            have hbd : x.l.length * 96 ≤ 140737488355328 ∧ x.l.length ≤ 9223372036854775807 := by omega
            repeat' (first
              | refine If1.split (fun hb => ?_) (fun hb => ?_)
              | simp (config := { maxSteps := 1000000 }) only [W1_skip, W1_ret, W1_label, W1_exit, W1_seq, W1_cond, W1_block, W1_region, W1_draw, W1_loop, O1_nil, O1_n, O1_s, slotD_s, slotD_z, V1_s, U1_b, U1_u, If1_t, If1_f, If1_not, eqB_tt, eqB_tf, eqB_ft, eqB_ff, X1_eq, H1_f, H1_h, H1_c, how, B1_some, B1_none, B1_ite, D1_b, setT_t, setT_c, T1_n, T1_r, T1_x, K1_n, K1_r, K1_x, FinP_n, FinP_r, bindO_some, RetOk_lit, FinX_n, FinX_r, FinK_n, FinK_r, oneOrTup_1, RetX_lit, getCells, List.set_cons_zero, List.set_cons_succ, putAt, fillA, sizesOf, allTyped, List.all_cons, List.all_nil, Bool.and_self, Bool.true_and, Bool.and_true, Nat.reduceMul, Int.reduceLT, Int.reduceGT, Int.reduceGE, Int.cast_ofNat_Int, Int.reduceLE, Int.reduceToNat, Int.reduceAdd, Int.reduceNeg, Int.reduceEq, Int.reduceBNe, Int.reduceBEq, decide_false, zerosA, List.replicate_succ, List.replicate_zero, List.flatten_cons, List.flatten_nil, Option.isSome_some, dstOk, evRes, evRes1, evFree, evHeap, evA, upd_ne, upd_same, initF, updO_some, updO_none, kindOf, AV.storable, AV.cells, AV.one, Value.oneCell', mode, E_pol, pol, binA, unA, litInt, litBool, litStr, eqA, callee, evArgs, evParts, ne_eq, Nat.reduceEqDiff, Nat.reduceLT, not_false_eq_true, decide_true, if_true, reduceIte, List.take_zero, List.take_succ_cons, List.length_cons, List.length_nil, Nat.reduceAdd, Nat.reduceLeDiff, List.getElem?_cons_zero, List.getElem?_cons_succ, List.getD_cons_zero, List.getD_cons_succ, List.drop_zero, List.drop_succ_cons, List.map_cons, List.map_nil, List.cons_append, List.nil_append, List.append_nil, List.head?_cons, Int.toNat_natCast, Nat.zero_le, and_self, true_and, and_true, Bool.not_true, Bool.not_false, Option.map_some, true_implies, Bool.true_eq_false, Bool.false_eq_true, reduceCtorEq, false_implies, List.mem_cons, List.not_mem_nil, Prod.mk.injEq, false_and, and_false, or_false, false_or, or_true, true_or, if_false, ty3, ty3k, ty3s, ty3t, ty3z, ty3o, ty3b, ty37, ty37k, ty37s, ty37t, ty37z, ty37o, ty37b, ty52, ty52k, ty52s, ty52t, ty52z, ty52o, ty52b, ty54, ty54k, ty54s, ty54t, ty54z, ty54o, ty54b, h0, h4, h5, h10, h11, h12, hlt, hin, hax, hw, hb1, at_end, set_end, cellsS, appendA, g1, g2, hkb, hne, hbd, nt_len]
              | refine And.intro (a := drawOk _ _ = true) (by kernel_rfl) ?_
              | (refine id (α := drawOk _ _ = true) ?_; kernel_rfl))
            refine ⟨s1 _ _ _, _, x.l, set_self (g2 _ _), by rw [hft, ← hm]; rfl, .inr ⟨_, _, rfl, ?_, ?_⟩⟩
            · simp; omega
            · rw [List.getElem?_set_ne (by first | omega | (simp only [List.length_append, List.length_cons, List.length_nil]; omega))]; simp
        · have hkb : (x.kind == kind) = false := by simp [hk]
          have hpx : partN kind x = [x] := by simp [partN, hk]
          rw [hpx] at hft hle
          repeat' (first
            | refine If1.split (fun hb => ?_) (fun hb => ?_)
            | simp (config := { maxSteps := 1000000 }) only [W1_skip, W1_ret, W1_label, W1_exit, W1_seq, W1_cond, W1_block, W1_region, W1_draw, W1_loop, O1_nil, O1_n, O1_s, slotD_s, slotD_z, V1_s, U1_b, U1_u, If1_t, If1_f, If1_not, eqB_tt, eqB_tf, eqB_ft, eqB_ff, X1_eq, H1_f, H1_h, H1_c, how, B1_some, B1_none, B1_ite, D1_b, setT_t, setT_c, T1_n, T1_r, T1_x, K1_n, K1_r, K1_x, FinP_n, FinP_r, bindO_some, RetOk_lit, FinX_n, FinX_r, FinK_n, FinK_r, oneOrTup_1, RetX_lit, getCells, List.set_cons_zero, List.set_cons_succ, putAt, fillA, sizesOf, allTyped, List.all_cons, List.all_nil, Bool.and_self, Bool.true_and, Bool.and_true, Nat.reduceMul, Int.reduceLT, Int.reduceGT, Int.reduceGE, Int.cast_ofNat_Int, Int.reduceLE, Int.reduceToNat, Int.reduceAdd, Int.reduceNeg, Int.reduceEq, Int.reduceBNe, Int.reduceBEq, decide_false, zerosA, List.replicate_succ, List.replicate_zero, List.flatten_cons, List.flatten_nil, Option.isSome_some, dstOk, evRes, evRes1, evFree, evHeap, evA, upd_ne, upd_same, initF, updO_some, updO_none, kindOf, AV.storable, AV.cells, AV.one, Value.oneCell', mode, E_pol, pol, binA, unA, litInt, litBool, litStr, eqA, callee, evArgs, evParts, ne_eq, Nat.reduceEqDiff, Nat.reduceLT, not_false_eq_true, decide_true, if_true, reduceIte, List.take_zero, List.take_succ_cons, List.length_cons, List.length_nil, Nat.reduceAdd, Nat.reduceLeDiff, List.getElem?_cons_zero, List.getElem?_cons_succ, List.getD_cons_zero, List.getD_cons_succ, List.drop_zero, List.drop_succ_cons, List.map_cons, List.map_nil, List.cons_append, List.nil_append, List.append_nil, List.head?_cons, Int.toNat_natCast, Nat.zero_le, and_self, true_and, and_true, Bool.not_true, Bool.not_false, Option.map_some, true_implies, Bool.true_eq_false, Bool.false_eq_true, reduceCtorEq, false_implies, List.mem_cons, List.not_mem_nil, Prod.mk.injEq, false_and, and_false, or_false, false_or, or_true, true_or, if_false, ty3, ty3k, ty3s, ty3t, ty3z, ty3o, ty3b, ty37, ty37k, ty37s, ty37t, ty37z, ty37o, ty37b, ty52, ty52k, ty52s, ty52t, ty52z, ty52o, ty52b, ty54, ty54k, ty54s, ty54t, ty54z, ty54o, ty54b, h0, h4, h5, h10, h11, h12, hlt, hin, hax, hw, hb1, at_end, set_end, cellsS, appendA, g1, g2, hkb]
            | refine And.intro (a := drawOk _ _ = true) (by kernel_rfl) ?_
            | (refine id (α := drawOk _ _ = true) ?_; kernel_rfl))
          refine ⟨s1 _ _ _, _, [x], set_self (g2 _ _), by rw [hft, ← hm]; rfl, .inr ⟨_, _, rfl, ?_, ?_⟩⟩
          · simp; omega
          · rw [List.getElem?_set_ne (by first | omega | (simp only [List.length_append, List.length_cons, List.length_nil]; omega))]; simp [recs_cons, recs_nil, Nt.cs_eq]
      · have lb : b < h.length := (List.getElem?_eq_some_iff.1 hbb).1
        have g1 : ∀ x, (h ++ [x])[1]? = some (ABlock.cells 0 [I kind, I 0, I 0, I 0, I 0, I 0, nilA, .ms b ver 0 m.length 8]) := fun x => by rw [List.getElem?_append_left l1, hb1]
        have g2 : ∀ x, (h ++ [x])[b]? = some (ABlock.cells ver (recs Nt.cs m)) := fun x => by rw [List.getElem?_append_left lb, hbb]
        have g3 : ∀ x y, ((h ++ [x]).set b y)[1]? = some (ABlock.cells 0 [I kind, I 0, I 0, I 0, I 0, I 0, nilA, .ms b ver 0 m.length 8]) := fun x y => by rw [List.getElem?_set_ne (by omega), g1]
        have s0 : ∀ x y z, (((h ++ [x]).set b y).set 1 z)[0]? = some (ABlock.cells 0 [I 0, I 0, I 0, I 0, I 0, I 0, nilA, nilA]) := fun x y z => by rw [List.getElem?_set_ne (by omega), List.getElem?_set_ne (by omega), List.getElem?_append_left (by omega), hz]
        have s2 : ∀ x y z, (((h ++ [x]).set b y).set 1 z)[b]? = some y := fun x y z => by rw [List.getElem?_set_ne (by omega), set_self (g2 x)]
        have htk := take_nt (l := m)
        by_cases hk : x.kind = kind
        · have hkb : (x.kind == kind) = true := by simp [hk]
          have hpx : partN kind x = x.l := by simp [partN, hk]
          rw [hpx, ← hm] at hft
          rw [hpx, ← hm] at hle
          have hbd : (m.length + x.l.length) * 96 ≤ 140737488355328 ∧ m.length + x.l.length ≤ 9223372036854775807 := by omega
          repeat' (first
            | refine If1.split (fun hb => ?_) (fun hb => ?_)
            | simp (config := { maxSteps := 1000000 }) only [W1_skip, W1_ret, W1_label, W1_exit, W1_seq, W1_cond, W1_block, W1_region, W1_draw, W1_loop, O1_nil, O1_n, O1_s, slotD_s, slotD_z, V1_s, U1_b, U1_u, If1_t, If1_f, If1_not, eqB_tt, eqB_tf, eqB_ft, eqB_ff, X1_eq, H1_f, H1_h, H1_c, how, B1_some, B1_none, B1_ite, D1_b, setT_t, setT_c, T1_n, T1_r, T1_x, K1_n, K1_r, K1_x, FinP_n, FinP_r, bindO_some, RetOk_lit, FinX_n, FinX_r, FinK_n, FinK_r, oneOrTup_1, RetX_lit, getCells, List.set_cons_zero, List.set_cons_succ, putAt, fillA, sizesOf, allTyped, List.all_cons, List.all_nil, Bool.and_self, Bool.true_and, Bool.and_true, Nat.reduceMul, Int.reduceLT, Int.reduceGT, Int.reduceGE, Int.cast_ofNat_Int, Int.reduceLE, Int.reduceToNat, Int.reduceAdd, Int.reduceNeg, Int.reduceEq, Int.reduceBNe, Int.reduceBEq, decide_false, zerosA, List.replicate_succ, List.replicate_zero, List.flatten_cons, List.flatten_nil, Option.isSome_some, dstOk, evRes, evRes1, evFree, evHeap, evA, upd_ne, upd_same, initF, updO_some, updO_none, kindOf, AV.storable, AV.cells, AV.one, Value.oneCell', mode, E_pol, pol, binA, unA, litInt, litBool, litStr, eqA, callee, evArgs, evParts, ne_eq, Nat.reduceEqDiff, Nat.reduceLT, not_false_eq_true, decide_true, if_true, reduceIte, List.take_zero, List.take_succ_cons, List.length_cons, List.length_nil, Nat.reduceAdd, Nat.reduceLeDiff, List.getElem?_cons_zero, List.getElem?_cons_succ, List.getD_cons_zero, List.getD_cons_succ, List.drop_zero, List.drop_succ_cons, List.map_cons, List.map_nil, List.cons_append, List.nil_append, List.append_nil, List.head?_cons, Int.toNat_natCast, Nat.zero_le, and_self, true_and, and_true, Bool.not_true, Bool.not_false, Option.map_some, true_implies, Bool.true_eq_false, Bool.false_eq_true, reduceCtorEq, false_implies, List.mem_cons, List.not_mem_nil, Prod.mk.injEq, false_and, and_false, or_false, false_or, or_true, true_or, if_false, ty3, ty3k, ty3s, ty3t, ty3z, ty3o, ty3b, ty37, ty37k, ty37s, ty37t, ty37z, ty37o, ty37b, ty52, ty52k, ty52s, ty52t, ty52z, ty52o, ty52b, ty54, ty54k, ty54s, ty54t, ty54z, ty54o, ty54b, h0, h4, h5, h10, h11, h12, hlt, hin, hax, hw, hb1, at_end, set_end, cellsS, appendA, g1, g2, g3, hkb, hbd, nt_len, Nat.le_refl, htk]
            | refine And.intro (a := drawOk _ _ = true) (by kernel_rfl) ?_
            | (refine id (α := drawOk _ _ = true) ?_; kernel_rfl))
          exact ⟨s0 _ _ _, _, m ++ x.l, set_self (g3 _ _), hft.symm, .inr ⟨b, ver + 1, by simp, hb2, by rw [s2, recs_append]⟩⟩
        · have hkb : (x.kind == kind) = false := by simp [hk]
          have hpx : partN kind x = [x] := by simp [partN, hk]
          rw [hpx, ← hm] at hft
          rw [hpx, ← hm] at hle
          have hbd : (m.length + 1) * 96 ≤ 140737488355328 ∧ m.length + 1 ≤ 9223372036854775807 := by simp only [List.length_cons, List.length_nil] at hle; omega
          repeat' (first
            | refine If1.split (fun hb => ?_) (fun hb => ?_)
            | simp (config := { maxSteps := 1000000 }) only [W1_skip, W1_ret, W1_label, W1_exit, W1_seq, W1_cond, W1_block, W1_region, W1_draw, W1_loop, O1_nil, O1_n, O1_s, slotD_s, slotD_z, V1_s, U1_b, U1_u, If1_t, If1_f, If1_not, eqB_tt, eqB_tf, eqB_ft, eqB_ff, X1_eq, H1_f, H1_h, H1_c, how, B1_some, B1_none, B1_ite, D1_b, setT_t, setT_c, T1_n, T1_r, T1_x, K1_n, K1_r, K1_x, FinP_n, FinP_r, bindO_some, RetOk_lit, FinX_n, FinX_r, FinK_n, FinK_r, oneOrTup_1, RetX_lit, getCells, List.set_cons_zero, List.set_cons_succ, putAt, fillA, sizesOf, allTyped, List.all_cons, List.all_nil, Bool.and_self, Bool.true_and, Bool.and_true, Nat.reduceMul, Int.reduceLT, Int.reduceGT, Int.reduceGE, Int.cast_ofNat_Int, Int.reduceLE, Int.reduceToNat, Int.reduceAdd, Int.reduceNeg, Int.reduceEq, Int.reduceBNe, Int.reduceBEq, decide_false, zerosA, List.replicate_succ, List.replicate_zero, List.flatten_cons, List.flatten_nil, Option.isSome_some, dstOk, evRes, evRes1, evFree, evHeap, evA, upd_ne, upd_same, initF, updO_some, updO_none, kindOf, AV.storable, AV.cells, AV.one, Value.oneCell', mode, E_pol, pol, binA, unA, litInt, litBool, litStr, eqA, callee, evArgs, evParts, ne_eq, Nat.reduceEqDiff, Nat.reduceLT, not_false_eq_true, decide_true, if_true, reduceIte, List.take_zero, List.take_succ_cons, List.length_cons, List.length_nil, Nat.reduceAdd, Nat.reduceLeDiff, List.getElem?_cons_zero, List.getElem?_cons_succ, List.getD_cons_zero, List.getD_cons_succ, List.drop_zero, List.drop_succ_cons, List.map_cons, List.map_nil, List.cons_append, List.nil_append, List.append_nil, List.head?_cons, Int.toNat_natCast, Nat.zero_le, and_self, true_and, and_true, Bool.not_true, Bool.not_false, Option.map_some, true_implies, Bool.true_eq_false, Bool.false_eq_true, reduceCtorEq, false_implies, List.mem_cons, List.not_mem_nil, Prod.mk.injEq, false_and, and_false, or_false, false_or, or_true, true_or, if_false, ty3, ty3k, ty3s, ty3t, ty3z, ty3o, ty3b, ty37, ty37k, ty37s, ty37t, ty37z, ty37o, ty37b, ty52, ty52k, ty52s, ty52t, ty52z, ty52o, ty52b, ty54, ty54k, ty54s, ty54t, ty54z, ty54o, ty54b, h0, h4, h5, h10, h11, h12, hlt, hin, hax, hw, hb1, at_end, set_end, cellsS, appendA, g1, g2, g3, hkb, hbd, nt_len, Nat.le_refl, htk]
            | refine And.intro (a := drawOk _ _ = true) (by kernel_rfl) ?_
            | (refine id (α := drawOk _ _ = true) ?_; kernel_rfl))
          exact ⟨s0 _ _ _, _, m ++ [x], set_self (g3 _ _), hft.symm, .inr ⟨b, ver + 1, by simp, hb2, by rw [s2, recs_append, recs_cons, recs_nil, Nt.cs_eq]; rfl⟩⟩
    · rintro fr h ⟨h0, h4, h5, h10, h11, h12, hz, v, m, hb1, hm, hv⟩
      have hlt : decide ((l.length : Int) < (l.length : Int)) = false := by simp
      have hs0 : ∀ y, (h.set 0 y)[0]? = some y := fun y => set_self hz
      repeat' (first
        | refine If1.split (fun hb => ?_) (fun hb => ?_)
        | simp (config := { maxSteps := 1000000 }) only [W1_skip, W1_ret, W1_label, W1_exit, W1_seq, W1_cond, W1_block, W1_region, W1_draw, W1_loop, O1_nil, O1_n, O1_s, slotD_s, slotD_z, V1_s, U1_b, U1_u, If1_t, If1_f, If1_not, eqB_tt, eqB_tf, eqB_ft, eqB_ff, X1_eq, H1_f, H1_h, H1_c, how, B1_some, B1_none, B1_ite, D1_b, setT_t, setT_c, T1_n, T1_r, T1_x, K1_n, K1_r, K1_x, FinP_n, FinP_r, bindO_some, RetOk_lit, FinX_n, FinX_r, FinK_n, FinK_r, oneOrTup_1, RetX_lit, getCells, List.set_cons_zero, List.set_cons_succ, putAt, fillA, sizesOf, allTyped, List.all_cons, List.all_nil, Bool.and_self, Bool.true_and, Bool.and_true, Nat.reduceMul, Int.reduceLT, Int.reduceGT, Int.reduceGE, Int.cast_ofNat_Int, Int.reduceLE, Int.reduceToNat, Int.reduceAdd, Int.reduceNeg, Int.reduceEq, Int.reduceBNe, Int.reduceBEq, decide_false, zerosA, List.replicate_succ, List.replicate_zero, List.flatten_cons, List.flatten_nil, Option.isSome_some, dstOk, evRes, evRes1, evFree, evHeap, evA, upd_ne, upd_same, initF, updO_some, updO_none, kindOf, AV.storable, AV.cells, AV.one, Value.oneCell', mode, E_pol, pol, binA, unA, litInt, litBool, litStr, eqA, callee, evArgs, evParts, ne_eq, Nat.reduceEqDiff, Nat.reduceLT, not_false_eq_true, decide_true, if_true, reduceIte, List.take_zero, List.take_succ_cons, List.length_cons, List.length_nil, Nat.reduceAdd, Nat.reduceLeDiff, List.getElem?_cons_zero, List.getElem?_cons_succ, List.getD_cons_zero, List.getD_cons_succ, List.drop_zero, List.drop_succ_cons, List.map_cons, List.map_nil, List.cons_append, List.nil_append, List.append_nil, List.head?_cons, Int.toNat_natCast, Nat.zero_le, and_self, true_and, and_true, Bool.not_true, Bool.not_false, Option.map_some, true_implies, Bool.true_eq_false, Bool.false_eq_true, reduceCtorEq, false_implies, List.mem_cons, List.not_mem_nil, Prod.mk.injEq, false_and, and_false, or_false, false_or, or_true, true_or, if_false, ty3, ty3k, ty3s, ty3t, ty3z, ty3o, ty3b, ty37, ty37k, ty37s, ty37t, ty37z, ty37o, ty37b, ty52, ty52k, ty52s, ty52t, ty52z, ty52o, ty52b, ty54, ty54k, ty54s, ty54t, ty54z, ty54o, ty54b, h0, h4, h5, h10, h11, h12, hlt, hb1, hz, hs0]
        | refine And.intro (a := drawOk _ _ = true) (by kernel_rfl) ?_
        | (refine id (α := drawOk _ _ = true) ?_; kernel_rfl))
      rw [List.take_length] at hm
      subst hm
      clear ht
      generalize l.flatMap (partN kind) = M at hv hb1 ⊢
      have hs : ∀ x, ∃ y, Rdb (h.set 0 x) v y ∧ y.closed = true ∧ Wk y (.ro M.length (recs Nt.cs M)) := fun x => by
        rcases hv with ⟨rfl, hm0⟩ | ⟨b, ver, rfl, hb2, hbb⟩
        · rw [hm0]
          exact ⟨_, Rdb.closed rfl, rfl, Wk.nil⟩
        · refine ⟨_, Rdb.ms (by rw [List.getElem?_set_ne (by omega), hbb]) (by rw [nt_len]; omega) (RdbL.closed (by simpa [take_nt] using nt_closed _)), by simpa [AV.closed, take_nt] using nt_closed _, ?_⟩
          simp only [List.drop_zero, take_nt]
          exact Wk.refl _
      obtain ⟨y, hy, hyc, hyw⟩ := hs (.cells 0 [I kind, I 0, I 0, I 0, I 0, I 0, nilA, v])
      refine RetX_rdb (Rdb.agg (.cons (.closed rfl) (.cons (.closed rfl) (.cons (.closed rfl) (.cons (.closed rfl) (.cons (.closed rfl) (.cons (.closed rfl) (.cons (.closed rfl) (.cons hy .nil))))))))) ?_ ⟨y, rfl, hyw⟩
      simp [AV.closed, AV.closedL, hyc]
    · repeat' (first
        | refine If1.split (fun hb => ?_) (fun hb => ?_)
        | simp (config := { maxSteps := 1000000 }) only [W1_skip, W1_ret, W1_label, W1_exit, W1_seq, W1_cond, W1_block, W1_region, W1_draw, W1_loop, O1_nil, O1_n, O1_s, slotD_s, slotD_z, V1_s, U1_b, U1_u, If1_t, If1_f, If1_not, eqB_tt, eqB_tf, eqB_ft, eqB_ff, X1_eq, H1_f, H1_h, H1_c, how, B1_some, B1_none, B1_ite, D1_b, setT_t, setT_c, T1_n, T1_r, T1_x, K1_n, K1_r, K1_x, FinP_n, FinP_r, bindO_some, RetOk_lit, FinX_n, FinX_r, FinK_n, FinK_r, oneOrTup_1, RetX_lit, getCells, List.set_cons_zero, List.set_cons_succ, putAt, fillA, sizesOf, allTyped, List.all_cons, List.all_nil, Bool.and_self, Bool.true_and, Bool.and_true, Nat.reduceMul, Int.reduceLT, Int.reduceGT, Int.reduceGE, Int.cast_ofNat_Int, Int.reduceLE, Int.reduceToNat, Int.reduceAdd, Int.reduceNeg, Int.reduceEq, Int.reduceBNe, Int.reduceBEq, decide_false, zerosA, List.replicate_succ, List.replicate_zero, List.flatten_cons, List.flatten_nil, Option.isSome_some, dstOk, evRes, evRes1, evFree, evHeap, evA, upd_ne, upd_same, initF, updO_some, updO_none, kindOf, AV.storable, AV.cells, AV.one, Value.oneCell', mode, E_pol, pol, binA, unA, litInt, litBool, litStr, eqA, callee, evArgs, evParts, ne_eq, Nat.reduceEqDiff, Nat.reduceLT, not_false_eq_true, decide_true, if_true, reduceIte, List.take_zero, List.take_succ_cons, List.length_cons, List.length_nil, Nat.reduceAdd, Nat.reduceLeDiff, List.getElem?_cons_zero, List.getElem?_cons_succ, List.getD_cons_zero, List.getD_cons_succ, List.drop_zero, List.drop_succ_cons, List.map_cons, List.map_nil, List.cons_append, List.nil_append, List.append_nil, List.head?_cons, Int.toNat_natCast, Nat.zero_le, and_self, true_and, and_true, Bool.not_true, Bool.not_false, Option.map_some, true_implies, Bool.true_eq_false, Bool.false_eq_true, reduceCtorEq, false_implies, List.mem_cons, List.not_mem_nil, Prod.mk.injEq, false_and, and_false, or_false, false_or, or_true, true_or, if_false, ty3, ty3k, ty3s, ty3t, ty3z, ty3o, ty3b, ty37, ty37k, ty37s, ty37t, ty37z, ty37o, ty37b, ty52, ty52k, ty52s, ty52t, ty52z, ty52o, ty52b, ty54, ty54k, ty54s, ty54t, ty54z, ty54o, ty54b, cz, at_end, set_end]
        | refine And.intro (a := drawOk _ _ = true) (by kernel_rfl) ?_
        | (refine id (α := drawOk _ _ = true) ?_; kernel_rfl))
      exact ⟨nilA, [], rfl, rfl, .inl ⟨rfl, rfl⟩⟩
  obtain ⟨r, hr, a, rfl, hw⟩ := hX
  refine hr.wk (.refl _) (Wk.agg ?_)
  exact .cons (.refl _) (.cons (.refl _) (.cons (.refl _) (.cons (.refl _) (.cons (.refl _) (.cons (.refl _) (.cons .nil (.cons hw (.refl _))))))))
end Go.Abs

