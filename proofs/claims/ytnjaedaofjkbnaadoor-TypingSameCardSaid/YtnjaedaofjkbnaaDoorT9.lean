/- What is known while places are reached; that one waits more. Conditions: none. -/
import Derived.Test.YtnjaedaofjkbnaaDoorT8
set_option maxRecDepth 100000
set_option linter.unusedVariables false
set_option linter.unusedSimpArgs false
namespace Go.Abs
open Go
abbrev codeA (l : List I3) : AV := .ro l.length (recs I3.cs l)
abbrev flowC (p : Pr) (u : Int) (l : List I3) (n : Nat) (wv : AV) : List AV := [.ro p.consts.length (recs Cn.cs p.consts), .ro p.vars.length (recs Vr.cs p.vars), .ro p.blocks.length (recs Bk.cs p.blocks), .ro p.units.length (recs Un.cs p.units), I u, codeA l, .ms 0 0 0 n 1, .ms 1 0 0 n 1, wv]
/-- The stacks ahead of places, as they lie. -/
def Ents (es : List AV) (ss : List (List Int)) : Prop := es.length = ss.length ∧ ∀ (i : Nat) e s, es[i]? = some e → ss[i]? = some s → NilOr e s
/-- The places that wait, as they lie. -/
def WaitH (h : AHeap) (wv : AV) (ws : List Int) : Prop := (wv = .lit (.slice none 0 0) ∧ ws = []) ∨ ∃ b ver off xs, wv = .ms b ver off ws.length 1 ∧ 3 ≤ b ∧ h[b]? = some (.cells ver xs) ∧ (xs.drop off).take ws.length = ws.map intA ∧ off + ws.length ≤ xs.length
structure FlowH (h : AHeap) (p : Pr) (u : Int) (l : List I3) (es : List AV) (ss : List (List Int)) (rs : List Bool) (wv : AV) (ws : List Int) : Prop where
  ents : Ents es ss
  h0 : h[0]? = some (.cells 0 es)
  h1 : h[1]? = some (.cells 0 (rs.map B))
  h2 : h[2]? = some (.cells 0 (flowC p u l l.length wv))
  wait : WaitH h wv ws
  sl : ss.length = l.length
  rl : rs.length = l.length
theorem NilOr.cells {e : AV} {s : List Int} (h : NilOr e s) : e.cells = [e] := by rcases h with rfl | ⟨rfl, _⟩ <;> rfl
theorem NilOr.storable {e : AV} {s : List Int} (h : NilOr e s) : e.storable = true := by rcases h with rfl | ⟨rfl, _⟩ <;> rfl
theorem putAt_set {xs : List AV} {k : Nat} {x : AV} (h : k < xs.length) : putAt xs k [x] = some (xs.set k x) := by
  have e : xs.take k ++ x :: xs.drop (k + 1) = xs.set k x := (List.set_eq_take_append_cons_drop (l := xs) (i := k) (a := x)).symm ▸ (by simp [h])
  unfold putAt
  rw [if_pos (by simp; omega)]
  simp only [List.length_cons, List.length_nil, Nat.zero_add, List.append_assoc, List.singleton_append]
  rw [e]
theorem Ents.set {es : List AV} {ss : List (List Int)} (h : Ents es ss) (k : Nat) {e : AV} {s : List Int} (he : NilOr e s) : Ents (es.set k e) (ss.set k s) := by
  refine ⟨by simp [h.1], fun i a b ha hb => ?_⟩
  rw [List.getElem?_set] at ha hb
  split at ha
  · rename_i e'
    subst e'
    split at ha
    · rename_i hlt
      injection ha with ha
      simp only [if_true] at hb
      rw [if_pos (by rw [← h.1]; exact hlt)] at hb
      injection hb with hb
      subst ha
      subst hb
      exact he
    · cases ha
  · rename_i hne
    rw [if_neg hne] at hb
    exact h.2 i a b ha hb
theorem wait_rdb {h : AHeap} {b ver off : Nat} {xs : List AV} {ws : List Int} (hb : h[b]? = some (.cells ver xs)) (h1 : (xs.drop off).take ws.length = ws.map intA) (h2 : off + ws.length ≤ xs.length) : Rdb h (.ms b ver off ws.length 1) (intsA ws) := by
  refine Rdb.ms hb (by omega) ?_
  rw [Nat.mul_one, h1, ← ints_map]
  exact RdbL.closed (ints_closed _)
theorem putIn_map {ws : List Int} {k : Nat} {x : Int} : putIn (ws.map intA) k (intA x) = (putIn ws k x).map intA := by simp [putIn, List.map_take, List.map_drop]
theorem putIn_len {α : Type} {l : List α} {i : Nat} {x : α} : (putIn l i x).length = l.length + 1 := by simp [putIn]; omega
theorem ins_new {K : QK} {d : Dep K} {h : AHeap} {b' v' : Nat} {x : AV} (hb : h[b']? = some (.cells v' [x])) (hk : K (.ms h.length 0 0 1 1) (h ++ [.cells 0 [x]]) .W) : C1 E K d h 79 [.lit (.slice none 0 0), .lit (.int .i64 0), .ms b' v' 0 1 1] :=
  C1.prim fn79 (Or.inl ⟨rfl, InsP.new (by simp [getCells, hb])⟩) hk
theorem ins_put {K : QK} {d : Dep K} {h : AHeap} {b ver off n i b' v' : Nat} {x : AV} {xs : List AV} (hne : b ≠ b') (hb : h[b]? = some (.cells ver xs)) (hb' : h[b']? = some (.cells v' [x])) (h1 : off + n ≤ xs.length) (h2 : i ≤ n) (h3 : (n + 1) * 8 ≤ 140737488355328)
    (hk : K (.ms b (ver + 1) 0 (n + 1) 1) (h.set b (.cells (ver + 1) (putIn ((xs.drop off).take n) i x))) .W) : C1 E K d h 79 [.ms b ver off n 1, .lit (.int .i64 (i : Int)), .ms b' v' 0 1 1] :=
  C1.prim fn79 (Or.inl ⟨rfl, InsP.put hne (by simp [getCells, hb]) (by simp [getCells, hb']) h1 h2 h3⟩) hk
set_option maxHeartbeats 2000000 in
theorem wait_W {K : AV → AHeap → Prop} {fr : AF} {h : AHeap} {p : Pr} {u : Int} {l : List I3} {es : List AV} {ss : List (List Int)} {rs : List Bool} {wv : AV} {ws : List Int} {pc : Nat} {e : AV} {st : List Int}
    (f0 : fr 0 = .mp 2 0 0) (f1 : fr 1 = I pc) (f2 : fr 2 = e) (he : NilOr e st) (hl : l.length ≤ 300) (hpc : pc < l.length) (hF : FlowH h p u l es ss rs wv ws) (hws : ws.length ≤ 300)
    (hK : ∀ h' wv' (k : Nat), FlowH h' p u l (es.set pc e) (ss.set pc st) (rs.set pc true) wv' (putIn ws k (pc : Int)) → K (.tup []) h') :
    W1 E 59 41 (Go.Proofs.Tryd.f59.body.getD .skip) (FinK E Go.Proofs.Tryd.f59.results.toList K) .mk fr h := by
  obtain ⟨hent, h0, h1, h2, hwait, hsl, hrl⟩ := hF
  have hel : es.length = l.length := hent.1.trans hsl
  have hlen : 3 ≤ h.length := by have := (List.getElem?_eq_some_iff.1 h2).1; omega
  obtain ⟨X, hX⟩ : ∃ X, X = ABlock.cells 0 (es.set pc e) := ⟨_, rfl⟩
  obtain ⟨Y, hY⟩ : ∃ Y, Y = ABlock.cells 0 ((rs.map B).set pc (.lit (.bool true))) := ⟨_, rfl⟩
  have hin : 0 ≤ (pc : Int) ∧ (pc : Int) < (l.length : Int) := by omega
  have mid : ∀ (xs : List AV) (x : AV), pc < xs.length → xs.take pc ++ [x] ++ xs.drop (pc + 1) = xs.set pc x := fun xs x hx => by
    have := putAt_set (x := x) hx
    unfold putAt at this
    split at this
    · injection this
    · cases this
  have q1 := mid es e (by omega)
  have q2 := mid (rs.map B) (.lit (.bool true)) (by simp; omega)
  have l1 : pc + 1 ≤ es.length := by omega
  have l2 : pc + 1 ≤ (rs.map B).length := by simp; omega
  have e1 : (h.set 0 X)[1]? = some (.cells 0 (rs.map B)) := by rw [List.getElem?_set_ne (by omega)]; exact h1
  obtain ⟨H, hH⟩ : ∃ H, H = (h.set 0 X).set 1 Y := ⟨_, rfl⟩
  have H0 : H[0]? = some X := by rw [hH, List.getElem?_set_ne (by omega), List.getElem?_set_self (by omega)]
  have H1 : H[1]? = some Y := by rw [hH, List.getElem?_set_self (by simp; omega)]
  have H2 : H[2]? = some (.cells 0 (flowC p u l l.length wv)) := by rw [hH, List.getElem?_set_ne (by omega), List.getElem?_set_ne (by omega)]; exact h2
  have H3 : ∀ b, 3 ≤ b → H[b]? = h[b]? := fun b hb => by rw [hH, List.getElem?_set_ne (by omega), List.getElem?_set_ne (by omega)]
  have Hl : H.length = h.length := by rw [hH]; simp
  -- what is left is as the heap is then
  have goal2 : ∀ (H' : AHeap) (wv' : AV) (k : Nat), H'[0]? = some X → H'[1]? = some Y → H'[2]? = some (.cells 0 (flowC p u l l.length wv')) → WaitH H' wv' (putIn ws k (pc : Int)) → K (.tup []) H' := fun H' wv' k g0 g1 g2 g3 => by
    refine hK H' wv' k ⟨hent.set pc he, by rw [g0, hX], ?_, g2, g3, by simpa using hsl, by simpa using hrl⟩
    rw [g1, hY, List.map_set]
  clear hK
  rcases hwait with ⟨rfl, rfl⟩ | ⟨b, ver, off, xs, rfl, hb3, hb, hx1, hx2⟩
  · obtain ⟨r, k78, n78, b78, rfl, hn⟩ := c78 [] pc (by simp)
    obtain rfl : n78 = 0 := by simpa using hn
    have k78' := k78.wk (args' := [.lit (.slice none 0 0), I pc]) (.cons Wk.nil (.refl _)) (.refl _)
    have E2 : ∀ a b : ABlock, (H ++ [a] ++ [b])[2]? = some (.cells 0 (flowC p u l l.length (.lit (.slice none 0 0)))) := fun a b => by
      rw [List.getElem?_append_left (by simp; omega), List.getElem?_append_left (by omega)]; exact H2
    have fin : K (.tup []) ((H ++ [ABlock.cells 0 [I pc]] ++ [ABlock.cells 0 [I pc]]).set 2 (ABlock.cells 0 (flowC p u l l.length (.ms (H ++ [ABlock.cells 0 [I pc]]).length 0 0 1 1)))) := by
      refine goal2 _ (.ms (H ++ [ABlock.cells 0 [I pc]]).length 0 0 1 1) 0 ?_ ?_ ?_ ?_
      · rw [List.getElem?_set_ne (by omega), List.getElem?_append_left (by simp), List.getElem?_append_left (by omega)]; exact H0
      · rw [List.getElem?_set_ne (by omega), List.getElem?_append_left (by simp; omega), List.getElem?_append_left (by omega)]; exact H1
      · rw [List.getElem?_set_self (by simp; omega)]
      · refine .inr ⟨_, 0, 0, [I pc], rfl, by simp; omega, ?_, by simp [putIn], by simp [putIn]⟩
        rw [List.getElem?_set_ne (by simp; omega)]
        exact at_end
    rcases he with rfl | ⟨rfl, rfl⟩
    all_goals
      simp only [Go.Proofs.Tryd.f59, Option.getD_some, List.append_eq, List.cons_append, List.nil_append]
      repeat' (first
        | refine If1.split (fun hb => ?_) (fun hb => ?_)
        | simp (config := { maxSteps := 1000000 }) only [W1_scope, W1_skip, W1_ret, W1_label, W1_exit, W1_seq, W1_cond, W1_block, W1_region, W1_draw, W1_loop, O1_nil, O1_n, O1_s, slotD_s, slotD_z, V1_s, U1_b, U1_u, If1_t, If1_f, If1_not, eqB_tt, eqB_tf, eqB_ft, eqB_ff, X1_eq, H1_f, H1_h, H1_c, how, B1_some, B1_none, B1_ite, D1_b, setT_t, setT_c, T1_n, T1_r, T1_x, K1_n, K1_r, K1_x, FinP_n, FinP_r, bindO_some, RetOk_lit, FinX_n, FinX_r, FinK_n, FinK_r, oneOrTup_1, RetX_lit, getCells, List.set_cons_zero, List.set_cons_succ, putAt, fillA, sizesOf, allTyped, List.all_cons, List.all_nil, Bool.and_self, Bool.true_and, Bool.and_true, Nat.reduceMul, Int.reduceLT, Int.reduceGT, Int.reduceGE, Int.cast_ofNat_Int, Int.reduceLE, Int.reduceToNat, Int.reduceAdd, Int.reduceNeg, Int.reduceEq, Int.reduceBNe, Int.reduceBEq, decide_false, zerosA, List.replicate_succ, List.replicate_zero, List.flatten_cons, List.flatten_nil, Option.isSome_some, dstOk, evRes, evRes1, evFree, evHeap, evA, upd_ne, upd_same, initF, updO_some, updO_none, kindOf, AV.storable, AV.cells, AV.one, Value.oneCell', mode, E_pol, pol, binA, unA, litInt, litBool, litStr, eqA, callee, evArgs, evParts, ne_eq, Nat.reduceEqDiff, Nat.reduceLT, not_false_eq_true, decide_true, if_true, reduceIte, List.take_zero, List.take_succ_cons, List.length_cons, List.length_nil, Nat.reduceAdd, Nat.reduceLeDiff, List.getElem?_cons_zero, List.getElem?_cons_succ, List.getD_cons_zero, List.getD_cons_succ, List.drop_zero, List.drop_succ_cons, List.map_cons, List.map_nil, List.cons_append, List.nil_append, List.append_nil, List.head?_cons, Int.toNat_natCast, Nat.zero_le, and_self, true_and, and_true, Bool.not_true, Bool.not_false, Option.map_some, true_implies, Bool.true_eq_false, Bool.false_eq_true, reduceCtorEq, false_implies, List.mem_cons, List.not_mem_nil, Prod.mk.injEq, false_and, and_false, or_false, false_or, or_true, true_or, if_false, ty3, ty3k, ty3s, ty3t, ty3z, ty3o, ty4, ty4k, ty4s, ty4t, ty4z, ty4o, ty27, ty27k, ty27s, ty27t, ty27z, ty27o, ty28, ty28k, ty28s, ty28t, ty28z, ty28o, ty32, ty32k, ty32s, ty32t, ty32z, ty32o, ty65, ty65k, ty65s, ty65t, ty65z, ty65o, ty70, ty70k, ty70s, ty70t, ty70z, ty70o, ty105, ty105k, ty105s, ty105t, ty105z, ty105o, f0, f1, f2, h0, e1, h2, hin, q1, q2, l1, l2, getCells, ← hX, ← hY, ← hH, Nat.mul_one, Nat.zero_add, Option.map_some]
        | refine And.intro (a := drawOk _ _ = true) (by kernel_rfl) ?_
        | (refine id (α := drawOk _ _ = true) ?_; kernel_rfl))
      repeat' (first
        | refine If1.split (fun hb => ?_) (fun hb => ?_)
        | refine C1.pure (k78') rfl ?_
        | refine ins_new at_end ?_
        | simp (config := { maxSteps := 1000000 }) only [W1_scope, W1_skip, W1_ret, W1_label, W1_exit, W1_seq, W1_cond, W1_block, W1_region, W1_draw, W1_loop, O1_nil, O1_n, O1_s, slotD_s, slotD_z, V1_s, U1_b, U1_u, If1_t, If1_f, If1_not, eqB_tt, eqB_tf, eqB_ft, eqB_ff, X1_eq, H1_f, H1_h, H1_c, how, B1_some, B1_none, B1_ite, D1_b, setT_t, setT_c, T1_n, T1_r, T1_x, K1_n, K1_r, K1_x, FinP_n, FinP_r, bindO_some, RetOk_lit, FinX_n, FinX_r, FinK_n, FinK_r, oneOrTup_1, RetX_lit, getCells, List.set_cons_zero, List.set_cons_succ, putAt, fillA, sizesOf, allTyped, List.all_cons, List.all_nil, Bool.and_self, Bool.true_and, Bool.and_true, Nat.reduceMul, Int.reduceLT, Int.reduceGT, Int.reduceGE, Int.cast_ofNat_Int, Int.reduceLE, Int.reduceToNat, Int.reduceAdd, Int.reduceNeg, Int.reduceEq, Int.reduceBNe, Int.reduceBEq, decide_false, zerosA, List.replicate_succ, List.replicate_zero, List.flatten_cons, List.flatten_nil, Option.isSome_some, dstOk, evRes, evRes1, evFree, evHeap, evA, upd_ne, upd_same, initF, updO_some, updO_none, kindOf, AV.storable, AV.cells, AV.one, Value.oneCell', mode, E_pol, pol, binA, unA, litInt, litBool, litStr, eqA, callee, evArgs, evParts, ne_eq, Nat.reduceEqDiff, Nat.reduceLT, not_false_eq_true, decide_true, if_true, reduceIte, List.take_zero, List.take_succ_cons, List.length_cons, List.length_nil, Nat.reduceAdd, Nat.reduceLeDiff, List.getElem?_cons_zero, List.getElem?_cons_succ, List.getD_cons_zero, List.getD_cons_succ, List.drop_zero, List.drop_succ_cons, List.map_cons, List.map_nil, List.cons_append, List.nil_append, List.append_nil, List.head?_cons, Int.toNat_natCast, Nat.zero_le, and_self, true_and, and_true, Bool.not_true, Bool.not_false, Option.map_some, true_implies, Bool.true_eq_false, Bool.false_eq_true, reduceCtorEq, false_implies, List.mem_cons, List.not_mem_nil, Prod.mk.injEq, false_and, and_false, or_false, false_or, or_true, true_or, if_false, ty3, ty3k, ty3s, ty3t, ty3z, ty3o, ty4, ty4k, ty4s, ty4t, ty4z, ty4o, ty27, ty27k, ty27s, ty27t, ty27z, ty27o, ty28, ty28k, ty28s, ty28t, ty28z, ty28o, ty32, ty32k, ty32s, ty32t, ty32z, ty32o, ty65, ty65k, ty65s, ty65t, ty65z, ty65o, ty70, ty70k, ty70s, ty70t, ty70z, ty70o, ty105, ty105k, ty105s, ty105t, ty105z, ty105o, f0, f1, f2, H2, getCells, E2, Option.map_some, cz]
        | refine And.intro (a := drawOk _ _ = true) (by kernel_rfl) ?_
        | (refine id (α := drawOk _ _ = true) ?_; kernel_rfl))
      exact fin
  · have hbH := (H3 b hb3).trans hb
    have hbl : b < H.length := (List.getElem?_eq_some_iff.1 hbH).1
    obtain ⟨r, k78, n78, b78, rfl, hn⟩ := c78 ws pc (by omega)
    obtain ⟨N, hN⟩ : ∃ N, N = ABlock.cells (ver + 1) (putIn ((xs.drop off).take ws.length) n78 (I pc)) := ⟨_, rfl⟩
    have F2 : ((H ++ [ABlock.cells 0 [I pc]]).set b N)[2]? = some (.cells 0 (flowC p u l l.length (.ms b ver off ws.length 1))) := by
      rw [List.getElem?_set_ne (by omega), List.getElem?_append_left (by omega)]; exact H2
    have fin : K (.tup []) (((H ++ [ABlock.cells 0 [I pc]]).set b N).set 2 (ABlock.cells 0 (flowC p u l l.length (.ms b (ver + 1) 0 (ws.length + 1) 1)))) := by
      refine goal2 _ (.ms b (ver + 1) 0 (ws.length + 1) 1) n78 ?_ ?_ ?_ ?_
      · rw [List.getElem?_set_ne (by omega), List.getElem?_set_ne (by omega), List.getElem?_append_left (by omega)]; exact H0
      · rw [List.getElem?_set_ne (by omega), List.getElem?_set_ne (by omega), List.getElem?_append_left (by omega)]; exact H1
      · rw [List.getElem?_set_self (by simp; omega)]
      · refine .inr ⟨b, ver + 1, 0, (putIn ws n78 (pc : Int)).map intA, by rw [putIn_len], hb3, ?_, by rw [List.drop_zero, List.take_of_length_le (by simp)], by simp⟩
        rw [List.getElem?_set_ne (by omega), List.getElem?_set_self (by simp; omega), hN, hx1, putIn_map]
    have hb' : (ws.length + 1) * 8 ≤ 140737488355328 := by omega
    rcases he with rfl | ⟨rfl, rfl⟩
    all_goals
      simp only [Go.Proofs.Tryd.f59, Option.getD_some, List.append_eq, List.cons_append, List.nil_append]
      repeat' (first
        | refine If1.split (fun hb => ?_) (fun hb => ?_)
        | simp (config := { maxSteps := 1000000 }) only [W1_scope, W1_skip, W1_ret, W1_label, W1_exit, W1_seq, W1_cond, W1_block, W1_region, W1_draw, W1_loop, O1_nil, O1_n, O1_s, slotD_s, slotD_z, V1_s, U1_b, U1_u, If1_t, If1_f, If1_not, eqB_tt, eqB_tf, eqB_ft, eqB_ff, X1_eq, H1_f, H1_h, H1_c, how, B1_some, B1_none, B1_ite, D1_b, setT_t, setT_c, T1_n, T1_r, T1_x, K1_n, K1_r, K1_x, FinP_n, FinP_r, bindO_some, RetOk_lit, FinX_n, FinX_r, FinK_n, FinK_r, oneOrTup_1, RetX_lit, getCells, List.set_cons_zero, List.set_cons_succ, putAt, fillA, sizesOf, allTyped, List.all_cons, List.all_nil, Bool.and_self, Bool.true_and, Bool.and_true, Nat.reduceMul, Int.reduceLT, Int.reduceGT, Int.reduceGE, Int.cast_ofNat_Int, Int.reduceLE, Int.reduceToNat, Int.reduceAdd, Int.reduceNeg, Int.reduceEq, Int.reduceBNe, Int.reduceBEq, decide_false, zerosA, List.replicate_succ, List.replicate_zero, List.flatten_cons, List.flatten_nil, Option.isSome_some, dstOk, evRes, evRes1, evFree, evHeap, evA, upd_ne, upd_same, initF, updO_some, updO_none, kindOf, AV.storable, AV.cells, AV.one, Value.oneCell', mode, E_pol, pol, binA, unA, litInt, litBool, litStr, eqA, callee, evArgs, evParts, ne_eq, Nat.reduceEqDiff, Nat.reduceLT, not_false_eq_true, decide_true, if_true, reduceIte, List.take_zero, List.take_succ_cons, List.length_cons, List.length_nil, Nat.reduceAdd, Nat.reduceLeDiff, List.getElem?_cons_zero, List.getElem?_cons_succ, List.getD_cons_zero, List.getD_cons_succ, List.drop_zero, List.drop_succ_cons, List.map_cons, List.map_nil, List.cons_append, List.nil_append, List.append_nil, List.head?_cons, Int.toNat_natCast, Nat.zero_le, and_self, true_and, and_true, Bool.not_true, Bool.not_false, Option.map_some, true_implies, Bool.true_eq_false, Bool.false_eq_true, reduceCtorEq, false_implies, List.mem_cons, List.not_mem_nil, Prod.mk.injEq, false_and, and_false, or_false, false_or, or_true, true_or, if_false, ty3, ty3k, ty3s, ty3t, ty3z, ty3o, ty4, ty4k, ty4s, ty4t, ty4z, ty4o, ty27, ty27k, ty27s, ty27t, ty27z, ty27o, ty28, ty28k, ty28s, ty28t, ty28z, ty28o, ty32, ty32k, ty32s, ty32t, ty32z, ty32o, ty65, ty65k, ty65s, ty65t, ty65z, ty65o, ty70, ty70k, ty70s, ty70t, ty70z, ty70o, ty105, ty105k, ty105s, ty105t, ty105z, ty105o, f0, f1, f2, h0, e1, h2, hin, q1, q2, l1, l2, getCells, ← hX, ← hY, ← hH, Nat.mul_one, Nat.zero_add, Option.map_some]
        | refine And.intro (a := drawOk _ _ = true) (by kernel_rfl) ?_
        | (refine id (α := drawOk _ _ = true) ?_; kernel_rfl))
      repeat' (first
        | refine If1.split (fun hb => ?_) (fun hb => ?_)
        | refine C1.read (.cons (wait_rdb hbH hx1 hx2) (.cons (.closed rfl) .nil)) (by simp [AV.closedL, AV.closed, ints_closed]) k78 rfl ?_
        | refine ins_put (b := b) (ver := ver) (off := off) (n := ws.length) (i := n78) (xs := xs) (by omega) (by rw [List.getElem?_append_left hbl]; exact hbH) at_end hx2 hn hb' ?_
        | simp (config := { maxSteps := 1000000 }) only [W1_scope, W1_skip, W1_ret, W1_label, W1_exit, W1_seq, W1_cond, W1_block, W1_region, W1_draw, W1_loop, O1_nil, O1_n, O1_s, slotD_s, slotD_z, V1_s, U1_b, U1_u, If1_t, If1_f, If1_not, eqB_tt, eqB_tf, eqB_ft, eqB_ff, X1_eq, H1_f, H1_h, H1_c, how, B1_some, B1_none, B1_ite, D1_b, setT_t, setT_c, T1_n, T1_r, T1_x, K1_n, K1_r, K1_x, FinP_n, FinP_r, bindO_some, RetOk_lit, FinX_n, FinX_r, FinK_n, FinK_r, oneOrTup_1, RetX_lit, getCells, List.set_cons_zero, List.set_cons_succ, putAt, fillA, sizesOf, allTyped, List.all_cons, List.all_nil, Bool.and_self, Bool.true_and, Bool.and_true, Nat.reduceMul, Int.reduceLT, Int.reduceGT, Int.reduceGE, Int.cast_ofNat_Int, Int.reduceLE, Int.reduceToNat, Int.reduceAdd, Int.reduceNeg, Int.reduceEq, Int.reduceBNe, Int.reduceBEq, decide_false, zerosA, List.replicate_succ, List.replicate_zero, List.flatten_cons, List.flatten_nil, Option.isSome_some, dstOk, evRes, evRes1, evFree, evHeap, evA, upd_ne, upd_same, initF, updO_some, updO_none, kindOf, AV.storable, AV.cells, AV.one, Value.oneCell', mode, E_pol, pol, binA, unA, litInt, litBool, litStr, eqA, callee, evArgs, evParts, ne_eq, Nat.reduceEqDiff, Nat.reduceLT, not_false_eq_true, decide_true, if_true, reduceIte, List.take_zero, List.take_succ_cons, List.length_cons, List.length_nil, Nat.reduceAdd, Nat.reduceLeDiff, List.getElem?_cons_zero, List.getElem?_cons_succ, List.getD_cons_zero, List.getD_cons_succ, List.drop_zero, List.drop_succ_cons, List.map_cons, List.map_nil, List.cons_append, List.nil_append, List.append_nil, List.head?_cons, Int.toNat_natCast, Nat.zero_le, and_self, true_and, and_true, Bool.not_true, Bool.not_false, Option.map_some, true_implies, Bool.true_eq_false, Bool.false_eq_true, reduceCtorEq, false_implies, List.mem_cons, List.not_mem_nil, Prod.mk.injEq, false_and, and_false, or_false, false_or, or_true, true_or, if_false, ty3, ty3k, ty3s, ty3t, ty3z, ty3o, ty4, ty4k, ty4s, ty4t, ty4z, ty4o, ty27, ty27k, ty27s, ty27t, ty27z, ty27o, ty28, ty28k, ty28s, ty28t, ty28z, ty28o, ty32, ty32k, ty32s, ty32t, ty32z, ty32o, ty65, ty65k, ty65s, ty65t, ty65z, ty65o, ty70, ty70k, ty70s, ty70t, ty70z, ty70o, ty105, ty105k, ty105s, ty105t, ty105z, ty105o, f0, f1, f2, H2, getCells, F2, Option.map_some, cz, ← hN]
        | refine And.intro (a := drawOk _ _ = true) (by kernel_rfl) ?_
        | (refine id (α := drawOk _ _ = true) ?_; kernel_rfl))
      exact fin
end Go.Abs

