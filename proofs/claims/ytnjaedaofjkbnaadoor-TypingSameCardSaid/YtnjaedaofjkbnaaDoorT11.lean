/- A place that waits is visited. Conditions: none. -/
import Derived.Test.YtnjaedaofjkbnaaDoorT10
set_option maxRecDepth 100000
set_option linter.unusedVariables false
set_option linter.unusedSimpArgs false
namespace Go.Abs
open Go
theorem RdbL.eq {h : AHeap} {xs ys : List AV} (hy : RdbL h xs ys) (hc : AV.closedL xs = true) : xs = ys := by
  obtain ⟨N, hN⟩ := hy
  obtain ⟨M, hM⟩ := RdbL.closed (h := h) hc
  have a := hN (N + M) (by omega)
  have b := hM (N + M) (by omega)
  rw [a] at b
  injection b with b
  exact b.symm
theorem Rdb.mp {h : AHeap} {b ver off : Nat} {xs ys : List AV} (hb : h[b]? = some (.cells ver xs)) (hy : RdbL h (xs.drop off) ys) : Rdb h (.mp b ver off) (.rp ys) := by
  obtain ⟨N, hN⟩ := hy
  refine ⟨N + 1, fun n hn => ?_⟩
  cases n with
  | zero => omega
  | succ n => simp [rdv, AV.closed, getCells, hb, hN n (by omega)]
theorem Rdb.rp {h : AHeap} {xs ys : List AV} (hy : RdbL h xs ys) : Rdb h (.rp xs) (.rp ys) := by
  by_cases hc : AV.closedL xs = true
  · obtain rfl := hy.eq hc
    exact .closed (by simpa [AV.closed] using hc)
  · obtain ⟨N, hN⟩ := hy
    refine ⟨N + 1, fun n hn => ?_⟩
    cases n with
    | zero => omega
    | succ n => simp [rdv, AV.closed, hc, hN n (by omega)]
theorem Rdb.fn {h : AHeap} {f : FuncId} {xs ys : List AV} (hy : RdbL h xs ys) : Rdb h (.fn f xs) (.fn f ys) := by
  by_cases hc : AV.closedL xs = true
  · obtain rfl := hy.eq hc
    exact .closed (by simpa [AV.closed] using hc)
  · obtain ⟨N, hN⟩ := hy
    refine ⟨N + 1, fun n hn => ?_⟩
    cases n with
    | zero => omega
    | succ n => simp [rdv, AV.closed, hc, hN n (by omega)]
theorem NilOr.closed {e : AV} {s : List Int} (h : NilOr e s) : e.closed = true := by rcases h with rfl | ⟨rfl, _⟩ <;> simp [AV.closed, ints_closed]
theorem closedL_of {xs : List AV} (h : ∀ x ∈ xs, x.closed = true) : AV.closedL xs = true := by
  induction xs with
  | nil => rfl
  | cons x xs ih => simp [AV.closedL, h x (by simp), ih fun y hy => h y (by simp [hy])]
theorem Ents.closed {es : List AV} {ss : List (List Int)} (h : Ents es ss) : AV.closedL es = true := closedL_of fun x hx => by
  obtain ⟨i, hi⟩ := List.getElem?_of_mem hx
  have hlt : i < ss.length := by rw [← h.1]; exact (List.getElem?_eq_some_iff.1 hi).1
  exact (h.2 i x ss[i] hi (List.getElem?_eq_getElem hlt)).closed
theorem bools_closed (rs : List Bool) : AV.closedL (rs.map B) = true := closedL_of fun x hx => by
  obtain ⟨b, _, rfl⟩ := List.mem_map.1 hx
  rfl
/-- The flow, read whole. -/
theorem flow_rdb {h : AHeap} {p : Pr} {u : Int} {l : List I3} {es : List AV} {ss : List (List Int)} {rs : List Bool} {wv : AV} {ws : List Int} (hF : FlowH h p u l es ss rs wv ws) :
    ∃ cs tl, Rdb h (.mp 2 0 0) (.rp cs) ∧ cs.drop 5 = codeA l :: tl ∧ AV.closedL cs = true := by
  have hw : ∃ y, Rdb h wv y ∧ y.closed = true := by
    rcases hF.wait with ⟨rfl, _⟩ | ⟨b, ver, off, xs, rfl, _, hb, h1, h2⟩
    · exact ⟨_, .closed rfl, rfl⟩
    · exact ⟨_, wait_rdb hb h1 h2, by simpa [AV.closed] using ints_closed ws⟩
  obtain ⟨y, hy, hyc⟩ := hw
  have hel : es.length = l.length := hF.ents.1.trans hF.sl
  have he : Rdb h (.ms 0 0 0 l.length 1) (.ro l.length es) := Rdb.ms hF.h0 (by omega) (by
    rw [List.drop_zero, List.take_of_length_le (by omega)]
    exact RdbL.closed hF.ents.closed)
  have hr : Rdb h (.ms 1 0 0 l.length 1) (.ro l.length (rs.map B)) := Rdb.ms hF.h1 (by simp [hF.rl]) (by
    rw [List.drop_zero, List.take_of_length_le (by simp [hF.rl])]
    exact RdbL.closed (bools_closed rs))
  refine ⟨[.ro p.consts.length (recs Cn.cs p.consts), .ro p.vars.length (recs Vr.cs p.vars), .ro p.blocks.length (recs Bk.cs p.blocks), .ro p.units.length (recs Un.cs p.units), I u, codeA l, .ro l.length es, .ro l.length (rs.map B), y], [.ro l.length es, .ro l.length (rs.map B), y], ?_, rfl, ?_⟩
  · refine Rdb.mp hF.h2 ?_
    refine .cons (.closed (by simp [AV.closed, cn_closed])) (.cons (.closed (by simp [AV.closed, vr_closed])) (.cons (.closed (by simp [AV.closed, bk_closed])) (.cons (.closed (by simp [AV.closed, un_closed])) (.cons (.closed rfl) (.cons (.closed (by simp [AV.closed, i3_closed])) (.cons he (.cons hr (.cons hy .nil))))))))
  · simp [AV.closedL, AV.closed, cn_closed, vr_closed, bk_closed, un_closed, i3_closed, hF.ents.closed, bools_closed, hyc]
theorem FlowH.ext {h H : AHeap} {p : Pr} {u : Int} {l : List I3} {es : List AV} {ss : List (List Int)} {rs : List Bool} {wv : AV} {ws : List Int} (hF : FlowH h p u l es ss rs wv ws) (hx : ∀ (b : Nat) (bl : ABlock), h[b]? = some bl → H[b]? = some bl) : FlowH H p u l es ss rs wv ws := by
  refine ⟨hF.ents, hx _ _ hF.h0, hx _ _ hF.h1, hx _ _ hF.h2, ?_, hF.sl, hF.rl⟩
  rcases hF.wait with h1 | ⟨b, ver, off, xs, a1, a2, a3, a4⟩
  · exact .inl h1
  · exact .inr ⟨b, ver, off, xs, a1, a2, hx _ _ a3, a4⟩
theorem no_args : ((#[] : Array Operand).isEmpty = true) = True := eq_true rfl
theorem ext_app {h : AHeap} {x : ABlock} : ∀ (b : Nat) (bl : ABlock), h[b]? = some bl → (h ++ [x])[b]? = some bl := fun b bl hb => by
  rw [List.getElem?_append_left (List.getElem?_eq_some_iff.1 hb).1]; exact hb
theorem packZ_len (zs : List Int) : (packZ zs).length ≤ zs.length := by
  unfold packZ Lib.compact Lib.compactUpTo
  rw [List.length_map]
  exact Nat.le_trans (List.length_filter_le _ _) (by simp)
theorem behind_len {l : List I3} {pc : Nat} {i : I3} (hl : l.length ≤ 300) : (behindB l pc i).length ≤ 301 := by
  unfold behindB
  split
  · simp
  · refine Nat.le_trans (packZ_len _) ?_
    rw [sort_len]
    unfold rawB
    split
    · simp
    · split
      · simp
      · split
        · simp
        · split
          · rw [stepsB_len]; unfold manyB; omega
          · simp
set_option maxHeartbeats 4000000 in
theorem visit_W {K : AV → AHeap → Prop} {fr : AF} {h : AHeap} {p : Pr} {u : Int} {x : Un} {es : List AV} {ss : List (List Int)} {rs : List Bool} {wv : AV} {w0 : Int} {ws : List Int}
    (f0 : fr 0 = .mp 2 0 0) (hp : p.Fit) (hck : CheckOk p u x) (hF : FlowH h p u x.code es ss rs wv (w0 :: ws)) (hI : FlowInv p u x.code ss rs (w0 :: ws) none)
    (hErr : ∀ (pc e : Int) h', e ≠ 0 → K (.tup [I pc, I e]) h')
    (hOk : ∀ (pc : Int) h' es' ss' rs' wv' ws', FlowH h' p u x.code es' ss' rs' wv' ws' → FlowInv p u x.code ss' rs' ws' none → ws'.length + 2 * toDo rs' < (w0 :: ws).length + 2 * toDo rs → K (.tup [I pc, I 0]) h') :
    W1 E 60 114 (Go.Proofs.Tryd.f60.body.getD .skip) (FinK E Go.Proofs.Tryd.f60.results.toList K) .mk fr h := by
  obtain ⟨l, hlx⟩ : ∃ l, l = x.code := ⟨_, rfl⟩
  rw [← hlx] at hF hI hOk
  obtain ⟨hxf, hxi⟩ := hp.one hck.at'
  have hl : l.length ≤ 300 := by rw [hlx]; exact hxf.code
  obtain ⟨hent, h0, h1, h2, hwait, hsl, hrl⟩ := hF
  obtain ⟨hw1, hw2, hw3⟩ := hI.wait w0 (by simp)
  obtain ⟨pc, rfl⟩ : ∃ pc : Nat, w0 = pc := ⟨w0.toNat, by omega⟩
  have hpc : pc < l.length := by omega
  obtain ⟨i, hi⟩ : ∃ i, l[pc]? = some i := ⟨l[pc], by simp [hpc]⟩
  obtain ⟨s, hs⟩ : ∃ s, ss[pc]? = some s := ⟨ss[pc]'(by omega), by simp [show pc < ss.length by omega]⟩
  obtain ⟨e, he⟩ : ∃ e, es[pc]? = some e := ⟨es[pc]'(by rw [hent.1]; omega), by simp [show pc < es.length by rw [hent.1]; omega]⟩
  have hne := hent.2 pc e s he hs
  have hi6 := hxi i (by rw [← hlx]; exact List.mem_of_getElem? hi)
  obtain ⟨k35, hst⟩ := step_spec (u := u) hp hi6.1 (hI.small pc s hs)
  have k36 := d36 hl hi hi6.2.1
  have k35' := k35.wk (args' := [prA p, I u, i3A i, e]) (.cons (.refl _) (.cons (.refl _) (.cons (.refl _) (.cons hne.wk (.refl _))))) (.refl _)
  rcases hwait with ⟨_, hc⟩ | ⟨b, ver, off, xs, rfl, hb3, hb, hx1, hx2⟩
  · cases hc
  obtain ⟨rest, hrest⟩ : ∃ rest, xs.drop off = I pc :: rest := by
    cases hd : xs.drop off with
    | nil => rw [hd] at hx1; simp at hx1
    | cons y r =>
      rw [hd] at hx1
      simp at hx1
      exact ⟨r, by rw [hx1.1]⟩
  have hin0 : (0 : Int) < ((ws.length + 1 : Nat) : Int) := by omega
  have hsl1 : sliceLH (ws.length + 1) (ws.length + 1) (some (some (I 1))) none = some (1, ws.length + 1) := by simp [sliceLH]; omega
  obtain ⟨H1, hH1⟩ : ∃ H1, H1 = h.set 2 (.cells 0 (flowC p u l l.length (.ms b ver (off + 1) ws.length 1))) := ⟨_, rfl⟩
  have hlen : 3 ≤ h.length := by have := (List.getElem?_eq_some_iff.1 h2).1; omega
  have g0 : H1[0]? = some (.cells 0 es) := by rw [hH1, List.getElem?_set_ne (by omega)]; exact h0
  have g1 : H1[1]? = some (.cells 0 (rs.map B)) := by rw [hH1, List.getElem?_set_ne (by omega)]; exact h1
  have g2 : H1[2]? = some (.cells 0 (flowC p u l l.length (.ms b ver (off + 1) ws.length 1))) := by rw [hH1, List.getElem?_set_self (by omega)]
  have hin1 : 0 ≤ (pc : Int) ∧ (pc : Int) < (l.length : Int) := by omega
  have hax := I3.at hi
  have hae : es.drop pc = e :: es.drop (pc + 1) := by rw [List.drop_eq_getElem?_toList_append, he]; rfl
  have hw' : (xs.drop (off + 1)).take ws.length = ws.map intA := by
    rw [← List.drop_drop, hrest]
    rw [hrest] at hx1
    simpa using hx1
  have hF1 : FlowH H1 p u l es ss rs (.ms b ver (off + 1) ws.length 1) ws := ⟨hent, g0, g1, g2, .inr ⟨b, ver, off + 1, xs, rfl, hb3, by rw [hH1, List.getElem?_set_ne (by omega)]; exact hb, hw', by simp at hx2; omega⟩, hsl, hrl⟩
  obtain ⟨H2, hH2⟩ : ∃ H2, H2 = H1 ++ [ABlock.cells 0 [.fn 80 [.rp [.mp 2 0 0]]]] := ⟨_, rfl⟩
  have hF2 : FlowH H2 p u l es ss rs (.ms b ver (off + 1) ws.length 1) ws := by rw [hH2]; exact hF1.ext ext_app
  obtain ⟨cs, tl, hcs1, hcs2, hcs3⟩ := flow_rdb hF2
  obtain ⟨nx, hnx⟩ : ∃ nx, nx = behindB l pc i := ⟨_, rfl⟩
  have hnl : nx.length ≤ 301 := by rw [hnx]; exact behind_len hl
  rw [← hnx] at k36
  have k81 := c81 hcs2 hcs3 nx (by omega)
  have hat : H2[H1.length]? = some (.cells 0 [.fn 80 [.rp [.mp 2 0 0]]]) := by rw [hH2]; exact at_end
  have rd81 : RdbL H2 [intsA nx, .fn 82 [.mp H1.length 0 0]] [intsA nx, notThereA cs] := .cons (.closed (by simp [AV.closed, ints_closed])) (.cons (.fn (.cons (.mp hat (.cons (.fn (.cons (.rp (.cons hcs1 .nil)) .nil)) .nil)) .nil)) .nil)
  simp only [Go.Proofs.Tryd.f60, Option.getD_some, List.append_eq, List.cons_append, List.nil_append]
  repeat' (first
    | refine If1.split (fun hb => ?_) (fun hb => ?_)
    | refine C1.pure k35' (by simp [AV.closedL, AV.closed, cn_closed, vr_closed, bk_closed, un_closed, hne.closed]) ?_
    | refine C1.pure (k36) (by simp [AV.closedL, AV.closed, vr_closed, bk_closed, sg_closed, ints_closed, ex_closed, i3_closed, cn_closed, un_closed]) ?_
    | refine C1.read rd81 (by simp [AV.closedL, AV.closed, ints_closed, hcs3]) k81 rfl ?_
    | simp (config := { maxSteps := 1000000 }) only [W1_scope, W1_skip, W1_ret, W1_label, W1_exit, W1_seq, W1_cond, W1_block, W1_region, W1_draw, W1_loop, O1_nil, O1_n, O1_s, slotD_s, slotD_z, V1_s, U1_b, U1_u, If1_t, If1_f, If1_not, eqB_tt, eqB_tf, eqB_ft, eqB_ff, X1_eq, H1_f, H1_h, H1_c, how, B1_some, B1_none, B1_ite, D1_b, setT_t, setT_c, T1_n, T1_r, T1_x, K1_n, K1_r, K1_x, FinP_n, FinP_r, bindO_some, RetOk_lit, FinX_n, FinX_r, FinK_n, FinK_r, oneOrTup_1, RetX_lit, getCells, List.set_cons_zero, List.set_cons_succ, putAt, fillA, sizesOf, allTyped, List.all_cons, List.all_nil, Bool.and_self, Bool.true_and, Bool.and_true, Nat.reduceMul, Int.reduceLT, Int.reduceGT, Int.reduceGE, Int.cast_ofNat_Int, Int.reduceLE, Int.reduceToNat, Int.reduceAdd, Int.reduceNeg, Int.reduceEq, Int.reduceBNe, Int.reduceBEq, decide_false, zerosA, List.replicate_succ, List.replicate_zero, List.flatten_cons, List.flatten_nil, Option.isSome_some, dstOk, evRes, evRes1, evFree, evHeap, evA, upd_ne, upd_same, initF, updO_some, updO_none, kindOf, AV.storable, AV.cells, AV.one, Value.oneCell', mode, E_pol, pol, binA, unA, litInt, litBool, litStr, eqA, callee, evArgs, evParts, ne_eq, Nat.reduceEqDiff, Nat.reduceLT, not_false_eq_true, decide_true, if_true, reduceIte, List.take_zero, List.take_succ_cons, List.length_cons, List.length_nil, Nat.reduceAdd, Nat.reduceLeDiff, List.getElem?_cons_zero, List.getElem?_cons_succ, List.getD_cons_zero, List.getD_cons_succ, List.drop_zero, List.drop_succ_cons, List.map_cons, List.map_nil, List.cons_append, List.nil_append, List.append_nil, List.head?_cons, Int.toNat_natCast, Nat.zero_le, and_self, true_and, and_true, Bool.not_true, Bool.not_false, Option.map_some, true_implies, Bool.true_eq_false, Bool.false_eq_true, reduceCtorEq, false_implies, List.mem_cons, List.not_mem_nil, Prod.mk.injEq, false_and, and_false, or_false, false_or, or_true, true_or, if_false, ty3, ty3k, ty3s, ty3t, ty3z, ty3o, ty3b, ty4, ty4k, ty4s, ty4t, ty4z, ty4o, ty4b, ty22, ty22k, ty22s, ty22t, ty22z, ty22o, ty22b, ty23, ty23k, ty23s, ty23t, ty23z, ty23o, ty23b, ty24, ty24k, ty24s, ty24t, ty24z, ty24o, ty24b, ty25, ty25k, ty25s, ty25t, ty25z, ty25o, ty25b, ty27, ty27k, ty27s, ty27t, ty27z, ty27o, ty27b, ty28, ty28k, ty28s, ty28t, ty28z, ty28o, ty28b, ty32, ty32k, ty32s, ty32t, ty32z, ty32o, ty32b, ty65, ty65k, ty65s, ty65t, ty65z, ty65o, ty65b, ty66, ty66k, ty66s, ty66t, ty66z, ty66o, ty66b, ty70, ty70k, ty70s, ty70t, ty70z, ty70o, ty70b, ty76, ty76k, ty76s, ty76t, ty76z, ty76o, ty76b, ty84, ty84k, ty84s, ty84t, ty84z, ty84o, ty84b, ty103, ty103k, ty103s, ty103t, ty103z, ty103o, ty103b, ty105, ty105k, ty105s, ty105t, ty105z, ty105o, ty105b, f0, h2, hb, hrest, hin0, hsl1, ← hH1, g0, g2, hin1, hax, hae, getCells, Nat.mul_one, Nat.add_zero, Nat.zero_add, Nat.add_sub_cancel, Option.map_some, Option.map_none, at_end, set_end, ← hH2, no_args]
    | refine And.intro (a := drawOk _ _ = true) (by kernel_rfl) ?_
    | (refine id (α := drawOk _ _ = true) ?_; kernel_rfl))
  · exact hErr _ _ _ (by simpa using hb)
  · exact hErr _ _ _ (by decide)
  have hst0 : (stepF p u i s).2 = 0 := by simpa using ‹((stepF p u i s).2 != 0) = false›
  obtain ⟨st', hst'⟩ : ∃ st', st' = (stepF p u i s).1 := ⟨_, rfl⟩
  rw [← hst'] at hst ⊢
  have hall : ∀ t ∈ nx, 0 ≤ t ∧ t < l.length := by
    rw [List.any_eq_false] at hb
    intro t ht
    have := hb t ht
    simpa [inCode] using this
  refine L1_up nx.length (fun k fr h => fr 1 = .rp [.mp 2 0 0] ∧ fr 4 = I pc ∧ fr 5 = intsA st' ∧ fr 66 = intsA nx ∧ fr 67 = I nx.length ∧ fr 68 = I k ∧ ∃ es' ss' rs' wv' ws', FlowH h p u l es' ss' rs' wv' ws' ∧ FlowInv p u l ss' rs' ws' (some pc) ∧ rs'[pc]? = some true ∧ ss'[pc]? = some s ∧
    ws'.length + 2 * toDo rs' ≤ ws.length + 2 * toDo rs ∧ ∀ (j : Nat) t, j < k → nx[j]? = some t → rs'[t.toNat]? = some true ∧ ss'[t.toNat]? = some st') ?_ ?_ 0 (Nat.zero_le _) _ _ ?_
  · rintro k hk fr h ⟨f1, f4, f5, f66, f67, f68, es', ss', rs', wv', ws', hF, hI', hrp, hsp, hmu, hdone⟩
    obtain ⟨t, ht⟩ : ∃ t, nx[k]? = some t := ⟨nx[k], by simp [hk]⟩
    obtain ⟨ht0, ht1⟩ := hall t (List.mem_of_getElem? ht)
    obtain ⟨tn, rfl⟩ : ∃ tn : Nat, t = tn := ⟨t.toNat, by omega⟩
    have htl : tn < l.length := by omega
    have hlt : decide ((k : Int) < (nx.length : Int)) = true := by simp; omega
    have hin : 0 ≤ (k : Int) ∧ (k : Int) < (nx.length : Int) := by omega
    have hin2 : 0 ≤ (tn : Int) ∧ (tn : Int) < (l.length : Int) := by omega
    have hw : IntKind.i64.wrap ((k : Int) + 1) = ((k + 1 : Nat) : Int) := by rw [wrap64 (by unfold In64; omega)]; simp
    have hax := intC_at' ht
    obtain ⟨r, hr⟩ : ∃ r, rs'[tn]? = some r := ⟨rs'[tn]'(by rw [hF.rl]; omega), by simp [show tn < rs'.length by rw [hF.rl]; omega]⟩
    have har : (rs'.map B).drop tn = B r :: (rs'.map B).drop (tn + 1) := by rw [List.drop_eq_getElem?_toList_append, List.getElem?_map, hr]; rfl
    have g1 := hF.h1
    have g2 := hF.h2
    have g0 := hF.h0
    cases r with
    | false =>
      have hb1 : st'.length * 8 ≤ 140737488355328 ∧ st'.length ≤ 9223372036854775807 := by omega
      obtain ⟨N, hN⟩ : ∃ N, N = ABlock.cells 1 (recs intC st') := ⟨_, rfl⟩
      have key : ∀ (K0 : QK) (d : Dep K0), (∀ h' wv'' k', FlowH h' p u l (es'.set tn (intsA st')) (ss'.set tn st') (rs'.set tn true) wv'' (putIn ws' k' (tn : Int)) → K0 (.tup []) h' .W) → C1 E K0 d (h ++ [N]) 59 [.mp 2 0 0, I tn, .ms h.length 1 0 st'.length 1] := fun K0 d hK0 => by
        have hgc : getCells (h ++ [N]) h.length 1 = some (recs intC st') := by simp [getCells, hN]
        refine C1.bodyF (t := 2) (b := h.length) (ver := 1) (off := 0) (n := st'.length) (sz := 1) fn59 (by simp) rfl hgc (by rw [intC_len']; omega) ?_
        have hw0 : WaitH ((h ++ [N]).set h.length (.dead (1 + 1))) wv' ws' → True := fun _ => trivial
        refine wait_W (e := intsA st') (st := st') (pc := tn) (ws := ws') (rs := rs') (ss := ss') (es := es') (wv := wv') rfl rfl ?_ (.inl rfl) hl htl (hF.ext fun b bl hb => ?_) (by have := hI'.room; omega) fun h' wv'' k' hF' => hK0 h' wv'' k' hF'
        · show AV.ro st'.length (List.take (st'.length * 1) (List.drop 0 (recs intC st'))) = intsA st'
          rw [List.drop_zero, Nat.mul_one, take_ints]
        · have hbl := (List.getElem?_eq_some_iff.1 hb).1
          rw [List.getElem?_set_ne (by omega), List.getElem?_append_left hbl]
          exact hb
      repeat' (first
        | refine If1.split (fun hb => ?_) (fun hb => ?_)
        | simp (config := { maxSteps := 1000000 }) only [W1_scope, W1_skip, W1_ret, W1_label, W1_exit, W1_seq, W1_cond, W1_block, W1_region, W1_draw, W1_loop, O1_nil, O1_n, O1_s, slotD_s, slotD_z, V1_s, U1_b, U1_u, If1_t, If1_f, If1_not, eqB_tt, eqB_tf, eqB_ft, eqB_ff, X1_eq, H1_f, H1_h, H1_c, how, B1_some, B1_none, B1_ite, D1_b, setT_t, setT_c, T1_n, T1_r, T1_x, K1_n, K1_r, K1_x, FinP_n, FinP_r, bindO_some, RetOk_lit, FinX_n, FinX_r, FinK_n, FinK_r, oneOrTup_1, RetX_lit, getCells, List.set_cons_zero, List.set_cons_succ, putAt, fillA, sizesOf, allTyped, List.all_cons, List.all_nil, Bool.and_self, Bool.true_and, Bool.and_true, Nat.reduceMul, Int.reduceLT, Int.reduceGT, Int.reduceGE, Int.cast_ofNat_Int, Int.reduceLE, Int.reduceToNat, Int.reduceAdd, Int.reduceNeg, Int.reduceEq, Int.reduceBNe, Int.reduceBEq, decide_false, zerosA, List.replicate_succ, List.replicate_zero, List.flatten_cons, List.flatten_nil, Option.isSome_some, dstOk, evRes, evRes1, evFree, evHeap, evA, upd_ne, upd_same, initF, updO_some, updO_none, kindOf, AV.storable, AV.cells, AV.one, Value.oneCell', mode, E_pol, pol, binA, unA, litInt, litBool, litStr, eqA, callee, evArgs, evParts, ne_eq, Nat.reduceEqDiff, Nat.reduceLT, not_false_eq_true, decide_true, if_true, reduceIte, List.take_zero, List.take_succ_cons, List.length_cons, List.length_nil, Nat.reduceAdd, Nat.reduceLeDiff, List.getElem?_cons_zero, List.getElem?_cons_succ, List.getD_cons_zero, List.getD_cons_succ, List.drop_zero, List.drop_succ_cons, List.map_cons, List.map_nil, List.cons_append, List.nil_append, List.append_nil, List.head?_cons, Int.toNat_natCast, Nat.zero_le, and_self, true_and, and_true, Bool.not_true, Bool.not_false, Option.map_some, true_implies, Bool.true_eq_false, Bool.false_eq_true, reduceCtorEq, false_implies, List.mem_cons, List.not_mem_nil, Prod.mk.injEq, false_and, and_false, or_false, false_or, or_true, true_or, if_false, ty3, ty3k, ty3s, ty3t, ty3z, ty3o, ty3b, ty4, ty4k, ty4s, ty4t, ty4z, ty4o, ty4b, ty22, ty22k, ty22s, ty22t, ty22z, ty22o, ty22b, ty23, ty23k, ty23s, ty23t, ty23z, ty23o, ty23b, ty24, ty24k, ty24s, ty24t, ty24z, ty24o, ty24b, ty25, ty25k, ty25s, ty25t, ty25z, ty25o, ty25b, ty27, ty27k, ty27s, ty27t, ty27z, ty27o, ty27b, ty28, ty28k, ty28s, ty28t, ty28z, ty28o, ty28b, ty32, ty32k, ty32s, ty32t, ty32z, ty32o, ty32b, ty65, ty65k, ty65s, ty65t, ty65z, ty65o, ty65b, ty66, ty66k, ty66s, ty66t, ty66z, ty66o, ty66b, ty70, ty70k, ty70s, ty70t, ty70z, ty70o, ty70b, ty76, ty76k, ty76s, ty76t, ty76z, ty76o, ty76b, ty84, ty84k, ty84s, ty84t, ty84z, ty84o, ty84b, ty103, ty103k, ty103s, ty103t, ty103z, ty103o, ty103b, ty105, ty105k, ty105s, ty105t, ty105z, ty105o, ty105b, f1, f4, f5, f66, f67, f68, hlt, hin, hin2, hax, har, g2, g1, getCells, Nat.mul_one, Nat.add_zero, Nat.zero_add, at_end, set_end, cellsS, appendA, hb1, intC_len', List.take_nil, Nat.le_refl, Option.map_some, ← hN, hw]
        | refine And.intro (a := drawOk _ _ = true) (by kernel_rfl) ?_
        | (refine id (α := drawOk _ _ = true) ?_; kernel_rfl))
      refine key _ _ fun h' wv'' k' hF' => ?_
      repeat' (first
        | refine If1.split (fun hb => ?_) (fun hb => ?_)
        | simp (config := { maxSteps := 1000000 }) only [W1_scope, W1_skip, W1_ret, W1_label, W1_exit, W1_seq, W1_cond, W1_block, W1_region, W1_draw, W1_loop, O1_nil, O1_n, O1_s, slotD_s, slotD_z, V1_s, U1_b, U1_u, If1_t, If1_f, If1_not, eqB_tt, eqB_tf, eqB_ft, eqB_ff, X1_eq, H1_f, H1_h, H1_c, how, B1_some, B1_none, B1_ite, D1_b, setT_t, setT_c, T1_n, T1_r, T1_x, K1_n, K1_r, K1_x, FinP_n, FinP_r, bindO_some, RetOk_lit, FinX_n, FinX_r, FinK_n, FinK_r, oneOrTup_1, RetX_lit, getCells, List.set_cons_zero, List.set_cons_succ, putAt, fillA, sizesOf, allTyped, List.all_cons, List.all_nil, Bool.and_self, Bool.true_and, Bool.and_true, Nat.reduceMul, Int.reduceLT, Int.reduceGT, Int.reduceGE, Int.cast_ofNat_Int, Int.reduceLE, Int.reduceToNat, Int.reduceAdd, Int.reduceNeg, Int.reduceEq, Int.reduceBNe, Int.reduceBEq, decide_false, zerosA, List.replicate_succ, List.replicate_zero, List.flatten_cons, List.flatten_nil, Option.isSome_some, dstOk, evRes, evRes1, evFree, evHeap, evA, upd_ne, upd_same, initF, updO_some, updO_none, kindOf, AV.storable, AV.cells, AV.one, Value.oneCell', mode, E_pol, pol, binA, unA, litInt, litBool, litStr, eqA, callee, evArgs, evParts, ne_eq, Nat.reduceEqDiff, Nat.reduceLT, not_false_eq_true, decide_true, if_true, reduceIte, List.take_zero, List.take_succ_cons, List.length_cons, List.length_nil, Nat.reduceAdd, Nat.reduceLeDiff, List.getElem?_cons_zero, List.getElem?_cons_succ, List.getD_cons_zero, List.getD_cons_succ, List.drop_zero, List.drop_succ_cons, List.map_cons, List.map_nil, List.cons_append, List.nil_append, List.append_nil, List.head?_cons, Int.toNat_natCast, Nat.zero_le, and_self, true_and, and_true, Bool.not_true, Bool.not_false, Option.map_some, true_implies, Bool.true_eq_false, Bool.false_eq_true, reduceCtorEq, false_implies, List.mem_cons, List.not_mem_nil, Prod.mk.injEq, false_and, and_false, or_false, false_or, or_true, true_or, if_false, ty3, ty3k, ty3s, ty3t, ty3z, ty3o, ty3b, ty4, ty4k, ty4s, ty4t, ty4z, ty4o, ty4b, ty22, ty22k, ty22s, ty22t, ty22z, ty22o, ty22b, ty23, ty23k, ty23s, ty23t, ty23z, ty23o, ty23b, ty24, ty24k, ty24s, ty24t, ty24z, ty24o, ty24b, ty25, ty25k, ty25s, ty25t, ty25z, ty25o, ty25b, ty27, ty27k, ty27s, ty27t, ty27z, ty27o, ty27b, ty28, ty28k, ty28s, ty28t, ty28z, ty28o, ty28b, ty32, ty32k, ty32s, ty32t, ty32z, ty32o, ty32b, ty65, ty65k, ty65s, ty65t, ty65z, ty65o, ty65b, ty66, ty66k, ty66s, ty66t, ty66z, ty66o, ty66b, ty70, ty70k, ty70s, ty70t, ty70z, ty70o, ty70b, ty76, ty76k, ty76s, ty76t, ty76z, ty76o, ty76b, ty84, ty84k, ty84s, ty84t, ty84z, ty84o, ty84b, ty103, ty103k, ty103s, ty103t, ty103z, ty103o, ty103b, ty105, ty105k, ty105s, ty105t, ty105z, ty105o, ty105b, f1, f4, f5, f66, f67, f68, hw]
        | refine And.intro (a := drawOk _ _ = true) (by kernel_rfl) ?_
        | (refine id (α := drawOk _ _ = true) ?_; kernel_rfl))
      have hpt : pc ≠ tn := by rintro rfl; rw [hrp] at hr; cases hr
      have hput := hI'.put (k := k') hr htl hst
      have htd := toDo_set hr
      have hlr : tn < rs'.length := by rw [hF.rl]; exact htl
      have hls : tn < ss'.length := by rw [hF.sl]; exact htl
      refine ⟨es'.set tn (intsA st'), ss'.set tn st', rs'.set tn true, wv'', putIn ws' k' (tn : Int), hF', hput, ?_, ?_, ?_, ?_⟩
      · rw [List.getElem?_set_ne (Ne.symm hpt)]; exact hrp
      · rw [List.getElem?_set_ne (Ne.symm hpt)]; exact hsp
      · rw [putIn_len]; omega
      · intro j t hj hjt
        by_cases hjn : t.toNat = tn
        · rw [hjn, List.getElem?_set_self hlr, List.getElem?_set_self hls]; exact ⟨rfl, rfl⟩
        · rcases Nat.lt_succ_iff_lt_or_eq.1 hj with hj' | rfl
          · rw [List.getElem?_set_ne (Ne.symm hjn), List.getElem?_set_ne (Ne.symm hjn)]; exact hdone j t hj' hjt
          · rw [ht] at hjt; injection hjt with hjt; subst hjt; exact absurd rfl hjn
    | true =>
      obtain ⟨st0, hst0⟩ : ∃ st0, ss'[tn]? = some st0 := ⟨ss'[tn]'(by rw [hF.sl]; omega), by simp [show tn < ss'.length by rw [hF.sl]; omega]⟩
      obtain ⟨e0, he0⟩ : ∃ e0, es'[tn]? = some e0 := ⟨es'[tn]'(by rw [hF.ents.1, hF.sl]; omega), by simp [show tn < es'.length by rw [hF.ents.1, hF.sl]; omega]⟩
      have hne0 := hF.ents.2 tn e0 st0 he0 hst0
      have hs0 := hI'.small tn st0 hst0
      have k83 := (c83 st0 st' (by omega) (by omega)).wk (args' := [e0, intsA st']) (.cons hne0.wk (.refl _)) (.refl _)
      have hae0 : es'.drop tn = e0 :: es'.drop (tn + 1) := by rw [List.drop_eq_getElem?_toList_append, he0]; rfl
      rcases hne0 with rfl | ⟨rfl, hne1⟩
      all_goals
        repeat' (first
          | refine If1.split (fun hb => ?_) (fun hb => ?_)
          | refine C1.pure (k83) (by simp [AV.closedL, AV.closed, vr_closed, bk_closed, sg_closed, ints_closed, ex_closed, i3_closed, cn_closed, un_closed]) ?_
          | simp (config := { maxSteps := 1000000 }) only [W1_scope, W1_skip, W1_ret, W1_label, W1_exit, W1_seq, W1_cond, W1_block, W1_region, W1_draw, W1_loop, O1_nil, O1_n, O1_s, slotD_s, slotD_z, V1_s, U1_b, U1_u, If1_t, If1_f, If1_not, eqB_tt, eqB_tf, eqB_ft, eqB_ff, X1_eq, H1_f, H1_h, H1_c, how, B1_some, B1_none, B1_ite, D1_b, setT_t, setT_c, T1_n, T1_r, T1_x, K1_n, K1_r, K1_x, FinP_n, FinP_r, bindO_some, RetOk_lit, FinX_n, FinX_r, FinK_n, FinK_r, oneOrTup_1, RetX_lit, getCells, List.set_cons_zero, List.set_cons_succ, putAt, fillA, sizesOf, allTyped, List.all_cons, List.all_nil, Bool.and_self, Bool.true_and, Bool.and_true, Nat.reduceMul, Int.reduceLT, Int.reduceGT, Int.reduceGE, Int.cast_ofNat_Int, Int.reduceLE, Int.reduceToNat, Int.reduceAdd, Int.reduceNeg, Int.reduceEq, Int.reduceBNe, Int.reduceBEq, decide_false, zerosA, List.replicate_succ, List.replicate_zero, List.flatten_cons, List.flatten_nil, Option.isSome_some, dstOk, evRes, evRes1, evFree, evHeap, evA, upd_ne, upd_same, initF, updO_some, updO_none, kindOf, AV.storable, AV.cells, AV.one, Value.oneCell', mode, E_pol, pol, binA, unA, litInt, litBool, litStr, eqA, callee, evArgs, evParts, ne_eq, Nat.reduceEqDiff, Nat.reduceLT, not_false_eq_true, decide_true, if_true, reduceIte, List.take_zero, List.take_succ_cons, List.length_cons, List.length_nil, Nat.reduceAdd, Nat.reduceLeDiff, List.getElem?_cons_zero, List.getElem?_cons_succ, List.getD_cons_zero, List.getD_cons_succ, List.drop_zero, List.drop_succ_cons, List.map_cons, List.map_nil, List.cons_append, List.nil_append, List.append_nil, List.head?_cons, Int.toNat_natCast, Nat.zero_le, and_self, true_and, and_true, Bool.not_true, Bool.not_false, Option.map_some, true_implies, Bool.true_eq_false, Bool.false_eq_true, reduceCtorEq, false_implies, List.mem_cons, List.not_mem_nil, Prod.mk.injEq, false_and, and_false, or_false, false_or, or_true, true_or, if_false, ty3, ty3k, ty3s, ty3t, ty3z, ty3o, ty3b, ty4, ty4k, ty4s, ty4t, ty4z, ty4o, ty4b, ty22, ty22k, ty22s, ty22t, ty22z, ty22o, ty22b, ty23, ty23k, ty23s, ty23t, ty23z, ty23o, ty23b, ty24, ty24k, ty24s, ty24t, ty24z, ty24o, ty24b, ty25, ty25k, ty25s, ty25t, ty25z, ty25o, ty25b, ty27, ty27k, ty27s, ty27t, ty27z, ty27o, ty27b, ty28, ty28k, ty28s, ty28t, ty28z, ty28o, ty28b, ty32, ty32k, ty32s, ty32t, ty32z, ty32o, ty32b, ty65, ty65k, ty65s, ty65t, ty65z, ty65o, ty65b, ty66, ty66k, ty66s, ty66t, ty66z, ty66o, ty66b, ty70, ty70k, ty70s, ty70t, ty70z, ty70o, ty70b, ty76, ty76k, ty76s, ty76t, ty76z, ty76o, ty76b, ty84, ty84k, ty84s, ty84t, ty84z, ty84o, ty84b, ty103, ty103k, ty103s, ty103t, ty103z, ty103o, ty103b, ty105, ty105k, ty105s, ty105t, ty105z, ty105o, ty105b, f1, f4, f5, f66, f67, f68, hlt, hin, hin2, hax, har, hae0, g0, g2, g1, getCells, Nat.mul_one, Nat.add_zero, Nat.zero_add, hw, Option.map_some]
          | refine And.intro (a := drawOk _ _ = true) (by kernel_rfl) ?_
          | (refine id (α := drawOk _ _ = true) ?_; kernel_rfl))
        all_goals first
          | exact hErr _ _ _ (by decide)
          | (have heq := of_decide_eq_true hb
             refine ⟨es', ss', rs', wv', ws', hF, hI', hrp, hsp, hmu, fun j t hj hjt => ?_⟩
             rcases Nat.lt_succ_iff_lt_or_eq.1 hj with hj' | rfl
             · exact hdone j t hj' hjt
             · rw [ht] at hjt
               injection hjt with hjt
               subst hjt
               subst heq
               exact ⟨hr, hst0⟩)
  · rintro fr h ⟨f1, f4, f5, f66, f67, f68, es', ss', rs', wv', ws', hF, hI', hrp, hsp, hmu, hdone⟩
    have hlt : decide ((nx.length : Int) < (nx.length : Int)) = false := by simp
    repeat' (first
      | refine If1.split (fun hb => ?_) (fun hb => ?_)
      | simp (config := { maxSteps := 1000000 }) only [W1_scope, W1_skip, W1_ret, W1_label, W1_exit, W1_seq, W1_cond, W1_block, W1_region, W1_draw, W1_loop, O1_nil, O1_n, O1_s, slotD_s, slotD_z, V1_s, U1_b, U1_u, If1_t, If1_f, If1_not, eqB_tt, eqB_tf, eqB_ft, eqB_ff, X1_eq, H1_f, H1_h, H1_c, how, B1_some, B1_none, B1_ite, D1_b, setT_t, setT_c, T1_n, T1_r, T1_x, K1_n, K1_r, K1_x, FinP_n, FinP_r, bindO_some, RetOk_lit, FinX_n, FinX_r, FinK_n, FinK_r, oneOrTup_1, RetX_lit, getCells, List.set_cons_zero, List.set_cons_succ, putAt, fillA, sizesOf, allTyped, List.all_cons, List.all_nil, Bool.and_self, Bool.true_and, Bool.and_true, Nat.reduceMul, Int.reduceLT, Int.reduceGT, Int.reduceGE, Int.cast_ofNat_Int, Int.reduceLE, Int.reduceToNat, Int.reduceAdd, Int.reduceNeg, Int.reduceEq, Int.reduceBNe, Int.reduceBEq, decide_false, zerosA, List.replicate_succ, List.replicate_zero, List.flatten_cons, List.flatten_nil, Option.isSome_some, dstOk, evRes, evRes1, evFree, evHeap, evA, upd_ne, upd_same, initF, updO_some, updO_none, kindOf, AV.storable, AV.cells, AV.one, Value.oneCell', mode, E_pol, pol, binA, unA, litInt, litBool, litStr, eqA, callee, evArgs, evParts, ne_eq, Nat.reduceEqDiff, Nat.reduceLT, not_false_eq_true, decide_true, if_true, reduceIte, List.take_zero, List.take_succ_cons, List.length_cons, List.length_nil, Nat.reduceAdd, Nat.reduceLeDiff, List.getElem?_cons_zero, List.getElem?_cons_succ, List.getD_cons_zero, List.getD_cons_succ, List.drop_zero, List.drop_succ_cons, List.map_cons, List.map_nil, List.cons_append, List.nil_append, List.append_nil, List.head?_cons, Int.toNat_natCast, Nat.zero_le, and_self, true_and, and_true, Bool.not_true, Bool.not_false, Option.map_some, true_implies, Bool.true_eq_false, Bool.false_eq_true, reduceCtorEq, false_implies, List.mem_cons, List.not_mem_nil, Prod.mk.injEq, false_and, and_false, or_false, false_or, or_true, true_or, if_false, ty3, ty3k, ty3s, ty3t, ty3z, ty3o, ty3b, ty4, ty4k, ty4s, ty4t, ty4z, ty4o, ty4b, ty22, ty22k, ty22s, ty22t, ty22z, ty22o, ty22b, ty23, ty23k, ty23s, ty23t, ty23z, ty23o, ty23b, ty24, ty24k, ty24s, ty24t, ty24z, ty24o, ty24b, ty25, ty25k, ty25s, ty25t, ty25z, ty25o, ty25b, ty27, ty27k, ty27s, ty27t, ty27z, ty27o, ty27b, ty28, ty28k, ty28s, ty28t, ty28z, ty28o, ty28b, ty32, ty32k, ty32s, ty32t, ty32z, ty32o, ty32b, ty65, ty65k, ty65s, ty65t, ty65z, ty65o, ty65b, ty66, ty66k, ty66s, ty66t, ty66z, ty66o, ty66b, ty70, ty70k, ty70s, ty70t, ty70z, ty70o, ty70b, ty76, ty76k, ty76s, ty76t, ty76z, ty76o, ty76b, ty84, ty84k, ty84s, ty84t, ty84z, ty84o, ty84b, ty103, ty103k, ty103s, ty103t, ty103z, ty103o, ty103b, ty105, ty105k, ty105s, ty105t, ty105z, ty105o, ty105b, f1, f4, f5, f66, f67, f68, hlt]
      | refine And.intro (a := drawOk _ _ = true) (by kernel_rfl) ?_
      | (refine id (α := drawOk _ _ = true) ?_; kernel_rfl))
    refine hOk pc h es' ss' rs' wv' ws' hF ⟨hI'.small, hI'.wait, fun j hj hn _ => ?_, hI'.room⟩ (by simp only [List.length_cons]; omega)
    by_cases hjp : j = pc
    · subst hjp
      refine ⟨i, s, hi, hsp, hst0, fun t ht => ?_⟩
      rw [← hnx] at ht
      obtain ⟨k, hk⟩ := List.getElem?_of_mem ht
      have h1 := hdone k t (List.getElem?_eq_some_iff.1 hk).1 hk
      have h2 := hall t ht
      exact ⟨h2.1, h2.2, h1.1, by rw [h1.2, hst']⟩
    · exact hI'.good j hj hn (by simpa using hjp)
  · repeat' (first
      | refine If1.split (fun hb => ?_) (fun hb => ?_)
      | simp (config := { maxSteps := 1000000 }) only [W1_scope, W1_skip, W1_ret, W1_label, W1_exit, W1_seq, W1_cond, W1_block, W1_region, W1_draw, W1_loop, O1_nil, O1_n, O1_s, slotD_s, slotD_z, V1_s, U1_b, U1_u, If1_t, If1_f, If1_not, eqB_tt, eqB_tf, eqB_ft, eqB_ff, X1_eq, H1_f, H1_h, H1_c, how, B1_some, B1_none, B1_ite, D1_b, setT_t, setT_c, T1_n, T1_r, T1_x, K1_n, K1_r, K1_x, FinP_n, FinP_r, bindO_some, RetOk_lit, FinX_n, FinX_r, FinK_n, FinK_r, oneOrTup_1, RetX_lit, getCells, List.set_cons_zero, List.set_cons_succ, putAt, fillA, sizesOf, allTyped, List.all_cons, List.all_nil, Bool.and_self, Bool.true_and, Bool.and_true, Nat.reduceMul, Int.reduceLT, Int.reduceGT, Int.reduceGE, Int.cast_ofNat_Int, Int.reduceLE, Int.reduceToNat, Int.reduceAdd, Int.reduceNeg, Int.reduceEq, Int.reduceBNe, Int.reduceBEq, decide_false, zerosA, List.replicate_succ, List.replicate_zero, List.flatten_cons, List.flatten_nil, Option.isSome_some, dstOk, evRes, evRes1, evFree, evHeap, evA, upd_ne, upd_same, initF, updO_some, updO_none, kindOf, AV.storable, AV.cells, AV.one, Value.oneCell', mode, E_pol, pol, binA, unA, litInt, litBool, litStr, eqA, callee, evArgs, evParts, ne_eq, Nat.reduceEqDiff, Nat.reduceLT, not_false_eq_true, decide_true, if_true, reduceIte, List.take_zero, List.take_succ_cons, List.length_cons, List.length_nil, Nat.reduceAdd, Nat.reduceLeDiff, List.getElem?_cons_zero, List.getElem?_cons_succ, List.getD_cons_zero, List.getD_cons_succ, List.drop_zero, List.drop_succ_cons, List.map_cons, List.map_nil, List.cons_append, List.nil_append, List.append_nil, List.head?_cons, Int.toNat_natCast, Nat.zero_le, and_self, true_and, and_true, Bool.not_true, Bool.not_false, Option.map_some, true_implies, Bool.true_eq_false, Bool.false_eq_true, reduceCtorEq, false_implies, List.mem_cons, List.not_mem_nil, Prod.mk.injEq, false_and, and_false, or_false, false_or, or_true, true_or, if_false, ty3, ty3k, ty3s, ty3t, ty3z, ty3o, ty3b, ty4, ty4k, ty4s, ty4t, ty4z, ty4o, ty4b, ty22, ty22k, ty22s, ty22t, ty22z, ty22o, ty22b, ty23, ty23k, ty23s, ty23t, ty23z, ty23o, ty23b, ty24, ty24k, ty24s, ty24t, ty24z, ty24o, ty24b, ty25, ty25k, ty25s, ty25t, ty25z, ty25o, ty25b, ty27, ty27k, ty27s, ty27t, ty27z, ty27o, ty27b, ty28, ty28k, ty28s, ty28t, ty28z, ty28o, ty28b, ty32, ty32k, ty32s, ty32t, ty32z, ty32o, ty32b, ty65, ty65k, ty65s, ty65t, ty65z, ty65o, ty65b, ty66, ty66k, ty66s, ty66t, ty66z, ty66o, ty66b, ty70, ty70k, ty70s, ty70t, ty70z, ty70o, ty70b, ty76, ty76k, ty76s, ty76t, ty76z, ty76o, ty76b, ty84, ty84k, ty84s, ty84t, ty84z, ty84o, ty84b, ty103, ty103k, ty103s, ty103t, ty103z, ty103o, ty103b, ty105, ty105k, ty105s, ty105t, ty105z, ty105o, ty105b, cz]
      | refine And.intro (a := drawOk _ _ = true) (by kernel_rfl) ?_
      | (refine id (α := drawOk _ _ = true) ?_; kernel_rfl))
    refine ⟨es, ss, rs, _, ws, hF2, ⟨hI.small, fun w hw => hI.wait w (by simp [hw]), fun j hj hn hb => hI.good j hj (by simp at hb ⊢; exact ⟨by omega, hn⟩) (by simp), by have := hI.room; simp at this; omega⟩, by simpa using hw3, hs, Nat.le_refl _, fun j t hj => by omega⟩
end Go.Abs

