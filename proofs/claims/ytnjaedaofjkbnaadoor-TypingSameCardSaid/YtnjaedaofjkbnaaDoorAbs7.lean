/- Whatever the tape says: regions in any order, and all code. Conditions: the tables of types and functions fit the program (EnvOk). -/
import Derived.Test.YtnjaedaofjkbnaaDoorAbs6
import Derived.Scope
set_option linter.unusedVariables false
set_option linter.unusedSimpArgs false
namespace Go.Abs
open Go Go.RowKit

section
variable {P : Program} {E : Env}

theorem ops_seq {N : Nat} {all : Array Oper} : ∀ (os : List Oper) (i : Nat) (fr : AF) (h : AHeap) (cs : List Cls) (fr' : AF) (h' : AHeap), OpsS P E N all os fr h cs fr' h' → (∀ k : Nat, os[k]? = all[i + k]?) → ∀ (s : St) (a : Act), R E s h → FR N s fr a →
    ∀ Q : Exit → Act → World → Prop, (∀ s' a', Step s s' → R E s' h' → FR N s' fr' a' → Q .normal a' s'.w) → wpOps P all Q (List.range' i os.length) a s.w
  | [], i, fr, h, cs, fr', h', ho, hk, s, a, hR, hF, Q, hQ => by
    simp only [OpsS] at ho
    obtain ⟨rfl, rfl, rfl⟩ := ho
    exact hQ s a (Step.refl s) hR hF
  | o :: os, i, fr, h, cs, fr', h', ho, hk, s, a, hR, hF, Q, hQ => by
    simp only [OpsS] at ho
    obtain ⟨v, h1, c, cs', rfl, hd, hcase, hrest⟩ := ho
    have h0 : all[i]? = some o := by simpa using (hk 0).symm
    have hk' : ∀ k : Nat, os[k]? = all[i + 1 + k]? := fun k => by have := hk (k + 1); simpa [Nat.add_assoc, Nat.add_comm 1 k] using this
    simp only [List.length_cons, List.range'_succ, wpOps, h0]
    rcases hcase with ⟨hw, hop⟩ | ⟨hw, rfl, rfl, rfl⟩
    · rw [wanted_eq (s := s) (N := N) (fun t _ => hF.val t) hw]
      simp only [if_true]
      refine .inl (hop.2 s a h h1 (.inr ⟨rfl, rfl⟩) hR (fun x _ y hy => hF.eval hR x y hy) _ _ fun u s1 hst hR1 hv => ?_)
      exact ops_seq os (i + 1) _ h1 cs' fr' h' hrest hk' s1 _ hR1 ((hF.mono hst.ext).put hd hv) Q fun s2 a2 hst2 hR2 hF2 => hQ s2 a2 (hst.trans hst2) hR2 hF2
    · rw [wanted_eq (s := s) (N := N) (fun t _ => hF.val t) hw]
      simp only [Bool.false_eq_true, if_false]
      exact ops_seq os (i + 1) _ _ cs' fr' h' hrest hk' s _ hR (hF.put hd (by simp [AV.undef])) Q hQ

/-! ### Any order -/
theorem bef_fold (acc : List Nat) (i : Nat) : ∀ (es : List Edge) (s : Nat), (es.foldl (fun s e => if Region.binds .any e then s ||| (2 ^ e.on ||| acc.getD e.on 0) else s) s).testBit i = true →
    s.testBit i = true ∨ ∃ e ∈ es, Region.binds .any e = true ∧ (i = e.on ∨ (acc.getD e.on 0).testBit i = true)
  | [], s, h => .inl h
  | e :: es, s, h => by
    simp only [List.foldl_cons] at h
    rcases bef_fold acc i es _ h with h | ⟨e', he, hb, hi⟩
    · split at h
      · rename_i hb
        simp only [Nat.testBit_or, Nat.testBit_two_pow, Bool.or_eq_true, decide_eq_true_eq] at h
        rcases h with h | h | h
        · exact .inl h
        · exact .inr ⟨e, by simp, hb, .inl h.symm⟩
        · exact .inr ⟨e, by simp, hb, .inr h⟩
      · exact .inl h
    · exact .inr ⟨e', by simp [he], hb, hi⟩

def BefOk (all : List Oper) (acc : List Nat) : Prop := ∀ j i, (acc.getD j 0).testBit i = true → ∃ o e, all[j]? = some o ∧ e ∈ o.after ∧ Region.binds .any e = true ∧ (i = e.on ∨ (acc.getD e.on 0).testBit i = true)

theorem befAux_ok (all : List Oper) : ∀ (os : List Oper) (acc : List Nat), acc.length + os.length = all.length → (∀ k : Nat, os[k]? = all[acc.length + k]?) → BefOk all acc → BefOk all (befAux os acc)
  | [], acc, _, _, h => h
  | o :: os, acc, hl, hk, h => by
    simp only [befAux]
    refine befAux_ok all os _ (by simp at hl ⊢; omega) (fun k => by have := hk (k + 1); simp only [List.getElem?_cons_succ] at this; rw [this]; simp; congr 1; omega) ?_
    intro j i hj
    have hmono : ∀ k i, (acc.getD k 0).testBit i = true → ((acc ++ [befStep acc o]).getD k 0).testBit i = true := fun k i hk => by
      have hlt : k < acc.length := by
        rcases Nat.lt_or_ge k acc.length with h | h
        · exact h
        · simp [List.getElem?_eq_none h] at hk
      simpa [List.getD_eq_getElem?_getD, List.getElem?_append_left hlt] using hk
    rcases Nat.lt_trichotomy j acc.length with hlt | heq | hgt
    · have hj' : (acc.getD j 0).testBit i = true := by simpa [List.getD_eq_getElem?_getD, List.getElem?_append_left hlt] using hj
      obtain ⟨o', e, h1, h2, h3, h4⟩ := h j i hj'
      exact ⟨o', e, h1, h2, h3, h4.imp id (hmono _ _)⟩
    · subst heq
      simp at hj
      have h0 := hk 0
      simp at h0
      rcases bef_fold acc i o.after.toList 0 hj with h1 | ⟨e, he, hb, hi⟩
      · simp at h1
      · exact ⟨o, e, h0.symm, by simpa using he, hb, hi.imp id (hmono _ _)⟩
    · simp [List.getElem?_eq_none (show (acc ++ [befStep acc o]).length ≤ j by simp; omega)] at hj

theorem beforeL_ok (all : List Oper) : BefOk all (beforeL all) := befAux_ok all all [] (by simp) (by simp) (fun j i h => by simp at h)

/-- The listing, by places. -/
theorem ops_places {N : Nat} {all : Array Oper} : ∀ (os : List Oper) (fr : AF) (h : AHeap) (cs : List Cls) (fr' : AF) (h' : AHeap), OpsS P E N all os fr h cs fr' h' →
    ∃ (F : Nat → AF) (H : Nat → AHeap) (v : Nat → AV) (c : Nat → Cls), F 0 = fr ∧ H 0 = h ∧ F os.length = fr' ∧ H os.length = h' ∧ ∀ k o, os[k]? = some o → cs.getD k .F = c k ∧ dstOk N o = true ∧ F (k + 1) = updO (F k) o.dst (v k) ∧
      ((wantedA all o (F k) = some true ∧ OpS P E (F k) (H k) o (v k) (H (k + 1)) (c k)) ∨ (wantedA all o (F k) = some false ∧ v k = .undef ∧ H (k + 1) = H k ∧ c k = .F))
  | [], fr, h, cs, fr', h', ho => by
    simp only [OpsS] at ho
    obtain ⟨rfl, rfl, rfl⟩ := ho
    exact ⟨fun _ => fr', fun _ => h', fun _ => .undef, fun _ => .F, rfl, rfl, rfl, rfl, fun k o hk => by simp at hk⟩
  | o :: os, fr, h, cs, fr', h', ho => by
    simp only [OpsS] at ho
    obtain ⟨v, h1, c, cs', rfl, hd, hcase, hrest⟩ := ho
    obtain ⟨F, H, vv, cc, e1, e2, e3, e4, hall⟩ := ops_places os _ h1 cs' fr' h' hrest
    refine ⟨fun k => match k with | 0 => fr | k + 1 => F k, fun k => match k with | 0 => h | k + 1 => H k, fun k => match k with | 0 => v | k + 1 => vv k, fun k => match k with | 0 => c | k + 1 => cc k, rfl, rfl, e3, e4, fun k o' hk => ?_⟩
    cases k with
    | zero =>
      simp at hk
      subst hk
      refine ⟨rfl, hd, by simpa using e1, ?_⟩
      simp only [e2]
      exact hcase
    | succ k =>
      have := hall k o' (by simpa using hk)
      simpa using this

theorem filter_lt {l : List Nat} {p q : Nat → Bool} (h : ∀ x, q x = true → p x = true) {j : Nat} (hj : j ∈ l) (h1 : p j = true) (h2 : q j = false) : (l.filter q).length < (l.filter p).length := by
  induction l with
  | nil => cases hj
  | cons x l ih =>
    have hle : (l.filter q).length ≤ (l.filter p).length := by
      clear ih hj
      induction l with
      | nil => simp
      | cons y l ih =>
        simp only [List.filter_cons]
        cases hq : q y
        · cases hpy : p y <;> simp <;> omega
        · simp [h y hq]; omega
    rcases List.mem_cons.1 hj with rfl | hj
    · simp only [List.filter_cons, h1, h2, if_true, Bool.false_eq_true, if_false, List.length_cons]
      omega
    · have := ih hj
      simp only [List.filter_cons]
      cases hq : q x
      · cases hpx : p x <;> simp <;> omega
      · simp [h x hq]; omega

section
variable {N : Nat} {all : Array Oper} {F : Nat → AF} {H : Nat → AHeap} {v : Nat → AV} {c : Nat → Cls}

/-- What is known of each place. -/
def Places (P : Program) (E : Env) (N : Nat) (all : Array Oper) (F : Nat → AF) (H : Nat → AHeap) (v : Nat → AV) (c : Nat → Cls) : Prop :=
  ∀ k o, all[k]? = some o → dstOk N o = true ∧ F (k + 1) = updO (F k) o.dst (v k) ∧
      ((wantedA all o (F k) = some true ∧ OpS P E (F k) (H k) o (v k) (H (k + 1)) (c k)) ∨ (wantedA all o (F k) = some false ∧ v k = .undef ∧ H (k + 1) = H k ∧ c k = .F))

/-- What is asked of the order. -/
structure Ordered (all : Array Oper) (c : Nat → Cls) (b : List Nat) (A : Nat → Prop) : Prop where
  bef : BefOk all.toList b
  low : ∀ (i : Nat) (o : Oper), all[i]? = some o → ∀ e ∈ o.after, Region.binds .any e = true → e.on < i
  dst : ∀ (i j : Nat) (oi oj : Oper) (d : Nat), all[i]? = some oi → all[j]? = some oj → i ≠ j → oi.dst = some d → oj.dst ≠ some d
  look : ∀ (i j : Nat) (oi oj : Oper) (d : Nat), all[i]? = some oi → all[j]? = some oj → i ≠ j → oi.dst = some d → d ∈ oj.looksAt all → (i < j → (b.getD j 0).testBit i = true) ∧ (j < i → (b.getD i 0).testBit j = true)
  loud : ∀ i j, i < all.size → j < all.size → i ≠ j → ¬ (A i ∧ A j) → c i = .W → c j ≠ .F → (i < j → (b.getD j 0).testBit i = true) ∧ (j < i → (b.getD i 0).testBit j = true)

theorem heap_same (hp : Places P E N all F H v c) {i j : Nat} (hij : i ≤ j) (hj : j ≤ all.size) (hn : ∀ k, i ≤ k → k < j → c k ≠ .W) : H j = H i := by
  induction j with
  | zero => simp at hij; subst hij; rfl
  | succ j ih =>
    rcases Nat.lt_or_ge i (j + 1) with hlt | hge
    · have hjs : j < all.size := by omega
      obtain ⟨_, _, hc⟩ := hp j all[j] (Array.getElem?_eq_getElem hjs)
      have h1 : H (j + 1) = H j := by
        rcases hc with ⟨_, ho⟩ | ⟨_, _, h, _⟩
        · exact ho.1.1 (hn j (by omega) (by omega))
        · exact h
      rw [h1]
      exact ih (by omega) (by omega) fun k hk hk' => hn k hk (by omega)
    · have : i = j + 1 := by omega
      subst this
      rfl

/-- A slot at place j: what its one writer ahead has left, or what it was. -/
theorem slot_at (hp : Places P E N all F H v c) {b : List Nat} {A : Nat → Prop} (hO : Ordered all c b A) (t : Nat) : ∀ j, j ≤ all.size → ((∃ i o, i < j ∧ all[i]? = some o ∧ o.dst = some t ∧ F j t = v i) ∨ ((∀ i o, i < j → all[i]? = some o → o.dst ≠ some t) ∧ F j t = F 0 t))
  | 0, _ => .inr ⟨fun i o hi => by omega, rfl⟩
  | j + 1, hj => by
    have hjs : j < all.size := by omega
    obtain ⟨_, hF, _⟩ := hp j all[j] (Array.getElem?_eq_getElem hjs)
    by_cases hd : all[j].dst = some t
    · refine .inl ⟨j, all[j], by omega, Array.getElem?_eq_getElem hjs, hd, ?_⟩
      rw [hF, hd]
      simp [updO, upd]
    · have hsame : F (j + 1) t = F j t := by
        rw [hF]
        cases hdd : all[j].dst with
        | none => rfl
        | some d =>
          simp only [updO, upd]
          rw [if_neg]
          rintro rfl
          exact hd hdd
      rcases slot_at hp hO t j (by omega) with ⟨i, o, hi, ho, hdo, hv⟩ | ⟨hno, hv⟩
      · exact .inl ⟨i, o, by omega, ho, hdo, hsame.trans hv⟩
      · refine .inr ⟨fun i o hi ho => ?_, hsame.trans hv⟩
        rcases Nat.lt_or_ge i j with h | h
        · exact hno i o h ho
        · have : i = j := by omega
          subst this
          rw [Array.getElem?_eq_getElem hjs] at ho
          injection ho with ho
          subst ho
          exact hd

structure Inv (E : Env) (N : Nat) (all : Array Oper) (F : Nat → AF) (H : Nat → AHeap) (v : Nat → AV) (c : Nat → Cls) (L : Array Bool) (m : Nat) (s : St) (a : Act) : Prop where
  size : L.size = all.size
  down : ∀ k o, all[k]? = some o → L.getD k false = true → ∀ e ∈ o.after, Region.binds .any e = true → L.getD e.on false = true
  mle : m ≤ all.size
  wr : ∀ k, k < all.size → c k = .W → (L.getD k false = true ↔ k < m)
  R : R E s (H m)
  defers : a.defers = []
  tsize : a.tmps.size = N
  done : ∀ k o t, all[k]? = some o → L.getD k false = true → o.dst = some t → V s (v k) (a.tmps.getD t Go.undef)
  rest : ∀ t, (∀ k o, all[k]? = some o → L.getD k false = true → o.dst ≠ some t) → V s (F 0 t) (a.tmps.getD t Go.undef)

theorem getD_tf {L : Array Bool} {k n : Nat} (hL : L.size = n) (hk : k < n) : L.getD k true = L.getD k false := by
  simp [Array.getD_eq_getD_getElem?, show k < L.size by omega]

/-- What stands ahead of one that is done, or may come up, is done. -/
theorem ahead_done {b : List Nat} {A : Nat → Prop} (hO : Ordered all c b A) {L : Array Bool} (hdown : ∀ k o, all[k]? = some o → L.getD k false = true → ∀ e ∈ o.after, Region.binds .any e = true → L.getD e.on false = true) :
    ∀ (j i : Nat), (b.getD j 0).testBit i = true → (∀ o, all[j]? = some o → ∀ e ∈ o.after, Region.binds .any e = true → L.getD e.on false = true) → L.getD i false = true := by
  intro j
  induction j using Nat.strongRecOn with
  | _ j ih =>
    intro i hb hj
    obtain ⟨o, e, h1, h2, h3, h4⟩ := hO.bef j i hb
    have h1' : all[j]? = some o := by simpa using h1
    have hon := hj o h1' e h2 h3
    rcases h4 with rfl | h4
    · exact hon
    · exact ih e.on (hO.low j o h1' e h2 h3) i h4 fun o' ho' => hdown e.on o' ho' hon

theorem any_order (hp : Places P E N all F H v c) {b : List Nat} {A : Nat → Prop} (hO : Ordered all c b A) : ∀ (fuel : Nat) (L : Array Bool) (m : Nat) (s : St) (a : Act), Inv E N all F H v c L m s a → (∀ k, A k → L.getD k false = true) → ((List.range all.size).filter fun k => !L.getD k true).length ≤ fuel →
    ∀ Q : Exit → Act → World → Prop, (∀ s' a', Step s s' → R E s' (H all.size) → FR N s' (F all.size) a' → Q .normal a' s'.w) → wpAny P .any all Q fuel L a s.w := by
  -- when nothing may come up, all is done
  have hend : ∀ (L : Array Bool) (m : Nat) (s : St) (a : Act), Inv E N all F H v c L m s a → Region.ready .any all L = [] → R E s (H all.size) ∧ FR N s (F all.size) a := by
    intro L m s a hI hr
    have hall : ∀ k, k < all.size → L.getD k false = true := by
      intro k
      induction k using Nat.strongRecOn with
      | _ k ih =>
        intro hk
        cases hq : L.getD k false with
        | true => rfl
        | false =>
          exfalso
          have hmem : k ∈ Region.ready .any all L := by
            rw [mem_ready]
            exact ⟨by rw [getD_tf hI.size hk]; exact hq, all[k], Array.getElem?_eq_getElem hk, fun e he hb => ih e.on (hO.low k _ (Array.getElem?_eq_getElem hk) e he hb) (by
              have := hO.low k _ (Array.getElem?_eq_getElem hk) e he hb
              omega)⟩
          rw [hr] at hmem
          cases hmem
    refine ⟨?_, hI.defers, hI.tsize, fun t => ?_⟩
    · rw [heap_same hp hI.mle (Nat.le_refl _) fun k hk hk' hw => by
        have := (hI.wr k hk' hw).1 (hall k hk')
        omega]
      exact hI.R
    · rcases slot_at hp hO t all.size (Nat.le_refl _) with ⟨i, o, hi, ho, hd, hv⟩ | ⟨hno, hv⟩
      · rw [hv]
        exact hI.done i o t ho (hall i hi) hd
      · rw [hv]
        exact hI.rest t fun k o ho hk => hno k o (Array.getElem?_eq_some_iff.1 ho).1 ho
  intro fuel
  induction fuel with
  | zero =>
    intro L m s a hI hAd hcnt Q hQ
    have hr : Region.ready .any all L = [] := by
      apply List.eq_nil_iff_forall_not_mem.2
      intro k hk
      rw [mem_ready] at hk
      obtain ⟨h0, o, ho, _⟩ := hk
      have : k ∈ (List.range all.size).filter fun k => !L.getD k true := by
        rw [List.mem_filter]
        exact ⟨List.mem_range.2 (Array.getElem?_eq_some_iff.1 ho).1, by simp only [h0, Bool.not_false]⟩
      have hl := List.length_pos_of_mem this
      omega
    obtain ⟨h1, h2⟩ := hend L m s a hI hr
    exact ⟨hr, hQ s a (Step.refl s) h1 h2⟩
  | succ fuel ih =>
    intro L m s a hI hAd hcnt Q hQ
    refine ⟨fun hr => ?_, fun j hj => ?_⟩
    · obtain ⟨h1, h2⟩ := hend L m s a hI hr
      exact hQ s a (Step.refl s) h1 h2
    · rw [mem_ready] at hj
      obtain ⟨hun, o, ho, hready⟩ := hj
      have hjs : j < all.size := (Array.getElem?_eq_some_iff.1 ho).1
      have hunf : L.getD j false = false := by rw [← getD_tf hI.size hjs]; exact hun
      obtain ⟨hd, hF, hcase⟩ := hp j o ho
      have hahead : ∀ i, (b.getD j 0).testBit i = true → L.getD i false = true := fun i hb => ahead_done hO hI.down j i hb fun o' ho' => by
        rw [ho] at ho'
        injection ho' with ho'
        subst ho'
        exact hready
      have hbehind : ∀ i, i < all.size → (b.getD i 0).testBit j = true → L.getD i false = false := fun i hi hb => by
        cases hq : L.getD i false with
        | false => rfl
        | true =>
          have := ahead_done hO hI.down i j hb fun o' ho' => hI.down i o' ho' hq
          rw [hunf] at this
          cases this
      have hnA : ∀ k, ¬ (A k ∧ A j) := fun k h => by rw [hAd j h.2] at hunf; cases hunf
      -- the slots that the operation looks at
      have hlook : ∀ t, t ∈ o.looksAt all → V s (F j t) (a.tmps.getD t Go.undef) := by
        intro t ht
        by_cases hw : ∃ i oi, i ≠ j ∧ all[i]? = some oi ∧ oi.dst = some t
        · obtain ⟨i, oi, hij, hoi, hdi⟩ := hw
          obtain ⟨hl1, hl2⟩ := hO.look i j oi o t hoi ho hij hdi ht
          rcases Nat.lt_or_ge i j with hlt | hge
          · have hdone := hahead i (hl1 hlt)
            rcases slot_at hp hO t j (by omega) with ⟨i', o', hi', ho', hd', hv⟩ | ⟨hno, _⟩
            · have hii : i' = i := by
                rcases Nat.decEq i' i with h | h
                · exact absurd hdi (hO.dst i' i o' oi t ho' hoi h hd')
                · exact h
              subst hii
              rw [hv]
              exact hI.done i' oi t hoi hdone hdi
            · exact absurd hdi (hno i oi hlt hoi)
          · have hnot := hbehind i (Array.getElem?_eq_some_iff.1 hoi).1 (hl2 (by omega))
            rcases slot_at hp hO t j (by omega) with ⟨i', o', hi', ho', hd', hv⟩ | ⟨_, hv⟩
            · exact absurd hdi (hO.dst i' i o' oi t ho' hoi (by omega) hd')
            · rw [hv]
              refine hI.rest t fun k ok hok hk hdk => ?_
              rcases Nat.decEq k i with h | h
              · exact hO.dst k i ok oi t hok hoi h hdk hdi
              · subst h
                rw [hnot] at hk
                cases hk
        · rcases slot_at hp hO t j (by omega) with ⟨i', o', hi', ho', hd', hv⟩ | ⟨_, hv⟩
          · exact absurd ⟨i', o', by omega, ho', hd'⟩ hw
          · rw [hv]
            refine hI.rest t fun k ok hok hk hdk => ?_
            rcases Nat.decEq k j with h | h
            · exact hw ⟨k, ok, h, hok, hdk⟩
            · subst h
              rw [hunf] at hk
              cases hk
      have hops : OpsV E s (F j) a o.op.operands := fun x hx y hy => by
        cases x with
        | tmp t =>
          simp only [evA, Option.some.injEq] at hy
          subst hy
          exact hlook t (List.mem_append_left _ (List.mem_filterMap.2 ⟨.tmp t, by simpa using hx, rfl⟩))
        | const u =>
          simp only [evA, Option.some.injEq] at hy
          subst hy
          simp [Act.eval]
        | global g =>
          simp only [evA] at hy
          obtain ⟨xs, hx, rfl⟩ := Option.map_eq_some_iff.1 hy
          exact hI.R.glob g xs hx
        | func f =>
          simp only [evA, Option.some.injEq] at hy
          subst hy
          simp only [V, Act.eval]
          exact ⟨[], rfl, by simp⟩
      have hguard : ∀ bq, wantedA all o (F j) = some bq → Region.wanted o (yielded all a.tmps) = bq := fun bq hw => wanted_eq (s := s) (N := N) (fun t ⟨g, want, hg, hgt⟩ => hlook t (List.mem_append_right _ (by simp [hg, hgt]))) hw
      have hcnt' : ((List.range all.size).filter fun k => !(L.setIfInBounds j true).getD k true).length ≤ fuel := by
        have := filter_lt (l := List.range all.size) (p := fun k => !L.getD k true) (q := fun k => !(L.setIfInBounds j true).getD k true) (fun x hx => by
          by_cases hxj : j = x
          · subst hxj
            simp [Array.getD_eq_getD_getElem?, hI.size, hjs] at hx
          · rw [getD_set_ne true hxj] at hx
            exact hx) (List.mem_range.2 hjs) (by simp only [hun, Bool.not_false]) (by simp [Array.getD_eq_getD_getElem?, hI.size, hjs])
        omega
      have hset : ∀ k, (L.setIfInBounds j true).getD k false = true ↔ (k = j ∨ L.getD k false = true) := fun k => by
        by_cases hkj : j = k
        · subst hkj
          simp [Array.getD_eq_getD_getElem?, hI.size, hjs]
        · rw [getD_set_ne false hkj]
          constructor
          · exact fun h => .inr h
          · rintro (h | h)
            · exact absurd h.symm hkj
            · exact h
      have hAd' : ∀ k, A k → (L.setIfInBounds j true).getD k false = true := fun k hk => (hset k).2 (.inr (hAd k hk))
      -- the state behind it
      have hinv : ∀ (u : Value) (s' : St) (m' : Nat), m' ≤ all.size → (∀ k, k < all.size → c k = .W → ((k = j ∨ L.getD k false = true) ↔ k < m')) → Step s s' → Go.Abs.R E s' (H m') → V s' (v j) u → Inv E N all F H v c (L.setIfInBounds j true) m' s' (a.put o.dst u) := by
        intro u s' m' hm' hwr hst hR' hv
        refine ⟨by simp [hI.size], fun k ok hok hk e he hb => ?_, hm', fun k hk hw => by rw [hset]; exact hwr k hk hw, hR', ?_, ?_, fun k ok t hok hk hdk => ?_, fun t ht => ?_⟩
        · rw [hset]
          rcases (hset k).1 hk with rfl | hk'
          · rw [ho] at hok
            injection hok with hok
            subst hok
            exact .inr (hready e he hb)
          · exact .inr (hI.down k ok hok hk' e he hb)
        · cases o.dst <;> exact hI.defers
        · cases o.dst <;> simp [Act.put, hI.tsize]
        · rcases (hset k).1 hk with rfl | hk'
          · rw [ho] at hok
            injection hok with hok
            subst hok
            have hlt : t < a.tmps.size := by
              have := hd
              simp only [dstOk, hdk, decide_eq_true_eq] at this
              rw [hI.tsize]
              exact this
            simp only [hdk, Act.put]
            simpa [hlt] using hv
          · have hkj : k ≠ j := by
              rintro rfl
              rw [hunf] at hk'
              cases hk'
            have hne : o.dst ≠ some t := hO.dst k j ok o t hok ho hkj hdk
            have hold := V.mono hst.ext _ _ (hI.done k ok t hok hk' hdk)
            cases hod : o.dst with
            | none => exact hold
            | some d =>
              have hdt : d ≠ t := by
                rintro rfl
                exact hne hod
              simp only [Act.put]
              simpa [Array.getElem?_setIfInBounds_ne hdt] using hold
        · have hne : o.dst ≠ some t := ht j o ho ((hset j).2 (.inl rfl))
          have hold := V.mono hst.ext _ _ (hI.rest t fun k ok hok hk => ht k ok hok ((hset k).2 (.inr hk)))
          cases hod : o.dst with
          | none => exact hold
          | some d =>
            have hdt : d ≠ t := by
              rintro rfl
              exact hne hod
            simp only [Act.put]
            simpa [Array.getElem?_setIfInBounds_ne hdt] using hold
      unfold wpOp
      simp only [ho]
      rcases hcase with ⟨hw, hop⟩ | ⟨hw, hvj, hHj, hcj⟩
      · rw [hguard true hw]
        simp only [if_true]
        cases hcj : c j with
        | F =>
          rw [hcj] at hop
          refine .inl (hop.2 s a (H m) (H m) (.inl ⟨rfl, rfl⟩) hI.R hops _ _ fun u s' hst hR' hv => ?_)
          exact ih _ m s' _ (hinv u s' m hI.mle (fun k hk hkw => by
            rw [← hI.wr k hk hkw]
            constructor
            · rintro (rfl | h)
              · rw [hcj] at hkw
                cases hkw
              · exact h
            · exact .inr) hst hR' hv) hAd' hcnt' Q fun s2 a2 hst2 => hQ s2 a2 (hst.trans hst2)
        | R =>
          rw [hcj] at hop
          have hHm : H j = H m := by
            rcases Nat.le_total j m with hjm | hjm
            · refine (heap_same hp hjm hI.mle fun k hk hk' hkw => ?_).symm
              have hks : k < all.size := by have := hI.mle; omega
              have hdone := (hI.wr k hks hkw).2 hk'
              have hkj : k ≠ j := by
                rintro rfl
                rw [hunf] at hdone
                cases hdone
              have := hbehind k hks ((hO.loud k j hks hjs hkj (hnA k) hkw (by rw [hcj]; simp)).2 (by omega))
              rw [hdone] at this
              cases this
            · refine heap_same hp hjm (by omega) fun k hk hk' hkw => ?_
              have hks : k < all.size := by omega
              have hdone := hahead k ((hO.loud k j hks hjs (by omega) (hnA k) hkw (by rw [hcj]; simp)).1 hk')
              have := (hI.wr k hks hkw).1 hdone
              omega
          have hHe : H (j + 1) = H j := hop.1.1 (by simp)
          refine .inl (hop.2 s a (H m) (H m) (.inr ⟨hHm.symm, by rw [hHe, hHm]⟩) hI.R hops _ _ fun u s' hst hR' hv => ?_)
          exact ih _ m s' _ (hinv u s' m hI.mle (fun k hk hkw => by
            rw [← hI.wr k hk hkw]
            constructor
            · rintro (rfl | h)
              · rw [hcj] at hkw
                cases hkw
              · exact h
            · exact .inr) hst hR' hv) hAd' hcnt' Q fun s2 a2 hst2 => hQ s2 a2 (hst.trans hst2)
        | W =>
          rw [hcj] at hop
          have hlow : ∀ k, k < j → c k = .W → k < m := fun k hk hkw => by
            have hks : k < all.size := by omega
            exact (hI.wr k hks hkw).1 (hahead k ((hO.loud k j hks hjs (by omega) (hnA k) hkw (by rw [hcj]; simp)).1 hk))
          have hhigh : ∀ k, k < all.size → j ≤ k → c k = .W → m ≤ k := fun k hks hk hkw => by
            rcases Nat.lt_or_ge k m with hlt | hge
            · exfalso
              have hdone := (hI.wr k hks hkw).2 hlt
              have hkj : k ≠ j := by
                rintro rfl
                rw [hunf] at hdone
                cases hdone
              have := hbehind k hks ((hO.loud k j hks hjs hkj (hnA k) hkw (by rw [hcj]; simp)).2 (by omega))
              rw [hdone] at this
              cases this
            · exact hge
          have hHm : H j = H m := by
            rcases Nat.le_total j m with hjm | hjm
            · refine (heap_same hp hjm hI.mle fun k hk hk' hkw => ?_).symm
              have hks : k < all.size := by have := hI.mle; omega
              have := hhigh k hks hk hkw
              omega
            · refine heap_same hp hjm (by omega) fun k hk hk' hkw => ?_
              have := hlow k hk' hkw
              omega
          refine .inl (hop.2 s a (H m) (H (j + 1)) (.inr ⟨hHm.symm, rfl⟩) hI.R hops _ _ fun u s' hst hR' hv => ?_)
          refine ih _ (j + 1) s' _ (hinv u s' (j + 1) (by omega) (fun k hk hkw => ?_) hst hR' hv) hAd' hcnt' Q fun s2 a2 hst2 => hQ s2 a2 (hst.trans hst2)
          rw [hI.wr k hk hkw]
          constructor
          · rintro (rfl | h)
            · omega
            · rcases Nat.lt_or_ge k (j + 1) with h' | h'
              · exact h'
              · have := hhigh k hk (by omega) hkw
                omega
          · intro h
            rcases Nat.lt_or_ge k j with h' | h'
            · exact .inr (hlow k h' hkw)
            · exact .inl (by omega)
      · rw [hguard false hw]
        simp only [Bool.false_eq_true, if_false]
        exact ih _ m s _ (hinv Go.undef s m hI.mle (fun k hk hkw => by
          rw [← hI.wr k hk hkw]
          constructor
          · rintro (rfl | h)
            · rw [hcj] at hkw
              cases hkw
            · exact h
          · exact .inr) (Step.refl s) hI.R (by rw [hvj]; simp [AV.undef])) hAd' hcnt' Q hQ

end
theorem ordered_of {all : Array Oper} {cs : List Cls} {c : Nat → Cls} (hc : ∀ k, k < all.size → cs.getD k .F = c k) (h : drawOk0 all cs = true) : Ordered all c (beforeL all.toList) (fun _ => False) := by
  simp only [drawOk0, List.all_eq_true, List.mem_range] at h
  have hi : ∀ (i : Nat) (oi : Oper), all[i]? = some oi → _ := fun i oi hoi => h i (Array.getElem?_eq_some_iff.1 hoi).1
  have key : ∀ (i j : Nat) (oi oj : Oper), all[i]? = some oi → all[j]? = some oj → i ≠ j →
      ((match oi.dst with
        | some d => oj.dst != some d && (!(oj.looksAt all).contains d || (if i < j then ((beforeL all.toList).getD j 0).testBit i else ((beforeL all.toList).getD i 0).testBit j))
        | none => true) &&
      (match cs.getD i .F, cs.getD j .F with
        | .W, .W => (if i < j then ((beforeL all.toList).getD j 0).testBit i else ((beforeL all.toList).getD i 0).testBit j)
        | .W, .R => (if i < j then ((beforeL all.toList).getD j 0).testBit i else ((beforeL all.toList).getD i 0).testBit j)
        | _, _ => true)) = true := by
    intro i j oi oj hoi hoj hij
    have h1 := hi i oi hoi
    simp only [hoi, Bool.and_eq_true, List.all_eq_true, List.mem_range] at h1
    have h2 := h1.2 j (Array.getElem?_eq_some_iff.1 hoj).1
    simp only [hoj, Bool.or_eq_true, beq_iff_eq, hij, false_or] at h2
    exact h2
  refine ⟨beforeL_ok _, fun i o ho e he hb => ?_, fun i j oi oj d hoi hoj hij hd => ?_, fun i j oi oj d hoi hoj hij hd hl => ?_, fun i j his hjs hij _ hw hl => ?_⟩
  · have h1 := hi i o ho
    simp only [ho, Bool.and_eq_true] at h1
    have h2 := Array.all_eq_true_iff_forall_mem.1 h1.1 e he
    simpa [hb] using h2
  · have h1 := key i j oi oj hoi hoj hij
    simp only [hd, Bool.and_eq_true, bne_iff_ne, ne_eq] at h1
    exact h1.1.1
  · have h1 := key i j oi oj hoi hoj hij
    simp only [hd, Bool.and_eq_true, Bool.or_eq_true, Bool.not_eq_true'] at h1
    have h2 := h1.1.2
    have hc : (oj.looksAt all).contains d = true := by simpa using hl
    rw [hc] at h2
    simp only [Bool.true_eq_false, false_or] at h2
    constructor
    · intro hlt
      rw [if_pos hlt] at h2
      exact h2
    · intro hlt
      rw [if_neg (by omega)] at h2
      exact h2
  · have h1 := key i j all[i] all[j] (Array.getElem?_eq_getElem his) (Array.getElem?_eq_getElem hjs) hij
    simp only [Bool.and_eq_true] at h1
    have h2 := h1.2
    rw [hc i his, hc j hjs, hw] at h2
    cases hcj : c j with
    | F => exact absurd hcj hl
    | W =>
      rw [hcj] at h2
      simp only at h2
      exact ⟨fun hlt => by rw [if_pos hlt] at h2; exact h2, fun hlt => by rw [if_neg (by omega)] at h2; exact h2⟩
    | R =>
      rw [hcj] at h2
      simp only at h2
      exact ⟨fun hlt => by rw [if_pos hlt] at h2; exact h2, fun hlt => by rw [if_neg (by omega)] at h2; exact h2⟩

theorem draw_code0 (hE : EnvOk E P) {N id : Nat} {os : Array Oper} {fr fr' : AF} {h h' : AHeap} {cs : List Cls} (ho : OpsS P E N os os.toList fr h cs fr' h') (hd : drawOk0 os cs = true) : CodeS P E N (.region id os true) fr h .normal fr' h' := by
  intro s a hR hF Q hQ
  obtain ⟨F, H, v, c, e1, e2, e3, e4, hall⟩ := ops_places _ _ _ _ _ _ ho
  simp only [Array.length_toList] at e3 e4
  have hp : Places P E N os F H v c := fun k o hk => by
    obtain ⟨_, h2⟩ := hall k o (by simpa using hk)
    exact h2
  have hO := ordered_of (c := c) (fun k hk => (hall k os[k] (by simp [hk])).1) hd
  refine wp_region_any hE.mixed ?_
  have hR0 : R E { s with w := s.w.drew } (H 0) := by
    rw [e2]
    exact hR.quiet ⟨rfl, rfl, rfl, fun _ h => h, fun _ h => .inl h, fun _ _ => rfl, Nat.le_refl _, rfl, rfl, rfl⟩
  have hS0 : Step s { s with w := s.w.drew } := Quiet.step ⟨rfl, rfl, rfl, fun _ h => h, fun _ h => .inl h, fun _ _ => rfl, Nat.le_refl _, rfl, rfl, rfl⟩ hR.immlt
  have hF0 := hF.mono hS0.ext
  have hI : Inv E N os F H v c (Array.replicate os.size false) 0 { s with w := s.w.drew } a := by
    have hno : ∀ k, (Array.replicate os.size false).getD k false = false := fun k => by simp [Array.getD_eq_getD_getElem?, Array.getElem?_replicate]; split <;> rfl
    refine ⟨by simp, fun k o hk hl => (by rw [hno] at hl; cases hl), Nat.zero_le _, fun k hk hw => (by rw [hno]; simp), hR0, hF.defers, hF.size, fun k o t hk hl => (by rw [hno] at hl; cases hl), fun t _ => (by rw [e1]; exact hF0.val t)⟩
  exact any_order hp hO os.size _ 0 _ a hI (fun k h => h.elim) (by
    have := List.length_filter_le (fun k => !(Array.replicate os.size false).getD k true) (List.range os.size)
    simpa using this) Q fun s' a' hst hR' hF' => hQ s' a' (hS0.trans hst) (by rw [← e4]; exact hR') (by rw [← e3]; exact hF')

/-! ### Fresh places in any order -/
/-- A real block that nobody has yet becomes an abstract one. -/
def St.adopt (s : St) (h : AHeap) (bl : ABlock) (g : Nat) : St := { s with ρ := fun b => if b = h.length then some g else s.ρ b, bs := fun b => if b = h.length then 0 else s.bs b, vr := AHeap.vr (h ++ [bl]) }
theorem adopt_ok {s0 s : St} {h : AHeap} (hR : R E s h) (hS : Step s0 s) {xs : List AV} {us : List Value} {g : Nat} {c : Array Value} {e : TypeId} (hg : g < s.w.heap.size) (h0 : s0.w.heap.size ≤ g) (hi : ¬ s.imm g)
    (hh : s.w.heap[g]? = some (.cells c e (0, 0))) (hl : VL s xs us) (h1 : ∀ y ∈ us, y.oneCell' = true) (hc : c.toList.take us.length = us) (hno : ∀ b, s.vr b ≠ none → s.ρ b ≠ some g) :
    Ext s (s.adopt h (.cells 0 xs) g) ∧ Step s0 (s.adopt h (.cells 0 xs) g) ∧ R E (s.adopt h (.cells 0 xs) g) (h ++ [.cells 0 xs]) ∧ (s.adopt h (.cells 0 xs) g).ρ h.length = some g ∧ (s.adopt h (.cells 0 xs) g).bs h.length = 0 ∧ (s.adopt h (.cells 0 xs) g).vr h.length = some 0 := by
  have hvr : ∀ b, b < h.length → AHeap.vr (h ++ [.cells 0 xs]) b = AHeap.vr h b := fun b hb => by simp [AHeap.vr, List.getElem?_append_left hb]
  have hx : Ext s (s.adopt h (.cells 0 xs) g) := by
    refine ⟨fun b cur hb => ?_, fun _ h => h, fun g hg => rfl, fun g c' e' hg => ⟨c', hg, rfl⟩, fun g arr clock hg => ⟨arr, clock, hg, fun j e he => ⟨e, he, rfl, rfl⟩⟩⟩
    rw [hR.vr b] at hb
    have hlt := vr_lt (h := h) (b := b) (by rw [hb]; simp)
    exact ⟨cur, (hvr b hlt).trans hb, Nat.le_refl _, fun _ => ⟨if_neg (by omega), if_neg (by omega)⟩⟩
  have hown : ∀ b bk, h[b]? = some bk → ∃ g', s.ρ b = some g' ∧ g' ≠ g := fun b bk hb => by
    obtain ⟨g', k1, _⟩ := hR.blk b bk hb
    refine ⟨g', k1, fun e => ?_⟩
    subst e
    refine hno b ?_ k1
    rw [hR.vr b, vr_some hb]
    simp
  refine ⟨hx, ⟨hS.ext.trans hx, hS.frame, fun b g' hb hg' => ?_, hS.new, hS.size, hS.os, hS.tape, hS.output⟩, ⟨fun _ => rfl, fun b bk hb => ?_, fun b b' g' hb hb' hg' hg'' => ?_, hR.immlt, fun g xs hg => V.mono hx _ _ (hR.glob g xs hg)⟩, ?_⟩
  · simp only [St.adopt] at hb hg'
    by_cases he : b = h.length
    · rw [if_pos he] at hg'
      injection hg' with hg'
      exact .inr (by omega)
    · rw [if_neg he] at hg'
      have hlt := vr_lt hb
      simp at hlt
      rw [hvr b (by omega)] at hb
      exact hS.rho b g' (by rw [hR.vr]; exact hb) hg'
  · by_cases he : b = h.length
    · subst he
      simp at hb
      subst hb
      exact ⟨g, if_pos rfl, hi, hg, ⟨c, e, us, hh, VL.mono hx _ _ hl, h1, by simpa [St.adopt] using hc⟩⟩
    · have hlt : b < h.length := by
        have := (List.getElem?_eq_some_iff.1 hb).1
        simp at this
        omega
      rw [List.getElem?_append_left hlt] at hb
      obtain ⟨g', g1, g2, g3, g4⟩ := hR.blk b bk hb
      exact ⟨g', by simp only [St.adopt]; rw [if_neg he]; exact g1, g2, g3, by simp only [St.adopt, if_neg he]; exact g4.mono hx rfl⟩
  · simp only [St.adopt] at hg' hg''
    simp at hb hb'
    by_cases he : b = h.length
    · by_cases he' : b' = h.length
      · omega
      · rw [if_pos he] at hg'
        rw [if_neg he'] at hg''
        obtain ⟨g2, k1, k2⟩ := hown b' _ (List.getElem?_eq_getElem (show b' < h.length by omega))
        rw [k1] at hg''
        injection hg' with hg'
        injection hg'' with hg''
        omega
    · by_cases he' : b' = h.length
      · rw [if_neg he] at hg'
        rw [if_pos he'] at hg''
        obtain ⟨g2, k1, k2⟩ := hown b _ (List.getElem?_eq_getElem (show b < h.length by omega))
        rw [k1] at hg'
        injection hg' with hg'
        injection hg'' with hg''
        omega
      · rw [if_neg he] at hg'
        rw [if_neg he'] at hg''
        exact hR.inj b b' g' (by omega) (by omega) hg' hg''
  · exact ⟨if_pos rfl, if_pos rfl, by simp [St.adopt, AHeap.vr, vrOf]⟩

section
variable {N : Nat} {all : Array Oper} {F : Nat → AF} {H : Nat → AHeap} {v : Nat → AV} {c : Nat → Cls}
/-- The block of a pointer or a slice. -/
def blockOf : Value → Option Nat
  | .pointer (some a) => some a.block
  | .slice (some a) _ _ => some a.block
  | _ => none
/-- A fresh place's value, and its block. -/
structure Born (mk : Nat → AV) (xs : List AV) (u : Value) (g : Nat) (cc : Array Value) (e : TypeId) : Prop where
  blk : blockOf u = some g
  cells : ∃ us, (∀ s : St, VL s xs us) ∧ (∀ y ∈ us, y.oneCell' = true) ∧ cc.toList.take us.length = us
  val : ∀ (s : St) (b : Nat), s.ρ b = some g → s.bs b = 0 → s.vr b = some 0 → s.w.heap[g]? = some (.cells cc e (0, 0)) → V s (mk b) u
theorem fresh_run (hE : EnvOk E P) {s : St} {fr : AF} {a : Act} {o : Oper} {mk : Nat → AV} {xs : List AV} (hf : FreshO E fr o mk xs) (ho : OpsV E s fr a o.op.operands) :
    ∃ u cc e, (execOp a.eval o).run P s.w = .ok (.value u) (s.w.alloc (.cells cc e)) ∧ Born mk xs u s.w.heap.size cc e := by
  rcases hf with ⟨t, i, h1, h2, h3, rfl, rfl⟩ | ⟨t, x, y, e, ie, kl, kc, l, c, h1, hk, hx, hy, he, hz, h0, hl, hlc, hb, hm, rfl, rfl⟩
  · obtain ⟨info, d, i2, i3, i4, i5, i6, i7⟩ := hE.ty t i h2
    obtain ⟨z1, z2, z3⟩ := zeroOk_spec h3
    refine ⟨.pointer (some ⟨s.w.heap.size, 0, none⟩), i.zero.cells, t, ?_, rfl, ⟨i.zero.cells.toList, fun s' => (cells_V (ofV_V s' i.zero z3) z2).1, (cells_V (ofV_V s i.zero z3) z2).2, by rw [List.take_of_length_le (Nat.le_refl _)]⟩, fun s' b q1 q2 q3 q4 => ?_⟩
    · unfold execOp
      rw [h1]
      simp [Instr.alloc, run_zeroValue i2 i7, newVar, newRow]
    · simp only [V]
      exact ⟨_, 0, rfl, q3, Nat.le_refl _, fun _ => ⟨_, q1, by rw [q2]⟩⟩
  · have hvx := ho x (by rw [h1]; simp [Op.operands]) _ hx
    have hvy := ho y (by rw [h1]; simp [Op.operands]) _ hy
    simp only [V_lit] at hvx hvy
    obtain ⟨info, d, i2, i3, i4, i5, i6, i7⟩ := hE.ty e ie he
    have hr := run_make (P := P) s.w t e info ie.zero (slice_elem hE hk) i2 i7 kl kc l c hl hlc (by rw [i6]; exact hb) hm
    have hsz := zero_size hz
    have hzc := zeros_eq c.toNat ie.zero.cells ie.size hsz
    have hmade : (madeCells ie.zero.cells (c.toNat * info.size)).toList = (List.replicate c.toNat ie.zero.cells.toList).flatten := by rw [i5]; exact hzc
    have hlz : ∀ n, ((List.replicate n ie.zero.cells.toList).flatten).length = n * ie.size := fun n => by simp [hsz]
    refine ⟨.slice (some ⟨s.w.heap.size, 0, none⟩) l.toNat c.toNat, madeCells ie.zero.cells (c.toNat * info.size), e, ?_, rfl, ⟨(List.replicate l.toNat ie.zero.cells.toList).flatten, fun s' => (zeros_VL s' l.toNat hz).1, (zeros_VL s l.toNat hz).2, ?_⟩, fun s' b q1 q2 q3 q4 => ?_⟩
    · unfold execOp
      rw [h1]
      simp only [hvx, hvy, Sem.run_bind, hr, Result.andThen_ok, Sem.run_pure]
    · rw [hmade, hlz]
      have : c.toNat = l.toNat + (c.toNat - l.toNat) := by omega
      rw [this, ← List.replicate_append_replicate, List.flatten_append]
      rw [List.take_left' (hlz _)]
    · simp only [V]
      exact ⟨_, c.toNat, 0, rfl, by omega, q3, Nat.le_refl _, fun _ => .inr ⟨_, _, _, q1, q4, by rw [q2], by rw [q2, size_madeCells, i5]; omega, by omega⟩⟩
/-- A fresh place that is made, and not yet the abstract heap's. -/
def Pend (s0 s : St) (mk : Nat → AV) (xs : List AV) (u : Value) : Prop := ∃ (g : Nat) (cc : Array Value) (e : TypeId), Born mk xs u g cc e ∧ s0.w.heap.size ≤ g ∧ g < s.w.heap.size ∧ ¬ s.imm g ∧
  s.w.heap[g]? = some (.cells cc e (0, 0)) ∧ ∀ b, s.vr b ≠ none → s.ρ b ≠ some g
theorem Pend.step {s0 s s' : St} {mk : Nat → AV} {xs : List AV} {u : Value} (h : Pend s0 s mk xs u) (hs : Step s s') : Pend s0 s' mk xs u := by
  obtain ⟨g, cc, e, h1, h5, h6, h7, h8, h9⟩ := h
  refine ⟨g, cc, e, h1, h5, Nat.lt_of_lt_of_le h6 hs.size, fun hg => ?_, (hs.frame g h6 h9).trans h8, fun b hb hg => ?_⟩
  · rcases hs.new g hg with k | k | ⟨b, k1, k2⟩
    · exact h7 k
    · omega
    · exact h9 b k1 k2
  · rcases hs.rho b g hb hg with ⟨k1, k2⟩ | k
    · exact h9 b k1 k2
    · omega
structure Fresh (all : Array Oper) (c : Nat → Cls) (b : List Nat) (A : Nat → Prop) (m : Nat) : Prop where
  al : ∀ i, A i → i < m ∧ ∃ o d, all[i]? = some o ∧ o.dst = some d ∧ isNew o = true ∧ o.guard = none ∧ c i = .W
  only : ∀ i, i < m → c i = .W → A i
  first : ∀ i j, i < all.size → j < all.size → A i → ¬ A j → c j ≠ .F → i < j
  blind : ∀ i j oi oj d, all[i]? = some oi → all[j]? = some oj → i ≠ j → A i → (c j = .F ∨ A j) → oi.dst = some d → d ∈ oj.looksAt all → ¬ A j ∧ ∀ k, A k → (b.getD j 0).testBit k = true
  mle : m ≤ all.size
structure Inv1 (E : Env) (N : Nat) (all : Array Oper) (F : Nat → AF) (H : Nat → AHeap) (v : Nat → AV) (c : Nat → Cls) (A : Nat → Prop) (L : Array Bool) (s0 s : St) (a : Act) : Prop where
  size : L.size = all.size
  down : ∀ k o, all[k]? = some o → L.getD k false = true → ∀ e ∈ o.after, Region.binds .any e = true → L.getD e.on false = true
  wr : ∀ k, k < all.size → c k ≠ .F → ¬ A k → L.getD k false = false
  R : R E s (H 0)
  step : Step s0 s
  defers : a.defers = []
  tsize : a.tmps.size = N
  done : ∀ k o t, all[k]? = some o → L.getD k false = true → ¬ A k → o.dst = some t → V s (v k) (a.tmps.getD t Go.undef)
  pend : ∀ k o t, all[k]? = some o → L.getD k false = true → A k → o.dst = some t → ∃ mk xs, FreshO E (F k) o mk xs ∧ Pend s0 s mk xs (a.tmps.getD t Go.undef)
  dist : ∀ k k' o o' t t', all[k]? = some o → all[k']? = some o' → L.getD k false = true → L.getD k' false = true → A k → A k' → o.dst = some t → o'.dst = some t' → blockOf (a.tmps.getD t Go.undef) = blockOf (a.tmps.getD t' Go.undef) → k = k'
  rest : ∀ t, (∀ k o, all[k]? = some o → L.getD k false = true → o.dst ≠ some t) → V s (F 0 t) (a.tmps.getD t Go.undef)

/-- When all fresh places are made, the abstract heap takes them. -/
theorem adopt_all (hp : Places P E N all F H v c) {b : List Nat} {A : Nat → Prop} {m : Nat} (hA : Fresh all c b A m) {L : Array Bool} {s0 s : St} {a : Act} (hI : Inv1 E N all F H v c A L s0 s a) (hall : ∀ k, A k → L.getD k false = true) :
    ∀ j, j ≤ m → ∃ s' : St, s'.w = s.w ∧ s'.imm = s.imm ∧ Step s0 s' ∧ Ext s s' ∧ R E s' (H j) ∧ (∀ k o t, k < j → A k → all[k]? = some o → o.dst = some t → V s' (v k) (a.tmps.getD t Go.undef)) ∧
      ∀ b g, s'.vr b ≠ none → s'.ρ b = some g → (s.vr b ≠ none ∧ s.ρ b = some g) ∨ ∃ k o t, k < j ∧ A k ∧ all[k]? = some o ∧ o.dst = some t ∧ blockOf (a.tmps.getD t Go.undef) = some g
  | 0, _ => ⟨s, rfl, rfl, hI.step, Ext.refl s, hI.R, fun k o t hk => by omega, fun b g h1 h2 => .inl ⟨h1, h2⟩⟩
  | j + 1, hj => by
    obtain ⟨s', e1, e2, hS, hX, hR', hV, hO⟩ := adopt_all hp hA hI hall j (by omega)
    have hjs : j < all.size := by have := hA.mle; omega
    obtain ⟨_, hF, hcase⟩ := hp j all[j] (Array.getElem?_eq_getElem hjs)
    by_cases hAj : A j
    · obtain ⟨_, o, d, ho, hd, hnew, hgd, hcW⟩ := hA.al j hAj
      rw [Array.getElem?_eq_getElem hjs] at ho
      injection ho with ho
      rcases hcase with ⟨_, hos⟩ | ⟨_, _, _, hc⟩
      · obtain ⟨mk, xs, hf, i3, i4⟩ := hos.1.2 hcW (by rw [ho]; exact hnew)
        obtain ⟨mk', xs', hf', g, cc, e, p4, p5, p6, p7, p8, p9⟩ := hI.pend j o d (by rw [Array.getElem?_eq_getElem hjs, ho]) (hall j hAj) hAj hd
        rw [ho] at hf
        obtain ⟨rfl, rfl⟩ := hf.same hf'
        obtain ⟨us, hl, hone, htk⟩ := p4.cells
        have hno : ∀ b, s'.vr b ≠ none → s'.ρ b ≠ some g := fun b hb hg => by
          rcases hO b g hb hg with ⟨k1, k2⟩ | ⟨k, ok, tk, k1, k2, k3, k4, k5⟩
          · exact p9 b k1 k2
          · have := hI.dist k j ok o tk d k3 (by rw [Array.getElem?_eq_getElem hjs, ho]) (hall k k2) (hall j hAj) k2 hAj k4 hd (k5.trans p4.blk.symm)
            omega
        obtain ⟨q1, q2, q3, q4, q5, q6⟩ := adopt_ok (E := E) hR' hS (g := g) (c := cc) (e := e) (by rw [e1]; exact p6) p5 (by rw [e2]; exact p7) (by rw [e1]; exact p8) (hl s') hone htk hno
        refine ⟨s'.adopt (H j) (.cells 0 _) g, e1, e2, q2, hX.trans q1, by rw [i4]; exact q3, fun k ok tk hk hAk hok hdk => ?_, fun b g' hb hg' => ?_⟩
        · rcases Nat.lt_succ_iff_lt_or_eq.1 hk with hlt | rfl
          · exact V.mono q1 _ _ (hV k ok tk hlt hAk hok hdk)
          · rw [Array.getElem?_eq_getElem hjs, ho] at hok
            injection hok with hok
            subst hok
            rw [hd] at hdk
            injection hdk with hdk
            subst hdk
            rw [i3]
            exact p4.val _ _ q4 q5 q6 (by show s'.w.heap[g]? = _; rw [e1]; exact p8)
        · simp only [St.adopt] at hb hg'
          by_cases he : b = (H j).length
          · rw [if_pos he] at hg'
            injection hg' with hg'
            subst hg'
            exact .inr ⟨j, o, d, by omega, hAj, by rw [Array.getElem?_eq_getElem hjs, ho], hd, p4.blk⟩
          · rw [if_neg he] at hg'
            have hlt := vr_lt hb
            simp at hlt
            have hb' : s'.vr b ≠ none := by
              rw [hR'.vr b]
              simpa [AHeap.vr, List.getElem?_append_left (show b < (H j).length by omega)] using hb
            rcases hO b g' hb' hg' with k | ⟨k, ok, tk, k1, k2⟩
            · exact .inl k
            · exact .inr ⟨k, ok, tk, by omega, k2⟩
      · rw [hcW] at hc
        cases hc
    · have hsame : H (j + 1) = H j := by
        rcases hcase with ⟨_, ho⟩ | ⟨_, _, h, _⟩
        · exact ho.1.1 fun hc => hAj (hA.only j (by omega) hc)
        · exact h
      refine ⟨s', e1, e2, hS, hX, by rw [hsame]; exact hR', fun k o t hk hAk ho hd => ?_, fun b g hb hg => ?_⟩
      · rcases Nat.lt_succ_iff_lt_or_eq.1 hk with hlt | rfl
        · exact hV k o t hlt hAk ho hd
        · exact absurd hAk hAj
      · rcases hO b g hb hg with k | ⟨k, o, t, k1, k2⟩
        · exact .inl k
        · exact .inr ⟨k, o, t, by omega, k2⟩

theorem any_orderA (hE : EnvOk E P) (hp : Places P E N all F H v c) {b : List Nat} {A : Nat → Prop} {m : Nat} (hO : Ordered all c b A) (hA : Fresh all c b A m) : ∀ (fuel : Nat) (L : Array Bool) (s0 s : St) (a : Act), Inv1 E N all F H v c A L s0 s a → ((List.range all.size).filter fun k => !L.getD k true).length ≤ fuel →
    ∀ Q : Exit → Act → World → Prop, (∀ s' a', Step s0 s' → R E s' (H all.size) → FR N s' (F all.size) a' → Q .normal a' s'.w) → wpAny P .any all Q fuel L a s.w := by
  -- all fresh places are there: as before
  have hlate : ∀ (fuel : Nat) (L : Array Bool) (s0 s : St) (a : Act), Inv1 E N all F H v c A L s0 s a → ((List.range all.size).filter fun k => !L.getD k true).length ≤ fuel → (∀ k, A k → L.getD k false = true) →
      ∀ Q : Exit → Act → World → Prop, (∀ s' a', Step s0 s' → R E s' (H all.size) → FR N s' (F all.size) a' → Q .normal a' s'.w) → wpAny P .any all Q fuel L a s.w := by
    intro fuel L s0 s a hI hcnt hall Q hQ
    obtain ⟨s', e1, e2, hS, hX, hR', hV, _⟩ := adopt_all hp hA hI hall m (Nat.le_refl _)
    rw [← e1]
    refine any_order hp hO fuel L m s' a ⟨hI.size, hI.down, hA.mle, fun k hk hw => ?_, hR', hI.defers, hI.tsize, fun k o t hok hk hd => ?_, fun t ht => V.mono hX _ _ (hI.rest t ht)⟩ hall hcnt Q fun s2 a2 hst => hQ s2 a2 (hS.trans hst)
    · by_cases hAk : A k
      · exact ⟨fun _ => (hA.al k hAk).1, fun _ => hall k hAk⟩
      · rw [hI.wr k hk (by rw [hw]; simp) hAk]
        exact ⟨fun h => absurd h (by simp), fun h => absurd (hA.only k h hw) hAk⟩
    · by_cases hAk : A k
      · exact hV k o t (hA.al k hAk).1 hAk hok hd
      · exact V.mono hX _ _ (hI.done k o t hok hk hAk hd)
  intro fuel
  induction fuel with
  | zero =>
    intro L s0 s a hI hcnt Q hQ
    refine hlate 0 L s0 s a hI hcnt (fun k hk => ?_) Q hQ
    obtain ⟨_, o, d, ho, _⟩ := hA.al k hk
    have hks := (Array.getElem?_eq_some_iff.1 ho).1
    cases hq : L.getD k false with
    | true => rfl
    | false =>
      exfalso
      have : k ∈ (List.range all.size).filter fun k => !L.getD k true := by
        rw [List.mem_filter]
        exact ⟨List.mem_range.2 hks, by rw [getD_tf hI.size hks, hq]; rfl⟩
      have hl := List.length_pos_of_mem this
      omega
  | succ fuel ih =>
    intro L s0 s a hI hcnt Q hQ
    by_cases hall : ∀ k, A k → L.getD k false = true
    · exact hlate _ L s0 s a hI hcnt hall Q hQ
    obtain ⟨i0, hi0, hn0⟩ : ∃ i0, A i0 ∧ L.getD i0 false = false := by
      refine Classical.byContradiction fun hne => hall fun k hk => ?_
      cases hq : L.getD k false with
      | true => rfl
      | false => exact absurd ⟨k, hk, hq⟩ hne
    have hi0s : i0 < all.size := by
      obtain ⟨_, o, d, ho, _⟩ := hA.al i0 hi0
      exact (Array.getElem?_eq_some_iff.1 ho).1
    refine ⟨fun hr => ?_, fun j hj => ?_⟩
    · -- something may come up, as one is not made
      exfalso
      have key : ∀ k, k < all.size → L.getD k false = true := by
        intro k
        induction k using Nat.strongRecOn with
        | _ k ihk =>
          intro hk
          cases hq : L.getD k false with
          | true => rfl
          | false =>
            exfalso
            have hmem : k ∈ Region.ready .any all L := by
              rw [mem_ready]
              exact ⟨by rw [getD_tf hI.size hk]; exact hq, all[k], Array.getElem?_eq_getElem hk, fun e he hb => ihk e.on (hO.low k _ (Array.getElem?_eq_getElem hk) e he hb) (by
                have := hO.low k _ (Array.getElem?_eq_getElem hk) e he hb
                omega)⟩
            rw [hr] at hmem
            cases hmem
      rw [key i0 hi0s] at hn0
      cases hn0
    · rw [mem_ready] at hj
      obtain ⟨hun, o, ho, hready⟩ := hj
      have hjs : j < all.size := (Array.getElem?_eq_some_iff.1 ho).1
      have hunf : L.getD j false = false := by rw [← getD_tf hI.size hjs]; exact hun
      obtain ⟨hd, hF, hcase⟩ := hp j o ho
      have hahead : ∀ i, (b.getD j 0).testBit i = true → L.getD i false = true := fun i hb => ahead_done hO hI.down j i hb fun o' ho' => by
        rw [ho] at ho'
        injection ho' with ho'
        subst ho'
        exact hready
      have hbehind : ∀ i, i < all.size → (b.getD i 0).testBit j = true → L.getD i false = false := fun i hi hb => by
        cases hq : L.getD i false with
        | false => rfl
        | true =>
          have := ahead_done hO hI.down i j hb fun o' ho' => hI.down i o' ho' hq
          rw [hunf] at this
          cases this
      have hcnt' : ((List.range all.size).filter fun k => !(L.setIfInBounds j true).getD k true).length ≤ fuel := by
        have := filter_lt (l := List.range all.size) (p := fun k => !L.getD k true) (q := fun k => !(L.setIfInBounds j true).getD k true) (fun x hx => by
          by_cases hxj : j = x
          · subst hxj
            simp [Array.getD_eq_getD_getElem?, hI.size, hjs] at hx
          · rw [getD_set_ne true hxj] at hx
            exact hx) (List.mem_range.2 hjs) (by simp only [hun, Bool.not_false]) (by simp [Array.getD_eq_getD_getElem?, hI.size, hjs])
        omega
      have hset : ∀ k, (L.setIfInBounds j true).getD k false = true ↔ (k = j ∨ L.getD k false = true) := fun k => by
        by_cases hkj : j = k
        · subst hkj
          simp [Array.getD_eq_getD_getElem?, hI.size, hjs]
        · rw [getD_set_ne false hkj]
          constructor
          · exact fun h => .inr h
          · rintro (h | h)
            · exact absurd h.symm hkj
            · exact h
      have hdown : ∀ k ok, all[k]? = some ok → (L.setIfInBounds j true).getD k false = true → ∀ e ∈ ok.after, Region.binds .any e = true → (L.setIfInBounds j true).getD e.on false = true := fun k ok hok hk e he hb => by
        rw [hset]
        rcases (hset k).1 hk with rfl | hk'
        · rw [ho] at hok
          injection hok with hok
          subst hok
          exact .inr (hready e he hb)
        · exact .inr (hI.down k ok hok hk' e he hb)
      -- a slot that another one has is left as it was
      have hkeep : ∀ (u : Value) (k : Nat) (ok : Oper) (t : Nat), all[k]? = some ok → k ≠ j → ok.dst = some t → (a.put o.dst u).tmps.getD t Go.undef = a.tmps.getD t Go.undef := fun u k ok t hok hkj hdk => by
        have hne : o.dst ≠ some t := hO.dst k j ok o t hok ho hkj hdk
        cases hod : o.dst with
        | none => rfl
        | some d =>
          have hdt : d ≠ t := by
            rintro rfl
            exact hne hod
          simp only [Act.put]
          simp [Array.getElem?_setIfInBounds_ne hdt]
      have hself : ∀ (u : Value) (t : Nat), o.dst = some t → (a.put o.dst u).tmps.getD t Go.undef = u := fun u t hdk => by
        have hlt : t < a.tmps.size := by
          have := hd
          simp only [dstOk, hdk, decide_eq_true_eq] at this
          rw [hI.tsize]
          exact this
        simp only [hdk, Act.put]
        simp [hlt]
      have hrest : ∀ (u : Value) (s' : St), Ext s s' → ∀ t, (∀ k ok, all[k]? = some ok → (L.setIfInBounds j true).getD k false = true → ok.dst ≠ some t) → V s' (F 0 t) ((a.put o.dst u).tmps.getD t Go.undef) := fun u s' hx t ht => by
        have hne : o.dst ≠ some t := ht j o ho ((hset j).2 (.inl rfl))
        have hold := V.mono hx _ _ (hI.rest t fun k ok hok hk => ht k ok hok ((hset k).2 (.inr hk)))
        cases hod : o.dst with
        | none => exact hold
        | some d =>
          have hdt : d ≠ t := by
            rintro rfl
            exact hne hod
          simp only [Act.put]
          simpa [Array.getElem?_setIfInBounds_ne hdt] using hold
      have hput1 : ∀ u, (a.put o.dst u).defers = [] := fun u => by cases o.dst <;> exact hI.defers
      have hput2 : ∀ u, (a.put o.dst u).tmps.size = N := fun u => by cases o.dst <;> simp [Act.put, hI.tsize]
      have hlook : (c j = .F ∨ A j) → ∀ t, t ∈ o.looksAt all → V s (F j t) (a.tmps.getD t Go.undef) := by
        intro hcFA t ht
        by_cases hw : ∃ i oi, i ≠ j ∧ all[i]? = some oi ∧ oi.dst = some t
        · obtain ⟨i, oi, hij, hoi, hdi⟩ := hw
          have hiA : ¬ A i := fun h => by
            have := hahead i0 ((hA.blind i j oi o t hoi ho hij h hcFA hdi ht).2 i0 hi0)
            rw [hn0] at this
            cases this
          obtain ⟨hl1, hl2⟩ := hO.look i j oi o t hoi ho hij hdi ht
          rcases Nat.lt_or_ge i j with hlt | hge
          · have hdone := hahead i (hl1 hlt)
            rcases slot_at hp hO t j (by omega) with ⟨i', o', hi', ho', hd', hv⟩ | ⟨hno, _⟩
            · have hii : i' = i := by
                rcases Nat.decEq i' i with h | h
                · exact absurd hdi (hO.dst i' i o' oi t ho' hoi h hd')
                · exact h
              subst hii
              rw [hv]
              exact hI.done i' oi t hoi hdone hiA hdi
            · exact absurd hdi (hno i oi hlt hoi)
          · have hnot := hbehind i (Array.getElem?_eq_some_iff.1 hoi).1 (hl2 (by omega))
            rcases slot_at hp hO t j (by omega) with ⟨i', o', hi', ho', hd', hv⟩ | ⟨_, hv⟩
            · exact absurd hdi (hO.dst i' i o' oi t ho' hoi (by omega) hd')
            · rw [hv]
              refine hI.rest t fun k ok hok hk hdk => ?_
              rcases Nat.decEq k i with h | h
              · exact hO.dst k i ok oi t hok hoi h hdk hdi
              · subst h
                rw [hnot] at hk
                cases hk
        · rcases slot_at hp hO t j (by omega) with ⟨i', o', hi', ho', hd', hv⟩ | ⟨_, hv⟩
          · exact absurd ⟨i', o', by omega, ho', hd'⟩ hw
          · rw [hv]
            refine hI.rest t fun k ok hok hk hdk => ?_
            rcases Nat.decEq k j with h | h
            · exact hw ⟨k, ok, h, hok, hdk⟩
            · subst h
              rw [hunf] at hk
              cases hk
      have hops : (c j = .F ∨ A j) → OpsV E s (F j) a o.op.operands := fun hcFA x hx y hy => by
        cases x with
        | tmp t =>
          simp only [evA, Option.some.injEq] at hy
          subst hy
          exact hlook hcFA t (List.mem_append_left _ (List.mem_filterMap.2 ⟨.tmp t, by simpa using hx, rfl⟩))
        | const u =>
          simp only [evA, Option.some.injEq] at hy
          subst hy
          simp [Act.eval]
        | global g =>
          simp only [evA] at hy
          obtain ⟨xs, hx, rfl⟩ := Option.map_eq_some_iff.1 hy
          exact hI.R.glob g xs hx
        | func f =>
          simp only [evA, Option.some.injEq] at hy
          subst hy
          simp only [V, Act.eval]
          exact ⟨[], rfl, by simp⟩
      by_cases hAj : A j
      · -- a fresh place
        obtain ⟨_, o', d, ho', hdd, hnew, hgd, hcW⟩ := hA.al j hAj
        rw [ho] at ho'
        injection ho' with ho'
        subst ho'
        rcases hcase with ⟨hw, hos⟩ | ⟨_, _, _, hc⟩
        · obtain ⟨mk, xs, hf, i3, i4⟩ := hos.1.2 hcW hnew
          obtain ⟨u, cc, e, hex, hborn⟩ := fresh_run hE hf (hops (.inr hAj))
          have hwant : Region.wanted o (yielded all a.tmps) = true := by
            unfold Region.wanted
            rw [hgd]
          unfold wpOp
          simp only [ho]
          rw [hwant]
          simp only [if_true]
          have hq : Quiet s { s with w := s.w.alloc (.cells cc e) } := ⟨rfl, rfl, rfl, fun _ h => h, fun _ h => .inl h, fun g hg => heap_alloc_old s.w _ g hg, by simp, rfl, rfl, rfl⟩
          have hst := hq.step hI.R.immlt
          refine .inl ?_
          unfold Oper.wp
          rw [hex]
          refine ih _ s0 { s with w := s.w.alloc (.cells cc e) } _ ⟨by simp [hI.size], hdown, fun k hk hkc hkA => ?_, hI.R.quiet hq, hI.step.trans hst, hput1 _, hput2 _, fun k ok tk hok hk hkA hdk => ?_, fun k ok tk hok hk hkA hdk => ?_, ?_, hrest _ _ hst.ext⟩ hcnt' Q hQ
          · cases hq : (L.setIfInBounds j true).getD k false with
            | false => rfl
            | true =>
              rcases (hset k).1 hq with rfl | h
              · exact absurd hAj hkA
              · rw [hI.wr k hk hkc hkA] at h
                cases h
          · have hkj : k ≠ j := by rintro rfl; exact hkA hAj
            rw [hkeep _ k ok tk hok hkj hdk]
            exact V.mono hst.ext _ _ (hI.done k ok tk hok (((hset k).1 hk).resolve_left hkj) hkA hdk)
          · by_cases hkj : k = j
            · subst hkj
              rw [ho] at hok
              injection hok with hok
              subst hok
              rw [hself _ tk hdk]
              refine ⟨mk, xs, hf, s.w.heap.size, cc, e, hborn, hI.step.size, by simp, fun hg => ?_, heap_alloc_new s.w _, fun b hb hg => ?_⟩
              · have := hI.R.immlt _ hg
                omega
              · have hb' : s.vr b ≠ none := hb
                rw [hI.R.vr b] at hb'
                obtain ⟨g2, k1, _, k3, _⟩ := hI.R.blk b _ (List.getElem?_eq_getElem (vr_lt hb'))
                have hg' : s.ρ b = some s.w.heap.size := hg
                rw [k1] at hg'
                injection hg' with hg'
                omega
            · rw [hkeep _ k ok tk hok hkj hdk]
              obtain ⟨mk', xs', f1, f2⟩ := hI.pend k ok tk hok (((hset k).1 hk).resolve_left hkj) hkA hdk
              exact ⟨mk', xs', f1, f2.step hst⟩
          · intro k k' ok ok' tk tk' hok hok' hk hk' hkA hkA' hdk hdk' heq
            have other : ∀ (k : Nat) (ok : Oper) (tk : Nat), all[k]? = some ok → (L.setIfInBounds j true).getD k false = true → A k → ok.dst = some tk → k ≠ j → blockOf (a.tmps.getD tk Go.undef) ≠ some s.w.heap.size := fun k ok tk hok hk hkA hdk hkj he => by
              obtain ⟨_, _, _, g, _, _, p4, _, p6, _⟩ := hI.pend k ok tk hok (((hset k).1 hk).resolve_left hkj) hkA hdk
              rw [p4.blk] at he
              injection he with he
              omega
            by_cases hkj : k = j
            · by_cases hkj' : k' = j
              · omega
              · exfalso
                subst hkj
                rw [ho] at hok
                injection hok with hok
                subst hok
                rw [hself _ tk hdk, hkeep _ k' ok' tk' hok' hkj' hdk'] at heq
                exact other k' ok' tk' hok' hk' hkA' hdk' hkj' (heq.symm.trans hborn.blk)
            · by_cases hkj' : k' = j
              · exfalso
                subst hkj'
                rw [ho] at hok'
                injection hok' with hok'
                subst hok'
                rw [hself _ tk' hdk', hkeep _ k ok tk hok hkj hdk] at heq
                exact other k ok tk hok hk hkA hdk hkj (heq.trans hborn.blk)
              · rw [hkeep _ k ok tk hok hkj hdk, hkeep _ k' ok' tk' hok' hkj' hdk'] at heq
                exact hI.dist k k' ok ok' tk tk' hok hok' (((hset k).1 hk).resolve_left hkj) (((hset k').1 hk').resolve_left hkj') hkA hkA' hdk hdk' heq
        · rw [hcW] at hc
          cases hc
      · -- one that does not look at the heap
        have hcF : c j = .F := by
          refine Classical.byContradiction fun hne => ?_
          have hlt := hA.first i0 j hi0s hjs hi0 hAj hne
          have hW : c i0 = .W := by obtain ⟨_, _, _, _, _, _, _, h⟩ := hA.al i0 hi0; exact h
          have := hahead i0 ((hO.loud i0 j hi0s hjs (by omega) (fun h => hAj h.2) hW hne).1 hlt)
          rw [hn0] at this
          cases this
        have hguard : ∀ bq, wantedA all o (F j) = some bq → Region.wanted o (yielded all a.tmps) = bq := fun bq hw => wanted_eq (s := s) (N := N) (fun t ⟨g, want, hg, hgt⟩ => hlook (.inl hcF) t (List.mem_append_right _ (by simp [hg, hgt]))) hw
        have hinv : ∀ (u : Value) (s' : St), Step s s' → Go.Abs.R E s' (H 0) → V s' (v j) u → Inv1 E N all F H v c A (L.setIfInBounds j true) s0 s' (a.put o.dst u) := by
          intro u s' hst hR' hv
          refine ⟨by simp [hI.size], hdown, fun k hk hkc hkA => ?_, hR', hI.step.trans hst, hput1 _, hput2 _, fun k ok tk hok hk hkA hdk => ?_, fun k ok tk hok hk hkA hdk => ?_, fun k k' ok ok' tk tk' hok hok' hk hk' hkA hkA' hdk hdk' heq => ?_, hrest _ _ hst.ext⟩
          · cases hq : (L.setIfInBounds j true).getD k false with
            | false => rfl
            | true =>
              rcases (hset k).1 hq with rfl | h
              · exact absurd hcF hkc
              · rw [hI.wr k hk hkc hkA] at h
                cases h
          · by_cases hkj : k = j
            · subst hkj
              rw [ho] at hok
              injection hok with hok
              subst hok
              rw [hself _ tk hdk]
              exact hv
            · rw [hkeep _ k ok tk hok hkj hdk]
              exact V.mono hst.ext _ _ (hI.done k ok tk hok (((hset k).1 hk).resolve_left hkj) hkA hdk)
          · have hkj : k ≠ j := by rintro rfl; exact hAj hkA
            rw [hkeep _ k ok tk hok hkj hdk]
            obtain ⟨mk', xs', f1, f2⟩ := hI.pend k ok tk hok (((hset k).1 hk).resolve_left hkj) hkA hdk
            exact ⟨mk', xs', f1, f2.step hst⟩
          · have hkj : k ≠ j := by rintro rfl; exact hAj hkA
            have hkj' : k' ≠ j := by rintro rfl; exact hAj hkA'
            rw [hkeep _ k ok tk hok hkj hdk, hkeep _ k' ok' tk' hok' hkj' hdk'] at heq
            exact hI.dist k k' ok ok' tk tk' hok hok' (((hset k).1 hk).resolve_left hkj) (((hset k').1 hk').resolve_left hkj') hkA hkA' hdk hdk' heq
        unfold wpOp
        simp only [ho]
        rcases hcase with ⟨hw, hop⟩ | ⟨hw, hvj, hHj, hcj⟩
        · rw [hguard true hw]
          simp only [if_true]
          rw [hcF] at hop
          refine .inl (hop.2 s a (H 0) (H 0) (.inl ⟨rfl, rfl⟩) hI.R (hops (.inl hcF)) _ _ fun u s' hst hR' hv => ?_)
          exact ih _ s0 s' _ (hinv u s' hst hR' hv) hcnt' Q hQ
        · rw [hguard false hw]
          simp only [Bool.false_eq_true, if_false]
          exact ih _ s0 s _ (hinv Go.undef s (Step.refl s) hI.R (by rw [hvj]; simp [AV.undef])) hcnt' Q hQ
end

theorem isW_iff {c : Cls} : c.isW = true ↔ c = .W := by cases c <;> simp [Cls.isW]
theorem isF_iff {c : Cls} : c.isF = true ↔ c = .F := by cases c <;> simp [Cls.isF]
theorem draw_codeA (hE : EnvOk E P) {N id : Nat} {os : Array Oper} {fr fr' : AF} {h h' : AHeap} {cs : List Cls} (ho : OpsS P E N os os.toList fr h cs fr' h') (hd : drawOkA os cs = true) : CodeS P E N (.region id os true) fr h .normal fr' h' := by
  intro s a hR hF Q hQ
  obtain ⟨F, H, v, c, e1, e2, e3, e4, hall⟩ := ops_places _ _ _ _ _ _ ho
  simp only [Array.length_toList] at e3 e4
  have hp : Places P E N os F H v c := fun k o hk => by
    obtain ⟨_, h2⟩ := hall k o (by simpa using hk)
    exact h2
  have hcc : ∀ k, k < os.size → cs.getD k .F = c k := fun k hk => (hall k os[k] (by simp [hk])).1
  simp only [drawOkA, Bool.and_eq_true] at hd
  generalize (List.range os.size).foldl (fun m i => if alAt os cs i then i + 1 else m) 0 = m0 at hd
  obtain ⟨hd1, hd2⟩ := hd
  rw [List.all_eq_true] at hd1 hd2
  let A : Nat → Prop := fun i => alAt os cs i = true
  have hAs : ∀ i, A i → i < os.size := fun i hi => by
    have : alAt os cs i = true := hi
    unfold alAt at this
    split at this
    · rename_i o ho; exact (Array.getElem?_eq_some_iff.1 ho).1
    · cases this
  have hAl : ∀ i, A i → ∃ o d, os[i]? = some o ∧ o.dst = some d ∧ isNew o = true ∧ o.guard = none ∧ c i = .W := fun i hi => by
    have h1 : alAt os cs i = true := hi
    unfold alAt at h1
    split at h1
    · rename_i o ho
      rw [Bool.and_eq_true] at h1
      obtain ⟨h1, h2⟩ := h1
      rw [hcc i (hAs i hi)] at h2
      unfold isAl at h1
      split at h1
      · rename_i d h4 h5
        exact ⟨o, d, ho, h5, h1, h4, isW_iff.1 h2⟩
      · cases h1
    · cases h1
  have key : ∀ (i j : Nat) (oi oj : Oper), os[i]? = some oi → os[j]? = some oj → i ≠ j →
      ((match oi.dst with
        | some d => oj.dst != some d && (!(oj.looksAt os).contains d || (if i < j then ((beforeL os.toList).getD j 0).testBit i else ((beforeL os.toList).getD i 0).testBit j)) && (!alAt os cs i || !((cs.getD j .F).isF || alAt os cs j) || !(oj.looksAt os).contains d || (!alAt os cs j && (List.range os.size).all fun k => !alAt os cs k || ((beforeL os.toList).getD j 0).testBit k))
        | none => true) &&
        (!alAt os cs i || alAt os cs j || (cs.getD j .F).isF || decide (i < j)) &&
        (!(cs.getD i .F).isW || (cs.getD j .F).isF || (alAt os cs i && alAt os cs j) || (if i < j then ((beforeL os.toList).getD j 0).testBit i else ((beforeL os.toList).getD i 0).testBit j))) = true := by
    intro i j oi oj hoi hoj hij
    have h1 := hd2 i (List.mem_range.2 (Array.getElem?_eq_some_iff.1 hoi).1)
    simp only [hoi] at h1
    rw [Bool.and_eq_true] at h1
    have h2 := List.all_eq_true.1 h1.2 j (List.mem_range.2 (Array.getElem?_eq_some_iff.1 hoj).1)
    simp only [hoj, Bool.or_eq_true, beq_iff_eq, hij, false_or] at h2
    exact h2
  have ifB : ∀ {p : Prop} [Decidable p] {x y : Bool}, (if p then x else y) = true → (p → x = true) ∧ (¬ p → y = true) := fun {p} _ {x y} h => ⟨fun hp => by rwa [if_pos hp] at h, fun hp => by rwa [if_neg hp] at h⟩
  have hO : Ordered os c (beforeL os.toList) A := by
    refine ⟨beforeL_ok _, fun i o ho e he hb => ?_, fun i j oi oj d hoi hoj hij hd => ?_, fun i j oi oj d hoi hoj hij hd hl => ?_, fun i j his hjs hij hnA hw hl => ?_⟩
    · have h1 := hd2 i (List.mem_range.2 (Array.getElem?_eq_some_iff.1 ho).1)
      simp only [ho] at h1
      rw [Bool.and_eq_true] at h1
      have h2 := Array.all_eq_true_iff_forall_mem.1 h1.1 e he
      simpa [hb] using h2
    · have h1 := key i j oi oj hoi hoj hij
      simp only [hd, Bool.and_eq_true, bne_iff_ne, ne_eq] at h1
      exact h1.1.1.1.1
    · have h1 := key i j oi oj hoi hoj hij
      simp only [hd, Bool.and_eq_true, Bool.or_eq_true, Bool.not_eq_true'] at h1
      have h2 := h1.1.1.1.2
      have hc : (oj.looksAt os).contains d = true := by simpa using hl
      rw [hc] at h2
      simp only [Bool.true_eq_false, false_or] at h2
      exact ⟨fun hlt => (ifB h2).1 hlt, fun hlt => (ifB h2).2 (by omega)⟩
    · have h1 := key i j os[i] os[j] (Array.getElem?_eq_getElem his) (Array.getElem?_eq_getElem hjs) hij
      rw [Bool.and_eq_true] at h1
      have h2 := h1.2
      rw [hcc i his, hcc j hjs] at h2
      simp only [Bool.or_eq_true, Bool.not_eq_true', Bool.and_eq_true] at h2
      rcases h2 with ((h2 | h2) | h2) | h2
      · rw [isW_iff.2 hw] at h2; cases h2
      · exact absurd (isF_iff.1 h2) hl
      · exact absurd h2 hnA
      · exact ⟨fun hlt => (ifB h2).1 hlt, fun hlt => (ifB h2).2 (by omega)⟩
  have hFr : Fresh os c (beforeL os.toList) A (min m0 os.size) := by
    refine ⟨fun i hi => ⟨?_, hAl i hi⟩, fun i hi hw => ?_, fun i j his hjs hi hj hc => ?_, fun i j oi oj d hoi hoj hij hi hc hd hl => ?_, Nat.min_le_right _ _⟩
    · have his := hAs i hi
      have h1 := hd1 i (List.mem_range.2 his)
      simp only [Bool.and_eq_true, Bool.or_eq_true, Bool.not_eq_true', decide_eq_true_eq] at h1
      rcases h1.1 with h | h
      · exact absurd h (by rw [show alAt os cs i = true from hi]; simp)
      · omega
    · have his : i < os.size := by omega
      have h1 := hd1 i (List.mem_range.2 his)
      rw [hcc i his] at h1
      simp only [Bool.and_eq_true, Bool.or_eq_true, Bool.not_eq_true', decide_eq_false_iff_not] at h1
      rcases h1.2 with (h | h) | h
      · omega
      · rw [isW_iff.2 hw] at h; cases h
      · exact h
    · have hij : i ≠ j := by rintro rfl; exact hj hi
      have h1 := key i j os[i] os[j] (Array.getElem?_eq_getElem his) (Array.getElem?_eq_getElem hjs) hij
      rw [Bool.and_eq_true, Bool.and_eq_true] at h1
      have h2 := h1.1.2
      rw [hcc j hjs] at h2
      simp only [Bool.or_eq_true, Bool.not_eq_true', decide_eq_true_eq] at h2
      rcases h2 with ((h2 | h2) | h2) | h2
      · exact absurd h2 (by rw [show alAt os cs i = true from hi]; simp)
      · exact absurd h2 hj
      · exact absurd (isF_iff.1 h2) hc
      · exact h2
    · have h1 := key i j oi oj hoi hoj hij
      simp only [hd, Bool.and_eq_true, Bool.or_eq_true, Bool.not_eq_true'] at h1
      have h2 := h1.1.1.2
      rw [hcc j (Array.getElem?_eq_some_iff.1 hoj).1] at h2
      rcases h2 with ((h2 | h2) | h2) | h2
      · exact absurd h2 (by rw [show alAt os cs i = true from hi]; simp)
      · rcases hc with hc | hc
        · rw [isF_iff.2 hc] at h2; simp at h2
        · rw [show alAt os cs j = true from hc] at h2; simp at h2
      · have hc : (oj.looksAt os).contains d = true := by simpa using hl
        rw [hc] at h2
        cases h2
      · refine ⟨fun hj => ?_, fun k hk => ?_⟩
        · have := h2.1
          rw [show alAt os cs j = true from hj] at this
          cases this
        · have := List.all_eq_true.1 h2.2 k (List.mem_range.2 (hAs k hk))
          rw [show alAt os cs k = true from hk] at this
          simpa using this
  refine wp_region_any hE.mixed ?_
  have hR0 : R E { s with w := s.w.drew } (H 0) := by
    rw [e2]
    exact hR.quiet ⟨rfl, rfl, rfl, fun _ h => h, fun _ h => .inl h, fun _ _ => rfl, Nat.le_refl _, rfl, rfl, rfl⟩
  have hS0 : Step s { s with w := s.w.drew } := Quiet.step ⟨rfl, rfl, rfl, fun _ h => h, fun _ h => .inl h, fun _ _ => rfl, Nat.le_refl _, rfl, rfl, rfl⟩ hR.immlt
  have hF0 := hF.mono hS0.ext
  have hno : ∀ k, (Array.replicate os.size false).getD k false = false := fun k => by simp [Array.getD_eq_getD_getElem?, Array.getElem?_replicate]; split <;> rfl
  have hI : Inv1 E N os F H v c A (Array.replicate os.size false) { s with w := s.w.drew } { s with w := s.w.drew } a :=
    ⟨by simp, fun k o hk hl => (by rw [hno] at hl; cases hl), fun k _ _ _ => hno k, hR0, Step.refl _, hF.defers, hF.size, fun k o t hk hl => (by rw [hno] at hl; cases hl), fun k o t hk hl => (by rw [hno] at hl; cases hl),
      fun k k' o o' t t' _ _ hl => (by rw [hno] at hl; cases hl), fun t _ => (by rw [e1]; exact hF0.val t)⟩
  exact any_orderA hE hp hO hFr os.size _ _ _ a hI (by
    have := List.length_filter_le (fun k => !(Array.replicate os.size false).getD k true) (List.range os.size)
    simpa using this) Q fun s' a' hst hR' hF' => hQ s' a' (hS0.trans hst) (by rw [← e4]; exact hR') (by rw [← e3]; exact hF')

theorem draw_code (hE : EnvOk E P) {N id : Nat} {os : Array Oper} {fr fr' : AF} {h h' : AHeap} {cs : List Cls} (ho : OpsS P E N os os.toList fr h cs fr' h') (hd : drawOk os cs = true) : CodeS P E N (.region id os true) fr h .normal fr' h' := by
  simp only [drawOk, Bool.or_eq_true] at hd
  rcases hd with hd | hd
  · exact draw_code0 hE ho hd
  · exact draw_codeA hE ho hd

/-! ### Results -/
theorem run_res1 (hE : EnvOk E P) {N : Nat} {s : St} {fr : AF} {a : Act} {h : AHeap} (hR : R E s h) (hF : FR N s fr a) {r : ResultVar} {v : AV} (hv : evRes1 E fr h r = some v) :
    ∃ u, (match r with | .tmp t => pure (a.tmps.getD t Go.undef) | .cell p t => do loadVar t (← asAddr (a.tmps.getD p Go.undef)) : Sem Value).run P s.w = .ok u s.w ∧ V s v u := by
  cases r with
  | tmp t =>
    simp only [evRes1, Option.some.injEq] at hv
    subst hv
    exact ⟨_, rfl, hF.val t⟩
  | cell p t =>
    simp only [evRes1] at hv
    have hp := hF.val p
    split at hv
    · rename_i xs i hx ht
      rw [hx] at hp
      simp only [V] at hp
      obtain ⟨ad, us, he, hl, hm⟩ := hp
      obtain ⟨u, hu, hvu⟩ := run_loadVar hE ht hv hl (fun y hy => by
        obtain ⟨j, hj⟩ := List.mem_iff_getElem?.1 hy
        exact (hm j y hj).1) (fun j y hj => (hm j y hj).2.2)
      exact ⟨u, by simp only [he, asAddr, Sem.run_bind, Sem.run_pure, Result.andThen_ok, hu], hvu⟩
    · rename_i b ver off i hx ht
      rw [hx] at hp
      split at hv
      · rename_i xs hg
        simp only [V] at hp
        obtain ⟨ad, cur, he, hcur, hle, hk⟩ := hp
        obtain ⟨g, c, e, us, h1, h2, h3, h4, h5, h6, _⟩ := blk_cells hR (getCells_eq hg)
        rw [hcur] at h2
        injection h2 with h2
        obtain ⟨g', hg', rfl⟩ := hk h2
        rw [h1] at hg'
        injection hg' with hg'
        subst hg'
        obtain ⟨u, hu, hvu⟩ := run_loadVar hE ht hv (h4.drop off) (fun y hy => h5 y (List.mem_of_mem_drop hy)) (at_block h3 h6)
        exact ⟨u, by simp only [he, asAddr, Sem.run_bind, Sem.run_pure, Result.andThen_ok, hu], hvu⟩
      · cases hv
    · cases hv

theorem run_res (hE : EnvOk E P) {N : Nat} {s : St} {fr : AF} {a : Act} {h : AHeap} (hR : R E s h) (hF : FR N s fr a) : ∀ (rs : List ResultVar) (vs : List AV), evRes E fr h rs = some vs →
    ∃ us : List Value, (rs.mapM fun r => (match r with | .tmp t => pure (a.tmps.getD t Go.undef) | .cell p t => do loadVar t (← asAddr (a.tmps.getD p Go.undef)) : Sem Value)).run P s.w = .ok us s.w ∧ VL s vs us
  | [], vs, h => by
    simp only [evRes, Option.some.injEq] at h
    subst h
    exact ⟨[], by simp, by simp⟩
  | r :: rs, vs, h => by
    simp only [evRes] at h
    split at h
    · rename_i v vs' hv hvs
      injection h with h
      subst h
      obtain ⟨u, hu, hvu⟩ := run_res1 hE hR hF hv
      obtain ⟨us, hus, hl⟩ := run_res hE hR hF rs vs' hvs
      refine ⟨u :: us, ?_, by simp only [VL_cons]; exact ⟨u, us, rfl, hvu, hl⟩⟩
      simp only [List.mapM_cons, Sem.run_bind, hu, Result.andThen_ok, hus, Sem.run_pure]
    · cases h

theorem sound_call (hE : EnvOk E P) {f : FuncId} {F : AFn} {args : List AV} {h h' : AHeap} {ex : AEx} {fr' : AF} {vs : List AV} (hF : E.fn f = some F) (hlen : args.length ≤ F.N) (hc : CodeS P E F.N F.code (initF args) h ex fr' h') (hex : ex = .normal ∨ ex = .ret) (hr : evRes E fr' h' F.res = some vs) :
    CallS P E f args h (oneOrTup vs) h' := by
  intro s us hR hl
  obtain ⟨fn, h1, h2, h3, h4, h5⟩ := hE.fn f F hF
  have hul := hl.length
  refine calls_of_wp h1 h2 (hc s _ hR ⟨rfl, by simp; omega, fun t => ?_⟩ _ fun s' a' hst hR' hF' => ?_)
  · simp only [initF]
    rcases Nat.lt_or_ge t us.length with hlt | hge
    · have hx : args[t]? = some (args.getD t .undef) := by simp [List.getD_eq_getElem?_getD, show t < args.length by omega]
      obtain ⟨u, hu, hv⟩ := hl.get t _ hx
      have he : (us.toArray ++ Array.replicate (fn.ntmps - us.toArray.size) Go.undef).getD t Go.undef = u := by
        simp [Array.getD_eq_getD_getElem?, Array.getElem?_append, hlt]
        have := (List.getElem?_eq_some_iff.1 hu).2
        exact this
      rw [he]
      exact hv
    · have hx : args.getD t .undef = .undef := by simp [List.getD_eq_getElem?_getD, List.getElem?_eq_none (show args.length ≤ t by omega)]
      rw [hx]
      have he : (us.toArray ++ Array.replicate (fn.ntmps - us.toArray.size) Go.undef).getD t Go.undef = Go.undef := by
        simp only [Array.getD_eq_getD_getElem?, Array.getElem?_append, List.size_toArray, show ¬ t < us.length by omega, if_false, Array.getElem?_replicate]
        split <;> rfl
      rw [he]
      simp [AV.undef]
  · obtain ⟨ws, hws, hvl⟩ := run_res hE hR' hF' F.res vs hr
    have hres : ∃ u, (results fn a'.tmps).run P s'.w = .ok u s'.w ∧ V s' (oneOrTup vs) u := by
      have hm : (fn.results.mapM fun r => (match r with | .tmp t => pure (a'.tmps.getD t Go.undef) | .cell p t => do loadVar t (← asAddr (a'.tmps.getD p Go.undef)) : Sem Value)).run P s'.w = .ok ws.toArray s'.w := by
        rw [Array.mapM_eq_mapM_toList, Sem.run_map, h4, hws]
        rfl
      have hdef : results fn a'.tmps = (do
          let vs ← fn.results.mapM fun r => (match r with | .tmp t => pure (a'.tmps.getD t Go.undef) | .cell p t => do loadVar t (← asAddr (a'.tmps.getD p Go.undef)) : Sem Value)
          pure (if h : vs.size = 1 then vs[0] else .tuple vs)) := rfl
      have hwl := hvl.length
      match vs, ws, hwl, hvl, hm with
      | [v], [u], _, hvl, hm =>
        simp only [VL_cons, VL_nil] at hvl
        obtain ⟨u', us', he, hv, _⟩ := hvl
        simp only [List.cons.injEq] at he
        refine ⟨u, ?_, by rw [he.1]; exact hv⟩
        rw [hdef, Sem.run_bind, hm]
        simp
      | [], [], _, hvl, hm =>
        refine ⟨.tuple #[], ?_, by simp only [oneOrTup, V]; exact ⟨[], rfl, by simp⟩⟩
        rw [hdef, Sem.run_bind, hm]
        simp
      | v :: v' :: vs, u :: u' :: us, _, hvl, hm =>
        refine ⟨.tuple (u :: u' :: us).toArray, ?_, by simp only [oneOrTup, V]; exact ⟨_, rfl, hvl⟩⟩
        rw [hdef, Sem.run_bind, hm]
        simp
    obtain ⟨u, hu, hv⟩ := hres
    rcases hex with rfl | rfl
    · exact ⟨hF'.defers, u, hu, u, s', rfl, rfl, hst, hR', hv⟩
    · exact ⟨hF'.defers, u, hu, u, s', rfl, rfl, hst, hR', hv⟩

theorem concEx_ne {ex : AEx} (h : ex ≠ .normal) {next : Act → World → Prop} {Q : Exit → Act → World → Prop} {a : Act} {w : World} (hq : Q (concEx ex) a w) : Exit.then next Q (concEx ex) a w := by
  cases ex with
  | normal => exact absurd rfl h
  | exit id => exact hq
  | ret => exact hq

/-- At a loop's round. -/
def LoopWp (P : Program) (c : Code) (Q : Exit → Act → World → Prop) (a : Act) (w : World) : Prop :=
  ∀ (b : Frame) (k : List Item) (cs : List Frame), ∃ e a' w', Q e a' w' ∧ Arrives P (lone (b.at a (.code c :: .inLoop c :: k)) cs w) b k cs e a' w'

theorem loop_of {c : Code} {Q : Exit → Act → World → Prop} {a : Act} {w : World} (h : LoopWp P c Q a w) : (Code.loop c).wp P Q a w :=
  fun b k cs => let ⟨e, a', w', q, r⟩ := h b k cs; ⟨e, a', w', q, .of_steps (.one step_loop) r⟩

theorem loop_round {c : Code} {Q : Exit → Act → World → Prop} {a : Act} {w : World} (h : c.wp P (Exit.then (LoopWp P c Q) Q) a w) : LoopWp P c Q a w := by
  intro b k cs
  obtain ⟨e, a1, w1, hq, harr⟩ := h b (.inLoop c :: k) cs
  cases e with
  | normal =>
    obtain ⟨e2, a2, w2, hq2, harr2⟩ := hq b k cs
    exact ⟨e2, a2, w2, hq2, .of_steps (Steps.trans harr (.one step_inLoop)) harr2⟩
  | exit id => exact ⟨_, a1, w1, hq, .pass (x := .inLoop c) rfl (fun _ _ => .inl (by simp)) harr⟩
  | goto l => exact ⟨_, a1, w1, hq, .pass (x := .inLoop c) rfl (fun _ _ => .inl (by simp)) harr⟩
  | ret => exact ⟨_, a1, w1, hq, .pass (x := .inLoop c) rfl (fun _ _ => .inl (by simp)) harr⟩
  | panic ch => exact ⟨_, a1, w1, hq, .pass (x := .inLoop c) rfl (fun _ _ => .inl (by simp)) harr⟩
  | outgrown => exact ⟨_, a1, w1, hq, .pass (x := .inLoop c) rfl (fun _ _ => .inl (by simp)) harr⟩

def LoopS (P : Program) (E : Env) (N : Nat) (c : Code) (fr : AF) (h : AHeap) (ex : AEx) (fr' : AF) (h' : AHeap) : Prop :=
  ∀ (s : St) (a : Act), R E s h → FR N s fr a → ∀ Q : Exit → Act → World → Prop, (∀ s' a', Step s s' → R E s' h' → FR N s' fr' a' → Q (concEx ex) a' s'.w) → LoopWp P c Q a s.w

def Sound' (P : Program) (E : Env) : J → Prop
  | .call f args h v h' => CallS P E f args h v h'
  | .op _ fr h o v h' c => OpS P E fr h o v h' c
  | .ops _ N all os fr h cs fr' h' => OpsS P E N all os fr h cs fr' h'
  | .code _ N c fr h ex fr' h' => CodeS P E N c fr h ex fr' h' ∧ ∀ body, c = .loop body → LoopS P E N body fr h ex fr' h'

/-- A block that nobody writes any more. -/
def St.ice (s : St) (h : AHeap) (b ver g : Nat) : St := { s with imm := fun x => s.imm x ∨ x = g, vr := AHeap.vr (h.set b (.dead (ver + 1))) }
theorem freeze_ok {N : Nat} {s : St} {h : AHeap} {fr : AF} {a : Act} (hR : R E s h) (hF : FR N s fr a) {t b ver off n sz : Nat} {xs : List AV} (ht : fr t = .ms b ver off n sz) (hg : getCells h b ver = some xs) (hle : off + n * sz ≤ xs.length) :
    ∃ s1 : St, s1.w = s.w ∧ Step s s1 ∧ R E s1 (h.set b (.dead (ver + 1))) ∧ FR N s1 (upd fr t (.ro n ((xs.drop off).take (n * sz)))) a := by
  have hb := getCells_eq hg
  have hblt : b < h.length := (List.getElem?_eq_some_iff.1 hb).1
  obtain ⟨g, c, e, us, h1, h2, h3, h4, h5, h6, h7⟩ := blk_cells hR hb
  have hvr : ∀ x, x ≠ b → AHeap.vr (h.set b (.dead (ver + 1))) x = AHeap.vr h x := fun x hx => by simp [AHeap.vr, List.getElem?_set_ne (Ne.symm hx)]
  have hvb : AHeap.vr (h.set b (.dead (ver + 1))) b = some (ver + 1) := by simp [AHeap.vr, hblt, vrOf]
  have hx : Ext s (s.ice h b ver g) := by
    refine ⟨fun x cur hx => ?_, fun _ h => .inl h, fun _ _ => rfl, fun k c0 e0 hk => ⟨c0, hk, rfl⟩, fun k arr clock hk => ⟨arr, clock, hk, fun j e he => ⟨e, he, rfl, rfl⟩⟩⟩
    by_cases he : x = b
    · subst he
      rw [h2] at hx
      injection hx with hx
      exact ⟨ver + 1, hvb, by omega, fun e => by omega⟩
    · exact ⟨cur, (hvr x he).trans ((hR.vr x).symm.trans hx), Nat.le_refl _, fun _ => ⟨rfl, rfl⟩⟩
  have hglt := lt_of_heap h3
  refine ⟨s.ice h b ver g, rfl, ⟨hx, fun _ _ _ => rfl, fun x k hx hk => .inl ⟨?_, hk⟩, fun k hk => ?_, Nat.le_refl _, rfl, rfl, rfl⟩,
    ⟨fun _ => rfl, fun x bl hb' => ?_, fun x x' k hx hx' hk hk' => hR.inj x x' k (by simpa using hx) (by simpa using hx') hk hk', fun k hk => ?_, fun k ys hk => V.mono hx _ _ (hR.glob k ys hk)⟩, ⟨hF.defers, hF.size, fun t' => ?_⟩⟩
  · simp only [St.ice] at hx
    by_cases he : x = b
    · subst he; rw [h2]; simp
    · rw [hvr x he] at hx; rw [hR.vr]; exact hx
  · rcases hk with hk | hk
    · exact .inl hk
    · exact .inr (.inr ⟨b, by rw [h2]; simp, by rw [hk]; exact h1⟩)
  · by_cases he : x = b
    · subst he
      rw [List.getElem?_set_self hblt] at hb'
      injection hb' with hb'
      subst hb'
      exact ⟨g, h1, trivial, hglt, trivial⟩
    · rw [List.getElem?_set_ne (Ne.symm he)] at hb'
      obtain ⟨g', m1, m2, m3, m4⟩ := hR.blk x bl hb'
      refine ⟨g', m1, m2.imp fun hi => ?_, m3, m4.mono hx rfl⟩
      rcases hi with hi | hi
      · exact hi
      · exact absurd (hR.inj x b g (List.getElem?_eq_some_iff.1 hb').1 hblt (by rw [← hi]; exact m1) h1) he
  · rcases hk with hk | hk
    · exact hR.immlt k hk
    · rw [hk]; exact hglt
  · simp only [upd]
    split
    · rename_i e
      subst e
      have hv := hF.val t'
      rw [ht] at hv
      simp only [V] at hv
      obtain ⟨ad, cap, cur, hu, hn, hcur, hlev, hk⟩ := hv
      rw [h2] at hcur
      injection hcur with hcur
      rw [hu]
      simp only [V]
      have hus := h4.length
      refine ⟨some ad, cap, (us.drop off).take (n * sz), rfl, hn, fun _ => rfl, VL.mono hx _ _ ((h4.drop off).take _), fun j x hj => ⟨h5 x (List.mem_of_mem_drop (List.mem_of_mem_take (List.mem_of_getElem? hj))), ad, rfl, ?_, ?_⟩⟩
      all_goals
        have hpos : 0 < n := by
          rcases Nat.eq_zero_or_pos n with h0 | h0
          · subst h0; simp at hj
          · exact h0
        rcases hk hcur.symm with h0 | ⟨g', c', e', k1, k2, rfl, k4, k5⟩
        · omega
        rw [h1] at k1
        injection k1 with k1
        subst k1
      · exact .inr rfl
      · exact (at_block (off := off) h3 h6).take (n * sz) j x hj
    · exact V.mono hx _ _ (hF.val t')
/-- What is told of functions whose code is not run here. -/
def PrimOk (P : Program) (E : Env) : Prop := ∀ f args h v h', E.prim f args h v h' → CallS P E f args h v h'
theorem sound (hE : EnvOk E P) (hP : PrimOk P E) {j : J} (hj : Ev E j) : Sound' P E j := by
  induction hj with
  | free he => exact sound_free hE he
  | heap he => exact sound_heap hE he
  | pcall hop hf ha hc hwl hev hr hrc hwk ih => exact sound_pcall hE hop hf ha hc hwl hev ih hr hrc hwk
  | icall hop hf ha hev ih => exact sound_icall hE hop hf ha hev ih
  | bcall hop hf ha hw hc hwl hev hr hrc hwk hfl ih => exact sound_bcall hE hop hf ha hw hc hwl hev ih hr hrc hwk hfl
  | nil => exact ⟨rfl, rfl, rfl⟩
  | cons hw hd _ _ ih1 ih2 => exact ⟨_, _, _, _, rfl, hd, .inl ⟨hw, ih1⟩, ih2⟩
  | skipOp hw hd _ ih => exact ⟨_, _, _, _, rfl, hd, .inr ⟨hw, rfl, rfl, rfl⟩, ih⟩
  | skip => exact ⟨fun s a hR hF Q hQ => wp_skip (hQ s a (Step.refl s) hR hF), fun _ h => by cases h⟩
  | label => exact ⟨fun s a hR hF Q hQ => wp_label (hQ s a (Step.refl s) hR hF), fun _ h => by cases h⟩
  | ret => exact ⟨fun s a hR hF Q hQ => wp_ret (hQ s a (Step.refl s) hR hF), fun _ h => by cases h⟩
  | exit => exact ⟨fun s a hR hF Q hQ => wp_exit (hQ s a (Step.refl s) hR hF), fun _ h => by cases h⟩
  | region _ ih =>
    refine ⟨fun s a hR hF Q hQ => wp_region ?_, fun _ h => by cases h⟩
    rw [List.range_eq_range', ← Array.length_toList]
    exact ops_seq _ 0 _ _ _ _ _ ih (by simp) s a hR hF Q hQ
  | draw _ hd ih => exact ⟨draw_code hE ih hd, fun _ h => by cases h⟩
  | seqN _ _ ih1 ih2 =>
    refine ⟨fun s a hR hF Q hQ => wp_seq (ih1.1 s a hR hF _ fun s1 a1 hst hR1 hF1 => ?_), fun _ h => by cases h⟩
    exact ih2.1 s1 a1 hR1 hF1 Q fun s2 a2 hst2 hR2 hF2 => hQ s2 a2 (hst.trans hst2) hR2 hF2
  | seqX hne _ ih =>
    exact ⟨fun s a hR hF Q hQ => wp_seq (ih.1 s a hR hF _ fun s1 a1 hst hR1 hF1 => concEx_ne hne (hQ s1 a1 hst hR1 hF1)), fun _ h => by cases h⟩
  | condT hc _ ih =>
    refine ⟨fun s a hR hF Q hQ => wp_cond_true ?_ (ih.1 s a hR hF Q hQ), fun _ h => by cases h⟩
    have := hF.eval hR _ _ hc
    simpa using this
  | condF hc _ ih =>
    refine ⟨fun s a hR hF Q hQ => wp_cond_false ?_ (ih.1 s a hR hF Q hQ), fun _ h => by cases h⟩
    have := hF.eval hR _ _ hc
    simpa using this
  | blockX _ ih =>
    refine ⟨fun s a hR hF Q hQ => wp_block (ih.1 s a hR hF _ fun s1 a1 hst hR1 hF1 => ?_), fun _ h => by cases h⟩
    simp only [concEx, Exit.inBlock, if_true]
    exact hQ s1 a1 hst hR1 hF1
  | @blockO f N id a fr h ex fr' h' hne _ ih =>
    refine ⟨fun s a hR hF Q hQ => wp_block (ih.1 s a hR hF _ fun s1 a1 hst hR1 hF1 => ?_), fun _ h => by cases h⟩
    have hq := hQ s1 a1 hst hR1 hF1
    cases ex with
    | normal => exact hq
    | ret => exact hq
    | exit id' =>
      simp only [concEx, Exit.inBlock] at hq ⊢
      rw [if_neg (fun e => hne (by rw [e]))]
      exact hq
  | freeze ht hg hle _ ih =>
    refine ⟨fun s a hR hF Q hQ => ?_, fun body hb => fun s a hR hF Q hQ => ?_⟩
    · obtain ⟨s1, hw, hst, hR1, hF1⟩ := freeze_ok hR hF ht hg hle
      rw [← hw]
      exact ih.1 s1 a hR1 hF1 Q fun s2 a2 hst2 hR2 hF2 => hQ s2 a2 (hst.trans hst2) hR2 hF2
    · obtain ⟨s1, hw, hst, hR1, hF1⟩ := freeze_ok hR hF ht hg hle
      rw [← hw]
      exact ih.2 body hb s1 a hR1 hF1 Q fun s2 a2 hst2 hR2 hF2 => hQ s2 a2 (hst.trans hst2) hR2 hF2
  | @scope f N a fr h ex fr' h' _ ih =>
    refine ⟨fun s a hR hF Q hQ => wp_scope_straight (ih.1 s a hR hF _ fun s1 a1 hst hR1 hF1 => ?_), fun _ h => by cases h⟩
    have hq := hQ s1 a1 hst hR1 hF1
    cases ex with
    | normal => exact hq
    | ret => exact hq
    | exit id' => exact hq
  | loopN _ _ ih1 ih2 =>
    have hl : LoopS P E _ _ _ _ _ _ _ := fun s a hR hF Q hQ => loop_round (ih1.1 s a hR hF _ fun s1 a1 hst hR1 hF1 => ih2.2 _ rfl s1 a1 hR1 hF1 Q fun s2 a2 hst2 hR2 hF2 => hQ s2 a2 (hst.trans hst2) hR2 hF2)
    exact ⟨fun s a hR hF Q hQ => loop_of (hl s a hR hF Q hQ), fun body h => by cases h; exact hl⟩
  | loopX hne _ ih =>
    have hl : LoopS P E _ _ _ _ _ _ _ := fun s a hR hF Q hQ => loop_round (ih.1 s a hR hF _ fun s1 a1 hst hR1 hF1 => concEx_ne hne (hQ s1 a1 hst hR1 hF1))
    exact ⟨fun s a hR hF Q hQ => loop_of (hl s a hR hF Q hQ), fun body h => by cases h; exact hl⟩
  | call hF hlen _ hex hr ih => exact sound_call hE hF hlen ih.1 hex hr
  | prim _ hp => exact hP _ _ _ _ _ hp

#print axioms sound

end
end Go.Abs
