/- Abstract values of Go's model, and what they say of real ones: read-only memory is told by its cells, memory that may be written by a block of an abstract heap. Conditions: none; a text of definitions and laws. -/
import Derived.Orders
import Derived.Below
import Derived.Laws.Slices
import Derived.Laws.AppendOwn
import Derived.Laws.MakeOwn
import Derived.KernelRfl
set_option linter.unusedVariables false
set_option linter.unusedSimpArgs false
namespace Go.Abs
open Go Go.RowKit

/-- Abstract values. -/
inductive AV where
  | lit (v : Value)
  | agg (cs : List AV)
  | tup (vs : List AV)
  | ro (n : Nat) (xs : List AV)
  | rp (xs : List AV)
  | ms (b ver off n sz : Nat)
  | mp (b ver off : Nat)
  | mref (b : Nat)
  | ent (b : Nat) (kd : IntKind) (x y : Int)
  | fn (f : FuncId) (cap : List AV)
  deriving Inhabited

def AV.undef : AV := .lit Go.undef

/-- What relates the abstract to the real: where blocks lie, which real blocks nobody writes any more, the versions of blocks, the world. -/
structure St where
  ρ : Nat → Option Nat
  bs : Nat → Nat
  imm : Nat → Prop
  vr : Nat → Option Nat
  w : World

/-- A pair as a map's key. -/
def keyV (kd : IntKind) (x y : Int) : Value := .agg #[.int kd x, .int kd y]

mutual
def V (s : St) : AV → Value → Prop
  | .lit v, u => u = v
  | .agg cs, u => ∃ us, u = .agg (List.toArray us) ∧ VL s cs us ∧ ∀ x ∈ us, x.oneCell' = true
  | .tup cs, u => ∃ us, u = .tuple (List.toArray us) ∧ VL s cs us
  | .ro n xs, u => ∃ a cap us, u = .slice a n cap ∧ n ≤ cap ∧ (0 < n → a.isSome = true) ∧ VL s xs us ∧ ∀ j x, us[j]? = some x → x.oneCell' = true ∧ ∃ ad, a = some ad ∧ s.imm ad.block ∧ s.w.cell? (ad.add j) = some x
  | .rp xs, u => ∃ ad us, u = .pointer (some ad) ∧ VL s xs us ∧ ∀ j x, us[j]? = some x → x.oneCell' = true ∧ s.imm ad.block ∧ s.w.cell? (ad.add j) = some x
  | .ms b ver off n sz, u => ∃ ad cap cur, u = .slice (some ad) n cap ∧ n ≤ cap ∧ s.vr b = some cur ∧ ver ≤ cur ∧ (cur = ver → cap = 0 ∨ ∃ g c e, s.ρ b = some g ∧ s.w.heap[g]? = some (.cells c e (0, 0)) ∧ ad = ⟨g, s.bs b + off, none⟩ ∧ s.bs b + off + cap * sz ≤ c.size ∧ cap ≤ 9223372036854775807)
  | .mp b ver off, u => ∃ ad cur, u = .pointer (some ad) ∧ s.vr b = some cur ∧ ver ≤ cur ∧ (cur = ver → ∃ g, s.ρ b = some g ∧ ad = ⟨g, s.bs b + off, none⟩)
  | .mref b, u => ∃ r cur, u = .map (some r) ∧ s.vr b = some cur ∧ (cur = 0 → s.ρ b = some r)
  | .ent b kd x y, u => ∃ (r cur born : Nat), u = goInt born ∧ s.vr b = some cur ∧ (cur = 0 → s.ρ b = some r ∧ ∃ (arr : Array MapEntry) (clock j : Nat) (e : MapEntry), s.w.heap[r]? = some (.map arr clock) ∧ arr[j]? = some e ∧ e.born = born ∧ e.key = keyV kd x y)
  | .fn f cap, u => ∃ us, u = .func (.func f) #[] (List.toArray us) ∧ VL s cap us
def VL (s : St) : List AV → List Value → Prop
  | [], us => us = []
  | x :: xs, us => ∃ u us', us = u :: us' ∧ V s x u ∧ VL s xs us'
end

@[simp] theorem V_lit {s : St} {v u : Value} : V s (.lit v) u ↔ u = v := by simp only [V]
@[simp] theorem VL_nil {s : St} {us : List Value} : VL s [] us ↔ us = [] := by simp only [VL]
theorem VL_cons {s : St} {x : AV} {xs : List AV} {us : List Value} : VL s (x :: xs) us ↔ ∃ u us', us = u :: us' ∧ V s x u ∧ VL s xs us' := by simp only [VL]

theorem VL.length {s : St} : ∀ {xs : List AV} {us : List Value}, VL s xs us → us.length = xs.length
  | [], _, h => by simp only [VL] at h; subst h; rfl
  | x :: xs, _, h => by
    simp only [VL] at h
    obtain ⟨u, us', rfl, _, h'⟩ := h
    simp [h'.length]

theorem VL.get {s : St} : ∀ {xs : List AV} {us : List Value}, VL s xs us → ∀ (j : Nat) (x : AV), xs[j]? = some x → ∃ u, us[j]? = some u ∧ V s x u
  | [], _, h, j, x, hx => by simp at hx
  | y :: xs, _, h, j, x, hx => by
    simp only [VL] at h
    obtain ⟨u, us', rfl, hy, h'⟩ := h
    cases j with
    | zero => simp at hx; subst hx; exact ⟨u, rfl, hy⟩
    | succ j => simpa using h'.get j x (by simpa using hx)

theorem VL.getR {s : St} : ∀ {xs : List AV} {us : List Value}, VL s xs us → ∀ (j : Nat) (u : Value), us[j]? = some u → ∃ x, xs[j]? = some x ∧ V s x u
  | [], _, h, j, u, hu => by simp only [VL] at h; subst h; simp at hu
  | y :: xs, _, h, j, u, hu => by
    simp only [VL] at h
    obtain ⟨u', us', rfl, hy, h'⟩ := h
    cases j with
    | zero => simp at hu; subst hu; exact ⟨y, rfl, hy⟩
    | succ j => simpa using h'.getR j u (by simpa using hu)

theorem VL.mk {s : St} : ∀ {xs : List AV} {us : List Value}, us.length = xs.length → (∀ (j : Nat) (x : AV) (u : Value), xs[j]? = some x → us[j]? = some u → V s x u) → VL s xs us
  | [], us, hl, _ => by simp only [VL]; exact List.eq_nil_of_length_eq_zero (by simpa using hl)
  | x :: xs, us, hl, h => by
    cases us with
    | nil => simp at hl
    | cons u us =>
      simp only [VL]
      exact ⟨u, us, rfl, h 0 x u rfl rfl, VL.mk (by simpa using hl) fun j x u hx hu => h (j + 1) x u (by simpa using hx) (by simpa using hu)⟩

theorem VL.drop {s : St} {xs : List AV} {us : List Value} (h : VL s xs us) (k : Nat) : VL s (xs.drop k) (us.drop k) :=
  VL.mk (by simp [h.length]) fun j x u hx hu => by
    rw [List.getElem?_drop] at hx hu
    obtain ⟨u', hu', hv⟩ := h.get _ _ hx
    rw [hu] at hu'
    injection hu' with hu'
    subst hu'
    exact hv

theorem VL.take {s : St} {xs : List AV} {us : List Value} (h : VL s xs us) (k : Nat) : VL s (xs.take k) (us.take k) :=
  VL.mk (by simp [h.length]) fun j x u hx hu => by
    rw [List.getElem?_take] at hx hu
    split at hx
    · rename_i hj
      simp only [hj, if_true] at hu
      obtain ⟨u', hu', hv⟩ := h.get _ _ hx
      rw [hu] at hu'
      injection hu' with hu'
      subst hu'
      exact hv
    · cases hx

theorem VL.append {s : St} : ∀ {xs : List AV} {us : List Value} {ys : List AV} {vs : List Value}, VL s xs us → VL s ys vs → VL s (xs ++ ys) (us ++ vs)
  | [], us, ys, vs, h, h' => by simp only [VL] at h; subst h; exact h'
  | x :: xs, us, ys, vs, h, h' => by
    simp only [VL] at h
    obtain ⟨u, us', rfl, hx, h⟩ := h
    simp only [List.cons_append, VL]
    exact ⟨u, us' ++ vs, rfl, hx, h.append h'⟩

theorem VL.set {s : St} {xs : List AV} {us : List Value} (h : VL s xs us) (k : Nat) {x : AV} {u : Value} (hx : V s x u) : VL s (xs.set k x) (us.set k u) :=
  VL.mk (by simp [h.length]) fun j y v hy hv => by
    rw [List.getElem?_set] at hy hv
    split at hy
    · rename_i e
      subst e
      simp only [if_true] at hv
      split at hy
      · rename_i hk
        rw [if_pos (by rw [h.length]; exact hk)] at hv
        injection hy with hy
        injection hv with hv
        subst hy
        subst hv
        exact hx
      · cases hy
    · rename_i e
      rw [if_neg e] at hv
      obtain ⟨u', hu', hv'⟩ := h.get _ _ hy
      rw [hv] at hu'
      injection hu' with hu'
      subst hu'
      exact hv'

/-- From one state on to a later one: what is alive keeps its place, what nobody writes stays. -/
structure Ext (s s' : St) : Prop where
  ver : ∀ b cur, s.vr b = some cur → ∃ cur', s'.vr b = some cur' ∧ cur ≤ cur' ∧ (cur' = cur → s'.ρ b = s.ρ b ∧ s'.bs b = s.bs b)
  imm : ∀ g, s.imm g → s'.imm g
  keep : ∀ g, s.imm g → s'.w.heap[g]? = s.w.heap[g]?
  size : ∀ (g : Nat) (c : Array Value) (e : TypeId), s.w.heap[g]? = some (Obj.cells c e (0, 0)) → ∃ c' : Array Value, s'.w.heap[g]? = some (Obj.cells c' e (0, 0)) ∧ c'.size = c.size
  maps : ∀ (g : Nat) (arr : Array MapEntry) (clock : Nat), s.w.heap[g]? = some (Obj.map arr clock) → ∃ (arr' : Array MapEntry) (clock' : Nat), s'.w.heap[g]? = some (Obj.map arr' clock') ∧ ∀ (j : Nat) (e : MapEntry), arr[j]? = some e → ∃ e' : MapEntry, arr'[j]? = some e' ∧ e'.key = e.key ∧ e'.born = e.born

theorem Ext.refl (s : St) : Ext s s := ⟨fun b cur h => ⟨cur, h, Nat.le_refl _, fun _ => ⟨rfl, rfl⟩⟩, fun _ h => h, fun _ _ => rfl, fun g c e h => ⟨c, h, rfl⟩, fun g arr clock h => ⟨arr, clock, h, fun j e he => ⟨e, he, rfl, rfl⟩⟩⟩

theorem Ext.trans {a b c : St} (h : Ext a b) (k : Ext b c) : Ext a c := by
  refine ⟨fun x cur hx => ?_, fun g hg => k.imm g (h.imm g hg), fun g hg => (k.keep g (h.imm g hg)).trans (h.keep g hg), fun g c e hg => ?_, fun g arr clock hg => ?_⟩
  · obtain ⟨c1, h1, l1, e1⟩ := h.ver x cur hx
    obtain ⟨c2, h2, l2, e2⟩ := k.ver x c1 h1
    refine ⟨c2, h2, Nat.le_trans l1 l2, fun e => ?_⟩
    have : c1 = cur := by omega
    have : c2 = c1 := by omega
    exact ⟨(e2 this).1.trans (e1 (by omega)).1, (e2 this).2.trans (e1 (by omega)).2⟩
  · obtain ⟨c1, h1, l1⟩ := h.size g c e hg
    obtain ⟨c2, h2, l2⟩ := k.size g c1 e h1
    exact ⟨c2, h2, l2.trans l1⟩
  · obtain ⟨a1, k1, h1, l1⟩ := h.maps g arr clock hg
    obtain ⟨a2, k2, h2, l2⟩ := k.maps g a1 k1 h1
    refine ⟨a2, k2, h2, fun j e he => ?_⟩
    obtain ⟨e1, i1, i2, i3⟩ := l1 j e he
    obtain ⟨e2, j1, j2, j3⟩ := l2 j e1 i1
    exact ⟨e2, j1, j2.trans i2, j3.trans i3⟩

theorem Ext.cell {s s' : St} (h : Ext s s') {a : Addr} {x : Value} (hi : s.imm a.block) (hc : s.w.cell? a = some x) : s'.w.cell? a = some x :=
  (World.cell?_of_block (h.keep _ hi)).trans hc

theorem add_block (a : Addr) (n : Nat) : (a.add n).block = a.block := by unfold Addr.add; split <;> rfl
theorem add_add (a : Addr) (i j : Nat) : (a.add i).add j = a.add (i + j) := by
  unfold Addr.add
  by_cases hi : i = 0
  · subst hi; simp
  · by_cases hj : j = 0
    · subst hj; simp [hi]
    · simp [hi, hj, Nat.add_assoc]

mutual
theorem V.mono {s s' : St} (h : Ext s s') : ∀ (x : AV) (u : Value), V s x u → V s' x u
  | .lit v, u, hv => by simp only [V] at hv ⊢; exact hv
  | .agg cs, u, hv => by
    simp only [V] at hv ⊢
    obtain ⟨us, rfl, hl, h1⟩ := hv
    exact ⟨us, rfl, VL.mono h _ _ hl, h1⟩
  | .tup cs, u, hv => by
    simp only [V] at hv ⊢
    obtain ⟨us, rfl, hl⟩ := hv
    exact ⟨us, rfl, VL.mono h _ _ hl⟩
  | .ro n xs, u, hv => by
    simp only [V] at hv ⊢
    obtain ⟨a, cap, us, rfl, hc, h0, hl, hm⟩ := hv
    refine ⟨a, cap, us, rfl, hc, h0, VL.mono h _ _ hl, fun j x hj => ?_⟩
    obtain ⟨h1, ad, ha, hi, hx⟩ := hm j x hj
    exact ⟨h1, ad, ha, h.imm _ hi, h.cell (by rw [add_block]; exact hi) hx⟩
  | .rp xs, u, hv => by
    simp only [V] at hv ⊢
    obtain ⟨ad, us, rfl, hl, hm⟩ := hv
    refine ⟨ad, us, rfl, VL.mono h _ _ hl, fun j x hj => ?_⟩
    obtain ⟨h1, hi, hx⟩ := hm j x hj
    exact ⟨h1, h.imm _ hi, h.cell (by rw [add_block]; exact hi) hx⟩
  | .ms b ver off n sz, u, hv => by
    simp only [V] at hv ⊢
    obtain ⟨ad, cap, cur, rfl, hn, hcur, hle, hk⟩ := hv
    obtain ⟨cur', h1, h2, h3⟩ := h.ver b cur hcur
    refine ⟨ad, cap, cur', rfl, hn, h1, by omega, fun e => ?_⟩
    have hcc : cur' = cur := by omega
    rcases hk (by omega) with h0 | ⟨g, c, el, hg, hh, rfl, hsz⟩
    · exact .inl h0
    · obtain ⟨c', hh', hs'⟩ := h.size g c el hh
      exact .inr ⟨g, c', el, (h3 hcc).1.trans hg, hh', by rw [(h3 hcc).2], by rw [(h3 hcc).2]; omega, hsz.2⟩
  | .mp b ver off, u, hv => by
    simp only [V] at hv ⊢
    obtain ⟨ad, cur, rfl, hcur, hle, hk⟩ := hv
    obtain ⟨cur', h1, h2, h3⟩ := h.ver b cur hcur
    refine ⟨ad, cur', rfl, h1, by omega, fun e => ?_⟩
    have hcc : cur' = cur := by omega
    obtain ⟨g, hg, rfl⟩ := hk (by omega)
    exact ⟨g, (h3 hcc).1.trans hg, by rw [(h3 hcc).2]⟩
  | .mref b, u, hv => by
    simp only [V] at hv ⊢
    obtain ⟨r, cur, rfl, hcur, hk⟩ := hv
    obtain ⟨cur', h1, h2, h3⟩ := h.ver b cur hcur
    exact ⟨r, cur', rfl, h1, fun e => (h3 (by omega)).1.trans (hk (by omega))⟩
  | .ent b kd x y, u, hv => by
    simp only [V] at hv ⊢
    obtain ⟨r, cur, born, rfl, hcur, hk⟩ := hv
    obtain ⟨cur', h1, h2, h3⟩ := h.ver b cur hcur
    refine ⟨r, cur', born, rfl, h1, fun e => ?_⟩
    obtain ⟨hr, arr, clock, j, en, hh, hj, hb, hkey⟩ := hk (by omega)
    obtain ⟨arr', clock', hh', hl⟩ := h.maps r arr clock hh
    obtain ⟨en', hj', hk', hb'⟩ := hl j en hj
    exact ⟨(h3 (by omega)).1.trans hr, arr', clock', j, en', hh', hj', hb'.trans hb, hk'.trans hkey⟩
  | .fn f cap, u, hv => by
    simp only [V] at hv ⊢
    obtain ⟨us, rfl, hl⟩ := hv
    exact ⟨us, rfl, VL.mono h _ _ hl⟩
theorem VL.mono {s s' : St} (h : Ext s s') : ∀ (xs : List AV) (us : List Value), VL s xs us → VL s' xs us
  | [], us, hv => by simp only [VL] at hv ⊢; exact hv
  | x :: xs, us, hv => by
    simp only [VL] at hv ⊢
    obtain ⟨u, us', rfl, hx, hl⟩ := hv
    exact ⟨u, us', rfl, V.mono h _ _ hx, VL.mono h _ _ hl⟩
end

mutual
/-- Without a reference to the abstract heap. -/
def AV.closed : AV → Bool
  | .lit _ => true
  | .agg cs => AV.closedL cs
  | .tup cs => AV.closedL cs
  | .ro _ xs => AV.closedL xs
  | .rp xs => AV.closedL xs
  | .ms .. => false
  | .mp .. => false
  | .mref _ => false
  | .ent .. => false
  | .fn _ cap => AV.closedL cap
def AV.closedL : List AV → Bool
  | [] => true
  | x :: xs => x.closed && AV.closedL xs
end

/-- The part of 'Ext' that closed values want. -/
structure ExtC (s s' : St) : Prop where
  imm : ∀ g, s.imm g → s'.imm g
  keep : ∀ g, s.imm g → s'.w.heap[g]? = s.w.heap[g]?

theorem Ext.c {s s' : St} (h : Ext s s') : ExtC s s' := ⟨h.imm, h.keep⟩
theorem ExtC.cell {s s' : St} (h : ExtC s s') {a : Addr} {x : Value} (hi : s.imm a.block) (hc : s.w.cell? a = some x) : s'.w.cell? a = some x :=
  (World.cell?_of_block (h.keep _ hi)).trans hc

mutual
theorem V.closed {s s' : St} (h : ExtC s s') : ∀ (x : AV) (u : Value), x.closed = true → V s x u → V s' x u
  | .lit v, u, _, hv => by simp only [V] at hv ⊢; exact hv
  | .agg cs, u, hc, hv => by
    simp only [V, AV.closed] at hv hc ⊢
    obtain ⟨us, rfl, hl, h1⟩ := hv
    exact ⟨us, rfl, VL.closed h _ _ hc hl, h1⟩
  | .tup cs, u, hc, hv => by
    simp only [V, AV.closed] at hv hc ⊢
    obtain ⟨us, rfl, hl⟩ := hv
    exact ⟨us, rfl, VL.closed h _ _ hc hl⟩
  | .ro n xs, u, hcl, hv => by
    simp only [V, AV.closed] at hv hcl ⊢
    obtain ⟨a, cap, us, rfl, hc, h0, hl, hm⟩ := hv
    refine ⟨a, cap, us, rfl, hc, h0, VL.closed h _ _ hcl hl, fun j x hj => ?_⟩
    obtain ⟨h1, ad, ha, hi, hx⟩ := hm j x hj
    exact ⟨h1, ad, ha, h.imm _ hi, h.cell (by rw [add_block]; exact hi) hx⟩
  | .rp xs, u, hcl, hv => by
    simp only [V, AV.closed] at hv hcl ⊢
    obtain ⟨ad, us, rfl, hl, hm⟩ := hv
    refine ⟨ad, us, rfl, VL.closed h _ _ hcl hl, fun j x hj => ?_⟩
    obtain ⟨h1, hi, hx⟩ := hm j x hj
    exact ⟨h1, h.imm _ hi, h.cell (by rw [add_block]; exact hi) hx⟩
  | .ms .., u, hc, hv => by simp [AV.closed] at hc
  | .mp .., u, hc, hv => by simp [AV.closed] at hc
  | .mref _, u, hc, hv => by simp [AV.closed] at hc
  | .ent .., u, hc, hv => by simp [AV.closed] at hc
  | .fn f cap, u, hc, hv => by
    simp only [V, AV.closed] at hv hc ⊢
    obtain ⟨us, rfl, hl⟩ := hv
    exact ⟨us, rfl, VL.closed h _ _ hc hl⟩
theorem VL.closed {s s' : St} (h : ExtC s s') : ∀ (xs : List AV) (us : List Value), AV.closedL xs = true → VL s xs us → VL s' xs us
  | [], us, _, hv => by simp only [VL] at hv ⊢; exact hv
  | x :: xs, us, hc, hv => by
    simp only [VL, AV.closedL, Bool.and_eq_true] at hv hc ⊢
    obtain ⟨u, us', rfl, hx, hl⟩ := hv
    exact ⟨u, us', rfl, V.closed h _ _ hc.1 hx, VL.closed h _ _ hc.2 hl⟩
end

end Go.Abs
