/- The abstract heap and the real one: what relates them, and that each operation that looks at it or writes to it does what the abstract one says. Conditions: the types' table fits the program's (EnvOk). -/
import Derived.Test.YtnjaedaofjkbnaaDoorAbs4
import Derived.WideKeyPair
import Derived.WideKeyEntry
set_option linter.unusedVariables false
set_option linter.unusedSimpArgs false
namespace Go.Abs
open Go Go.RowKit

def BR (s : St) : ABlock → Nat → Nat → Prop
  | .cells _ xs, g, k => ∃ c e us, s.w.heap[g]? = some (.cells c e (0, 0)) ∧ VL s xs us ∧ (∀ y ∈ us, y.oneCell' = true) ∧ (c.toList.drop k).take us.length = us
  | .dead _, _, _ => True
  | .map kd vd f, g, _ => ∃ (arr : Array MapEntry) (clock : Nat), s.w.heap[g]? = some (.map arr clock) ∧ MapKept.Stamped arr clock ∧
      (∀ e ∈ arr.toList, ∃ x y, e.key = keyV kd x y ∧ (Lit.int kd x).wf = true ∧ (Lit.int kd y).wf = true ∧ e.val = .int vd (f x y)) ∧ ∀ x y, (∀ e ∈ arr.toList, e.key ≠ keyV kd x y) → f x y = 0

/-- A block of the abstract heap is written to, if it is alive. -/
def NI (s : St) : ABlock → Nat → Prop
  | .dead _, _ => True
  | _, g => ¬ s.imm g
theorem NI.of {s : St} {bl : ABlock} {g : Nat} (h : ¬ s.imm g) : NI s bl g := by cases bl <;> first | exact h | trivial
theorem NI.imp {s s' : St} {bl : ABlock} {g : Nat} (h : NI s bl g) (f : s'.imm g → s.imm g) : NI s' bl g := by
  cases bl with
  | dead v => trivial
  | cells v xs => exact fun hi => h (f hi)
  | map kd vd m => exact fun hi => h (f hi)
structure R (E : Env) (s : St) (h : AHeap) : Prop where
  vr : ∀ b, s.vr b = AHeap.vr h b
  blk : ∀ b bl, h[b]? = some bl → ∃ g, s.ρ b = some g ∧ NI s bl g ∧ g < s.w.heap.size ∧ BR s bl g (s.bs b)
  inj : ∀ b b' g, b < h.length → b' < h.length → s.ρ b = some g → s.ρ b' = some g → b = b'
  immlt : ImmLt s
  glob : ∀ g xs, E.G g = some xs → V s (.rp xs) (.pointer (some ⟨g, 0, none⟩))

/-- One step further: what is not the abstract heap's own is as it was. -/
structure Step (s s' : St) : Prop where
  ext : Ext s s'
  frame : ∀ g, g < s.w.heap.size → (∀ b, s.vr b ≠ none → s.ρ b ≠ some g) → s'.w.heap[g]? = s.w.heap[g]?
  rho : ∀ b g, s'.vr b ≠ none → s'.ρ b = some g → (s.vr b ≠ none ∧ s.ρ b = some g) ∨ s.w.heap.size ≤ g
  new : ∀ g, s'.imm g → s.imm g ∨ s.w.heap.size ≤ g ∨ ∃ b, s.vr b ≠ none ∧ s.ρ b = some g
  size : s.w.heap.size ≤ s'.w.heap.size
  os : s'.w.os = s.w.os
  tape : s'.w.tape = s.w.tape
  output : s'.w.output = s.w.output

theorem Step.refl (s : St) : Step s s := ⟨Ext.refl s, fun _ _ _ => rfl, fun b g h1 h2 => .inl ⟨h1, h2⟩, fun _ h => .inl h, Nat.le_refl _, rfl, rfl, rfl⟩

theorem Step.trans {a b c : St} (h : Step a b) (k : Step b c) : Step a c := by
  refine ⟨h.ext.trans k.ext, fun g hg hn => ?_, fun x g h1 h2 => ?_, fun g hg => ?_, Nat.le_trans h.size k.size, k.os.trans h.os, k.tape.trans h.tape, k.output.trans h.output⟩
  · rw [k.frame g (Nat.lt_of_lt_of_le hg h.size) fun x hx he => ?_]
    · exact h.frame g hg hn
    · rcases h.rho x g hx he with ⟨h1, h2⟩ | h1
      · exact hn x h1 h2
      · omega
  · rcases k.rho x g h1 h2 with ⟨h3, h4⟩ | h3
    · exact h.rho x g h3 h4
    · exact .inr (Nat.le_trans h.size h3)
  · rcases k.new g hg with h1 | h1 | ⟨b, h1, h2⟩
    · exact h.new g h1
    · exact .inr (.inl (Nat.le_trans h.size h1))
    · rcases h.rho b g h1 h2 with ⟨h3, h4⟩ | h3
      · exact .inr (.inr ⟨b, h3, h4⟩)
      · exact .inr (.inl h3)

theorem Quiet.step {s s' : St} (h : Quiet s s') (hi : ImmLt s) : Step s s' :=
  ⟨h.ext hi, fun g hg _ => h.old g hg, fun b g h1 h2 => .inl ⟨by rw [h.vr] at h1; exact h1, by rw [h.ρ] at h2; exact h2⟩, fun g hg => (h.new g hg).imp id fun x => .inl x.1, h.size, h.os, h.tape, h.output⟩

section
variable {P : Program} {E : Env}

theorem BR.mono {s s' : St} (hx : Ext s s') {bl : ABlock} {g k : Nat} (h : BR s bl g k) (hh : s'.w.heap[g]? = s.w.heap[g]?) : BR s' bl g k := by
  cases bl with
  | cells v xs =>
    obtain ⟨c, e, us, h1, h2, h3, h4⟩ := h
    exact ⟨c, e, us, hh.trans h1, VL.mono hx _ _ h2, h3, h4⟩
  | map kd vd f =>
    obtain ⟨arr, clock, h1, h2⟩ := h
    exact ⟨arr, clock, hh.trans h1, h2⟩
  | dead v => trivial

theorem R.quiet {s s' : St} {h : AHeap} (hR : R E s h) (hq : Quiet s s') : R E s' h := by
  have hx := hq.ext hR.immlt
  refine ⟨fun b => by rw [hq.vr]; exact hR.vr b, fun b bl hb => ?_, fun b b' g h1 h2 h3 h4 => hR.inj b b' g h1 h2 (by rw [hq.ρ] at h3; exact h3) (by rw [hq.ρ] at h4; exact h4), fun g hg => ?_, fun g xs hg => V.mono hx _ _ (hR.glob g xs hg)⟩
  · obtain ⟨g, h1, h2, h3, h4⟩ := hR.blk b bl hb
    refine ⟨g, by rw [hq.ρ]; exact h1, h2.imp fun hg => ?_, Nat.lt_of_lt_of_le h3 hq.size, by rw [hq.bs]; exact h4.mono hx (hq.old g h3)⟩
    rcases hq.new g hg with h5 | ⟨h5, _⟩
    · exact h5
    · omega
  · rcases hq.new g hg with h5 | ⟨_, h5⟩
    · exact Nat.lt_of_lt_of_le (hR.immlt g h5) hq.size
    · exact h5

theorem vr_some {h : AHeap} {b : Nat} {bl : ABlock} (hb : h[b]? = some bl) : AHeap.vr h b = some (vrOf bl) := by simp [AHeap.vr, hb]
theorem vr_lt {h : AHeap} {b : Nat} (hb : AHeap.vr h b ≠ none) : b < h.length := by
  unfold AHeap.vr at hb
  rcases Nat.lt_or_ge b h.length with h' | h'
  · exact h'
  · simp [List.getElem?_eq_none h'] at hb

/-- A new block. -/
def St.allocM (s : St) (h : AHeap) (bl : ABlock) (o : Obj) : St := { s with w := s.w.alloc o, ρ := fun b => if b = h.length then some s.w.heap.size else s.ρ b, bs := fun b => if b = h.length then 0 else s.bs b, vr := AHeap.vr (h ++ [bl]) }

theorem allocB_ok {s : St} {h : AHeap} (hR : R E s h) {bl : ABlock} {o : Obj} (hBR : ∀ s', Ext s s' → s'.w.heap[s.w.heap.size]? = some o → BR s' bl s.w.heap.size 0) :
    Step s (s.allocM h bl o) ∧ R E (s.allocM h bl o) (h ++ [bl]) := by
  have hvr : ∀ b, b < h.length → AHeap.vr (h ++ [bl]) b = AHeap.vr h b := fun b hb => by simp [AHeap.vr, List.getElem?_append_left hb]
  have hold : ∀ g, g < s.w.heap.size → (s.w.alloc o).heap[g]? = s.w.heap[g]? := fun g hg => heap_alloc_old s.w _ g hg
  have hx : Ext s (s.allocM h bl o) := by
    refine ⟨fun b cur hb => ?_, fun _ h => h, fun g hg => hold g (hR.immlt g hg), fun g c' e' hg => ⟨c', (hold g (lt_of_heap hg)).trans hg, rfl⟩, fun g arr clock hg => ⟨arr, clock, (hold g (lt_of_heap hg)).trans hg, fun j e he => ⟨e, he, rfl, rfl⟩⟩⟩
    rw [hR.vr b] at hb
    have hlt := vr_lt (h := h) (b := b) (by rw [hb]; simp)
    exact ⟨cur, (hvr b hlt).trans hb, Nat.le_refl _, fun _ => ⟨if_neg (by omega), if_neg (by omega)⟩⟩
  refine ⟨⟨hx, fun g hg _ => hold g hg, fun b g hb hg => ?_, fun g hg => .inl hg, by simp [St.allocM], rfl, rfl, rfl⟩, ⟨fun _ => rfl, fun b bk hb => ?_, fun b b' g hb hb' hg hg' => ?_, fun g hg => ?_, fun g xs hg => V.mono hx _ _ (hR.glob g xs hg)⟩⟩
  · simp only [St.allocM] at hb hg
    by_cases he : b = h.length
    · rw [if_pos he] at hg
      injection hg with hg
      exact .inr (by omega)
    · rw [if_neg he] at hg
      have hlt := vr_lt hb
      simp at hlt
      rw [hvr b (by omega)] at hb
      exact .inl ⟨by rw [hR.vr]; exact hb, hg⟩
  · by_cases he : b = h.length
    · subst he
      simp at hb
      subst hb
      refine ⟨s.w.heap.size, if_pos rfl, .of fun hi => by have := hR.immlt _ hi; omega, by simp [St.allocM], by simp only [St.allocM, if_pos]; exact hBR _ hx (heap_alloc_new s.w _)⟩
    · have hlt : b < h.length := by
        have := (List.getElem?_eq_some_iff.1 hb).1
        simp at this
        omega
      rw [List.getElem?_append_left hlt] at hb
      obtain ⟨g, g1, g2, g3, g4⟩ := hR.blk b bk hb
      exact ⟨g, by simp only [St.allocM]; rw [if_neg he]; exact g1, g2.imp id, by simp [St.allocM]; omega, by simp only [St.allocM, if_neg he]; exact g4.mono hx (hold g g3)⟩
  · simp only [St.allocM] at hg hg'
    simp at hb hb'
    by_cases he : b = h.length
    · by_cases he' : b' = h.length
      · omega
      · rw [if_pos he] at hg
        rw [if_neg he'] at hg'
        obtain ⟨bk, hbl⟩ : ∃ bk, h[b']? = some bk := ⟨_, List.getElem?_eq_getElem (show b' < h.length by omega)⟩
        obtain ⟨g2, k1, _, k3, _⟩ := hR.blk b' bk hbl
        rw [k1] at hg'
        injection hg with hg
        injection hg' with hg'
        omega
    · by_cases he' : b' = h.length
      · rw [if_neg he] at hg
        rw [if_pos he'] at hg'
        obtain ⟨bk, hbl⟩ : ∃ bk, h[b]? = some bk := ⟨_, List.getElem?_eq_getElem (show b < h.length by omega)⟩
        obtain ⟨g2, k1, _, k3, _⟩ := hR.blk b bk hbl
        rw [k1] at hg
        injection hg with hg
        injection hg' with hg'
        omega
      · rw [if_neg he] at hg
        rw [if_neg he'] at hg'
        exact hR.inj b b' g (by omega) (by omega) hg hg'
  · have := hR.immlt g hg
    simp [St.allocM]
    omega

theorem allocM_ok {s : St} {h : AHeap} (hR : R E s h) {xs : List AV} {us : List Value} {c : Array Value} {e : TypeId} (hl : VL s xs us) (h1 : ∀ y ∈ us, y.oneCell' = true) (hc : c.toList.take us.length = us) :
    Step s (s.allocM h (.cells 0 xs) (.cells c e)) ∧ R E (s.allocM h (.cells 0 xs) (.cells c e)) (h ++ [.cells 0 xs]) :=
  allocB_ok hR fun s' hx hh => ⟨c, e, us, hh, VL.mono hx _ _ hl, h1, by rw [List.drop_zero]; exact hc⟩

/-- The pointer and the slice of a new block. -/
theorem allocM_mp {s : St} {h : AHeap} {xs : List AV} {o : Obj} : V (s.allocM h (.cells 0 xs) o) (.mp h.length 0 0) (.pointer (some ⟨s.w.heap.size, 0, none⟩)) := by
  simp only [V]
  exact ⟨_, 0, rfl, by simp [St.allocM, AHeap.vr, vrOf], Nat.le_refl _, fun _ => ⟨s.w.heap.size, if_pos rfl, by simp [St.allocM]⟩⟩
theorem allocM_ms {s : St} {h : AHeap} {xs : List AV} {c : Array Value} {e : TypeId} {n cap sz : Nat} (hn : n ≤ cap) (hc : cap * sz ≤ c.size) (hm : cap ≤ 9223372036854775807) : V (s.allocM h (.cells 0 xs) (.cells c e)) (.ms h.length 0 0 n sz) (.slice (some ⟨s.w.heap.size, 0, none⟩) n cap) := by
  simp only [V]
  exact ⟨_, cap, 0, rfl, hn, by simp [St.allocM, AHeap.vr, vrOf], Nat.le_refl _, fun _ => .inr ⟨s.w.heap.size, c, e, if_pos rfl, heap_alloc_new s.w _, by simp [St.allocM], by simp [St.allocM]; omega, hm⟩⟩

/-- A block written where it lies. -/
def St.writeM (s : St) (h : AHeap) (b : Nat) (bl : ABlock) (g : Nat) (c : Array Value) : St := { s with w := s.w.setRow g c, vr := AHeap.vr (h.set b bl) }
/-- The same, where the block's first cell lies elsewhere from now on. -/
def St.writeK (s : St) (h : AHeap) (b : Nat) (bl : ABlock) (g : Nat) (c : Array Value) (k : Nat) : St := { s with w := s.w.setRow g c, bs := fun x => if x = b then k else s.bs x, vr := AHeap.vr (h.set b bl) }
theorem writeK_same {s : St} {h : AHeap} {b : Nat} {bl : ABlock} {g : Nat} {c : Array Value} : s.writeK h b bl g c (s.bs b) = s.writeM h b bl g c := by
  unfold St.writeK St.writeM
  congr 1
  funext x
  split
  · rename_i e; rw [e]
  · rfl

theorem writeK_ok {s : St} {h : AHeap} (hR : R E s h) {b ver ver' g : Nat} {xs xs' : List AV} {us' : List Value} {c c' : Array Value} {e : TypeId} {k : Nat} (hb : h[b]? = some (.cells ver xs)) (hρ : s.ρ b = some g) (hg : s.w.heap[g]? = some (.cells c e (0, 0)))
    (hs : c'.size = c.size) (hv : ver ≤ ver') (hl : VL s xs' us') (h1 : ∀ y ∈ us', y.oneCell' = true) (hc : (c'.toList.drop k).take us'.length = us') (hkk : ver' = ver → k = s.bs b) :
    Step s (s.writeK h b (.cells ver' xs') g c' k) ∧ R E (s.writeK h b (.cells ver' xs') g c' k) (h.set b (.cells ver' xs')) := by
  have hblt : b < h.length := (List.getElem?_eq_some_iff.1 hb).1
  obtain ⟨g0, k1, k2, k3, _⟩ := hR.blk b _ hb
  rw [hρ] at k1
  injection k1 with k1
  subst k1
  have hvr : ∀ x, x ≠ b → AHeap.vr (h.set b (.cells ver' xs')) x = AHeap.vr h x := fun x hx => by simp [AHeap.vr, List.getElem?_set_ne (Ne.symm hx)]
  have hvb : AHeap.vr (h.set b (.cells ver' xs')) b = some ver' := by simp [AHeap.vr, hblt, vrOf]
  have hoth : ∀ k, k ≠ g → (s.w.setRow g c').heap[k]? = s.w.heap[k]? := fun k hk => setRow_other s.w g k c' hk
  have hgg : (s.w.setRow g c').heap[g]? = some (.cells c' e (0, 0)) := setRow_heap s.w g c _ e _ hg
  have hx : Ext s (s.writeK h b (.cells ver' xs') g c' k) := by
    refine ⟨fun x cur hx => ?_, fun _ h => h, fun k hk => hoth k (fun e => k2 (e ▸ hk)), fun k c0 e0 hk => ?_, fun k arr clock hk => ?_⟩
    · by_cases he : x = b
      · subst he
        rw [hR.vr, vr_some hb] at hx
        injection hx with hx
        exact ⟨ver', hvb, by simp only [vrOf] at hx; omega, fun e => ⟨rfl, by simp only [vrOf] at hx; simp only [St.writeK, if_pos]; exact hkk (by omega)⟩⟩
      · exact ⟨cur, (hvr x he).trans ((hR.vr x).symm.trans hx), Nat.le_refl _, fun _ => ⟨rfl, if_neg he⟩⟩
    · by_cases he : k = g
      · subst he
        rw [hg] at hk
        injection hk with hk
        injection hk with h1 h2 h3
        subst h1
        subst h2
        exact ⟨c', hgg, hs⟩
      · exact ⟨c0, (hoth k he).trans hk, rfl⟩
    · by_cases he : k = g
      · subst he; rw [hg] at hk; cases hk
      · exact ⟨arr, clock, (hoth k he).trans hk, fun j e he => ⟨e, he, rfl, rfl⟩⟩
  refine ⟨⟨hx, fun k hk hn => hoth k (fun e => hn b (by rw [hR.vr, vr_some hb]; simp) (by rw [e]; exact hρ)), fun x k hx hk => .inl ⟨?_, hk⟩, fun g hg => .inl hg, by simp [St.writeK], rfl, rfl, rfl⟩,
    ⟨fun _ => rfl, fun x bl hb' => ?_, fun x x' k hx hx' hk hk' => hR.inj x x' k (by simpa using hx) (by simpa using hx') hk hk', fun k hk => by have := hR.immlt k hk; simpa [St.writeK] using this, fun k ys hk => V.mono hx _ _ (hR.glob k ys hk)⟩⟩
  · simp only [St.writeK] at hx
    by_cases he : x = b
    · subst he
      rw [hR.vr, vr_some hb]
      simp
    · rw [hvr x he] at hx
      rw [hR.vr]
      exact hx
  · by_cases he : x = b
    · subst he
      rw [List.getElem?_set_self hblt] at hb'
      injection hb' with hb'
      subst hb'
      exact ⟨g, hρ, k2, by simpa [St.writeK] using k3, by simp only [St.writeK, if_pos]; exact ⟨c', e, us', hgg, VL.mono hx _ _ hl, h1, hc⟩⟩
    · rw [List.getElem?_set_ne (Ne.symm he)] at hb'
      obtain ⟨g', m1, m2, m3, m4⟩ := hR.blk x bl hb'
      have hne : g' ≠ g := fun e => he (hR.inj x b g (List.getElem?_eq_some_iff.1 hb').1 hblt (by rw [← e]; exact m1) hρ)
      exact ⟨g', m1, m2.imp id, by simpa [St.writeK] using m3, by simp only [St.writeK, if_neg he]; exact m4.mono hx (hoth g' hne)⟩

theorem writeM_ok {s : St} {h : AHeap} (hR : R E s h) {b ver ver' g : Nat} {xs xs' : List AV} {us' : List Value} {c c' : Array Value} {e : TypeId} (hb : h[b]? = some (.cells ver xs)) (hρ : s.ρ b = some g) (hg : s.w.heap[g]? = some (.cells c e (0, 0)))
    (hs : c'.size = c.size) (hv : ver ≤ ver') (hl : VL s xs' us') (h1 : ∀ y ∈ us', y.oneCell' = true) (hc : (c'.toList.drop (s.bs b)).take us'.length = us') :
    Step s (s.writeM h b (.cells ver' xs') g c') ∧ R E (s.writeM h b (.cells ver' xs') g c') (h.set b (.cells ver' xs')) := by
  rw [← writeK_same]
  exact writeK_ok hR hb hρ hg hs hv hl h1 hc fun _ => rfl

/-- A block that moves to a new place (append beyond the room). -/
def St.moveM (s : St) (h : AHeap) (b : Nat) (bl : ABlock) (o : Obj) : St := { s with w := s.w.drew.alloc o, ρ := fun x => if x = b then some s.w.heap.size else s.ρ x, bs := fun x => if x = b then 0 else s.bs x, vr := AHeap.vr (h.set b bl) }

theorem moveM_ok {s : St} {h : AHeap} (hR : R E s h) {b ver : Nat} {xs xs' : List AV} {us' : List Value} {c' : Array Value} {e : TypeId} (hb : h[b]? = some (.cells ver xs)) (hl : VL s xs' us') (h1 : ∀ y ∈ us', y.oneCell' = true) (hc : c'.toList.take us'.length = us') :
    Step s (s.moveM h b (.cells (ver + 1) xs') (.cells c' e)) ∧ R E (s.moveM h b (.cells (ver + 1) xs') (.cells c' e)) (h.set b (.cells (ver + 1) xs')) := by
  have hblt : b < h.length := (List.getElem?_eq_some_iff.1 hb).1
  have hvr : ∀ x, x ≠ b → AHeap.vr (h.set b (.cells (ver + 1) xs')) x = AHeap.vr h x := fun x hx => by simp [AHeap.vr, List.getElem?_set_ne (Ne.symm hx)]
  have hvb : AHeap.vr (h.set b (.cells (ver + 1) xs')) b = some (ver + 1) := by simp [AHeap.vr, hblt, vrOf]
  have hold : ∀ g, g < s.w.heap.size → (s.w.drew.alloc (.cells c' e)).heap[g]? = s.w.heap[g]? := fun g hg => heap_alloc_old s.w.drew _ g hg
  have hnew : (s.w.drew.alloc (.cells c' e)).heap[s.w.heap.size]? = some (.cells c' e (0, 0)) := heap_alloc_new s.w.drew _
  have hx : Ext s (s.moveM h b (.cells (ver + 1) xs') (.cells c' e)) := by
    refine ⟨fun x cur hx => ?_, fun _ h => h, fun k hk => hold k (hR.immlt k hk), fun k c0 e0 hk => ⟨c0, (hold k (lt_of_heap hk)).trans hk, rfl⟩, fun k arr clock hk => ⟨arr, clock, (hold k (lt_of_heap hk)).trans hk, fun j e he => ⟨e, he, rfl, rfl⟩⟩⟩
    by_cases he : x = b
    · subst he
      rw [hR.vr, vr_some hb] at hx
      injection hx with hx
      simp only [vrOf] at hx
      exact ⟨ver + 1, hvb, by omega, fun h => by omega⟩
    · exact ⟨cur, (hvr x he).trans ((hR.vr x).symm.trans hx), Nat.le_refl _, fun _ => ⟨if_neg he, if_neg he⟩⟩
  refine ⟨⟨hx, fun k hk hn => hold k hk, fun x k hx hk => ?_, fun g hg => .inl hg, by simp [St.moveM], rfl, rfl, rfl⟩,
    ⟨fun _ => rfl, fun x bl hb' => ?_, fun x x' k hx hx' hk hk' => ?_, fun k hk => by have := hR.immlt k hk; simp [St.moveM]; omega, fun k ys hk => V.mono hx _ _ (hR.glob k ys hk)⟩⟩
  · simp only [St.moveM] at hx hk
    by_cases he : x = b
    · rw [if_pos he] at hk
      injection hk with hk
      exact .inr (by omega)
    · rw [if_neg he] at hk
      rw [hvr x he] at hx
      exact .inl ⟨by rw [hR.vr]; exact hx, hk⟩
  · by_cases he : x = b
    · subst he
      rw [List.getElem?_set_self hblt] at hb'
      injection hb' with hb'
      subst hb'
      exact ⟨s.w.heap.size, if_pos rfl, .of fun hi => by have := hR.immlt _ hi; omega, by simp [St.moveM], by simp only [St.moveM, if_pos]; exact ⟨c', e, us', hnew, VL.mono hx _ _ hl, h1, by rw [List.drop_zero]; exact hc⟩⟩
    · rw [List.getElem?_set_ne (Ne.symm he)] at hb'
      obtain ⟨g', m1, m2, m3, m4⟩ := hR.blk x bl hb'
      exact ⟨g', by simp only [St.moveM]; rw [if_neg he]; exact m1, m2.imp id, by simp [St.moveM]; omega, by simp only [St.moveM, if_neg he]; exact m4.mono hx (hold g' m3)⟩
  · simp only [St.moveM] at hk hk'
    simp at hx hx'
    have hlow : ∀ y, y < h.length → ∀ k, s.ρ y = some k → k < s.w.heap.size := fun y hy k hk => by
      obtain ⟨g2, k1, _, k3, _⟩ := hR.blk y _ (List.getElem?_eq_getElem hy)
      rw [k1] at hk
      injection hk with hk
      omega
    by_cases he : x = b
    · by_cases he' : x' = b
      · omega
      · rw [if_pos he] at hk
        rw [if_neg he'] at hk'
        have := hlow x' hx' k hk'
        injection hk with hk
        omega
    · by_cases he' : x' = b
      · rw [if_neg he] at hk
        rw [if_pos he'] at hk'
        have := hlow x hx k hk
        injection hk' with hk'
        omega
      · rw [if_neg he] at hk
        rw [if_neg he'] at hk'
        exact hR.inj x x' k hx hx' hk hk'

/-! ### The operations with the heap -/
def HeapOk (P : Program) (E : Env) (s : St) (o : Oper) (a : Act) (v : AV) (h' : AHeap) : Prop :=
  ∃ (nx : Next) (u : Value) (s' : St), (execOp a.eval o).run P s.w = .ok nx s'.w ∧ (nx = .value u ∨ (nx = .skip ∧ u = Go.undef)) ∧ Step s s' ∧ R E s' h' ∧ V s' v u

theorem getCells_eq {h : AHeap} {b ver : Nat} {xs : List AV} (hg : getCells h b ver = some xs) : h[b]? = some (.cells ver xs) := by
  unfold getCells at hg
  split at hg
  · rename_i v ys hb
    split at hg
    · rename_i e
      injection hg with hg
      subst hg
      subst e
      exact hb
    · cases hg
  · cases hg

theorem blk_cells {s : St} {h : AHeap} (hR : R E s h) {b ver : Nat} {xs : List AV} (hb : h[b]? = some (.cells ver xs)) : ∃ g c e us, s.ρ b = some g ∧ s.vr b = some ver ∧ s.w.heap[g]? = some (.cells c e (0, 0)) ∧ VL s xs us ∧ (∀ y ∈ us, y.oneCell' = true) ∧ (c.toList.drop (s.bs b)).take us.length = us ∧ ¬ s.imm g := by
  obtain ⟨g, h1, h2, h3, c, e, us, h4, h5, h6, h7⟩ := hR.blk b _ hb
  exact ⟨g, c, e, us, h1, by rw [hR.vr, vr_some hb]; rfl, h4, h5, h6, h7, h2⟩

theorem at_block {w : World} {g off k : Nat} {c : Array Value} {e : TypeId} {us : List Value} (hg : w.heap[g]? = some (.cells c e (0, 0))) (ht : (c.toList.drop k).take us.length = us) : At w ⟨g, k + off, none⟩ (us.drop off) := by
  intro j x hj
  rw [List.getElem?_drop] at hj
  rw [Addr.add_lit, cell_of_row w g _ c e (0, 0) hg]
  have hlt : off + j < us.length := (List.getElem?_eq_some_iff.1 hj).1
  rw [← ht, List.getElem?_take, if_pos (by simpa using hlt), List.getElem?_drop] at hj
  rw [Nat.add_assoc]
  simpa using hj

theorem heap_load (hE : EnvOk E P) {s : St} {h : AHeap} (hR : R E s h) {fr : AF} {a : Act} {dst : Option Tmp} {t : TypeId} {x : Operand} {i : TI} {b ver off : Nat} {xs : List AV} {r : AV} {ty : TypeId} {pos : String} {after : Array Edge} {guard : Option (Nat × Bool)}
    (hx : evA E fr x = some (.mp b ver off)) (ht : E.ty t = some i) (hg : getCells h b ver = some xs) (hr : takeT i (xs.drop off) = some r) (ho : OpsV E s fr a #[x]) : HeapOk P E s ⟨dst, .load t x, ty, pos, after, guard⟩ a r h := by
  have hv := ho x (by simp) _ hx
  simp only [V] at hv
  obtain ⟨ad, cur, he, hcur, hle, hk⟩ := hv
  obtain ⟨g, c, e, us, h1, h2, h3, h4, h5, h6, _⟩ := blk_cells hR (getCells_eq hg)
  rw [hcur] at h2
  injection h2 with h2
  obtain ⟨g', hg', rfl⟩ := hk h2
  rw [h1] at hg'
  injection hg' with hg'
  subst hg'
  obtain ⟨u, hu, hvu⟩ := run_loadVar hE ht hr (h4.drop off) (fun y hy => h5 y (List.mem_of_mem_drop hy)) (at_block h3 h6)
  exact ⟨_, u, s, by simp [execOp, he, Instr.loadAt, Instr.sureAddr, hu], .inl rfl, Step.refl s, hR, hvu⟩

theorem take_put {c : List Value} {us vs : List Value} {off : Nat} (h : c.take us.length = us) (hle : off + vs.length ≤ us.length) :
    (c.take off ++ vs ++ c.drop (off + vs.length)).take us.length = us.take off ++ vs ++ us.drop (off + vs.length) := by
  have hlen : us.length ≤ c.length := by
    have := congrArg List.length h
    rw [List.length_take] at this
    omega
  apply List.ext_getElem?
  intro j
  have hget : ∀ k, k < us.length → us[k]? = c[k]? := fun k hk => by
    conv => lhs; rw [← h]
    rw [List.getElem?_take, if_pos hk]
  simp only [List.append_assoc, List.getElem?_take, List.getElem?_append, List.length_take, List.getElem?_drop]
  have e1 : min off c.length = off := by omega
  have e2 : min off us.length = off := by omega
  simp only [e1, e2]
  by_cases hj : j < us.length
  · simp only [hj, if_true]
    by_cases h1 : j < off
    · simp only [h1, if_true]
      exact (hget j hj).symm
    · simp only [h1, if_false]
      by_cases h2 : j - off < vs.length
      · simp [h2]
      · simp only [h2, if_false]
        exact (hget _ (by omega)).symm
  · simp only [hj, if_false]
    rw [if_neg (by omega), if_neg (by omega)]
    rw [List.getElem?_eq_none (by omega)]

theorem drop_put {c vs : List Value} {k off : Nat} (hle : k + off + vs.length ≤ c.length) : (c.take (k + off) ++ vs ++ c.drop (k + off + vs.length)).drop k = (c.drop k).take off ++ vs ++ (c.drop k).drop (off + vs.length) := by
  rw [List.append_assoc, List.drop_append_of_le_length (by rw [List.length_take]; omega), List.drop_take, List.drop_drop, List.append_assoc]
  congr 2
  · omega
  · congr 1; omega
theorem heap_store (hE : EnvOk E P) {s : St} {h : AHeap} (hR : R E s h) {fr : AF} {a : Act} {dst : Option Tmp} {t : TypeId} {x y : Operand} {i : TI} {b ver off : Nat} {xs zs : List AV} {vy : AV} {ty : TypeId} {pos : String} {after : Array Edge} {guard : Option (Nat × Bool)}
    (hx : evA E fr x = some (.mp b ver off)) (hy : evA E fr y = some vy) (ht : E.ty t = some i) (hg : getCells h b ver = some xs) (hc : vy.cells.length = i.size) (hs : vy.storable = true) (hp : putAt xs off vy.cells = some zs) (ho : OpsV E s fr a #[x, y]) :
    HeapOk P E s ⟨dst, .store t x y, ty, pos, after, guard⟩ a .undef (h.set b (.cells ver zs)) := by
  have hv := ho x (by simp) _ hx
  have hvy := ho y (by simp) _ hy
  simp only [V] at hv
  obtain ⟨ad, cur, he, hcur, hle, hk⟩ := hv
  obtain ⟨g, c, e, us, h1, h2, h3, h4, h5, h6, _⟩ := blk_cells hR (getCells_eq hg)
  rw [hcur] at h2
  injection h2 with h2
  obtain ⟨g', hg', rfl⟩ := hk h2
  rw [h1] at hg'
  injection hg' with hg'
  subst hg'
  obtain ⟨hyl, hy1⟩ := cells_V hvy hs
  obtain ⟨info, d, i2, i3, i4, i5, i6, i7⟩ := hE.ty t i ht
  have hlen := hyl.length
  simp only [Array.length_toList] at hlen
  obtain ⟨hle2, _⟩ := putAt_eq hp
  have hus := h4.length
  have hcl : s.bs b + us.length ≤ c.size ∨ us.length = 0 := by
    have := congrArg List.length h6
    simp only [List.length_take, List.length_drop, Array.length_toList] at this
    omega
  have hlen' : (a.eval y).cells.toList.length = vy.cells.length := by simpa using hlen
  by_cases hy0 : (a.eval y).cells.toList = []
  · have hz0 : vy.cells = [] := List.eq_nil_of_length_eq_zero (by rw [← hlen', hy0]; rfl)
    rw [hz0] at hp hc
    obtain ⟨_, rfl⟩ := putAt_eq hp
    have hset : h.set b (.cells ver (xs.take off ++ [] ++ xs.drop (off + 0))) = h := by
      simp only [List.append_nil, Nat.add_zero, List.take_append_drop]
      refine List.ext_getElem? fun j => ?_
      rw [List.getElem?_set]
      split
      · rename_i e; subst e; rw [getCells_eq hg]; simp [(List.getElem?_eq_some_iff.1 (getCells_eq hg)).1]
      · rfl
    simp only [List.length_nil] at hset ⊢
    rw [hset]
    refine ⟨.skip, Go.undef, s, ?_, .inr ⟨rfl, rfl⟩, Step.refl s, hR, by simp [AV.undef]⟩
    have hsz0 : (a.eval y).cells.size = 0 := by have := congrArg List.length hy0; simpa using this
    have hne : ¬ ((a.eval y).cells.size ≠ info.size) := by simp at hc; omega
    simp only [execOp, he, Instr.storeAt, Instr.sureAddr, storeVar, Sem.run_bind, Sem.run_pure, Result.andThen_ok, run_sizeOf i2, Sem.run_ite, if_neg hne, hy0]
    rfl
  have hpos : 0 < (a.eval y).cells.toList.length := List.length_pos_iff.2 hy0
  have hcl : s.bs b + us.length ≤ c.size := by rcases hcl with h | h <;> omega
  have hst := run_storeCells_at (P := P) g (s.bs b + off) e (a.eval y).cells.toList 0 c s.w h3 (by simp at *; omega) hy1
  simp only [Nat.add_zero] at hst
  have htk := take_put (off := off) (vs := (a.eval y).cells.toList) h6 (by omega)
  have hput := h4.put hyl hp
  have hsz : (us.take off ++ (a.eval y).cells.toList ++ us.drop (off + (a.eval y).cells.toList.length)).length = us.length := by
    simp
    simp at hlen'
    omega
  obtain ⟨k1, k2⟩ := writeM_ok hR (ver' := ver) (xs' := zs) (us' := us.take off ++ (a.eval y).cells.toList ++ us.drop (off + (a.eval y).cells.toList.length)) (c' := (c.toList.take (s.bs b + off) ++ (a.eval y).cells.toList ++ c.toList.drop (s.bs b + off + (a.eval y).cells.toList.length)).toArray)
    (getCells_eq hg) h1 h3 (by simp; simp at hlen'; omega) (Nat.le_refl _) hput (by
      intro z hz
      simp only [List.append_assoc, List.mem_append] at hz
      rcases hz with hz | hz | hz
      · exact h5 z (List.mem_of_mem_take hz)
      · exact hy1 z hz
      · exact h5 z (List.mem_of_mem_drop hz)) (by rw [hsz, List.toList_toArray, drop_put (by simp at *; omega)]; exact htk)
  refine ⟨.skip, Go.undef, _, ?_, .inr ⟨rfl, rfl⟩, k1, k2, by simp [AV.undef]⟩
  have hne : ¬ ((a.eval y).cells.size ≠ info.size) := by simp; omega
  simp only [execOp, he, Instr.storeAt, Instr.sureAddr, storeVar, Sem.run_bind, Sem.run_pure, Result.andThen_ok, run_sizeOf i2, Sem.run_ite, if_neg hne, hst]
  rfl

theorem heap_box {s : St} {h : AHeap} (hR : R E s h) {fr : AF} {a : Act} {dst : Option Tmp} {e : TypeId} {x : Operand} {vx : AV} {ty : TypeId} {pos : String} {after : Array Edge} {guard : Option (Nat × Bool)}
    (hx : evA E fr x = some vx) (h1 : vx.storable = true) (ho : OpsV E s fr a #[x]) : HeapOk P E s ⟨dst, .box e x, ty, pos, after, guard⟩ a (.mp h.length 0 0) (h ++ [.cells 0 vx.cells]) := by
  have hvx := ho x (by simp) _ hx
  obtain ⟨hl, hone⟩ := cells_V hvx h1
  obtain ⟨k1, k2⟩ := allocM_ok (E := E) hR (c := (a.eval x).cells) (e := e) hl hone (by rw [List.take_of_length_le (Nat.le_refl _)])
  exact ⟨_, _, _, by simp [execOp, Instr.box, newVar, newRow, St.allocM], .inl rfl, k1, k2, allocM_mp⟩

theorem heap_alloc (hE : EnvOk E P) {s : St} {h : AHeap} (hR : R E s h) {a : Act} {dst : Option Tmp} {t : TypeId} {i : TI} {ty : TypeId} {pos : String} {after : Array Edge} {guard : Option (Nat × Bool)}
    (ht : E.ty t = some i) (hz : zeroOk i = true) : HeapOk P E s ⟨dst, .alloc t, ty, pos, after, guard⟩ a (.mp h.length 0 0) (h ++ [.cells 0 (AV.ofV i.zero).cells]) := by
  obtain ⟨info, d, h2, h3, h4, h5, h6, h7⟩ := hE.ty t i ht
  obtain ⟨z1, z2, z3⟩ := zeroOk_spec hz
  obtain ⟨hl, hone⟩ := cells_V (ofV_V s i.zero z3) z2
  obtain ⟨k1, k2⟩ := allocM_ok (E := E) hR (c := i.zero.cells) (e := t) hl hone (by rw [List.take_of_length_le (Nat.le_refl _)])
  exact ⟨_, _, _, by simp [execOp, Instr.alloc, run_zeroValue h2 h7, newVar, newRow, St.allocM], .inl rfl, k1, k2, allocM_mp⟩

theorem heap_buildSlice (hE : EnvOk E P) {s : St} {h : AHeap} (hR : R E s h) {fr : AF} {a : Act} {dst : Option Tmp} {t e : TypeId} {n : Nat} {ps : Array (Nat × Operand)} {ie : TI} {vs : List (Nat × AV)} {ys : List AV} {ty : TypeId} {pos : String} {after : Array Edge} {guard : Option (Nat × Bool)}
    (hk : kindOf E t = .slice e) (he : E.ty e = some ie) (hz : zeroOk ie = true) (h0 : 0 < ie.size) (hb : n * ie.size ≤ 16777216) (hv : evParts E fr ps.toList = some vs) (ho : ∀ p ∈ ps.toList, ∀ y, evA E fr p.2 = some y → V s y (a.eval p.2))
    (hf : fillA (fun j => some (j * ie.size, ie.size)) (zerosA n ie.zero) vs = some ys) : HeapOk P E s ⟨dst, .buildSlice t n ps, ty, pos, after, guard⟩ a (.ms h.length 0 0 n ie.size) (h ++ [.cells 0 ys]) := by
  obtain ⟨cells, hr, hl, h1, hlen⟩ := run_buildSlice (a := a) hE hk he hz h0 hb hv ho hf
  obtain ⟨k1, k2⟩ := allocM_ok (E := E) hR (c := cells) (e := e) hl h1 (by rw [List.take_of_length_le (Nat.le_refl _)])
  refine ⟨_, _, _, ?_, .inl rfl, k1, k2, allocM_ms (Nat.le_refl n) ?_ (by have := Nat.le_mul_of_pos_right n h0; omega)⟩
  · simp only [execOp, Sem.run_bind, hr, Result.andThen_ok, Sem.run_pure]
    rfl
  · have := hl.length
    simp at this
    omega

theorem heap_makeSlice (hE : EnvOk E P) {s : St} {h : AHeap} (hR : R E s h) {fr : AF} {a : Act} {dst : Option Tmp} {t e : TypeId} {x y : Operand} {ie : TI} {kl kc : IntKind} {l c : Int} {ty : TypeId} {pos : String} {after : Array Edge} {guard : Option (Nat × Bool)}
    (hk : kindOf E t = .slice e) (hx : evA E fr x = some (.lit (.int kl l))) (hy : evA E fr y = some (.lit (.int kc c))) (he : E.ty e = some ie) (hz : zeroOk ie = true) (h0 : 0 < ie.size) (h1 : 0 ≤ l) (h2 : l ≤ c) (h3 : (ie.bytes : Int) * c ≤ 281474976710656) (h4 : c ≤ 9223372036854775807)
    (ho : OpsV E s fr a #[x, y]) : HeapOk P E s ⟨dst, .makeSlice t x y, ty, pos, after, guard⟩ a (.ms h.length 0 0 l.toNat ie.size) (h ++ [.cells 0 (zerosA l.toNat ie.zero)]) := by
  have hvx := ho x (by simp) _ hx
  have hvy := ho y (by simp) _ hy
  simp only [V_lit] at hvx hvy
  obtain ⟨info, d, i2, i3, i4, i5, i6, i7⟩ := hE.ty e ie he
  have hr := run_make (P := P) s.w t e info ie.zero (slice_elem hE hk) i2 i7 kl kc l c h1 h2 (by rw [i6]; exact h3) h4
  obtain ⟨zl, z1⟩ := zeros_VL s l.toNat hz
  have hsz := zero_size hz
  have hzc := zeros_eq c.toNat ie.zero.cells ie.size hsz
  have hmade : (madeCells ie.zero.cells (c.toNat * info.size)).toList = (List.replicate c.toNat ie.zero.cells.toList).flatten := by rw [i5]; exact hzc
  have hlz : ∀ n, ((List.replicate n ie.zero.cells.toList).flatten).length = n * ie.size := fun n => by simp [hsz]
  obtain ⟨k1, k2⟩ := allocM_ok (E := E) hR (c := madeCells ie.zero.cells (c.toNat * info.size)) (e := e) zl z1 (by
    rw [hmade, hlz]
    have : c.toNat = l.toNat + (c.toNat - l.toNat) := by omega
    rw [this, ← List.replicate_append_replicate, List.flatten_append]
    rw [List.take_left' (hlz _)])
  refine ⟨_, _, _, ?_, .inl rfl, k1, k2, allocM_ms (cap := c.toNat) (by omega) (by rw [size_madeCells, i5]; exact Nat.le_refl _) (by omega)⟩
  simp only [execOp, hvx, hvy, Sem.run_bind, hr, Result.andThen_ok, Sem.run_pure]
  rfl

/-- The cells of a slice, and the real ones. -/
theorem cellsS_spec {s : St} {h : AHeap} (hR : R E s h) {size : Nat} {x : AV} {u : Value} {m : Nat} {ys : List AV} (hc : cellsS h size x = some (m, ys)) (hv : V s x u) :
    ∃ ado cap news, u = .slice ado m cap ∧ VL s ys news ∧ (∀ y ∈ news, y.oneCell' = true) ∧ ys.length = m * size ∧ (∀ ad, ado = some ad → At s.w ad news) ∧ (ado = none → m = 0) := by
  unfold cellsS at hc
  split at hc
  · injection hc with hc
    simp only [Prod.mk.injEq] at hc
    obtain ⟨rfl, rfl⟩ := hc
    simp only [V_lit] at hv
    subst hv
    exact ⟨none, 0, [], rfl, by simp, by simp, by simp, (fun ad h => by cases h), fun _ => rfl⟩
  · rename_i n xs
    split at hc
    · rename_i hlen
      injection hc with hc
      simp only [Prod.mk.injEq] at hc
      obtain ⟨rfl, rfl⟩ := hc
      simp only [V] at hv
      obtain ⟨ad, cap, us, rfl, hn, hs, hl, hm⟩ := hv
      refine ⟨ad, cap, us, rfl, hl, fun y hy => ?_, hlen, fun ad' he j x hj => ?_, fun e => ?_⟩
      · obtain ⟨j, hj⟩ := List.mem_iff_getElem?.1 hy
        exact (hm j y hj).1
      · obtain ⟨_, ad2, h2, _, h3⟩ := hm j x hj
        rw [he] at h2
        injection h2 with h2
        subst h2
        exact h3
      · subst e
        rcases Nat.eq_zero_or_pos n with h0 | h0
        · exact h0
        · have := hs h0
          simp at this
    · cases hc
  · rename_i b v off n sz
    split at hc
    · rename_i xs hg
      split at hc
      · rename_i hcc
        obtain ⟨rfl, hle⟩ := hcc
        injection hc with hc
        simp only [Prod.mk.injEq] at hc
        obtain ⟨rfl, rfl⟩ := hc
        simp only [V] at hv
        obtain ⟨ad, cap, cur, rfl, hn, hcur, hlev, hk⟩ := hv
        obtain ⟨g, c, e, us, h1, h2, h3, h4, h5, h6, _⟩ := blk_cells hR (getCells_eq hg)
        rw [hcur] at h2
        injection h2 with h2
        have hat : At s.w ad ((us.drop off).take (n * sz)) := by
          rcases hk h2 with h0 | ⟨g', c', e', hg', hg2, rfl, _⟩
          · obtain rfl : n = 0 := by omega
            intro j x hj
            simp at hj
          · rw [h1] at hg'
            injection hg' with hg'
            subst hg'
            exact (at_block (off := off) h3 h6).take (n * sz)
        refine ⟨_, cap, _, rfl, (h4.drop off).take _, fun y hy => h5 y (List.mem_of_mem_drop (List.mem_of_mem_take hy)), by simp; omega, fun ad' he => ?_, fun e => by cases e⟩
        injection he with he
        subst he
        exact hat
      · cases hc
    · cases hc
  · cases hc

theorem run_append_zero (w : World) (t ty e : TypeId) (i : TypeInfo) (ht : P.underlying t = some (.slice e)) (hi : P.info? e = some i) (base ado : Option Addr) (n cap c : Nat) (hn : n ≤ cap) :
    (Builtin.append_ #[t, t] ty #[.slice base n cap, .slice ado 0 c]).run P w = .ok (.slice base n cap) w := by
  cases ado <;> cases base <;> simp [Builtin.append_, run_underlying ht, sizeOf, typeInfo, hi, Builtin.lenOf, hn, Builtin.firstCells, loadCells, loadCellsFrom, storeCells]

theorem run_append_in (w : World) (t ty e e' : TypeId) (i : TypeInfo) (ht : P.underlying t = some (.slice e)) (hi : P.info? e = some i) (g sLen sCap : Nat) (cur : Array Value) (hg : w.heap[g]? = some (.cells cur e' (0, 0)))
    (a : Addr) (m c : Nat) (news : List Value) (hl : news.length = m * i.size) (hnews : At w a news) (h1 : ∀ u ∈ news, u.oneCell' = true) (hroom : sLen + m ≤ sCap) (k : Nat) (hfit : k + sLen * i.size + news.length ≤ cur.size) :
    (Builtin.append_ #[t, t] ty #[.slice (some ⟨g, k, none⟩) sLen sCap, .slice (some a) m c]).run P w =
      .ok (.slice (some ⟨g, k, none⟩) (sLen + m) sCap) (w.setRow g (cur.toList.take (k + sLen * i.size) ++ news ++ cur.toList.drop (k + sLen * i.size + news.length)).toArray) := by
  have hf := run_firstCells_some (P := P) w i.size m a m c news hl hnews
  have hst := run_storeCells_at P g (k + sLen * i.size) e' news 0 cur w hg (by simpa using hfit) h1
  simp only [Nat.add_zero] at hst
  simp [Builtin.append_, run_underlying ht, sizeOf, typeInfo, hi, Builtin.lenOf, hroom, hf, Addr.add_lit, hst]

theorem take_in {c us vs : List Value} {k : Nat} (h : c.take us.length = us) (hk : k ≤ us.length) : (c.take k ++ vs ++ c.drop (k + vs.length)).take (us.take k ++ vs).length = us.take k ++ vs := by
  have e : c.take k = us.take k := by
    rw [← h, List.take_take, Nat.min_eq_left hk]
  rw [e]
  exact List.take_left

theorem heap_append (hE : EnvOk E P) {s : St} {h h' : AHeap} (hR : R E s h) {a : Act} {o : Oper} {x y : Operand} {t e : TypeId} {ie : TI} {vs vx : AV} {m : Nat} {ys : List AV} {v : AV}
    (hop : o.op = .call { callee := .builtin .append, args := #[x, y], argTypes := #[t, t] }) (hvs : V s vs (a.eval x)) (hvx : V s vx (a.eval y)) (hk : kindOf E t = .slice e) (he : E.ty e = some ie) (hz : zeroOk ie = true) (h0 : 0 < ie.size)
    (hc : cellsS h ie.size vx = some (m, ys)) (hap : appendA ie h vs m ys = some (v, h')) : HeapOk P E s o a v h' := by
  obtain ⟨info, d, i2, i3, i4, i5, i6, i7⟩ := hE.ty e ie he
  have ht := slice_elem hE hk
  obtain ⟨ado, cx, news, hy, hl, h1, hlen, hat, hno⟩ := cellsS_spec hR hc hvx
  have hnl := hl.length
  have hrun : ∀ r w', (Builtin.append_ #[t, t] o.type #[a.eval x, a.eval y]).run P s.w = .ok r w' → (execOp a.eval o).run P s.w = .ok (.value r) w' := fun r w' hr => by
    simp only [execOp, hop, resolve, invoke, builtin, Sem.run_bind, Sem.run_pure, Result.andThen_ok, List.map_toArray, List.map_cons, List.map_nil, hr]
  have hzs := zero_size hz
  unfold appendA at hap
  split at hap
  · simp only [V_lit] at hvs
    split at hap
    · rename_i hm
      subst hm
      injection hap with hap
      simp only [Prod.mk.injEq] at hap
      obtain ⟨rfl, rfl⟩ := hap
      refine ⟨_, .slice none 0 0, s, hrun (.slice none 0 0) s.w ?_, .inl rfl, Step.refl s, hR, by simp⟩
      rw [hvs, hy]
      exact run_append_zero s.w t o.type e info ht i2 none ado 0 0 cx (Nat.le_refl _)
    · rename_i hm
      split at hap
      · rename_i hb
        injection hap with hap
        simp only [Prod.mk.injEq] at hap
        obtain ⟨rfl, rfl⟩ := hap
        cases ado with
        | none => exact absurd (hno rfl) hm
        | some ad =>
          have hr := run_append_nil (P := P) s.w t o.type e info ie.zero ht i2 i7 ad m cx news (by rw [i5]; omega) (hat ad rfl) (by omega) (by omega) (by rw [i6]; omega)
          have hRd : R E { s with w := s.w.drew } h := hR.quiet ⟨rfl, rfl, rfl, fun _ h => h, fun _ h => .inl h, fun _ _ => rfl, Nat.le_refl _, rfl, rfl, rfl⟩
          have hSd : Step s { s with w := s.w.drew } := Quiet.step ⟨rfl, rfl, rfl, fun _ h => h, fun _ h => .inl h, fun _ _ => rfl, Nat.le_refl _, rfl, rfl, rfl⟩ hR.immlt
          obtain ⟨k1, k2⟩ := allocM_ok (E := E) hRd (c := news.toArray ++ Builtin.zeroCells ie.zero.cells (grownCap s.w m 0 e - m)) (e := e) (VL.mono hSd.ext _ _ hl) h1 (by
            simp only [Array.toList_append]
            exact List.take_left)
          refine ⟨_, _, _, hrun _ _ (by rw [hvs, hy]; exact hr), .inl rfl, hSd.trans k1, k2, ?_⟩
          have hcap := grownCap_ge s.w m 0 e
          refine allocM_ms hcap ?_ (grownCap_le_maxLen s.w m 0 e (by unfold maxLen; omega))
          simp only [Array.size_append, List.size_toArray, size_zeroCells, hzs]
          have : grownCap s.w m 0 e * ie.size = m * ie.size + (grownCap s.w m 0 e - m) * ie.size := by rw [← Nat.add_mul]; congr 1; omega
          omega
      · cases hap
  · rename_i b ver off n sz
    split at hap
    · rename_i xs hg
      split at hap
      · rename_i hcc
        obtain ⟨rfl, rfl, hle, hb1, hb2⟩ := hcc
        injection hap with hap
        simp only [Prod.mk.injEq] at hap
        obtain ⟨rfl, rfl⟩ := hap
        simp only [V] at hvs
        obtain ⟨ad, cap, cur, hxe, hn, hcur, hlev, hkk⟩ := hvs
        obtain ⟨g, c, ce, us, g1, g2, g3, g4, g5, g6, _⟩ := blk_cells hR (getCells_eq hg)
        rw [hcur] at g2
        injection g2 with g2
        have hus := g4.length
        have hnew : VL s (xs.take (n * ie.size) ++ ys) (us.take (n * ie.size) ++ news) := (g4.take _).append hl
        have hone : ∀ z ∈ us.take (n * ie.size) ++ news, z.oneCell' = true := by
          intro z hz'
          rcases List.mem_append.1 hz' with hz' | hz'
          · exact g5 z (List.mem_of_mem_take hz')
          · exact h1 z hz'
        have hcl : us.length ≤ c.size - s.bs b := by
          have := congrArg List.length g6
          simp only [List.length_take, List.length_drop, Array.length_toList] at this
          omega
        have hfit : 0 < cap → ad = ⟨g, s.bs b, none⟩ ∧ s.bs b + cap * ie.size ≤ c.size ∧ cap ≤ 9223372036854775807 := by
          intro hcp
          rcases hkk g2 with h0 | ⟨g', c', e', hg', hg2, rfl, hfit⟩
          · omega
          · rw [g1] at hg'
            injection hg' with hg'
            subst hg'
            rw [g3] at hg2
            injection hg2 with hg2
            injection hg2 with q1 q2 _
            subst q1
            exact ⟨rfl, by simpa using hfit⟩
        have holds : At s.w ad (us.take (n * ie.size)) := by
          rcases Nat.eq_zero_or_pos n with hn0 | hn0
          · subst hn0; intro j x hj; simp at hj
          · rw [(hfit (by omega)).1]
            have := at_block (off := 0) g3 g6
            simp only [List.drop_zero, Nat.add_zero] at this
            exact this.take _
        by_cases hc0 : cap = 0 ∧ m = 0
        · obtain ⟨hcz, hmz⟩ := hc0
          subst hcz
          subst hmz
          obtain rfl : n = 0 := by omega
          have hys : ys = [] := List.eq_nil_of_length_eq_zero (by rw [hlen, Nat.zero_mul])
          subst hys
          obtain ⟨k1, k2⟩ := writeM_ok hR (ver' := ver + 1) (xs' := xs.take (0 * ie.size) ++ []) (us' := []) (c' := c) (getCells_eq hg) g1 g3 rfl (by omega) (by simp) (by simp) (by simp)
          have hww : (s.writeM h b (.cells (ver + 1) (xs.take (0 * ie.size) ++ [])) g c).w = s.w := setRow_self s.w g c ce (0, 0) g3
          refine ⟨.value (.slice (some ad) 0 0), .slice (some ad) 0 0, _, hrun (.slice (some ad) 0 0) _ ?_, .inl rfl, k1, k2, ?_⟩
          · rw [hww, hxe, hy]; exact run_append_zero (P := P) s.w t o.type e info ht i2 (some ad) ado 0 0 cx (Nat.le_refl _)
          · simp only [V]
            refine ⟨ad, 0, ver + 1, rfl, by omega, ?_, Nat.le_refl _, fun _ => .inl rfl⟩
            have hblt := (List.getElem?_eq_some_iff.1 (getCells_eq hg)).1
            simp [St.writeM, AHeap.vr, hblt, vrOf]
        by_cases hroom : n + m ≤ cap
        · obtain ⟨rfl, hfit2, hfit3⟩ := hfit (by omega)
          have hmul : (n + m) * ie.size ≤ cap * ie.size := Nat.mul_le_mul_right _ hroom
          rw [Nat.add_mul] at hmul
          obtain ⟨k1, k2⟩ := writeM_ok hR (ver' := ver + 1) (xs' := xs.take (n * ie.size) ++ ys) (us' := us.take (n * ie.size) ++ news) (c' := (c.toList.take (s.bs b + n * ie.size) ++ news ++ c.toList.drop (s.bs b + n * ie.size + news.length)).toArray)
            (getCells_eq hg) g1 g3 (by simp; omega) (by omega) hnew hone (by
              rw [List.toList_toArray, drop_put (by simp; omega)]
              exact take_in g6 (by omega))
          have hres : V (s.writeM h b (.cells (ver + 1) (xs.take (n * ie.size) ++ ys)) g (c.toList.take (s.bs b + n * ie.size) ++ news ++ c.toList.drop (s.bs b + n * ie.size + news.length)).toArray) (.ms b (ver + 1) 0 (n + m) ie.size) (.slice (some ⟨g, s.bs b, none⟩) (n + m) cap) := by
            simp only [V]
            refine ⟨_, cap, ver + 1, rfl, hroom, ?_, Nat.le_refl _, fun _ => .inr ⟨g, _, _, g1, setRow_heap s.w g c _ ce _ g3, rfl, ?_⟩⟩
            · have hblt := (List.getElem?_eq_some_iff.1 (getCells_eq hg)).1
              simp [St.writeM, AHeap.vr, hblt, vrOf]
            · refine ⟨?_, hfit3⟩
              simp [St.writeM]
              omega
          cases ado with
          | some adx =>
            exact ⟨_, _, _, hrun _ _ (by rw [hxe, hy]; have := run_append_in (P := P) s.w t o.type e ce info ht i2 g n cap c g3 adx m cx news (by rw [i5]; omega) (hat adx rfl) h1 hroom (s.bs b) (by rw [i5]; omega); rw [i5] at this; exact this), .inl rfl, k1, k2, hres⟩
          | none =>
            have hm0 := hno rfl
            subst hm0
            have hn0 : news = [] := List.eq_nil_of_length_eq_zero (by rw [hnl, hlen, Nat.zero_mul])
            subst hn0
            refine ⟨_, _, _, hrun (.slice (some ⟨g, s.bs b, none⟩) (n + 0) cap) _ ?_, .inl rfl, k1, k2, hres⟩
            rw [hxe, hy]
            have hz0 := run_append_zero (P := P) s.w t o.type e info ht i2 (some ⟨g, s.bs b, none⟩) none n cap cx hn
            rw [hz0]
            simp only [Nat.add_zero, St.writeM]
            congr 1
            simp only [List.append_nil, List.length_nil, Nat.add_zero, List.take_append_drop, Array.toArray_toList]
            exact (setRow_self s.w g c ce (0, 0) g3).symm
        · cases ado with
          | none =>
            have hm0 := hno rfl
            omega
          | some adx =>
            have hr := run_append_grow (P := P) s.w t o.type e info ie.zero ht i2 i7 ad n cap (us.take (n * ie.size)) (by rw [List.length_take, i5]; omega) holds adx m cx news (by rw [i5]; omega) (hat adx rfl) (by omega) (by omega)
              (by rw [i6]; exact growslice_fits (by omega) hb1)
            obtain ⟨k1, k2⟩ := moveM_ok hR (xs' := xs.take (n * ie.size) ++ ys) (us' := us.take (n * ie.size) ++ news) (c' := (us.take (n * ie.size)).toArray ++ news.toArray ++ Builtin.zeroCells ie.zero.cells (grownCap s.w (n + m) cap e - (n + m))) (e := e)
              (getCells_eq hg) hnew hone (by
                simp only [Array.toList_append]
                exact List.take_left)
            refine ⟨_, _, _, hrun _ _ (by rw [hxe, hy]; exact hr), .inl rfl, k1, k2, ?_⟩
            have hge := grownCap_ge s.w (n + m) cap e
            simp only [V]
            refine ⟨_, grownCap s.w (n + m) cap e, ver + 1, rfl, hge, ?_, Nat.le_refl _, fun _ => .inr ⟨s.w.heap.size, _, _, if_pos rfl, heap_alloc_new s.w.drew _, by simp [St.moveM], ?_⟩⟩
            · have hblt := (List.getElem?_eq_some_iff.1 (getCells_eq hg)).1
              simp [St.moveM, AHeap.vr, hblt, vrOf]
            · refine ⟨?_, grownCap_le_maxLen s.w (n + m) cap e (by unfold maxLen; omega)⟩
              simp only [Array.size_append, List.size_toArray, size_zeroCells, hzs, List.length_take, St.moveM, if_pos]
              have : grownCap s.w (n + m) cap e * ie.size = (n + m) * ie.size + (grownCap s.w (n + m) cap e - (n + m)) * ie.size := by rw [← Nat.add_mul]; congr 1; omega
              rw [Nat.add_mul] at this
              omega
      · cases hap
    · cases hap
  · cases hap

theorem copy_run (hE : EnvOk E P) {s : St} {t t' e ty : TypeId} {ie : TI} {n cap m cx : Nat} {adx : Option Addr} {g off : Nat} {c : Array Value} {ce : TypeId} {news : List Value} (hk : kindOf E t = .slice e) (he : E.ty e = some ie)
    (hg : s.w.heap[g]? = some (.cells c ce (0, 0))) (hl : news.length = m * ie.size) (h1 : ∀ y ∈ news, y.oneCell' = true) (hat : ∀ ad, adx = some ad → At s.w ad news) (hno : adx = none → m = 0) (hfit : off + n * ie.size ≤ c.size) :
    (Builtin.copy_ #[t, t'] ty #[.slice (some ⟨g, off, none⟩) n cap, .slice adx m cx]).run P s.w =
      .ok (.int .i64 (min m n : Nat)) (s.w.setRow g (c.toList.take off ++ news.take (min m n * ie.size) ++ c.toList.drop (off + (news.take (min m n * ie.size)).length)).toArray) := by
  obtain ⟨info, d, i2, i3, i4, i5, i6, i7⟩ := hE.ty e ie he
  have hmn : min m n * ie.size ≤ m * ie.size := Nat.mul_le_mul_right _ (Nat.min_le_left _ _)
  have hmn2 : min m n * ie.size ≤ n * ie.size := Nat.mul_le_mul_right _ (Nat.min_le_right _ _)
  have hlt : (news.take (min m n * ie.size)).length = min m n * ie.size := by rw [List.length_take]; omega
  have hf : (Builtin.firstCells ie.size (min m n) (.slice adx m cx)).run P s.w = .ok (news.take (min m n * ie.size)).toArray s.w := by
    cases adx with
    | some ad => exact run_firstCells_some (P := P) s.w ie.size (min m n) ad m cx _ hlt ((hat ad rfl).take _)
    | none =>
      have hm := hno rfl
      subst hm
      have : news = [] := List.eq_nil_of_length_eq_zero (by rw [hl, Nat.zero_mul])
      subst this
      simp [Builtin.firstCells]
  have hst := run_storeCells_at (P := P) g off ce (news.take (min m n * ie.size)) 0 c s.w hg (by rw [hlt]; omega) (fun y hy => h1 y (List.mem_of_mem_take hy))
  simp only [Nat.add_zero] at hst
  have hmin : Nat.min m n = min m n := rfl
  simp [Builtin.copy_, run_underlying (slice_elem hE hk), Builtin.lenOf, run_sizeOf i2, i5, hmin, hf, hst, goInt]

theorem heap_copy (hE : EnvOk E P) {s : St} {h : AHeap} (hR : R E s h) {a : Act} {o : Oper} {x y : Operand} {t t' e : TypeId} {ie : TI} {b ver off n : Nat} {vx : AV} {m : Nat} {xs ys zs : List AV}
    (hop : o.op = .call { callee := .builtin .copy, args := #[x, y], argTypes := #[t, t'] }) (hvs : V s (.ms b ver off n ie.size) (a.eval x)) (hvx : V s vx (a.eval y)) (hk : kindOf E t = .slice e) (he : E.ty e = some ie)
    (hg : getCells h b ver = some xs) (hc : cellsS h ie.size vx = some (m, ys)) (hp : putAt xs off (ys.take (min m n * ie.size)) = some zs) : HeapOk P E s o a (.lit (.int .i64 (min m n : Nat))) (h.set b (.cells ver zs)) := by
  obtain ⟨ado, cx, news, hy, hl, h1, hlen, hat, hno⟩ := cellsS_spec hR hc hvx
  have hnl := hl.length
  simp only [V] at hvs
  obtain ⟨ad, cap, cur, hxe, hn, hcur, hlev, hkk⟩ := hvs
  obtain ⟨g, c, ce, us, g1, g2, g3, g4, g5, g6, _⟩ := blk_cells hR (getCells_eq hg)
  rw [hcur] at g2
  injection g2 with g2
  have hset : h.set b (.cells ver xs) = h := by
    refine List.ext_getElem? fun j => ?_
    rw [List.getElem?_set]
    split
    · rename_i e; subst e; rw [getCells_eq hg]; simp [(List.getElem?_eq_some_iff.1 (getCells_eq hg)).1]
    · rfl
  rcases hkk g2 with h0 | ⟨g', c', e', hg', hg2, rfl, hfit⟩
  · obtain rfl : n = 0 := by omega
    obtain ⟨info, d, i2, i3, i4, i5, i6, i7⟩ := hE.ty e ie he
    simp only [Nat.min_zero, Nat.zero_mul, List.take_zero] at hp ⊢
    obtain ⟨_, rfl⟩ := putAt_eq hp
    simp only [List.append_nil, List.length_nil, Nat.add_zero, List.take_append_drop, hset]
    refine ⟨.value (.int .i64 0), .int .i64 0, s, ?_, .inl rfl, Step.refl s, hR, by simp⟩
    simp only [execOp, hop, resolve, invoke, builtin, Sem.run_bind, Sem.run_pure, Result.andThen_ok, List.map_toArray, List.map_cons, List.map_nil, hxe, hy]
    have hmin : Nat.min m 0 = 0 := Nat.min_zero m
    cases ado <;> simp [Builtin.copy_, run_underlying (slice_elem hE hk), Builtin.lenOf, run_sizeOf i2, Builtin.firstCells, loadCells, loadCellsFrom, storeCells, goInt, hmin]
  rw [g1] at hg'
  injection hg' with hg'
  subst hg'
  rw [g3] at hg2
  injection hg2 with hg2
  injection hg2 with q1 q2 _
  subst q1
  subst q2
  have hus := g4.length
  have hcl : us.length ≤ c.size - s.bs b := by
    have := congrArg List.length g6
    simp only [List.length_take, List.length_drop, Array.length_toList] at this
    omega
  obtain ⟨hle, _⟩ := putAt_eq hp
  have hnc : n * ie.size ≤ cap * ie.size := Nat.mul_le_mul_right _ hn
  have hr := copy_run (P := P) hE (t' := t') (ty := o.type) (cap := cap) (cx := cx) (off := s.bs b + off) (n := n) hk he g3 (by omega) h1 hat hno (by omega)
  have htl : (news.take (min m n * ie.size)).length = (ys.take (min m n * ie.size)).length := by simp [hnl]
  have hput := g4.put (hl.take (min m n * ie.size)) hp
  have htk := take_put (off := off) (vs := news.take (min m n * ie.size)) g6 (by omega)
  have hsz : (us.take off ++ news.take (min m n * ie.size) ++ us.drop (off + (news.take (min m n * ie.size)).length)).length = us.length := by
    simp only [List.length_append, List.length_drop, List.length_take (l := us)]
    omega
  obtain ⟨k1, k2⟩ := writeM_ok hR (ver' := ver) (xs' := zs) (us' := us.take off ++ news.take (min m n * ie.size) ++ us.drop (off + (news.take (min m n * ie.size)).length))
    (c' := (c.toList.take (s.bs b + off) ++ news.take (min m n * ie.size) ++ c.toList.drop (s.bs b + off + (news.take (min m n * ie.size)).length)).toArray)
    (getCells_eq hg) g1 g3 (by
      simp only [List.size_toArray, List.length_append, List.length_drop, List.length_take (l := c.toList), Array.length_toList]
      omega) (Nat.le_refl _) hput (by
      intro z hz
      simp only [List.append_assoc, List.mem_append] at hz
      rcases hz with hz | hz | hz
      · exact g5 z (List.mem_of_mem_take hz)
      · exact h1 z (List.mem_of_mem_take hz)
      · exact g5 z (List.mem_of_mem_drop hz)) (by
      rw [hsz, List.toList_toArray, drop_put (by
        have hmn2 : min m n * ie.size ≤ n * ie.size := Nat.mul_le_mul_right _ (Nat.min_le_right _ _)
        simp only [List.length_take, Array.length_toList] at *
        omega)]
      exact htk)
  refine ⟨_, .int .i64 (min m n : Nat), _, ?_, .inl rfl, k1, k2, by simp⟩
  simp only [execOp, hop, resolve, invoke, builtin, Sem.run_bind, Sem.run_pure, Result.andThen_ok, List.map_toArray, List.map_cons, List.map_nil, hxe, hy, hr]
  rfl

/-! ### Maps -/
def St.setO (s : St) (h : AHeap) (b : Nat) (bl : ABlock) (g : Nat) (o : Obj) : St := { s with w := { s.w with heap := s.w.heap.setIfInBounds g o }, vr := AHeap.vr (h.set b bl) }

theorem setO_ok {s : St} {h : AHeap} (hR : R E s h) {b g : Nat} {kd vd : IntKind} {f0 : Int → Int → Int} {bl' : ABlock} {arr arr' : Array MapEntry} {clock clock' : Nat} (hb : h[b]? = some (.map kd vd f0)) (hvb0 : vrOf bl' = 0) (hρ : s.ρ b = some g) (hg : s.w.heap[g]? = some (.map arr clock))
    (hmono : ∀ (j : Nat) (e : MapEntry), arr[j]? = some e → ∃ e' : MapEntry, arr'[j]? = some e' ∧ e'.key = e.key ∧ e'.born = e.born) (hBR : ∀ (s' : St) (k : Nat), s'.w.heap[g]? = some (.map arr' clock') → BR s' bl' g k) :
    Step s (s.setO h b bl' g (.map arr' clock')) ∧ R E (s.setO h b bl' g (.map arr' clock')) (h.set b bl') := by
  have hblt : b < h.length := (List.getElem?_eq_some_iff.1 hb).1
  obtain ⟨g0, k1, k2, k3, _⟩ := hR.blk b _ hb
  rw [hρ] at k1
  injection k1 with k1
  subst k1
  have hvr : ∀ x, x ≠ b → AHeap.vr (h.set b bl') x = AHeap.vr h x := fun x hx => by simp [AHeap.vr, List.getElem?_set_ne (Ne.symm hx)]
  have hvb : AHeap.vr (h.set b bl') b = some 0 := by simp [AHeap.vr, hblt, hvb0]
  have hset := MapKept.heap_set (o' := .map arr' clock') hg
  have hoth : ∀ k, k ≠ g → (s.w.heap.setIfInBounds g (.map arr' clock'))[k]? = s.w.heap[k]? := hset.2
  have hx : Ext s (s.setO h b bl' g (.map arr' clock')) := by
    refine ⟨fun x cur hx => ?_, fun _ h => h, fun k hk => hoth k (fun e => k2 (e ▸ hk)), fun k c0 e0 hk => ?_, fun k arr0 clock0 hk => ?_⟩
    · by_cases he : x = b
      · subst he
        rw [hR.vr, vr_some hb] at hx
        injection hx with hx
        simp only [vrOf] at hx
        exact ⟨0, hvb, by omega, fun _ => ⟨rfl, rfl⟩⟩
      · exact ⟨cur, (hvr x he).trans ((hR.vr x).symm.trans hx), Nat.le_refl _, fun _ => ⟨rfl, rfl⟩⟩
    · by_cases he : k = g
      · subst he; rw [hg] at hk; cases hk
      · exact ⟨c0, (hoth k he).trans hk, rfl⟩
    · by_cases he : k = g
      · subst he
        rw [hg] at hk
        injection hk with hk
        injection hk with h1 h2
        subst h1
        exact ⟨arr', clock', hset.1, hmono⟩
      · exact ⟨arr0, clock0, (hoth k he).trans hk, fun j e he => ⟨e, he, rfl, rfl⟩⟩
  refine ⟨⟨hx, fun k hk hn => hoth k (fun e => hn b (by rw [hR.vr, vr_some hb]; simp) (by rw [e]; exact hρ)), fun x k hx hk => .inl ⟨?_, hk⟩, fun g hg => .inl hg, by simp [St.setO], rfl, rfl, rfl⟩,
    ⟨fun _ => rfl, fun x bk hb' => ?_, fun x x' k hx hx' hk hk' => hR.inj x x' k (by simpa using hx) (by simpa using hx') hk hk', fun k hk => by have := hR.immlt k hk; simpa [St.setO] using this, fun k ys hk => V.mono hx _ _ (hR.glob k ys hk)⟩⟩
  · simp only [St.setO] at hx
    by_cases he : x = b
    · subst he
      rw [hR.vr, vr_some hb]
      simp
    · rw [hvr x he] at hx
      rw [hR.vr]
      exact hx
  · by_cases he : x = b
    · subst he
      rw [List.getElem?_set_self hblt] at hb'
      injection hb' with hb'
      subst hb'
      exact ⟨g, hρ, .of k2, by simpa [St.setO] using k3, hBR _ _ hset.1⟩
    · rw [List.getElem?_set_ne (Ne.symm he)] at hb'
      obtain ⟨g', m1, m2, m3, m4⟩ := hR.blk x bk hb'
      have hne : g' ≠ g := fun e => he (hR.inj x b g (List.getElem?_eq_some_iff.1 hb').1 hblt (by rw [← e]; exact m1) hρ)
      exact ⟨g', m1, m2.imp id, by simpa [St.setO] using m3, m4.mono hx (hoth g' hne)⟩

theorem mapTI_spec (hE : EnvOk E P) {t : TypeId} {kd vd : IntKind} (h : mapTI E t = some (kd, vd)) :
    ∃ k e ke, P.underlying t = some (.map k e) ∧ WideMaps.ArrKey P k ke 2 ∧ P.underlying ke = some (.int kd) ∧ (∀ u : World, (zeroValue e).run P u = .ok (.int vd 0) u) ∧ ∃ m, P.types.size = m + 1 := by
  unfold mapTI at h
  split at h
  · rename_i k e hk
    split at h
    · rename_i n ke vd' ik ie h1 h2 h3 h4
      split at h
      · rename_i kd' i vk z h5 h6 h7
        split at h
        · rename_i hc
          injection h with h
          simp only [Prod.mk.injEq] at h
          obtain ⟨rfl, rfl⟩ := h
          obtain ⟨c1, c2, c3, c4, c5⟩ := hc
          subst c1
          subst c4
          subst c5
          have hu := int_elem hE h5
          obtain ⟨inf, d, i2, i3, i4, i5, i6, i7⟩ := hE.ty ke i h6
          obtain ⟨inf', d', j2, j3, j4, j5, j6, j7⟩ := hE.ty k ik h3
          obtain ⟨inf2, d2, l2, l3, l4, l5, l6, l7⟩ := hE.ty e ie h4
          have hz : ie.zero = .int vk 0 := by
            cases hzz : ie.zero <;> rw [hzz] at h7 <;> simp [AV.ofV] at h7
            rw [h7.1, h7.2]
          refine ⟨k, e, ke, map_elem hE hk, ⟨array_elem hE h1, by simp [Program.plainKey, hu], by simp [Program.cellsOf, i2, i5, c3], by simp [Program.cellsOf, j2, j5, c2]⟩, hu, fun u => by rw [run_zeroValue l2 (by rw [l7, hz]) u], ⟨P.types.size - 1, by have := hE.tys; omega⟩⟩
        · cases h
      · cases h
    · cases h
  · cases h

theorem keyA_spec {s : St} {kd : IntKind} {v : AV} {x y : Int} {u : Value} (h : keyA kd v = some (x, y)) (hv : V s v u) : u = keyV kd x y ∧ (Lit.int kd x).wf = true ∧ (Lit.int kd y).wf = true := by
  unfold keyA at h
  split at h
  · rename_i k1 x1 k2 y1
    split at h
    · rename_i hc
      injection h with h
      simp only [Prod.mk.injEq] at h
      obtain ⟨rfl, rfl⟩ := h
      obtain ⟨rfl, rfl, c3, c4⟩ := hc
      simp only [V] at hv
      obtain ⟨us, rfl, hl, _⟩ := hv
      obtain ⟨u1, us1, rfl, h1, hl1⟩ := VL_cons.1 hl
      obtain ⟨u2, us2, rfl, h2, hl2⟩ := VL_cons.1 hl1
      rw [VL_nil] at hl2
      rw [V_lit] at h1 h2
      subst h1
      subst h2
      subst hl2
      exact ⟨rfl, c3, c4⟩
    · cases h
  · cases h
theorem keyV_inj {kd : IntKind} {x y x' y' : Int} (h : keyV kd x y = keyV kd x' y') : x = x' ∧ y = y' := by
  simp only [keyV, Value.agg.injEq] at h
  simpa using h
theorem getMap_eq {h : AHeap} {b : Nat} {kd vd : IntKind} {f : Int → Int → Int} (hg : getMap h b kd vd = some f) : h[b]? = some (.map kd vd f) := by
  unfold getMap at hg
  split at hg
  · rename_i k v f' hb
    split at hg
    · rename_i e
      injection hg with hg
      subst hg
      obtain ⟨rfl, rfl⟩ := e
      exact hb
    · cases hg
  · cases hg
/-- Where a map lies, and what is in it. -/
theorem map_at {s : St} {h : AHeap} (hR : R E s h) {b : Nat} {kd vd : IntKind} {f : Int → Int → Int} {u : Value} (hg : getMap h b kd vd = some f) (hv : V s (.mref b) u) :
    ∃ (g : Nat) (arr : Array MapEntry) (clock : Nat), u = .map (some g) ∧ s.ρ b = some g ∧ s.vr b = some 0 ∧ s.w.heap[g]? = some (.map arr clock) ∧ MapKept.Stamped arr clock ∧
      (∀ e ∈ arr.toList, ∃ x y, e.key = keyV kd x y ∧ (Lit.int kd x).wf = true ∧ (Lit.int kd y).wf = true ∧ e.val = .int vd (f x y)) ∧ ∀ x y, (∀ e ∈ arr.toList, e.key ≠ keyV kd x y) → f x y = 0 := by
  have hb := getMap_eq hg
  obtain ⟨g, h1, h2, h3, arr, clock, h4, h5, h6, h7⟩ := hR.blk b _ hb
  have hvr : s.vr b = some 0 := by rw [hR.vr, vr_some hb]; rfl
  simp only [V] at hv
  obtain ⟨r, cur, rfl, hcur, hk⟩ := hv
  rw [hvr] at hcur
  injection hcur with hcur
  have := hk hcur.symm
  rw [h1] at this
  injection this with this
  subst this
  exact ⟨g, arr, clock, rfl, h1, hvr, h4, h5, h6, h7⟩
theorem heap_lookup (hE : EnvOk E P) {s : St} {h : AHeap} (hR : R E s h) {fr : AF} {a : Act} {dst : Option Tmp} {t : TypeId} {m k : Operand} {b : Nat} {kv : AV} {kd vd : IntKind} {f : Int → Int → Int} {x y : Int} {ty : TypeId} {pos : String} {after : Array Edge} {guard : Option (Nat × Bool)}
    (hm : evA E fr m = some (.mref b)) (hk : evA E fr k = some kv) (ht : mapTI E t = some (kd, vd)) (hg : getMap h b kd vd = some f) (hkey : keyA kd kv = some (x, y)) (ho : OpsV E s fr a #[m, k]) :
    HeapOk P E s ⟨dst, .lookup t m k false, ty, pos, after, guard⟩ a (.lit (.int vd (f x y))) h := by
  obtain ⟨g, arr, clock, hme, hρ, _, hh, hst, hent, hno⟩ := map_at hR hg (ho m (by simp) _ hm)
  obtain ⟨hke, wx, wy⟩ := keyA_spec hkey (ho k (by simp) _ hk)
  obtain ⟨kt, e, ke, hu, A, hke', hz, hsz⟩ := mapTI_spec hE ht
  have K := A.law
  have hko : ∀ {x y : Int}, (Lit.int kd x).wf = true → (Lit.int kd y).wf = true → keyOf P kt (keyV kd x y) = some (.string (keyBytes [.int kd x, .int kd y])) := fun wx wy => WideMaps.keyOf_pair A hke' hsz wx wy
  have hkeys : ∀ e ∈ arr.toList, ∃ l, keyOf P kt e.key = some l := fun e he => by
    obtain ⟨x', y', h1, h2, h3, _⟩ := hent e he
    exact ⟨_, by rw [h1]; exact hko h2 h3⟩
  rcases K.find s.w (hko wx wy) arr.toList hkeys with ⟨h1, h2⟩ | ⟨j, e0, h1, h2, h3⟩
  · refine ⟨_, .int vd 0, s, ?_, .inl rfl, Step.refl s, hR, by rw [V_lit, hno x y h2]⟩
    simp [execOp, Instr.lookup, hme, hke, run_underlying hu, MapKept.run_getObj_map hh, K.check s.w _ (hko wx wy), h1, hz, Result.andThen]
  · obtain ⟨x', y', k1, _, _, k4⟩ := hent e0 (List.mem_of_getElem? h2)
    obtain ⟨rfl, rfl⟩ := keyV_inj (k1.symm.trans h3)
    refine ⟨_, .int vd (f x' y'), s, ?_, .inl rfl, Step.refl s, hR, by rw [V_lit]⟩
    simp [execOp, Instr.lookup, hme, hke, run_underlying hu, MapKept.run_getObj_map hh, K.check s.w _ (hko wx wy), h1, k4, Result.andThen]
theorem set_same {h : AHeap} {b : Nat} {bl : ABlock} (hb : h[b]? = some bl) : h.set b bl = h := by
  apply List.ext_getElem?
  intro j
  rw [List.getElem?_set]
  split
  · rename_i e
    subst e
    have := (List.getElem?_eq_some_iff.1 hb).1
    rw [if_pos this, hb]
  · rfl
theorem heap_mapEntry (hE : EnvOk E P) {s : St} {h : AHeap} (hR : R E s h) {fr : AF} {a : Act} {dst : Option Tmp} {t : TypeId} {m k : Operand} {b : Nat} {kv : AV} {kd vd : IntKind} {f : Int → Int → Int} {x y : Int} {ty : TypeId} {pos : String} {after : Array Edge} {guard : Option (Nat × Bool)}
    (hm : evA E fr m = some (.mref b)) (hk : evA E fr k = some kv) (ht : mapTI E t = some (kd, vd)) (hg : getMap h b kd vd = some f) (hkey : keyA kd kv = some (x, y)) (ho : OpsV E s fr a #[m, k]) :
    HeapOk P E s ⟨dst, .mapEntry t m k, ty, pos, after, guard⟩ a (.tup [.lit (.int vd (f x y)), .ent b kd x y]) h := by
  obtain ⟨g, arr, clock, hme, hρ, hvr, hh, hst, hent, hno⟩ := map_at hR hg (ho m (by simp) _ hm)
  obtain ⟨hke, wx, wy⟩ := keyA_spec hkey (ho k (by simp) _ hk)
  obtain ⟨kt, e, ke, hu, A, hke', hz, hsz⟩ := mapTI_spec hE ht
  have K := A.law
  have hko : ∀ {x y : Int}, (Lit.int kd x).wf = true → (Lit.int kd y).wf = true → keyOf P kt (keyV kd x y) = some (.string (keyBytes [.int kd x, .int kd y])) := fun wx wy => WideMaps.keyOf_pair A hke' hsz wx wy
  have hkeys : ∀ e ∈ arr.toList, ∃ l, keyOf P kt e.key = some l := fun e he => by
    obtain ⟨x', y', h1, h2, h3, _⟩ := hent e he
    exact ⟨_, by rw [h1]; exact hko h2 h3⟩
  have hb := getMap_eq hg
  have hsame := set_same hb
  rcases K.find s.w (hko wx wy) arr.toList hkeys with ⟨h1, h2⟩ | ⟨j, e0, h1, h2, h3⟩
  · have hf0 := hno x y h2
    obtain ⟨q1, q2⟩ := setO_ok (bl' := .map kd vd f) (arr' := arr.push ⟨keyV kd x y, .int vd 0, clock⟩) (clock' := clock + 1) hR hb rfl hρ hh (fun j e he => ⟨e, by
        have hj := (Array.getElem?_eq_some_iff.1 he).1
        rw [Array.getElem?_push, if_neg (by omega), he], rfl, rfl⟩) (fun s' k' hs' => ⟨_, _, hs', MapKept.stamped_push hst h2, fun e he => by
        rw [Array.toList_push, List.mem_append] at he
        rcases he with he | he
        · exact hent e he
        · rw [List.mem_singleton.1 he]
          exact ⟨x, y, rfl, wx, wy, by rw [hf0]⟩, fun x' y' hn => hno x' y' fun e he => hn e (by rw [Array.toList_push]; exact List.mem_append_left _ he)⟩)
    rw [hsame] at q2
    refine ⟨_, .tuple #[.int vd 0, goInt clock], _, ?_, .inl rfl, q1, q2, ?_⟩
    · simp [execOp, Instr.mapEntry, hme, hke, run_underlying hu, MapKept.run_getObj_map hh, K.check s.w false (hko wx wy), h1, hz, MapKept.run_setObj_map _ hh, Result.andThen, St.setO]
    · simp only [V]
      refine ⟨[.int vd 0, goInt clock], rfl, VL_cons.2 ⟨_, _, rfl, by rw [V_lit, hf0], VL_cons.2 ⟨_, _, rfl, ?_, VL_nil.2 rfl⟩⟩⟩
      simp only [V]
      refine ⟨g, 0, clock, rfl, by simp [St.setO, hsame, ← hR.vr, hvr], fun _ => ⟨hρ, arr.push ⟨keyV kd x y, .int vd 0, clock⟩, clock + 1, arr.size, ⟨keyV kd x y, .int vd 0, clock⟩, (MapKept.heap_set hh).1, by simp, rfl, rfl⟩⟩
  · obtain ⟨x', y', k1, _, _, k4⟩ := hent e0 (List.mem_of_getElem? h2)
    obtain ⟨rfl, rfl⟩ := keyV_inj (k1.symm.trans h3)
    have hj : arr[j]? = some e0 := by simpa using h2
    have hmod : arr.modify j (fun e => { e with key := keyV kd x' y' }) = arr := by
      apply Array.ext'
      rw [Array.toList_modify, ChangeMaps.modify_eq_set _ _ _ _ h2]
      have : ({ e0 with key := keyV kd x' y' } : MapEntry) = e0 := by rw [← h3]
      rw [this]
      exact WideElems.set_self _ _ _ h2
    obtain ⟨q1, q2⟩ := setO_ok (bl' := .map kd vd f) (arr' := arr) (clock' := clock) hR hb rfl hρ hh (fun j e he => ⟨e, he, rfl, rfl⟩) (fun s' k' hs' => ⟨arr, clock, hs', hst, hent, hno⟩)
    rw [hsame] at q2
    refine ⟨_, .tuple #[.int vd (f x' y'), goInt e0.born], _, ?_, .inl rfl, q1, q2, ?_⟩
    · simp [execOp, Instr.mapEntry, hme, hke, run_underlying hu, MapKept.run_getObj_map hh, K.check s.w false (hko wx wy), h1, hj, h3, K.stays s.w (hko wx wy), hmod, MapKept.run_setObj_map _ hh, Result.andThen, St.setO, k4]
    · simp only [V]
      refine ⟨[.int vd (f x' y'), goInt e0.born], rfl, VL_cons.2 ⟨_, _, rfl, by rw [V_lit], VL_cons.2 ⟨_, _, rfl, ?_, VL_nil.2 rfl⟩⟩⟩
      simp only [V]
      exact ⟨g, 0, e0.born, rfl, by simp [St.setO, hsame, ← hR.vr, hvr], fun _ => ⟨hρ, arr, clock, j, e0, (MapKept.heap_set hh).1, hj, rfl, h3⟩⟩

theorem heap_makeMap (hE : EnvOk E P) {s : St} {h : AHeap} (hR : R E s h) {a : Act} {dst : Option Tmp} {t : TypeId} {kd vd : IntKind} {ty : TypeId} {pos : String} {after : Array Edge} {guard : Option (Nat × Bool)}
    (ht : mapTI E t = some (kd, vd)) : HeapOk P E s ⟨dst, .makeMap t none, ty, pos, after, guard⟩ a (.mref h.length) (h ++ [.map kd vd fun _ _ => 0]) := by
  obtain ⟨q1, q2⟩ := allocB_ok (bl := .map kd vd fun _ _ => 0) (o := .map #[] 0) hR fun s' hx hh => ⟨#[], 0, hh, MapKept.stamped_empty 0, by simp, fun _ _ _ => rfl⟩
  refine ⟨_, .map (some s.w.heap.size), _, ?_, .inl rfl, q1, q2, ?_⟩
  · simp [execOp, Instr.makeMap, newObj, Sem.run, St.allocM, Result.andThen]
  · simp only [V]
    exact ⟨s.w.heap.size, 0, rfl, by simp [St.allocM, AHeap.vr, vrOf], fun _ => if_pos rfl⟩
theorem heap_entryStore (hE : EnvOk E P) {s : St} {h : AHeap} (hR : R E s h) {fr : AF} {a : Act} {dst : Option Tmp} {t : TypeId} {m st v : Operand} {b : Nat} {kd vd : IntKind} {f : Int → Int → Int} {x y n : Int} {ty : TypeId} {pos : String} {after : Array Edge} {guard : Option (Nat × Bool)}
    (hm : evA E fr m = some (.mref b)) (hs : evA E fr st = some (.ent b kd x y)) (hv : evA E fr v = some (.lit (.int vd n))) (hg : getMap h b kd vd = some f) (ho : OpsV E s fr a #[m, st, v]) :
    HeapOk P E s ⟨dst, .entryStore t m st v, ty, pos, after, guard⟩ a .undef (h.set b (.map kd vd (mput f x y n))) := by
  obtain ⟨g, arr, clock, hme, hρ, hvr, hh, hst, hent, hno⟩ := map_at hR hg (ho m (by simp) _ hm)
  have hse := ho st (by simp) _ hs
  have hve := ho v (by simp) _ hv
  rw [V_lit] at hve
  simp only [V] at hse
  obtain ⟨r, cur, born, hse, hcur, hk⟩ := hse
  rw [hvr] at hcur
  injection hcur with hcur
  obtain ⟨hr, arr2, clock2, j, e0, hh2, hj, hb0, hkey⟩ := hk hcur.symm
  rw [hρ] at hr
  injection hr with hr
  subst hr
  rw [hh] at hh2
  injection hh2 with hh2
  injection hh2 with e1 e2
  subst e1
  subst hb0
  have h2 : arr.toList[j]? = some e0 := by simpa using hj
  have hidx : arr.findIdx? (fun e => ((e.born : Nat) : Int) == ((e0.born : Nat) : Int)) = some j := by
    rw [WideElems.findIdx_arr]
    exact WideElems.findIdx_born hst.2.1 h2
  have hget : ∀ i, (arr.modify j fun e => { e with val := .int vd n })[i]? = if i = j then (arr[i]?).map (fun e => { e with val := .int vd n }) else arr[i]? := fun i => by
    rw [Array.getElem?_modify]
    by_cases hi : j = i
    · subst hi; simp
    · rw [if_neg hi, if_neg (Ne.symm hi)]
  have hmem : ∀ e ∈ (arr.modify j fun e => { e with val := .int vd n }).toList, ∃ i, (arr.modify j fun e => { e with val := .int vd n })[i]? = some e := fun e he => by
    obtain ⟨i, hi⟩ := List.getElem?_of_mem he
    exact ⟨i, by rw [← Array.getElem?_toList]; exact hi⟩
  have huniq : ∀ i e, arr[i]? = some e → e.key = keyV kd x y → i = j := fun i e hi hk' => by
    have hp := ((MapKept.stamped_iff arr clock).1 hst).2.2
    rcases Nat.lt_trichotomy i j with hlt | rfl | hlt
    · exfalso
      exact List.pairwise_iff_getElem.1 hp i j (by simpa using (Array.getElem?_eq_some_iff.1 hi).1) (by simpa using (Array.getElem?_eq_some_iff.1 hj).1) hlt (by
        have a1 := (Array.getElem?_eq_some_iff.1 hi).2
        have a2 := (Array.getElem?_eq_some_iff.1 hj).2
        simp only [Array.getElem_toList, a1, a2]
        rw [hk', hkey])
    · rfl
    · exfalso
      exact List.pairwise_iff_getElem.1 hp j i (by simpa using (Array.getElem?_eq_some_iff.1 hj).1) (by simpa using (Array.getElem?_eq_some_iff.1 hi).1) hlt (by
        have a1 := (Array.getElem?_eq_some_iff.1 hi).2
        have a2 := (Array.getElem?_eq_some_iff.1 hj).2
        simp only [Array.getElem_toList, a1, a2]
        rw [hk', hkey])
  obtain ⟨q1, q2⟩ := setO_ok (bl' := .map kd vd (mput f x y n)) (arr' := arr.modify j fun e => { e with val := .int vd n }) (clock' := clock) hR (getMap_eq hg) rfl hρ hh (fun i e he => by
      rw [hget]
      split
      · exact ⟨{ e with val := .int vd n }, by rw [he]; rfl, rfl, rfl⟩
      · exact ⟨e, he, rfl, rfl⟩) (fun s' k' hs' => ⟨_, _, hs', MapKept.stamped_modify hst j _ (fun _ _ => rfl) (fun _ _ _ => rfl), fun e he => by
      obtain ⟨i, hi⟩ := hmem e he
      rw [hget] at hi
      split at hi
      · rename_i hij
        subst hij
        rw [hj] at hi
        simp at hi
        subst hi
        obtain ⟨x', y', k1, k2, k3, _⟩ := hent e0 (List.mem_of_getElem? h2)
        obtain ⟨rfl, rfl⟩ := keyV_inj (k1.symm.trans hkey)
        exact ⟨x', y', k1, k2, k3, by simp [mput]⟩
      · rename_i hij
        obtain ⟨x', y', k1, k2, k3, k4⟩ := hent e (List.mem_of_getElem? (by simpa using hi))
        refine ⟨x', y', k1, k2, k3, ?_⟩
        rw [k4, mput, if_neg]
        rintro ⟨rfl, rfl⟩
        exact hij (huniq i e hi k1), fun x' y' hn => by
      have hne : ¬ (x' = x ∧ y' = y) := by
        rintro ⟨rfl, rfl⟩
        refine hn { e0 with val := .int vd n } (List.mem_of_getElem? (i := j) ?_) hkey
        rw [Array.getElem?_toList, hget, if_pos rfl, hj]
        rfl
      rw [mput, if_neg hne]
      refine hno x' y' fun e he hke => ?_
      obtain ⟨i, hi⟩ := List.getElem?_of_mem he
      have hi' : arr[i]? = some e := by simpa using hi
      by_cases hij : i = j
      · subst hij
        rw [hj] at hi'
        injection hi' with hi'
        subst hi'
        obtain ⟨r1, r2⟩ := keyV_inj (hke.symm.trans hkey)
        exact hne ⟨r1, r2⟩
      · refine hn e (List.mem_of_getElem? (i := i) ?_) hke
        rw [Array.getElem?_toList, hget, if_neg hij, hi']⟩)
  refine ⟨_, Go.undef, _, ?_, .inr ⟨rfl, rfl⟩, q1, q2, by rw [AV.undef, V_lit]⟩
  simp [execOp, Instr.entryStore, hme, hse, hve, MapKept.run_getObj_map hh, asInt, asIntOf, goInt, hidx, MapKept.run_setObj_map _ hh, Result.andThen, St.setO]

/-- What an operation that reads alone leaves of the heap. -/
theorem evHeap_R {f : FuncId} {fr : AF} {h h' : AHeap} {o : Oper} {v : AV} (hh : evHeap E f fr h o = some (v, h')) (hc : clsH o = .R) : h' = h := by
  obtain ⟨dst, op, ty, pos, after, guard⟩ := o
  cases op
  case load t x =>
    simp only [evHeap] at hh
    split at hh
    · split at hh
      · obtain ⟨r, _, hr⟩ := Option.map_eq_some_iff.1 hh
        simp only [Prod.mk.injEq] at hr
        exact hr.2.symm
      · cases hh
    · cases hh
  case lookup t m k ok =>
    cases ok
    · simp only [evHeap] at hh
      split at hh
      · split at hh
        · injection hh with hh
          simp only [Prod.mk.injEq] at hh
          exact hh.2.symm
        · cases hh
      · cases hh
    · simp only [evHeap] at hh; cases hh
  case mapEntry t m k =>
    simp only [evHeap] at hh
    split at hh
    · split at hh
      · injection hh with hh
        simp only [Prod.mk.injEq] at hh
        exact hh.2.symm
      · cases hh
    · cases hh
  all_goals (simp only [clsH] at hc; cases hc)

theorem two_of_map {α β : Type} {F : α → β} {as : List α} {p q : β} (h : as.map F = [p, q]) : ∃ x y, as = [x, y] ∧ F x = p ∧ F y = q := by
  match as, h with
  | [x, y], h => simp at h; exact ⟨x, y, rfl, h.1, h.2⟩
  | [], h => simp at h
  | [_], h => simp at h
  | _ :: _ :: _ :: _, h => simp at h

theorem evHeap_sound (hE : EnvOk E P) {f : FuncId} {s : St} {fr : AF} {a : Act} {o : Oper} {h h' : AHeap} {v : AV} (hR : R E s h) (ho : OpsV E s fr a o.op.operands) (hh : evHeap E f fr h o = some (v, h')) : HeapOk P E s o a v h' := by
  obtain ⟨dst, op, ty, pos, after, guard⟩ := o
  cases op
  case load t x =>
    have ho' : OpsV E s fr a #[x] := fun z hz => ho z (by simpa [Op.operands] using hz)
    simp only [evHeap] at hh
    split at hh
    · rename_i b ver off i hx ht
      split at hh
      · rename_i xs hg
        obtain ⟨r, hr, hrr⟩ := Option.map_eq_some_iff.1 hh
        simp only [Prod.mk.injEq] at hrr
        obtain ⟨rfl, rfl⟩ := hrr
        exact heap_load hE hR hx ht hg hr ho'
      · cases hh
    · cases hh
  case store t x y =>
    have ho' : OpsV E s fr a #[x, y] := fun z hz => ho z (by simpa [Op.operands] using hz)
    simp only [evHeap] at hh
    split at hh
    · rename_i b ver off vy i hx hy ht
      split at hh
      · rename_i xs hg
        split at hh
        · rename_i hc
          obtain ⟨zs, hz, hzz⟩ := Option.map_eq_some_iff.1 hh
          simp only [Prod.mk.injEq] at hzz
          obtain ⟨rfl, rfl⟩ := hzz
          exact heap_store hE hR hx hy ht hg hc.1 hc.2 hz ho'
        · cases hh
      · cases hh
    · cases hh
  case box e x =>
    have ho' : OpsV E s fr a #[x] := fun z hz => ho z (by simpa [Op.operands] using hz)
    simp only [evHeap] at hh
    split at hh
    · cases hh
    · split at hh
      · rename_i vx hx
        split at hh
        · rename_i hs
          injection hh with hh
          simp only [Prod.mk.injEq] at hh
          obtain ⟨rfl, rfl⟩ := hh
          exact heap_box hR hx hs ho'
        · cases hh
      · cases hh
  case alloc t =>
    simp only [evHeap] at hh
    split at hh
    · cases hh
    · split at hh
      · rename_i i ht
        split at hh
        · rename_i hz
          injection hh with hh
          simp only [Prod.mk.injEq] at hh
          obtain ⟨rfl, rfl⟩ := hh
          exact heap_alloc hE hR ht hz
        · cases hh
      · cases hh
  case buildSlice t n ps =>
    have hops : ∀ p ∈ ps.toList, ∀ y, evA E fr p.2 = some y → V s y (a.eval p.2) := fun p hp => ho p.2 (by
      simp only [Op.operands, List.mem_toArray, List.mem_map]
      exact ⟨p, hp, rfl⟩)
    simp only [evHeap] at hh
    split at hh
    · cases hh
    · split at hh
      · rename_i e vs hk hv
        split at hh
        · rename_i ie he
          split at hh
          · rename_i hc
            simp only [Bool.and_eq_true, decide_eq_true_eq] at hc
            obtain ⟨ys, hf, hff⟩ := Option.map_eq_some_iff.1 hh
            simp only [Prod.mk.injEq] at hff
            obtain ⟨rfl, rfl⟩ := hff
            exact heap_buildSlice hE hR hk he hc.1.1 hc.1.2 hc.2 hv hops hf
          · cases hh
        · cases hh
      · cases hh
  case makeSlice t x y =>
    have ho' : OpsV E s fr a #[x, y] := fun z hz => ho z (by simpa [Op.operands] using hz)
    simp only [evHeap] at hh
    split at hh
    · rename_i e kl l kc c' hk hx hy
      split at hh
      · rename_i ie he
        split at hh
        · rename_i hc
          simp only [Bool.and_eq_true, decide_eq_true_eq] at hc
          obtain ⟨⟨⟨⟨⟨c1, c2⟩, c3⟩, c4⟩, c5⟩, c6⟩ := hc
          injection hh with hh
          simp only [Prod.mk.injEq] at hh
          obtain ⟨rfl, rfl⟩ := hh
          exact heap_makeSlice hE hR hk hx hy he c1 c2 c3 c4 c5 c6 ho'
        · cases hh
      · cases hh
    · cases hh
  case makeMap t hint =>
    cases hint
    · simp only [evHeap] at hh
      split at hh
      · rename_i kd vd ht
        injection hh with hh
        simp only [Prod.mk.injEq] at hh
        obtain ⟨rfl, rfl⟩ := hh
        exact heap_makeMap hE hR ht
      · cases hh
    · simp only [evHeap] at hh; cases hh
  case lookup t m k ok =>
    have ho' : OpsV E s fr a #[m, k] := fun z hz => ho z (by simpa [Op.operands] using hz)
    cases ok
    · simp only [evHeap] at hh
      split at hh
      · rename_i b kv kd vd hm hk ht
        split at hh
        · rename_i f x y hg hkey
          injection hh with hh
          simp only [Prod.mk.injEq] at hh
          obtain ⟨rfl, rfl⟩ := hh
          exact heap_lookup hE hR hm hk ht hg hkey ho'
        · cases hh
      · cases hh
    · simp only [evHeap] at hh; cases hh
  case mapEntry t m k =>
    have ho' : OpsV E s fr a #[m, k] := fun z hz => ho z (by simpa [Op.operands] using hz)
    simp only [evHeap] at hh
    split at hh
    · rename_i b kv kd vd hm hk ht
      split at hh
      · rename_i f x y hg hkey
        injection hh with hh
        simp only [Prod.mk.injEq] at hh
        obtain ⟨rfl, rfl⟩ := hh
        exact heap_mapEntry hE hR hm hk ht hg hkey ho'
      · cases hh
    · cases hh
  case entryStore t m st v' =>
    have ho' : OpsV E s fr a #[m, st, v'] := fun z hz => ho z (by simpa [Op.operands] using hz)
    simp only [evHeap] at hh
    split at hh
    · rename_i b b' kd' x y vk n kd vd hm hs hv ht
      split at hh
      · rename_i f hg
        split at hh
        · rename_i hc
          obtain ⟨rfl, rfl, rfl⟩ := hc
          injection hh with hh
          simp only [Prod.mk.injEq] at hh
          obtain ⟨rfl, rfl⟩ := hh
          exact heap_entryStore hE hR hm hs hv hg ho'
        · cases hh
      · cases hh
    · cases hh
  case call cl =>
    obtain ⟨callee, args, tys⟩ := cl
    cases callee
    case builtin b =>
      cases b
      case append =>
        simp only [evHeap] at hh
        split at hh
        · rename_i vs vx t t' h1 h2
          obtain ⟨as⟩ := args
          obtain ⟨ts⟩ := tys
          simp only at h1 h2
          subst h2
          obtain ⟨x, y, rfl, hq⟩ := two_of_map h1
          ·
            split at hh
            · rename_i htt
              subst htt
              split at hh
              · rename_i e hk
                split at hh
                · rename_i ie he
                  split at hh
                  · rename_i hc
                    simp only [Bool.and_eq_true, decide_eq_true_eq] at hc
                    split at hh
                    · rename_i m ys hcs
                      exact heap_append hE hR rfl (ho x (by simp [Op.operands, Call.operands]) _ hq.1) (ho y (by simp [Op.operands, Call.operands]) _ hq.2) hk he hc.1 hc.2 hcs hh
                    · cases hh
                  · cases hh
                · cases hh
              · cases hh
            · cases hh
        · cases hh
      case copy =>
        simp only [evHeap] at hh
        split at hh
        · rename_i b ver off n sz vx t t' h1 h2
          obtain ⟨as⟩ := args
          obtain ⟨ts⟩ := tys
          simp only at h1 h2
          subst h2
          obtain ⟨x, y, rfl, hq⟩ := two_of_map h1
          ·
            split at hh
            · rename_i e hk
              split at hh
              · rename_i ie xs he hg
                split at hh
                · rename_i hsz
                  subst hsz
                  split at hh
                  · rename_i m ys hcs
                    obtain ⟨zs, hz, hzz⟩ := Option.map_eq_some_iff.1 hh
                    simp only [Prod.mk.injEq] at hzz
                    obtain ⟨rfl, rfl⟩ := hzz
                    exact heap_copy hE hR rfl (ho x (by simp [Op.operands, Call.operands]) _ hq.1) (ho y (by simp [Op.operands, Call.operands]) _ hq.2) hk he hg hcs hz
                  · cases hh
                · cases hh
              · cases hh
            · cases hh
        · cases hh
      all_goals (simp only [evHeap] at hh; cases hh)
    all_goals (simp only [evHeap] at hh; cases hh)
  all_goals (simp only [evHeap] at hh; cases hh)

end
end Go.Abs
