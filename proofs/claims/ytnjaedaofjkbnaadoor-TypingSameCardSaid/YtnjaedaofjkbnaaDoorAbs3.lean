/- Each operation that does not look at the abstract heap does, in Go's model, what the abstract one says. Conditions: the types' table fits the program's (EnvOk). -/
import Derived.Test.YtnjaedaofjkbnaaDoorAbs2
set_option linter.unusedVariables false
set_option linter.unusedSimpArgs false
namespace Go.Abs
open Go Go.RowKit

def TK.fits : TK → TypeDesc → Bool
  | .int k, .int k' => k == k'
  | .bool, .bool => true
  | .string, .string => true
  | .slice e, .slice e' => e == e'
  | .array n e, .array n' e' => n == n' && e == e'
  | .struct fs, .struct fields => fields.toList.map (fun f => (f.offset, f.type)) == fs
  | .map k e, .map k' e' => k == k' && e == e'
  | .ptr, .pointer _ => true
  | .func, .func _ _ _ => true
  | .other, .struct _ => false
  | .other, .array _ _ => false
  | .other, _ => true
  | _, _ => false

structure EnvOk (E : Env) (P : Program) : Prop where
  ty : ∀ t i, E.ty t = some i → ∃ info d, P.info? t = some info ∧ P.underlying t = some d ∧ i.kind.fits d = true ∧ info.size = i.size ∧ info.bytes = i.bytes ∧ info.zero = some i.zero
  fn : ∀ f F, E.fn f = some F → ∃ fn, P.funcs[f]? = some fn ∧ fn.body = some F.code ∧ fn.ntmps = F.N ∧ fn.results.toList = F.res ∧ (fn.name == "runtime.NumGoroutine") = false
  mixed : P.follows .mixedOrders = true
  gcl : ∀ g xs, E.G g = some xs → AV.closedL xs = true
  tys : 0 < P.types.size

/-- From one state to a later one in which nothing old has been written. -/
structure Quiet (s s' : St) : Prop where
  ρ : s'.ρ = s.ρ
  bs : s'.bs = s.bs
  vr : s'.vr = s.vr
  imm : ∀ g, s.imm g → s'.imm g
  new : ∀ g, s'.imm g → s.imm g ∨ (s.w.heap.size ≤ g ∧ g < s'.w.heap.size)
  old : ∀ g, g < s.w.heap.size → s'.w.heap[g]? = s.w.heap[g]?
  size : s.w.heap.size ≤ s'.w.heap.size
  os : s'.w.os = s.w.os
  tape : s'.w.tape = s.w.tape
  output : s'.w.output = s.w.output

theorem Quiet.refl (s : St) : Quiet s s := ⟨rfl, rfl, rfl, fun _ h => h, fun _ h => .inl h, fun _ _ => rfl, Nat.le_refl _, rfl, rfl, rfl⟩
theorem Quiet.trans {a b c : St} (h : Quiet a b) (k : Quiet b c) : Quiet a c :=
  ⟨k.ρ.trans h.ρ, k.bs.trans h.bs, k.vr.trans h.vr, fun g hg => k.imm g (h.imm g hg), fun g hg => by
    rcases k.new g hg with h1 | ⟨h1, h2⟩
    · rcases h.new g h1 with h3 | ⟨h3, h4⟩
      · exact .inl h3
      · exact .inr ⟨h3, Nat.lt_of_lt_of_le h4 k.size⟩
    · exact .inr ⟨Nat.le_trans h.size h1, h2⟩, fun g hg => (k.old g (Nat.lt_of_lt_of_le hg h.size)).trans (h.old g hg), Nat.le_trans h.size k.size, k.os.trans h.os, k.tape.trans h.tape, k.output.trans h.output⟩

theorem lt_of_heap {w : World} {g : Nat} {o : Obj} (h : w.heap[g]? = some o) : g < w.heap.size := by
  rcases Nat.lt_or_ge g w.heap.size with h' | h'
  · exact h'
  · simp [Array.getElem?_eq_none h'] at h

theorem Quiet.ext {s s' : St} (h : Quiet s s') (hi : ∀ g, s.imm g → g < s.w.heap.size) : Ext s s' :=
  ⟨fun b cur hb => ⟨cur, by rw [h.vr]; exact hb, Nat.le_refl _, fun _ => by rw [h.ρ, h.bs]; exact ⟨rfl, rfl⟩⟩, h.imm, fun g hg => h.old g (hi g hg), fun g c e hg => ⟨c, (h.old g (lt_of_heap hg)).trans hg, rfl⟩, fun g arr clock hg => ⟨arr, clock, (h.old g (lt_of_heap hg)).trans hg, fun j e he => ⟨e, he, rfl, rfl⟩⟩⟩

/-- A new block, read-only from now on. -/
def St.allocI (s : St) (o : Obj) : St := { s with w := s.w.alloc o, imm := fun g => s.imm g ∨ g = s.w.heap.size }
theorem quiet_allocI (s : St) (o : Obj) : Quiet s (s.allocI o) :=
  ⟨rfl, rfl, rfl, fun _ h => .inl h, fun g h => h.imp id fun e => ⟨by omega, by subst e; simp [St.allocI]⟩, fun g hg => heap_alloc_old s.w o g hg, by simp [St.allocI], rfl, rfl, rfl⟩

/-! ### Cells -/
theorem one_V {s : St} {x : AV} {u : Value} (h : V s x u) (h1 : x.one = true) : u.oneCell' = true := by
  cases x <;> simp only [V, AV.one] at h h1
  case lit v => subst h; exact h1
  case agg => cases h1
  case tup => cases h1
  case ro => obtain ⟨_, _, _, rfl, _⟩ := h; rfl
  case rp => obtain ⟨_, _, rfl, _⟩ := h; rfl
  case fn => obtain ⟨_, rfl, _⟩ := h; rfl
  case ms => obtain ⟨_, _, _, rfl, _⟩ := h; rfl
  case mp => obtain ⟨_, _, rfl, _⟩ := h; rfl
  case mref => obtain ⟨_, _, rfl, _⟩ := h; rfl
  case ent => obtain ⟨_, _, _, rfl, _⟩ := h; rfl

theorem cells_one {u : Value} (h : u.oneCell' = true) : u.cells = #[u] := by cases u <;> first | rfl | (simp [Value.oneCell'] at h)

theorem cells_V {s : St} {x : AV} {u : Value} (h : V s x u) (hs : x.storable = true) : VL s x.cells u.cells.toList ∧ ∀ y ∈ u.cells.toList, y.oneCell' = true := by
  cases x
  case agg cs =>
    simp only [V] at h
    obtain ⟨us, rfl, hl, h1⟩ := h
    exact ⟨by simpa [AV.cells, Value.cells] using hl, by simpa [Value.cells] using h1⟩
  all_goals
    have h1 := one_V h hs
    rw [cells_one h1]
    refine ⟨?_, by simpa using h1⟩
    simp only [AV.cells, VL_cons]
    exact ⟨u, [], rfl, h, by simp⟩

theorem ofV_V (s : St) (z : Value) (hz : z.cells.all (·.oneCell') = true) : V s (AV.ofV z) z := by
  unfold AV.ofV
  split
  · rename_i cs
    simp only [V]
    refine ⟨cs.toList, by simp, VL.mk (by simp) fun j x u hx hu => ?_, ?_⟩
    · rw [List.getElem?_map] at hx
      rw [hu] at hx
      simp at hx
      subst hx
      simp
    · intro y hy
      rw [Array.all_eq_true_iff_forall_mem] at hz
      exact hz y (by simpa [Value.cells] using hy)
  · simp

/-- Cells that lie at an address. -/
def At (w : World) (ad : Addr) (us : List Value) : Prop := ∀ j x, us[j]? = some x → w.cell? (ad.add j) = some x

theorem At.drop {w : World} {ad : Addr} {us : List Value} (h : At w ad us) (k : Nat) : At w (ad.add k) (us.drop k) := by
  intro j x hx
  rw [add_add]
  rw [List.getElem?_drop] at hx
  exact h _ _ hx
theorem At.take {w : World} {ad : Addr} {us : List Value} (h : At w ad us) (k : Nat) : At w ad (us.take k) := by
  intro j x hx
  rw [List.getElem?_take] at hx
  split at hx
  · exact h _ _ hx
  · cases hx

section
variable {P : Program} {E : Env}

theorem run_typeInfo {t : TypeId} {i : TypeInfo} (h : P.info? t = some i) (w : World) : (typeInfo t).run P w = .ok i w := by simp [typeInfo, h]
theorem run_sizeOf {t : TypeId} {i : TypeInfo} (h : P.info? t = some i) (w : World) : (sizeOf t).run P w = .ok i.size w := by simp [sizeOf, typeInfo, h]
theorem run_zeroValue {t : TypeId} {i : TypeInfo} {z : Value} (h : P.info? t = some i) (hz : i.zero = some z) (w : World) : (zeroValue t).run P w = .ok z w := by simp [zeroValue, typeInfo, h, hz]

def isAggK : TK → Bool
  | .struct _ => true
  | .array _ _ => true
  | _ => false

theorem run_isAgg {t : TypeId} {d : TypeDesc} {k : TK} (h : P.underlying t = some d) (hk : k.fits d = true) (w : World) : (isAgg t).run P w = .ok (isAggK k) w := by
  unfold isAgg
  rw [Sem.run_bind, run_underlying h w]
  cases k <;> cases d <;> simp_all [TK.fits, isAggK]

theorem takeT_agg {i : TI} {xs : List AV} {r : AV} (h : takeT i xs = some r) (hk : isAggK i.kind = true) : i.size ≤ xs.length ∧ r = .agg (xs.take i.size) := by
  unfold takeT at h
  split at h
  · split at h
    · rename_i hle; injection h with h; exact ⟨hle, h.symm⟩
    · cases h
  · split at h
    · rename_i hle; injection h with h; exact ⟨hle, h.symm⟩
    · cases h
  · rename_i k h1 h2
    exfalso
    cases hkk : i.kind <;> simp_all [isAggK]
theorem takeT_one {i : TI} {xs : List AV} {r : AV} (h : takeT i xs = some r) (hk : isAggK i.kind = false) : ∃ ys, xs = r :: ys := by
  unfold takeT at h
  split at h
  · simp_all [isAggK]
  · simp_all [isAggK]
  · split at h
    · injection h with h; subst h; exact ⟨_, rfl⟩
    · cases h

/-- A variable is loaded whole. -/
theorem run_loadVar (hE : EnvOk E P) {s : St} {t : TypeId} {i : TI} {xs : List AV} {us : List Value} {r : AV} {ad : Addr} (hi : E.ty t = some i) (hr : takeT i xs = some r)
    (hl : VL s xs us) (h1 : ∀ y ∈ us, y.oneCell' = true) (hat : At s.w ad us) : ∃ u, (loadVar t ad).run P s.w = .ok u s.w ∧ V s r u := by
  obtain ⟨info, d, h2, h3, h4, h5, h6, h7⟩ := hE.ty t i hi
  cases hk : isAggK i.kind with
  | true =>
    obtain ⟨hle, rfl⟩ := takeT_agg hr hk
    have hlen : (us.take i.size).length = i.size := by rw [List.length_take, hl.length]; omega
    have hrun := run_loadCells_list (P := P) s.w ad (us.take i.size) (hat.take _)
    rw [hlen] at hrun
    refine ⟨.agg (us.take i.size).toArray, ?_, ?_⟩
    · simp [loadVar, run_isAgg h3 h4, hk, run_sizeOf h2, h5, hrun]
    · simp only [V]
      exact ⟨_, rfl, hl.take _, fun y hy => h1 y (List.mem_of_mem_take hy)⟩
  | false =>
    obtain ⟨ys, rfl⟩ := takeT_one hr hk
    simp only [VL_cons] at hl
    obtain ⟨u, us', rfl, hu, _⟩ := hl
    have h0 : s.w.cell? ad = some u := by have := hat 0 u rfl; simpa [Addr.add] using this
    exact ⟨u, by simp [loadVar, run_isAgg h3 h4, hk, h0], hu⟩

/-- A part of an aggregate. -/
theorem run_part (hE : EnvOk E P) {s : St} {t : TypeId} {i : TI} {cs : List AV} {us : List Value} {r : AV} {off : Nat} (hi : E.ty t = some i) (hr : takeT i (cs.drop off) = some r)
    (hl : VL s cs us) (h1 : ∀ y ∈ us, y.oneCell' = true) : ∃ u, (part t us.toArray off).run P s.w = .ok u s.w ∧ V s r u := by
  obtain ⟨info, d, h2, h3, h4, h5, h6, h7⟩ := hE.ty t i hi
  cases hk : isAggK i.kind with
  | true =>
    obtain ⟨hle, rfl⟩ := takeT_agg hr hk
    refine ⟨.agg ((us.drop off).take i.size).toArray, ?_, ?_⟩
    · simp [part, run_isAgg h3 h4, hk, run_sizeOf h2, h5]
    · simp only [V]
      exact ⟨_, rfl, (hl.drop _).take _, fun y hy => h1 y (List.mem_of_mem_drop (List.mem_of_mem_take hy))⟩
  | false =>
    obtain ⟨ys, he⟩ := takeT_one hr hk
    have hd := hl.drop off
    rw [he] at hd
    simp only [VL_cons] at hd
    obtain ⟨u, us', hu', hu, _⟩ := hd
    have h0 : us[off]? = some u := by
      have : (us.drop off)[0]? = some u := by rw [hu']; rfl
      simpa [List.getElem?_drop] using this
    exact ⟨u, by simp [part, run_isAgg h3 h4, hk, h0], hu⟩

/-! ### fill -/
theorem foldl_set (off : Nat) (vs : List Value) : ∀ (k : Nat) (cs : Array Value), off + k + vs.length ≤ cs.size →
    ((vs.zipIdx k).foldl (fun (cs : Array Value) (p : Value × Nat) => cs.setIfInBounds (off + p.2) p.1) cs).toList = cs.toList.take (off + k) ++ vs ++ cs.toList.drop (off + k + vs.length) := by
  induction vs with
  | nil => intro k cs h; simp
  | cons v vs ih =>
    intro k cs h
    simp only [List.length_cons] at h
    simp only [List.zipIdx_cons, List.foldl_cons]
    rw [ih (k + 1) _ (by simp; omega)]
    apply List.ext_getElem?
    intro m
    simp only [List.append_assoc, List.length_cons, Array.toList_setIfInBounds]
    simp only [List.getElem?_append, List.length_take, List.length_set, Array.length_toList, List.getElem?_take, List.getElem?_drop, List.getElem?_set, List.getElem?_cons, List.length_cons]
    have e1 : min (off + (k + 1)) cs.size = off + k + 1 := by omega
    have e2 : min (off + k) cs.size = off + k := by omega
    simp only [e1, e2]
    by_cases h1 : m < off + k
    · simp [h1, show m < off + k + 1 by omega, show m < off + (k + 1) by omega, show ¬ (off + k = m) by omega]
    · by_cases h2 : m = off + k
      · subst h2
        simp [show off + k < cs.size by omega, show off + k < off + (k + 1) by omega]
      · have h3 : ¬ m < off + k + 1 := by omega
        have h4 : ¬ (m - (off + k) = 0) := by omega
        have h5 : m - (off + k) - 1 = m - (off + k + 1) := by omega
        simp only [h1, h3, if_false, h4, h5]
        by_cases h6 : m - (off + k + 1) < vs.length
        · simp [h6, show m - (off + k) < vs.length + 1 by omega]
        · simp only [h6, if_false, show ¬ (m - (off + k) < vs.length + 1) by omega]
          rw [if_neg (by omega)]
          congr 1
          omega

theorem putAt_eq {xs : List AV} {off : Nat} {ys zs : List AV} (h : putAt xs off ys = some zs) : off + ys.length ≤ xs.length ∧ zs = xs.take off ++ ys ++ xs.drop (off + ys.length) := by
  unfold putAt at h
  split at h
  · rename_i hle; injection h with h; exact ⟨hle, h.symm⟩
  · cases h
theorem putAt_length {xs : List AV} {off : Nat} {ys zs : List AV} (h : putAt xs off ys = some zs) : zs.length = xs.length := by
  obtain ⟨h1, rfl⟩ := putAt_eq h
  simp
  omega

theorem VL.put {s : St} {xs : List AV} {us : List Value} {off : Nat} {ys zs : List AV} {vs : List Value} (h : VL s xs us) (hy : VL s ys vs) (hp : putAt xs off ys = some zs) :
    VL s zs (us.take off ++ vs ++ us.drop (off + vs.length)) := by
  obtain ⟨h1, rfl⟩ := putAt_eq hp
  rw [hy.length]
  exact ((h.take off).append hy).append (h.drop _)

/-- Parts of a literal. -/
def PV (s : St) : List (Nat × AV) → List (Nat × Value) → Prop
  | [], us => us = []
  | (i, x) :: xs, us => ∃ u us', us = (i, u) :: us' ∧ V s x u ∧ PV s xs us'

theorem fill_sound {s : St} {place : Nat → Option (Nat × Nat)} : ∀ (vs : List (Nat × AV)) (us : List (Nat × Value)) (xs ys : List AV) (cells : Array Value), PV s vs us → VL s xs cells.toList → (∀ y ∈ cells.toList, y.oneCell' = true) →
    fillA place xs vs = some ys → ∃ cells', Instr.fill place cells us = some cells' ∧ VL s ys cells'.toList ∧ (∀ y ∈ cells'.toList, y.oneCell' = true)
  | [], us, xs, ys, cells, hp, hl, h1, h => by
    simp only [PV] at hp
    subst hp
    simp only [fillA, Option.some.injEq] at h
    subst h
    exact ⟨cells, rfl, hl, h1⟩
  | (i, x) :: vs, us, xs, ys, cells, hp, hl, h1, h => by
    simp only [PV] at hp
    obtain ⟨u, us', rfl, hx, hp'⟩ := hp
    simp only [fillA] at h
    split at h
    · cases h
    · rename_i off size hpl
      split at h
      · rename_i hc
        obtain ⟨hc1, hc2⟩ := hc
        split at h
        · rename_i zs hz
          obtain ⟨hvl, hv1⟩ := cells_V hx hc2
          have hlen := hvl.length
          simp only [Array.length_toList] at hlen
          have hsz := hl.length
          simp only [Array.length_toList] at hsz
          obtain ⟨hle, _⟩ := putAt_eq hz
          have hfold := foldl_set off u.cells.toList 0 cells (by simp; omega)
          simp only [Nat.add_zero] at hfold
          have hput := hl.put hvl hz
          have hc : ((u.cells.zipIdx).foldl (fun (cs : Array Value) (p : Value × Nat) => cs.setIfInBounds (off + p.2) p.1) cells).toList = cells.toList.take off ++ u.cells.toList ++ cells.toList.drop (off + u.cells.toList.length) := by
            rw [← hfold, ← Array.foldl_toList, Array.toList_zipIdx]
          obtain ⟨cells', hf, hl', h1'⟩ := fill_sound vs us' zs ys _ hp' (by rw [hc]; exact hput) (by
            rw [hc]
            intro y hy
            simp only [List.append_assoc, List.mem_append] at hy
            rcases hy with hy | hy | hy
            · exact h1 y (List.mem_of_mem_take hy)
            · exact hv1 y hy
            · exact h1 y (List.mem_of_mem_drop hy)) h
          refine ⟨cells', ?_, hl', h1'⟩
          simp only [Instr.fill, hpl]
          rw [if_neg (by simp; omega)]
          exact hf
        · cases h
      · cases h

theorem zeros_eq (n : Nat) (z : Array Value) (size : Nat) (hz : z.size = size) : ((Array.range (n * size)).map (fun i => z[i % z.size]!)).toList = (List.replicate n z.toList).flatten := by
  subst hz
  induction n with
  | zero => simp [Array.range_zero']
  | succ n ih =>
    rw [List.replicate_succ', List.flatten_append, ← ih]
    simp only [Array.toList_map, Array.toList_range, List.flatten_cons, List.flatten_nil, List.append_nil]
    rw [Nat.add_mul, Nat.one_mul, List.range_add, List.map_append, List.map_map]
    congr 1
    apply List.ext_getElem?
    intro j
    by_cases hj : j < z.size
    · simp [hj, Nat.mod_eq_of_lt hj, Nat.add_mod]
    · simp [hj]

/-! ### The operations -/
def OpsV (E : Env) (s : St) (fr : AF) (a : Act) (xs : Array Operand) : Prop := ∀ x ∈ xs, ∀ y, evA E fr x = some y → V s y (a.eval x)
def ImmLt (s : St) : Prop := ∀ g, s.imm g → g < s.w.heap.size

/-- The operation yields a value that is as the abstract one says. -/
def FreeOk (P : Program) (s : St) (o : Oper) (a : Act) (v : AV) : Prop := ∃ u s', (execOp a.eval o).run P s.w = .ok (.value u) s'.w ∧ Quiet s s' ∧ V s' v u

theorem FreeOk.same {s : St} {o : Oper} {a : Act} {v : AV} {u : Value} (h : (execOp a.eval o).run P s.w = .ok (.value u) s.w) (hv : V s v u) : FreeOk P s o a v := ⟨u, s, h, Quiet.refl s, hv⟩

theorem parts_V {s : St} {fr : AF} {a : Act} : ∀ (ps : List (Nat × Operand)) (vs : List (Nat × AV)), evParts E fr ps = some vs → (∀ p ∈ ps, ∀ y, evA E fr p.2 = some y → V s y (a.eval p.2)) → PV s vs (ps.map fun p => (p.1, a.eval p.2))
  | [], vs, h, _ => by simp only [evParts, Option.some.injEq] at h; subst h; simp [PV]
  | (i, x) :: ps, vs, h, ho => by
    simp only [evParts] at h
    split at h
    · rename_i v vs' hv hvs
      injection h with h
      subst h
      simp only [PV, List.map_cons]
      exact ⟨_, _, rfl, ho (i, x) (by simp) v hv, parts_V ps vs' hvs fun p hp => ho p (by simp [hp])⟩
    · cases h

theorem args_V {s : St} {fr : AF} {a : Act} : ∀ (ps : List Operand) (vs : List AV), evArgs E fr ps = some vs → (∀ p ∈ ps, ∀ y, evA E fr p = some y → V s y (a.eval p)) → VL s vs (ps.map a.eval)
  | [], vs, h, _ => by simp only [evArgs, Option.some.injEq] at h; subst h; simp
  | x :: ps, vs, h, ho => by
    simp only [evArgs] at h
    split at h
    · rename_i v vs' hv hvs
      injection h with h
      subst h
      simp only [VL_cons, List.map_cons]
      exact ⟨_, _, rfl, ho x (by simp) v hv, args_V ps vs' hvs fun p hp => ho p (by simp [hp])⟩
    · cases h

theorem litInt_run {s : St} {op : BinOp} {t : TypeId} {k k' : IntKind} {x y : Int} {v : Value} (h : litInt op k x k' y = some v) (w : World) : (binOp op t (.int k x) (.int k' y)).run P w = .ok v w := by
  cases op
  case shl => 
    simp only [litInt] at h
    split at h
    · cases h
    · rename_i hy
      injection h with h
      subst h
      simp [binOp, Op.shift, hy]
  case shr => 
    simp only [litInt] at h
    split at h
    · cases h
    · rename_i hy
      injection h with h
      subst h
      simp [binOp, Op.shift, hy]
  case quo =>
    simp only [litInt] at h
    split at h
    · rename_i hy
      obtain ⟨rfl, hy⟩ := hy
      injection h with h
      subst h
      simp [binOp, Op.intDiv, hy]
    · cases h
  case rem =>
    simp only [litInt] at h
    split at h
    · rename_i hy
      obtain ⟨rfl, hy⟩ := hy
      injection h with h
      subst h
      simp [binOp, Op.intDiv, hy]
    · cases h
  all_goals
    simp only [litInt] at h
    split at h
    · rename_i hk
      subst hk
      injection h with h
      subst h
      first | (simp [binOp, Op.intArith]; done) | (simp [binOp, Op.intCmp]; done) | (simp [binOp, intBits_and, intBits_or, intBits_xor, intBits_andNot]; done)
    · cases h

theorem litStr_run {op : BinOp} {t : TypeId} {x y : ByteArray} {v : Value} (h : litStr op x y = some v) (w : World) : (binOp op t (.string x) (.string y)).run P w = .ok v w := by
  cases op <;> simp only [litStr] at h
  case add =>
    split at h
    · rename_i hs
      injection h with h
      subst h
      have : ¬ (9223372036854775807 < (x.size : Int) + (y.size : Int)) := by omega
      simp [binOp, Op.stringOp, this]
    · cases h
  case eql => injection h with h; subst h; simp [binOp, Op.stringOp]
  case neq => injection h with h; subst h; simp [binOp, Op.stringOp]
  all_goals cases h

theorem kindOf_fits (hE : EnvOk E P) {t : TypeId} (h : kindOf E t ≠ .other) : ∃ i info d, E.ty t = some i ∧ P.info? t = some info ∧ P.underlying t = some d ∧ (kindOf E t).fits d = true ∧ info.size = i.size ∧ info.bytes = i.bytes ∧ info.zero = some i.zero := by
  unfold kindOf at *
  cases hi : E.ty t with
  | none => simp [hi] at h
  | some i =>
    obtain ⟨info, d, h2, h3, h4, h5, h6, h7⟩ := hE.ty t i hi
    exact ⟨i, info, d, rfl, h2, h3, by simpa [hi] using h4, h5, h6, h7⟩

theorem eqA_run {op : BinOp} {r : Bool} {v : AV} (h : eqA op r = some v) : (op = .eql ∧ v = .lit (.bool r)) ∨ (op = .neq ∧ v = .lit (.bool (!r))) := by
  cases op <;> simp only [eqA] at h
  case eql => injection h with h; exact .inl ⟨rfl, h.symm⟩
  case neq => injection h with h; exact .inr ⟨rfl, h.symm⟩
  all_goals cases h

end
end Go.Abs
