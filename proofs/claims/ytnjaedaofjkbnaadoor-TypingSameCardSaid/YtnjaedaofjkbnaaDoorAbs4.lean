/- Each operation that does not look at the abstract heap does, in Go's model, what the abstract one says: all of them. Conditions: the types' table fits the program's (EnvOk). -/
import Derived.Test.YtnjaedaofjkbnaaDoorAbs3
set_option linter.unusedVariables false
set_option linter.unusedSimpArgs false
namespace Go.Abs
open Go Go.RowKit

section
variable {P : Program} {E : Env}

theorem run_equalIn_bool (n : Nat) {t : TypeId} (h : P.underlying t = some .bool) (x y : Bool) (w : World) : (Op.equalIn (n + 1) t (.bool x) (.bool y)).run P w = .ok (x == y) w := by
  simp only [Op.equalIn, Sem.run_bind, run_underlying h, Result.andThen_ok, Sem.run_pure]
theorem run_equalIn_sliceNil (d : Nat) {t e : TypeId} (h : P.underlying t = some (.slice e)) (n c m k : Nat) (w : World) : (Op.equalIn (d + 1) t (.slice none n c) (.slice none m k)).run P w = .ok true w := by
  simp only [Op.equalIn, Sem.run_bind, run_underlying h, Result.andThen_ok, Sem.run_pure, Option.isNone_none]
theorem run_equalIn_ptrNil (d : Nat) {t e : TypeId} (h : P.underlying t = some (.pointer e)) (b : Option Addr) (w : World) : (Op.equalIn (d + 1) t (.pointer b) (.pointer none)).run P w = .ok b.isNone w := by
  cases b <;> simp only [Op.equalIn, Sem.run_bind, run_underlying h, Result.andThen_ok, Sem.run_pure, Option.isNone_none, Option.isNone_some]
theorem run_equal_bool {t : TypeId} (h : P.underlying t = some .bool) (x y : Bool) (w : World) : (Op.equal t (.bool x) (.bool y)).run P w = .ok (x == y) w := run_equalIn_bool 9999 h x y w
theorem run_equal_sliceNil {t e : TypeId} (h : P.underlying t = some (.slice e)) (n c m k : Nat) (w : World) : (Op.equal t (.slice none n c) (.slice none m k)).run P w = .ok true w := run_equalIn_sliceNil 9999 h n c m k w
theorem run_equal_ptrNil {t e : TypeId} (h : P.underlying t = some (.pointer e)) (b : Option Addr) (w : World) : (Op.equal t (.pointer b) (.pointer none)).run P w = .ok b.isNone w := run_equalIn_ptrNil 9999 h b w

theorem eql_run {op : BinOp} {t : TypeId} {x y : Value} {r : Bool} {v : AV} (h : eqA op r = some v) (hb : ∀ w, (Op.equal t x y).run P w = .ok r w) (h1 : ∀ w, (binOp .eql t x y).run P w = (do pure (.bool (← Op.equal t x y)) : Sem Value).run P w)
    (h2 : ∀ w, (binOp .neq t x y).run P w = (do pure (.bool (!(← Op.equal t x y))) : Sem Value).run P w) (w : World) : ∃ u, (binOp op t x y).run P w = .ok u w ∧ v = .lit u := by
  rcases eqA_run h with ⟨rfl, rfl⟩ | ⟨rfl, rfl⟩
  · exact ⟨_, by rw [h1, Sem.run_bind, hb]; rfl, rfl⟩
  · exact ⟨_, by rw [h2, Sem.run_bind, hb]; rfl, rfl⟩

theorem free_binOp (hE : EnvOk E P) {s : St} {fr : AF} {a : Act} {dst : Option Tmp} {op : BinOp} {t yt : TypeId} {x y : Operand} {ty : TypeId} {pos : String} {after : Array Edge} {guard : Option (Nat × Bool)} {vx vy v : AV}
    (hx : evA E fr x = some vx) (hy : evA E fr y = some vy) (ho : OpsV E s fr a #[x, y]) (h : binA E op t vx vy = some v) : FreeOk P s ⟨dst, .binOp op t x y yt, ty, pos, after, guard⟩ a v := by
  have hvx := ho x (by simp) vx hx
  have hvy := ho y (by simp) vy hy
  unfold binA at h
  split at h
  · rename_i k n k' m
    simp only [V_lit] at hvx hvy
    obtain ⟨r, hr, rfl⟩ := Option.map_eq_some_iff.1 h
    refine FreeOk.same (u := r) ?_ (by simp)
    simp only [execOp, hvx, hvy, eqGuard_at_int, Sem.run_bind, Sem.run_pure, Result.andThen_ok]
    rw [litInt_run (s := s) hr]
    rfl
  · rename_i n m
    simp only [V_lit] at hvx hvy
    obtain ⟨r, hr, rfl⟩ := Option.map_eq_some_iff.1 h
    refine FreeOk.same (u := r) ?_ (by simp)
    simp only [execOp, hvx, hvy, eqGuard_at_string, Sem.run_bind, Sem.run_pure, Result.andThen_ok]
    rw [litStr_run hr]
    rfl
  · rename_i n m
    simp only [V_lit] at hvx hvy
    split at h
    · rename_i hk
      obtain ⟨r, hr, rfl⟩ := Option.map_eq_some_iff.1 h
      obtain ⟨i, info, d, h1, h2, h3, h4, _⟩ := kindOf_fits hE (t := t) (by rw [hk]; simp)
      rw [hk] at h4
      cases d <;> simp only [TK.fits] at h4 <;> first | cases h4 | skip
      refine FreeOk.same (u := r) ?_ (by simp)
      cases op <;> simp only [litBool] at hr
      case eql =>
        injection hr with hr; subst hr
        simp only [execOp, hvx, hvy, eqGuard_at_bool, Sem.run_bind, Sem.run_pure, Result.andThen_ok]
        show ((do pure (.bool (← Op.equal t (.bool n) (.bool m))) : Sem Value).run P s.w).andThen _ = _
        rw [Sem.run_bind, run_equal_bool h3]
        rfl
      case neq =>
        injection hr with hr; subst hr
        simp only [execOp, hvx, hvy, eqGuard_at_bool, Sem.run_bind, Sem.run_pure, Result.andThen_ok]
        show ((do pure (.bool (!(← Op.equal t (.bool n) (.bool m)))) : Sem Value).run P s.w).andThen _ = _
        rw [Sem.run_bind, run_equal_bool h3]
        rfl
      all_goals cases hr
    · cases h
  · simp only [V_lit] at hvx hvy
    split at h
    · rename_i e hk
      obtain ⟨i, info, d, h1, h2, h3, h4, _⟩ := kindOf_fits hE (t := t) (by rw [hk]; simp)
      rw [hk] at h4
      cases d <;> simp only [TK.fits] at h4 <;> first | cases h4 | skip
      rename_i n c _ _ _
      obtain ⟨u, hu, rfl⟩ := eql_run h (run_equal_sliceNil h3 n c 0 0) (fun _ => rfl) (fun _ => rfl) s.w
      refine FreeOk.same (u := u) ?_ (by simp)
      simp only [execOp, hvx, hvy, eqGuard_at_slice, Sem.run_bind, Sem.run_pure, Result.andThen_ok, hu]
    · cases h
  · simp only [V, V_lit] at hvx hvy
    split at h
    · rename_i hk
      obtain ⟨i, info, d, h1, h2, h3, h4, _⟩ := kindOf_fits hE (t := t) (by rw [hk]; simp)
      rw [hk] at h4
      cases d <;> simp only [TK.fits] at h4 <;> first | cases h4 | skip
      obtain ⟨ad, us, hvx, _⟩ := hvx
      obtain ⟨u, hu, rfl⟩ := eql_run h (run_equal_ptrNil h3 (some ad)) (fun _ => rfl) (fun _ => rfl) s.w
      refine FreeOk.same (u := u) ?_ (by simp)
      simp only [execOp, hvx, hvy, eqGuard_at_pointer, Sem.run_bind, Sem.run_pure, Result.andThen_ok, hu]
    · cases h
  · simp only [V_lit] at hvx hvy
    split at h
    · rename_i hk
      obtain ⟨i, info, d, h1, h2, h3, h4, _⟩ := kindOf_fits hE (t := t) (by rw [hk]; simp)
      rw [hk] at h4
      cases d <;> simp only [TK.fits] at h4 <;> first | cases h4 | skip
      obtain ⟨u, hu, rfl⟩ := eql_run h (run_equal_ptrNil h3 none) (fun _ => rfl) (fun _ => rfl) s.w
      refine FreeOk.same (u := u) ?_ (by simp)
      simp only [execOp, hvx, hvy, eqGuard_at_pointer, Sem.run_bind, Sem.run_pure, Result.andThen_ok, hu]
    · cases h
  · cases h

theorem free_unOp {s : St} {fr : AF} {a : Act} {dst : Option Tmp} {op : UnOp} {t : TypeId} {x : Operand} {ty : TypeId} {pos : String} {after : Array Edge} {guard : Option (Nat × Bool)} {vx v : AV}
    (hx : evA E fr x = some vx) (ho : OpsV E s fr a #[x]) (h : unA op vx = some v) : FreeOk P s ⟨dst, .unOp op t x, ty, pos, after, guard⟩ a v := by
  have hvx := ho x (by simp) vx hx
  unfold unA at h
  split at h
  · simp only [V_lit] at hvx
    injection h with h
    subst h
    refine FreeOk.same (u := _) ?_ (by simp; rfl)
    simp [execOp, hvx, Op.unary, Op.intArith]
  · simp only [V_lit] at hvx
    injection h with h
    subst h
    refine FreeOk.same (u := _) ?_ (by simp; rfl)
    simp [execOp, hvx, Op.unary, intBits_xor]
  · simp only [V_lit] at hvx
    injection h with h
    subst h
    refine FreeOk.same (u := _) ?_ (by simp; rfl)
    simp [execOp, hvx, Op.unary]
  · cases h

theorem free_convert (hE : EnvOk E P) {s : St} {fr : AF} {a : Act} {dst : Option Tmp} {src d : TypeId} {x : Operand} {ty : TypeId} {pos : String} {after : Array Edge} {guard : Option (Nat × Bool)} {kx ks k : IntKind} {n : Int}
    (hx : evA E fr x = some (.lit (.int kx n))) (hs : kindOf E src = .int ks) (hd : kindOf E d = .int k) (ho : OpsV E s fr a #[x]) : FreeOk P s ⟨dst, .convert src d x, ty, pos, after, guard⟩ a (.lit (.int k (k.wrap n))) := by
  have hvx := ho x (by simp) _ hx
  simp only [V_lit] at hvx
  obtain ⟨i, info, d1, _, _, h3, h4, _⟩ := kindOf_fits hE (t := src) (by rw [hs]; simp)
  rw [hs] at h4
  obtain ⟨i', info', d2, _, _, h3', h4', _⟩ := kindOf_fits hE (t := d) (by rw [hd]; simp)
  rw [hd] at h4'
  cases d1 <;> simp only [TK.fits] at h4 <;> first | cases h4 | skip
  cases d2 <;> simp only [TK.fits] at h4' <;> first | cases h4' | skip
  simp at h4'
  subst h4'
  refine FreeOk.same (u := _) ?_ (by simp; rfl)
  simp [execOp, hvx, convert, run_underlying h3, run_underlying h3', Conv.intToInt]

/-- A value boxed, never to be written. -/
theorem newVar_V {s : St} {vx : AV} {u : Value} (hv : V s vx u) (hi : ImmLt s) (h1 : vx.storable = true) (e : TypeId) :
    V (s.allocI (.cells u.cells e)) (.rp vx.cells) (.pointer (some ⟨s.w.heap.size, 0, none⟩)) := by
  obtain ⟨hl, hone⟩ := cells_V hv h1
  simp only [V]
  refine ⟨_, u.cells.toList, rfl, VL.mono ((quiet_allocI s _).ext hi) _ _ hl, fun j x hj => ?_⟩
  refine ⟨hone x (List.mem_of_getElem? hj), .inr rfl, ?_⟩
  rw [Addr.add_lit]
  simp only [St.allocI]
  rw [Nat.zero_add, World.cell?_alloc_new]
  simpa using hj

theorem free_box {s : St} {fr : AF} {a : Act} {dst : Option Tmp} {e : TypeId} {x : Operand} {ty : TypeId} {pos : String} {after : Array Edge} {guard : Option (Nat × Bool)} {vx : AV} (hi : ImmLt s)
    (hx : evA E fr x = some vx) (h1 : vx.storable = true) (ho : OpsV E s fr a #[x]) : FreeOk P s ⟨dst, .box e x, ty, pos, after, guard⟩ a (.rp vx.cells) := by
  have hvx := ho x (by simp) _ hx
  exact ⟨_, s.allocI (.cells (a.eval x).cells e), by simp [execOp, Instr.box, newVar, newRow, St.allocI], quiet_allocI s _, newVar_V hvx hi h1 e⟩

theorem zeroOk_spec {i : TI} (h : zeroOk i = true) : (AV.ofV i.zero).cells.length = i.size ∧ (AV.ofV i.zero).storable = true ∧ i.zero.cells.all (·.oneCell') = true := by
  simpa [zeroOk, Bool.and_eq_true, and_assoc] using h

theorem free_alloc (hE : EnvOk E P) {s : St} {a : Act} {dst : Option Tmp} {t : TypeId} {i : TI} {ty : TypeId} {pos : String} {after : Array Edge} {guard : Option (Nat × Bool)} (hi : ImmLt s)
    (ht : E.ty t = some i) (hz : zeroOk i = true) : FreeOk P s ⟨dst, .alloc t, ty, pos, after, guard⟩ a (.rp (AV.ofV i.zero).cells) := by
  obtain ⟨info, d, h2, h3, h4, h5, h6, h7⟩ := hE.ty t i ht
  obtain ⟨z1, z2, z3⟩ := zeroOk_spec hz
  exact ⟨_, s.allocI (.cells i.zero.cells t), by simp [execOp, Instr.alloc, run_zeroValue h2 h7, newVar, newRow, St.allocI], quiet_allocI s _, newVar_V (ofV_V s i.zero z3) hi z2 t⟩

theorem cells_ofV {z : Value} : (AV.ofV z).cells = z.cells.toList.map .lit := by
  unfold AV.ofV
  split
  · simp [AV.cells, Value.cells]
  · rename_i h
    cases z <;> first | (exfalso; exact h _ rfl) | rfl

theorem VL_lits (s : St) (us : List Value) : VL s (us.map .lit) us := VL.mk (by simp) fun j x u hx hu => by
  rw [List.getElem?_map, hu] at hx
  simp at hx
  subst hx
  simp

theorem zeros_VL (s : St) (n : Nat) {i : TI} (hz : zeroOk i = true) : VL s (zerosA n i.zero) (List.replicate n i.zero.cells.toList).flatten ∧ ∀ y ∈ (List.replicate n i.zero.cells.toList).flatten, y.oneCell' = true := by
  obtain ⟨z1, z2, z3⟩ := zeroOk_spec hz
  unfold zerosA
  rw [cells_ofV]
  constructor
  · have h := VL_lits s (List.replicate n i.zero.cells.toList).flatten
    rwa [List.map_flatten, List.map_replicate] at h
  · intro y hy
    simp only [List.mem_flatten, List.mem_replicate] at hy
    obtain ⟨l, ⟨_, rfl⟩, hy⟩ := hy
    rw [Array.all_eq_true_iff_forall_mem] at z3
    exact z3 y (by simpa using hy)

theorem zero_size {i : TI} (hz : zeroOk i = true) : i.zero.cells.size = i.size := by
  obtain ⟨z1, _⟩ := zeroOk_spec hz
  rw [cells_ofV] at z1
  simpa using z1

theorem sizes_run (hE : EnvOk E P) : ∀ (fields : List Field) (fs : List (Nat × TypeId)), fields.map (fun f => (f.offset, f.type)) = fs → allTyped E fs = true → ∀ w : World,
    (fields.mapM (fun f => do pure (f.offset, ← sizeOf f.type) : Field → Sem (Nat × Nat))).run P w = .ok (fs.map fun p => (p.1, ((E.ty p.2).map (·.size)).getD 0)) w
  | [], fs, h, _, w => by simp at h; subst h; simp
  | f :: fields, fs, h, ha, w => by
    simp at h
    subst h
    simp only [allTyped, List.all_cons, Bool.and_eq_true] at ha
    obtain ⟨h1, h2⟩ := ha
    cases ht : E.ty f.type with
    | none => simp [ht] at h1
    | some i =>
      obtain ⟨info, d, h3, h4, h5, h6, h7, h8⟩ := hE.ty _ _ ht
      have ih := sizes_run hE fields _ rfl (by simpa [allTyped] using h2) w
      simp only [List.mapM_cons, Sem.run_bind, run_sizeOf h3, Result.andThen_ok, Sem.run_pure, ih, List.map_cons, ht, h6, Option.map_some, Option.getD_some]

theorem free_build_struct (hE : EnvOk E P) {s : St} {fr : AF} {a : Act} {dst : Option Tmp} {t : TypeId} {ps : Array (Nat × Operand)} {i : TI} {fs : List (Nat × TypeId)} {vs : List (Nat × AV)} {ys : List AV} {ty : TypeId} {pos : String} {after : Array Edge} {guard : Option (Nat × Bool)}
    (ht : E.ty t = some i) (hk : i.kind = .struct fs) (hz : zeroOk i = true) (ha : allTyped E fs = true) (hv : evParts E fr ps.toList = some vs) (ho : ∀ p ∈ ps.toList, ∀ y, evA E fr p.2 = some y → V s y (a.eval p.2))
    (h : fillA (sizesOf E fs) (AV.ofV i.zero).cells vs = some ys) : FreeOk P s ⟨dst, .build t ps, ty, pos, after, guard⟩ a (.agg ys) := by
  obtain ⟨info, d, h2, h3, h4, h5, h6, h7⟩ := hE.ty t i ht
  rw [hk] at h4
  cases d <;> simp only [TK.fits] at h4 <;> first | cases h4 | skip
  rename_i fields
  have hfs : fields.toList.map (fun f => (f.offset, f.type)) = fs := by simpa using h4
  obtain ⟨z1, z2, z3⟩ := zeroOk_spec hz
  have hpv := parts_V (s := s) ps.toList vs hv ho
  have hzl : VL s (AV.ofV i.zero).cells i.zero.cells.toList := by rw [cells_ofV]; exact VL_lits s _
  have hone : ∀ y ∈ i.zero.cells.toList, y.oneCell' = true := by
    rw [Array.all_eq_true_iff_forall_mem] at z3
    intro y hy
    exact z3 y (by simpa using hy)
  obtain ⟨cells', hf, hl', h1'⟩ := fill_sound vs _ _ ys i.zero.cells hpv hzl hone h
  have hpl : (fun j => (fs.map fun p => (p.1, ((E.ty p.2).map (·.size)).getD 0))[j]?) = sizesOf E fs := by
    funext j
    simp only [sizesOf, List.getElem?_map]
    cases hj : fs[j]? with
    | none => simp
    | some p =>
      have hm := List.mem_of_getElem? hj
      simp only [allTyped, List.all_eq_true] at ha
      have := ha p hm
      cases hp : E.ty p.2 with
      | none => simp [hp] at this
      | some ti => simp [hp]
  refine FreeOk.same (u := .agg cells') ?_ (by simp only [V]; exact ⟨cells'.toList, by simp, hl', h1'⟩)
  have hm := sizes_run hE fields.toList fs hfs ha s.w
  simp only [execOp, Instr.build, Sem.run_bind, run_zeroValue h2 h7, Result.andThen_ok, run_underlying h3]
  rw [Array.mapM_eq_mapM_toList, Sem.run_map, hm]
  simp only [Result.andThen_ok]
  have e : (fun x => ((fs.map fun p => (p.1, ((E.ty p.2).map (·.size)).getD 0)).toArray[x]? : Option (Nat × Nat))) = sizesOf E fs := by
    rw [← hpl]
    funext j
    simp
  have e2 : (Array.map (fun (x : Nat × Operand) => (x.fst, a.eval x.snd)) ps).toList = List.map (fun p => (p.fst, a.eval p.snd)) ps.toList := by simp
  rw [e, e2, hf]
  rfl

theorem free_build_array (hE : EnvOk E P) {s : St} {fr : AF} {a : Act} {dst : Option Tmp} {t e : TypeId} {n : Nat} {ps : Array (Nat × Operand)} {i ie : TI} {vs : List (Nat × AV)} {ys : List AV} {ty : TypeId} {pos : String} {after : Array Edge} {guard : Option (Nat × Bool)}
    (ht : E.ty t = some i) (hk : i.kind = .array n e) (he : E.ty e = some ie) (hz : zeroOk i = true) (hv : evParts E fr ps.toList = some vs) (ho : ∀ p ∈ ps.toList, ∀ y, evA E fr p.2 = some y → V s y (a.eval p.2))
    (h : fillA (fun j => some (j * ie.size, ie.size)) (AV.ofV i.zero).cells vs = some ys) : FreeOk P s ⟨dst, .build t ps, ty, pos, after, guard⟩ a (.agg ys) := by
  obtain ⟨info, d, h2, h3, h4, h5, h6, h7⟩ := hE.ty t i ht
  obtain ⟨einfo, ed, e2, e3, e4, e5, e6, e7⟩ := hE.ty e ie he
  rw [hk] at h4
  cases d <;> simp only [TK.fits] at h4 <;> first | cases h4 | skip
  simp at h4
  obtain ⟨rfl, rfl⟩ := h4
  obtain ⟨z1, z2, z3⟩ := zeroOk_spec hz
  have hpv := parts_V (s := s) ps.toList vs hv ho
  have hzl : VL s (AV.ofV i.zero).cells i.zero.cells.toList := by rw [cells_ofV]; exact VL_lits s _
  have hone : ∀ y ∈ i.zero.cells.toList, y.oneCell' = true := by
    rw [Array.all_eq_true_iff_forall_mem] at z3
    intro y hy
    exact z3 y (by simpa using hy)
  obtain ⟨cells', hf, hl', h1'⟩ := fill_sound vs _ _ ys i.zero.cells hpv hzl hone h
  refine FreeOk.same (u := .agg cells') ?_ (by simp only [V]; exact ⟨cells'.toList, by simp, hl', h1'⟩)
  simp only [execOp, Instr.build, Sem.run_bind, run_zeroValue h2 h7, Result.andThen_ok, run_underlying h3, run_sizeOf e2, e5]
  have e2 : (Array.map (fun (x : Nat × Operand) => (x.fst, a.eval x.snd)) ps).toList = List.map (fun p => (p.fst, a.eval p.snd)) ps.toList := by simp
  rw [e2, hf]
  rfl

/-- A slice's literal: the cells, and the real ones. -/
theorem run_buildSlice (hE : EnvOk E P) {s : St} {fr : AF} {a : Act} {t e : TypeId} {n : Nat} {ps : Array (Nat × Operand)} {ie : TI} {vs : List (Nat × AV)} {ys : List AV}
    (hk : kindOf E t = .slice e) (he : E.ty e = some ie) (hz : zeroOk ie = true) (h0 : 0 < ie.size) (hb : n * ie.size ≤ 16777216) (hv : evParts E fr ps.toList = some vs) (ho : ∀ p ∈ ps.toList, ∀ y, evA E fr p.2 = some y → V s y (a.eval p.2))
    (h : fillA (fun j => some (j * ie.size, ie.size)) (zerosA n ie.zero) vs = some ys) : ∃ cells : Array Value, (Instr.buildSlice t n (ps.map fun (i, x) => (i, a.eval x))).run P s.w = .ok (.slice (some ⟨s.w.heap.size, 0, none⟩) n n) (s.w.alloc (.cells cells e)) ∧
      VL s ys cells.toList ∧ (∀ y ∈ cells.toList, y.oneCell' = true) ∧ ys.length = n * ie.size := by
  obtain ⟨i, info, d, _, h2, h3, h4, _⟩ := kindOf_fits hE (t := t) (by rw [hk]; simp)
  rw [hk] at h4
  cases d <;> simp only [TK.fits] at h4 <;> first | cases h4 | skip
  simp at h4
  subst h4
  obtain ⟨einfo, ed, e2, e3, e4, e5, e6, e7⟩ := hE.ty e ie he
  have hpv := parts_V (s := s) ps.toList vs hv ho
  obtain ⟨zl, z1⟩ := zeros_VL s n hz
  have hsz := zero_size hz
  have hzeq := zeros_eq n ie.zero.cells ie.size hsz
  obtain ⟨cells', hf, hl', h1'⟩ := fill_sound vs _ _ ys ((Array.range (n * ie.size)).map (fun i => ie.zero.cells[i % ie.zero.cells.size]!)) hpv (by rw [hzeq]; exact zl) (by rw [hzeq]; exact z1) h
  refine ⟨cells', ?_, hl', h1', ?_⟩
  · have e9 : (Array.map (fun (x : Nat × Operand) => (x.fst, a.eval x.snd)) ps).toList = List.map (fun p => (p.fst, a.eval p.snd)) ps.toList := by simp
    have n1 : ¬ (16777216 < n * ie.size) := by omega
    by_cases hn : n * ie.size = 0
    · have hn0 : n = 0 := by
        rcases Nat.mul_eq_zero.1 hn with h | h
        · exact h
        · omega
      subst hn0
      simp only [Nat.zero_mul, Array.range_zero', Array.map_empty] at hf
      have hf' : Instr.fill (fun i => some (i * ie.size, ie.size)) #[] (List.map (fun p => (p.fst, a.eval p.snd)) ps.toList) = some cells' := hf
      simp [Instr.buildSlice, run_underlying h3, run_sizeOf e2, e5, n1, hn, Array.range_zero', newRow]
      rw [hf']
      simp
    · simp [Instr.buildSlice, run_underlying h3, run_sizeOf e2, e5, n1, hn, newRow, run_zeroValue e2 e7]
      rw [hf]
      simp
  · have := hl'.length
    have hfl : ∀ (vs : List (Nat × AV)) (xs ys : List AV) (pl : Nat → Option (Nat × Nat)), fillA pl xs vs = some ys → ys.length = xs.length := by
      intro vs
      induction vs with
      | nil => intro xs ys pl h; simp [fillA] at h; subst h; rfl
      | cons v vs ih =>
        intro xs ys pl h
        obtain ⟨i, v⟩ := v
        simp only [fillA] at h
        split at h
        · cases h
        · split at h
          · split at h
            · rename_i zs hz
              rw [ih _ _ _ h, putAt_length hz]
            · cases h
          · cases h
    rw [hfl vs _ _ _ h, zl.length.symm, ← hzeq]
    simp

theorem free_buildSlice (hE : EnvOk E P) {s : St} {fr : AF} {a : Act} {dst : Option Tmp} {t e : TypeId} {n : Nat} {ps : Array (Nat × Operand)} {ie : TI} {vs : List (Nat × AV)} {ys : List AV} {ty : TypeId} {pos : String} {after : Array Edge} {guard : Option (Nat × Bool)} (hi : ImmLt s)
    (hk : kindOf E t = .slice e) (he : E.ty e = some ie) (hz : zeroOk ie = true) (h0 : 0 < ie.size) (hb : n * ie.size ≤ 16777216) (hv : evParts E fr ps.toList = some vs) (ho : ∀ p ∈ ps.toList, ∀ y, evA E fr p.2 = some y → V s y (a.eval p.2))
    (h : fillA (fun j => some (j * ie.size, ie.size)) (zerosA n ie.zero) vs = some ys) : FreeOk P s ⟨dst, .buildSlice t n ps, ty, pos, after, guard⟩ a (.ro n ys) := by
  obtain ⟨cells, hr, hl, h1, _⟩ := run_buildSlice (a := a) hE hk he hz h0 hb hv ho h
  refine ⟨.slice (some ⟨s.w.heap.size, 0, none⟩) n n, s.allocI (.cells cells e), ?_, quiet_allocI s _, ?_⟩
  · simp only [execOp, Sem.run_bind, hr, Result.andThen_ok, Sem.run_pure]
    rfl
  · simp only [V]
    refine ⟨_, n, cells.toList, rfl, Nat.le_refl _, fun _ => rfl, VL.mono ((quiet_allocI s _).ext hi) _ _ hl, fun j x hj => ⟨h1 x (List.mem_of_getElem? hj), _, rfl, .inr rfl, ?_⟩⟩
    rw [Addr.add_lit]
    simp only [St.allocI]
    rw [Nat.zero_add, World.cell?_alloc_new]
    simpa using hj

theorem free_load (hE : EnvOk E P) {s : St} {fr : AF} {a : Act} {dst : Option Tmp} {t : TypeId} {x : Operand} {i : TI} {xs : List AV} {r : AV} {ty : TypeId} {pos : String} {after : Array Edge} {guard : Option (Nat × Bool)}
    (hx : evA E fr x = some (.rp xs)) (ht : E.ty t = some i) (hr : takeT i xs = some r) (ho : OpsV E s fr a #[x]) : FreeOk P s ⟨dst, .load t x, ty, pos, after, guard⟩ a r := by
  have hv := ho x (by simp) _ hx
  simp only [V] at hv
  obtain ⟨ad, us, he, hl, hm⟩ := hv
  obtain ⟨u, hu, hvu⟩ := run_loadVar hE ht hr hl (fun y hy => by
    obtain ⟨j, hj⟩ := List.mem_iff_getElem?.1 hy
    exact (hm j y hj).1) (fun j y hj => (hm j y hj).2.2)
  exact FreeOk.same (u := u) (by simp [execOp, he, Instr.loadAt, Instr.sureAddr, hu]) hvu

theorem struct_field (hE : EnvOk E P) {st : TypeId} {fs : List (Nat × TypeId)} {k off : Nat} {t : TypeId} {i : TI} (hk : kindOf E st = .struct fs) (hf : fs[k]? = some (off, t)) (ht : E.ty t = some i) :
    ∃ (fields : Array Field) (f : Field) (info : TypeInfo), P.underlying st = some (.struct fields) ∧ fields[k]? = some f ∧ f.offset = off ∧ f.type = t ∧ P.info? t = some info ∧ info.size = i.size := by
  obtain ⟨_, _, d, _, _, h3, h4, _⟩ := kindOf_fits hE (t := st) (by rw [hk]; simp)
  rw [hk] at h4
  cases d <;> simp only [TK.fits] at h4 <;> first | cases h4 | skip
  rename_i fields
  have h4 : fields.toList.map (fun f => (f.offset, f.type)) = fs := by simpa using h4
  rw [← h4, List.getElem?_map] at hf
  obtain ⟨f, hf1, hf2⟩ := Option.map_eq_some_iff.1 hf
  simp only [Prod.mk.injEq] at hf2
  obtain ⟨info, d, h2, _, _, h5, _⟩ := hE.ty t i ht
  exact ⟨fields, f, info, h3, by simpa using hf1, hf2.1, hf2.2, h2, h5⟩

theorem run_fieldAt (hE : EnvOk E P) {st : TypeId} {fs : List (Nat × TypeId)} {k off : Nat} {t : TypeId} {i : TI} (hk : kindOf E st = .struct fs) (hf : fs[k]? = some (off, t)) (ht : E.ty t = some i) (h0 : i.size ≠ 0) (ad : Addr) (w : World) :
    (Instr.fieldAt st (.pointer (some ad)) k).run P w = .ok (.pointer (some (ad.add off))) w := by
  obtain ⟨fields, f, info, h1, h2, rfl, rfl, h5, h6⟩ := struct_field hE hk hf ht
  simp [Instr.fieldAt, run_underlying h1, h2, Instr.sureAddr, fieldPlace, run_sizeOf h5, h6, h0]

theorem rp_drop {s : St} {xs : List AV} {ad : Addr} {us : List Value} (k : Nat) (hl : VL s xs us) (hm : ∀ (j : Nat) (x : Value), us[j]? = some x → x.oneCell' = true ∧ s.imm ad.block ∧ s.w.cell? (ad.add j) = some x) :
    V s (.rp (xs.drop k)) (.pointer (some (ad.add k))) := by
  simp only [V]
  refine ⟨_, us.drop k, rfl, hl.drop k, fun j x hj => ?_⟩
  rw [List.getElem?_drop] at hj
  obtain ⟨h1, h2, h3⟩ := hm _ x hj
  exact ⟨h1, by rw [add_block]; exact h2, by rw [add_add]; exact h3⟩

theorem mp_add {s : St} {b ver off : Nat} {u : Value} (hv : V s (.mp b ver off) u) (k : Nat) : ∃ ad, u = .pointer (some ad) ∧ V s (.mp b ver (off + k)) (.pointer (some (ad.add k))) := by
  simp only [V] at hv ⊢
  obtain ⟨ad, cur, rfl, h1, h2, h3⟩ := hv
  refine ⟨ad, rfl, _, cur, rfl, h1, h2, fun e => ?_⟩
  obtain ⟨g, hg, rfl⟩ := h3 e
  exact ⟨g, hg, by simp [Addr.add_lit, Nat.add_assoc]⟩

theorem free_fieldAddr_rp (hE : EnvOk E P) {s : St} {fr : AF} {a : Act} {dst : Option Tmp} {st : TypeId} {x : Operand} {k off : Nat} {fs : List (Nat × TypeId)} {t : TypeId} {i : TI} {xs : List AV} {ty : TypeId} {pos : String} {after : Array Edge} {guard : Option (Nat × Bool)}
    (hx : evA E fr x = some (.rp xs)) (hk : kindOf E st = .struct fs) (hf : fs[k]? = some (off, t)) (ht : E.ty t = some i) (h0 : i.size ≠ 0) (ho : OpsV E s fr a #[x]) : FreeOk P s ⟨dst, .fieldAddr st x k, ty, pos, after, guard⟩ a (.rp (xs.drop off)) := by
  have hv := ho x (by simp) _ hx
  simp only [V] at hv
  obtain ⟨ad, us, he, hl, hm⟩ := hv
  exact FreeOk.same (u := _) (by simp [execOp, he, run_fieldAt hE hk hf ht h0]) (rp_drop off hl hm)

theorem free_fieldAddr_mp (hE : EnvOk E P) {s : St} {fr : AF} {a : Act} {dst : Option Tmp} {st : TypeId} {x : Operand} {k off b ver o : Nat} {fs : List (Nat × TypeId)} {t : TypeId} {i : TI} {ty : TypeId} {pos : String} {after : Array Edge} {guard : Option (Nat × Bool)}
    (hx : evA E fr x = some (.mp b ver o)) (hk : kindOf E st = .struct fs) (hf : fs[k]? = some (off, t)) (ht : E.ty t = some i) (h0 : i.size ≠ 0) (ho : OpsV E s fr a #[x]) : FreeOk P s ⟨dst, .fieldAddr st x k, ty, pos, after, guard⟩ a (.mp b ver (o + off)) := by
  have hv := ho x (by simp) _ hx
  obtain ⟨ad, he, hv'⟩ := mp_add hv off
  exact FreeOk.same (u := _) (by simp [execOp, he, run_fieldAt hE hk hf ht h0]) hv'

theorem free_field (hE : EnvOk E P) {s : St} {fr : AF} {a : Act} {dst : Option Tmp} {st : TypeId} {x : Operand} {k off : Nat} {fs : List (Nat × TypeId)} {t : TypeId} {i : TI} {cs : List AV} {r : AV} {ty : TypeId} {pos : String} {after : Array Edge} {guard : Option (Nat × Bool)}
    (hx : evA E fr x = some (.agg cs)) (hk : kindOf E st = .struct fs) (hf : fs[k]? = some (off, t)) (ht : E.ty t = some i) (hr : takeT i (cs.drop off) = some r) (ho : OpsV E s fr a #[x]) : FreeOk P s ⟨dst, .field st x k, ty, pos, after, guard⟩ a r := by
  have hv := ho x (by simp) _ hx
  simp only [V] at hv
  obtain ⟨us, he, hl, h1⟩ := hv
  obtain ⟨fields, f, info, g1, g2, g3, g4, g5, g6⟩ := struct_field hE hk hf ht
  obtain ⟨u, hu, hvu⟩ := run_part hE ht hr hl h1
  subst g3
  subst g4
  exact FreeOk.same (u := u) (by simp [execOp, he, Instr.field, run_underlying g1, g2, asAgg, hu]) hvu

theorem slice_elem (hE : EnvOk E P) {t e : TypeId} (hk : kindOf E t = .slice e) : P.underlying t = some (.slice e) := by
  obtain ⟨_, _, d, _, _, h3, h4, _⟩ := kindOf_fits hE (t := t) (by rw [hk]; simp)
  rw [hk] at h4
  cases d <;> simp only [TK.fits] at h4 <;> first | cases h4 | skip
  simp at h4
  subst h4
  exact h3
theorem map_elem (hE : EnvOk E P) {t k e : TypeId} (hk : kindOf E t = .map k e) : P.underlying t = some (.map k e) := by
  obtain ⟨_, _, d, _, _, h3, h4, _⟩ := kindOf_fits hE (t := t) (by rw [hk]; simp)
  rw [hk] at h4
  cases d <;> simp only [TK.fits] at h4 <;> first | cases h4 | skip
  simp at h4
  obtain ⟨rfl, rfl⟩ := h4
  exact h3
theorem int_elem (hE : EnvOk E P) {t : TypeId} {k : IntKind} (hk : kindOf E t = .int k) : P.underlying t = some (.int k) := by
  obtain ⟨_, _, d, _, _, h3, h4, _⟩ := kindOf_fits hE (t := t) (by rw [hk]; simp)
  rw [hk] at h4
  cases d <;> simp only [TK.fits] at h4 <;> first | cases h4 | skip
  simp at h4
  subst h4
  exact h3
theorem array_elem (hE : EnvOk E P) {t e : TypeId} {n : Nat} (hk : kindOf E t = .array n e) : P.underlying t = some (.array n e) := by
  obtain ⟨_, _, d, _, _, h3, h4, _⟩ := kindOf_fits hE (t := t) (by rw [hk]; simp)
  rw [hk] at h4
  cases d <;> simp only [TK.fits] at h4 <;> first | cases h4 | skip
  simp at h4
  obtain ⟨rfl, rfl⟩ := h4
  exact h3
theorem string_kind (hE : EnvOk E P) {t : TypeId} (hk : kindOf E t = .string) : P.underlying t = some .string := by
  obtain ⟨_, _, d, _, _, h3, h4, _⟩ := kindOf_fits hE (t := t) (by rw [hk]; simp)
  rw [hk] at h4
  cases d <;> simp only [TK.fits] at h4 <;> first | cases h4 | skip
  exact h3
theorem size_at (hE : EnvOk E P) {t : TypeId} {i : TI} (h : E.ty t = some i) (w : World) : (sizeOf t).run P w = .ok i.size w := by
  obtain ⟨info, d, h2, _, _, h5, _⟩ := hE.ty t i h
  rw [run_sizeOf h2, h5]

theorem run_indexAt_sl (hE : EnvOk E P) {t e : TypeId} {ie : TI} (hk : kindOf E t = .slice e) (he : E.ty e = some ie) (ad : Addr) (n cap : Nat) (k : IntKind) (i : Int) (h0 : 0 ≤ i) (h1 : i < n) (w : World) :
    (Instr.indexAt t (.slice (some ad) n cap) (.int k i)).run P w = .ok (.pointer (some (ad.add (i.toNat * ie.size)))) w := by
  simp [Instr.indexAt, asIntOf, run_underlying (slice_elem hE hk), h0, h1, size_at hE he]

theorem run_indexAt_ar (hE : EnvOk E P) {t e : TypeId} {ie : TI} {n : Nat} (hk : kindOf E t = .array n e) (he : E.ty e = some ie) (ad : Addr) (k : IntKind) (i : Int) (h0 : 0 ≤ i) (h1 : i < n) (w : World) :
    (Instr.indexAt t (.pointer (some ad)) (.int k i)).run P w = .ok (.pointer (some (ad.add (i.toNat * ie.size)))) w := by
  by_cases ht : n ≤ 1
  · simp [Instr.indexAt, asIntOf, run_underlying (array_elem hE hk), h0, h1, size_at hE he, Instr.sureAddr, ht]
  · simp [Instr.indexAt, asIntOf, run_underlying (array_elem hE hk), h0, h1, size_at hE he, Instr.sureAddr, ht]

theorem free_indexAddr (hE : EnvOk E P) {f : FuncId} {s : St} {fr : AF} {a : Act} {o : Oper} {t : TypeId} {x ix : Operand} {v : AV} (hop : o.op = .indexAddr t x ix) (ho : OpsV E s fr a #[x, ix]) (h : evFree E f fr o = some v) : FreeOk P s o a v := by
  simp only [evFree, hop] at h
  split at h
  · rename_i n xs k i e hx hix hk
    have hvx := ho x (by simp) _ hx
    have hvi := ho ix (by simp) _ hix
    simp only [V] at hvx hvi
    obtain ⟨ad, cap, us, hex, hn, hs, hl, hm⟩ := hvx
    split at h
    · rename_i ie he
      split at h
      · rename_i hi
        obtain ⟨h0, h1⟩ := hi
        injection h with h
        subst h
        cases ad with
        | none => have := hs (by omega); simp at this
        | some ad =>
          exact FreeOk.same (u := .pointer (some (ad.add (i.toNat * ie.size)))) (by simp [execOp, hop, hex, hvi, run_indexAt_sl hE hk he ad n cap k i h0 h1]) (rp_drop _ hl fun j x hj => by
            obtain ⟨h2, ad', h3, h4, h5⟩ := hm j x hj
            injection h3 with h3
            subst h3
            exact ⟨h2, h4, h5⟩)
      · cases h
    · cases h
  · rename_i b ver off n sz k i e hx hix hk
    have hvx := ho x (by simp) _ hx
    have hvi := ho ix (by simp) _ hix
    simp only [V] at hvx hvi
    obtain ⟨ad, cap, cur, hex, hn, hcur, hle, hg⟩ := hvx
    split at h
    · rename_i ie he
      split at h
      · rename_i hi
        obtain ⟨rfl, h0, h1⟩ := hi
        injection h with h
        subst h
        refine FreeOk.same (u := _) (by simp [execOp, hop, hex, hvi, run_indexAt_sl hE hk he ad n cap k i h0 h1]; rfl) ?_
        simp only [V]
        refine ⟨_, cur, rfl, hcur, hle, fun e => ?_⟩
        rcases hg e with hc0 | ⟨g, c, el, hg1, hg2, rfl, _⟩
        · exfalso; omega
        · exact ⟨g, hg1, by simp [Addr.add_lit, Nat.add_assoc]⟩
      · cases h
    · cases h
  · rename_i xs k i n e hx hix hk
    have hvx := ho x (by simp) _ hx
    have hvi := ho ix (by simp) _ hix
    simp only [V] at hvx hvi
    obtain ⟨ad, us, hex, hl, hm⟩ := hvx
    split at h
    · rename_i ie he
      split at h
      · rename_i hi
        obtain ⟨h0, h1⟩ := hi
        injection h with h
        subst h
        exact FreeOk.same (u := .pointer (some (ad.add (i.toNat * ie.size)))) (by simp [execOp, hop, hex, hvi, run_indexAt_ar hE hk he ad k i h0 h1]) (rp_drop _ hl hm)
      · cases h
    · cases h
  · rename_i b ver off k i n e hx hix hk
    have hvx := ho x (by simp) _ hx
    have hvi := ho ix (by simp) _ hix
    simp only [V_lit] at hvi
    split at h
    · rename_i ie he
      split at h
      · rename_i hi
        obtain ⟨h0, h1⟩ := hi
        injection h with h
        subst h
        obtain ⟨ad, hex, hv'⟩ := mp_add hvx (i.toNat * ie.size)
        exact FreeOk.same (u := _) (by simp [execOp, hop, hex, hvi, run_indexAt_ar hE hk he ad k i h0 h1]) hv'
      · cases h
    · cases h
  · cases h

theorem free_index (hE : EnvOk E P) {f : FuncId} {s : St} {fr : AF} {a : Act} {o : Oper} {t : TypeId} {x ix : Operand} {v : AV} (hop : o.op = .index t x ix) (ho : OpsV E s fr a #[x, ix]) (h : evFree E f fr o = some v) : FreeOk P s o a v := by
  simp only [evFree, hop] at h
  split at h
  · rename_i cs k i n e hx hix hk
    have hvx := ho x (by simp) _ hx
    have hvi := ho ix (by simp) _ hix
    simp only [V] at hvx hvi
    obtain ⟨us, hex, hl, h1⟩ := hvx
    split at h
    · rename_i ie he
      split at h
      · rename_i hi
        obtain ⟨h0, h2⟩ := hi
        obtain ⟨u, hu, hvu⟩ := run_part hE he h hl h1
        exact FreeOk.same (u := u) (by simp [execOp, hop, hex, hvi, Instr.index, asIntOf, run_underlying (array_elem hE hk), h0, h2, size_at hE he, hu]) hvu
      · cases h
    · cases h
  · rename_i str k i hx hix hk
    have hvx := ho x (by simp) _ hx
    have hvi := ho ix (by simp) _ hix
    simp only [V_lit] at hvx hvi
    split at h
    · rename_i h0
      split at h
      · rename_i b hb
        injection h with h
        subst h
        exact FreeOk.same (u := _) (by simp [execOp, hop, hvx, hvi, Instr.index, asIntOf, run_underlying (string_kind hE hk), h0, hb]; rfl) (by simp)
      · cases h
    · cases h
  · cases h

theorem sliceLH_spec {len cap : Nat} {lo hi : Option (Option AV)} {l h : Nat} (hh : sliceLH len cap lo hi = some (l, h)) : (∀ x, lo = some x → ∃ k, x = some (.lit (.int k l))) ∧ (∀ x, hi = some x → ∃ k, x = some (.lit (.int k h))) ∧ (lo = none → l = 0) ∧ (hi = none → h = len) ∧ l ≤ h ∧ h ≤ cap := by
  unfold sliceLH at hh
  split at hh
  · rename_i h' l' e1 e2
    split at hh
    · rename_i hc
      injection hh with hh
      simp only [Prod.mk.injEq] at hh
      obtain ⟨rfl, rfl⟩ := hh
      refine ⟨?_, ?_, ?_, ?_, by omega, by omega⟩
      · rintro x rfl
        cases x with
        | none => cases e2
        | some z =>
          cases z with
          | lit v =>
            cases v with
            | int k i =>
              have e2' : i = _ := Option.some.inj e2
              exact ⟨k, by simp; omega⟩
            | _ => cases e2
          | _ => cases e2
      · rintro x rfl
        cases x with
        | none => cases e1
        | some z =>
          cases z with
          | lit v =>
            cases v with
            | int k i =>
              have e1' : i = _ := Option.some.inj e1
              exact ⟨k, by simp; omega⟩
            | _ => cases e1
          | _ => cases e1
      · rintro rfl
        simp at e2
        omega
      · rintro rfl
        simp at e1
        omega
    · cases hh
  · cases hh

theorem run_sliceBounds {isSlice : Bool} {len cap l h : Nat} {lo hi : Option Value} (hlo : ∀ x, lo = some x → ∃ k, x = .int k l) (hhi : ∀ x, hi = some x → ∃ k, x = .int k h) (l0 : lo = none → l = 0) (h0 : hi = none → h = len) (hle : l ≤ h) (hc : h ≤ cap) (w : World) :
    (Instr.sliceBounds isSlice len cap lo hi none).run P w = .ok (l, h, cap) w := by
  have b : ∀ (k : IntKind) (i y : Nat) (code : BoundsCode), i ≤ y → (Instr.sliceBound (.int k i) y code).run P w = .ok i w := fun k i y code hy => by
    simp [Instr.sliceBound, asIntOf, hy]
  cases lo with
  | none =>
    obtain rfl := l0 rfl
    cases hi with
    | none =>
      obtain rfl := h0 rfl
      simp [Instr.sliceBounds]
    | some x =>
      obtain ⟨k, rfl⟩ := hhi x rfl
      simp [Instr.sliceBounds, b _ _ _ _ hc]
  | some y =>
    obtain ⟨k', rfl⟩ := hlo y rfl
    cases hi with
    | none =>
      obtain rfl := h0 rfl
      simp [Instr.sliceBounds, b _ _ _ _ hle]
    | some x =>
      obtain ⟨k, rfl⟩ := hhi x rfl
      simp [Instr.sliceBounds, b _ _ _ _ hle, b _ _ _ _ hc]

theorem opt_V {s : St} {fr : AF} {a : Act} {lo : Option Operand} {l : Nat} (hop : ∀ x, lo = some x → ∀ y, evA E fr x = some y → V s y (a.eval x)) (h : ∀ x, lo.map (evA E fr) = some x → ∃ k, x = some (.lit (.int k l))) :
    ∀ x, lo.map a.eval = some x → ∃ k, x = .int k l := by
  intro x hx
  obtain ⟨y, rfl, rfl⟩ := Option.map_eq_some_iff.1 hx
  obtain ⟨k, hk⟩ := h _ rfl
  have := hop y rfl _ hk
  simp only [V_lit] at this
  exact ⟨k, this⟩

theorem run_slice_A (hE : EnvOk E P) {t e : TypeId} {ie : TI} (hk : kindOf E t = .slice e) (he : E.ty e = some ie) {ad : Option Addr} {n cap l h : Nat} {lo hi : Option Value} (hlo : ∀ x, lo = some x → ∃ k, x = .int k l) (hhi : ∀ x, hi = some x → ∃ k, x = .int k h)
    (l0 : lo = none → l = 0) (h0 : hi = none → h = n) (hle : l ≤ h) (hc : h ≤ cap) (w : World) :
    (Instr.sliceAt t (.slice ad n cap) lo hi none).run P w = .ok (.slice (if cap = l then ad else ad.map (·.add (l * ie.size))) (h - l) (cap - l)) w := by
  simp [Instr.sliceAt, Instr.slice, run_underlying (slice_elem hE hk), run_sliceBounds hlo hhi l0 h0 hle hc, size_at hE he]

theorem free_slice (hE : EnvOk E P) {f : FuncId} {s : St} {fr : AF} {a : Act} {o : Oper} {t : TypeId} {x : Operand} {lo hi mx : Option Operand} {v : AV} (hop : o.op = .slice t x lo hi mx) (ho : OpsV E s fr a o.op.operands) (h : evFree E f fr o = some v) : FreeOk P s o a v := by
  have hox : ∀ y, evA E fr x = some y → V s y (a.eval x) := ho x (by simp [hop, Op.operands])
  have hol : ∀ z, lo = some z → ∀ y, evA E fr z = some y → V s y (a.eval z) := fun z hz => ho z (by simp [hop, Op.operands, hz])
  have hoh : ∀ z, hi = some z → ∀ y, evA E fr z = some y → V s y (a.eval z) := fun z hz => ho z (by simp [hop, Op.operands, hz])
  simp only [evFree, hop] at h
  split at h
  · rename_i n xs e hx hk
    have hvx := hox _ hx
    simp only [V] at hvx
    obtain ⟨ad, cap, us, hex, hn, hs, hl, hm⟩ := hvx
    split at h
    · rename_i ie l hh he hlh
      injection h with h
      subst h
      obtain ⟨g1, g2, g3, g4, g5, g6⟩ := sliceLH_spec hlh
      have r1 := opt_V hol g1
      have r2 := opt_V hoh g2
      have hr := run_slice_A hE hk he (ad := ad) (n := n) (cap := cap) r1 r2 (fun e => g3 (by simpa using e)) (fun e => g4 (by simpa using e)) g5 (by omega) s.w
      refine FreeOk.same (u := _) (by simp [execOp, hop, hex]; simp only [hr, Result.andThen_ok]; rfl) ?_
      simp only [V]
      refine ⟨_, cap - l, (us.drop (l * ie.size)).take ((hh - l) * ie.size), rfl, by omega, fun hpos => ?_, (hl.drop _).take _, fun j y hj => ?_⟩
      · rw [if_neg (by omega)]
        have := hs (by omega)
        cases ad <;> simp_all
      · rw [List.getElem?_take] at hj
        split at hj
        · rename_i hlt
          rw [List.getElem?_drop] at hj
          obtain ⟨h1, ad', rfl, h3, h4⟩ := hm _ y hj
          refine ⟨h1, ad'.add (l * ie.size), ?_, by rw [add_block]; exact h3, by rw [add_add]; exact h4⟩
          by_cases hcl : cap = l
          · have : hh - l = 0 := by omega
            rw [this] at hlt
            simp at hlt
          · rw [if_neg hcl]; rfl
        · cases hj
    · cases h
  · rename_i b ver off n sz e hx hk
    have hvx := hox _ hx
    simp only [V] at hvx
    obtain ⟨ad, cap, cur, hex, hn, hcur, hle, hg⟩ := hvx
    split at h
    · rename_i ie l hh he hlh
      obtain ⟨g1, g2, g3, g4, g5, g6⟩ := sliceLH_spec hlh
      have r1 := opt_V hol g1
      have r2 := opt_V hoh g2
      have hr := run_slice_A hE hk he (ad := some ad) (n := n) (cap := cap) r1 r2 (fun e => g3 (by simpa using e)) (fun e => g4 (by simpa using e)) g5 (by omega) s.w
      split at h
      · rename_i hc
        obtain ⟨rfl, rfl⟩ := hc
        injection h with h
        subst h
        refine FreeOk.same (u := .slice (some ad) hh cap) (by simp [execOp, hop, hex]; simp only [hr, Result.andThen_ok]; split <;> simp [Addr.add_zero']) ?_
        simp only [V]
        exact ⟨ad, cap, cur, rfl, by omega, hcur, hle, hg⟩
      · split at h
        · rename_i hc
          subst hc
          injection h with h
          subst h
          by_cases hcl : cap = l
          · refine FreeOk.same (u := .slice (some ad) (hh - l) (cap - l)) (by simp [execOp, hop, hex]; simp only [hr, Result.andThen_ok]; rw [if_pos hcl]) ?_
            simp only [V]
            exact ⟨_, cap - l, cur, rfl, by omega, hcur, hle, fun e => .inl (by omega)⟩
          · refine FreeOk.same (u := .slice (some (ad.add (l * ie.size))) (hh - l) (cap - l)) (by simp [execOp, hop, hex]; simp only [hr, Result.andThen_ok]; rw [if_neg hcl]; rfl) ?_
            simp only [V]
            refine ⟨_, cap - l, cur, rfl, by omega, hcur, hle, fun e => ?_⟩
            rcases hg e with hc0 | ⟨g, c, el, hg1, hg2, rfl, hg3⟩
            · exact .inl (by omega)
            · refine .inr ⟨g, c, el, hg1, hg2, by simp [Addr.add_lit, Nat.add_assoc], ?_⟩
              have : l * ie.size + (cap - l) * ie.size = cap * ie.size := by rw [← Nat.add_mul]; congr 1; omega
              exact ⟨by omega, by omega⟩
        · cases h
    · cases h
  · rename_i str hx hk
    have hvx := hox _ hx
    simp only [V_lit] at hvx
    split at h
    · rename_i l hh hlh
      injection h with h
      subst h
      obtain ⟨g1, g2, g3, g4, g5, g6⟩ := sliceLH_spec hlh
      have r1 := opt_V hol g1
      have r2 := opt_V hoh g2
      refine FreeOk.same (u := .string (str.extract l hh)) (by
        simp [execOp, hop, hvx, Instr.sliceAt, Instr.slice, run_underlying (string_kind hE hk), run_sliceBounds r1 r2 (fun e => g3 (by simpa using e)) (fun e => g4 (by simpa using e)) g5 g6]) (by simp)
    · cases h
  · cases h

theorem free_makeFunc {f : FuncId} {s : St} {fr : AF} {a : Act} {o : Oper} {fn : Fn} {first cap : Array Operand} {v : AV} (hop : o.op = .makeFunc fn first cap) (ho : OpsV E s fr a o.op.operands) (h : evFree E f fr o = some v) : FreeOk P s o a v := by
  cases fn <;> simp only [evFree, hop] at h
  case func g =>
    split at h
    · rename_i hf
      have hf : first = #[] := by simpa using hf
      subst hf
      split at h
      · rename_i vs hv
        injection h with h
        subst h
        have hl := args_V (s := s) cap.toList vs hv fun p hp => ho p (by simp [hop, Op.operands]; simpa using hp)
        exact FreeOk.same (u := _) (by simp [execOp, hop, Instr.makeFunc]; rfl) (by simp only [V]; exact ⟨_, by simp [← Array.toList_map], hl⟩)
      · cases h
    · cases h
  all_goals cases h

theorem free_extract {f : FuncId} {s : St} {fr : AF} {a : Act} {o : Oper} {x : Operand} {k : Nat} {v : AV} (hop : o.op = .extract x k) (ho : OpsV E s fr a #[x]) (h : evFree E f fr o = some v) : FreeOk P s o a v := by
  simp only [evFree, hop] at h
  split at h
  · rename_i vs hx
    have hvx := ho x (by simp) _ hx
    simp only [V] at hvx
    obtain ⟨us, hex, hl⟩ := hvx
    obtain ⟨u, hu, hv⟩ := hl.get k v h
    exact FreeOk.same (u := u) (by simp [execOp, hop, hex, Instr.extract, hu]) hv
  · cases h

theorem free_nilCheck {f : FuncId} {s : St} {fr : AF} {a : Act} {o : Oper} {x : Operand} {v : AV} (hop : o.op = .nilCheck x) (ho : OpsV E s fr a #[x]) (h : evFree E f fr o = some v) : FreeOk P s o a v := by
  simp only [evFree, hop] at h
  split at h
  · rename_i xs hx
    injection h with h
    subst h
    have hvx := ho x (by simp) _ hx
    have hv := hvx
    simp only [V] at hvx
    obtain ⟨ad, us, hex, _⟩ := hvx
    exact FreeOk.same (u := a.eval x) (by simp [execOp, hop, hex]) hv
  · rename_i b ver off hx
    injection h with h
    subst h
    have hvx := ho x (by simp) _ hx
    have hv := hvx
    simp only [V] at hvx
    obtain ⟨ad, _, hex, _⟩ := hvx
    exact FreeOk.same (u := a.eval x) (by simp [execOp, hop, hex]) hv
  · rename_i g c hx
    injection h with h
    subst h
    have hvx := ho x (by simp) _ hx
    have hv := hvx
    simp only [V] at hvx
    obtain ⟨us, hex, _⟩ := hvx
    exact FreeOk.same (u := a.eval x) (by simp [execOp, hop, hex]) hv
  · cases h

theorem free_len (hE : EnvOk E P) {f : FuncId} {s : St} {fr : AF} {a : Act} {o : Oper} {args : Array Operand} {tys : Array TypeId} {v : AV} (hop : o.op = .call { callee := .builtin .len, args := args, argTypes := tys }) (ho : OpsV E s fr a o.op.operands) (h : evFree E f fr o = some v) : FreeOk P s o a v := by
  simp only [evFree, hop] at h
  split at h
  · rename_i x t h1 h2
    obtain ⟨xs⟩ := args
    obtain ⟨ts⟩ := tys
    simp only at h1 h2
    subst h2
    cases xs with
    | nil => simp at h1
    | cons y ys =>
      simp only [List.map_cons, List.cons.injEq, List.map_eq_nil_iff] at h1
      obtain ⟨hy, rfl⟩ := h1
      have hv := ho y (by simp [hop, Op.operands, Call.operands]) _ hy
      split at h
      · rename_i n zs e hk
        injection h with h
        subst h
        simp only [V] at hv
        obtain ⟨ad, cap, us, hex, _⟩ := hv
        exact FreeOk.same (u := .int .i64 n) (by simp [execOp, hop, resolve, invoke, builtin, Builtin.len_, hex, run_underlying (slice_elem hE hk), goInt]) (by simp)
      · rename_i b ver off n sz e hk
        injection h with h
        subst h
        simp only [V] at hv
        obtain ⟨ad, cap, cur, hex, _⟩ := hv
        exact FreeOk.same (u := .int .i64 n) (by simp [execOp, hop, resolve, invoke, builtin, Builtin.len_, hex, run_underlying (slice_elem hE hk), goInt]) (by simp)
      · rename_i ad n cap e hk
        injection h with h
        subst h
        simp only [V_lit] at hv
        exact FreeOk.same (u := .int .i64 n) (by simp [execOp, hop, resolve, invoke, builtin, Builtin.len_, hv, run_underlying (slice_elem hE hk), goInt]) (by simp)
      · rename_i str hk
        injection h with h
        subst h
        simp only [V_lit] at hv
        exact FreeOk.same (u := .int .i64 str.size) (by simp [execOp, hop, resolve, invoke, builtin, Builtin.len_, hv, run_underlying (string_kind hE hk), goInt]) (by simp)
      · cases h
  · cases h

theorem foldA_min : ∀ (vs : List AV) (us : List Value) (x r : AV) (u : Value) (s : St), VL s vs us → V s x u → foldA minA x vs = some r → ∃ q, (us.foldlM Builtin.max2 u).run P s.w = (us.foldlM Builtin.max2 u).run P s.w ∧ (us.foldlM Builtin.min2 u).run P s.w = .ok q s.w ∧ V s r q
  | [], us, x, r, u, s, hl, hx, h => by
    simp only [VL_nil] at hl
    subst hl
    simp only [foldA, Option.some.injEq] at h
    subst h
    exact ⟨u, rfl, by simp, hx⟩
  | y :: vs, us, x, r, u, s, hl, hx, h => by
    simp only [VL_cons] at hl
    obtain ⟨u', us', rfl, hy, hl'⟩ := hl
    simp only [foldA] at h
    split at h
    · rename_i z hz
      unfold minA at hz
      split at hz
      · rename_i k i k' j
        injection hz with hz
        simp only [V_lit] at hx hy
        subst hx
        subst hy
        obtain ⟨q, _, hq, hv⟩ := foldA_min vs us' z r (.int k (if j < i then j else i)) s hl' (by rw [← hz]; simp) h
        exact ⟨q, rfl, by simp [List.foldlM_cons, Builtin.min2, hq], hv⟩
      · cases hz
    · cases h

theorem foldA_max : ∀ (vs : List AV) (us : List Value) (x r : AV) (u : Value) (s : St), VL s vs us → V s x u → foldA maxA x vs = some r → ∃ q, (us.foldlM Builtin.max2 u).run P s.w = .ok q s.w ∧ V s r q
  | [], us, x, r, u, s, hl, hx, h => by
    simp only [VL_nil] at hl
    subst hl
    simp only [foldA, Option.some.injEq] at h
    subst h
    exact ⟨u, by simp, hx⟩
  | y :: vs, us, x, r, u, s, hl, hx, h => by
    simp only [VL_cons] at hl
    obtain ⟨u', us', rfl, hy, hl'⟩ := hl
    simp only [foldA] at h
    split at h
    · rename_i z hz
      unfold maxA at hz
      split at hz
      · rename_i k i k' j
        injection hz with hz
        simp only [V_lit] at hx hy
        subst hx
        subst hy
        obtain ⟨q, hq, hv⟩ := foldA_max vs us' z r (.int k (if j > i then j else i)) s hl' (by rw [← hz]; simp) h
        exact ⟨q, by simp only [List.foldlM_cons, Builtin.max2, Sem.run_bind, Sem.run_pure, Result.andThen_ok, hq], hv⟩
      · cases hz
    · cases h

theorem free_min {f : FuncId} {s : St} {fr : AF} {a : Act} {o : Oper} {args : Array Operand} {tys : Array TypeId} {v : AV} (hop : o.op = .call { callee := .builtin .min, args := args, argTypes := tys }) (ho : OpsV E s fr a o.op.operands) (h : evFree E f fr o = some v) : FreeOk P s o a v := by
  simp only [evFree, hop] at h
  split at h
  · rename_i x r hx
    have hl := args_V (s := s) args.toList _ hx fun p hp => ho p (by simp [hop, Op.operands, Call.operands]; simpa using hp)
    simp only [VL_cons] at hl
    obtain ⟨u, us, hu, hxu, hl⟩ := hl
    obtain ⟨q, _, hq, hv⟩ := foldA_min (P := P) r us x v u s hl hxu h
    exact FreeOk.same (u := q) (by simp [execOp, hop, resolve, invoke, builtin, Builtin.min_, hu, hq]) hv
  · cases h

theorem free_max {f : FuncId} {s : St} {fr : AF} {a : Act} {o : Oper} {args : Array Operand} {tys : Array TypeId} {v : AV} (hop : o.op = .call { callee := .builtin .max, args := args, argTypes := tys }) (ho : OpsV E s fr a o.op.operands) (h : evFree E f fr o = some v) : FreeOk P s o a v := by
  simp only [evFree, hop] at h
  split at h
  · rename_i x r hx
    have hl := args_V (s := s) args.toList _ hx fun p hp => ho p (by simp [hop, Op.operands, Call.operands]; simpa using hp)
    simp only [VL_cons] at hl
    obtain ⟨u, us, hu, hxu, hl⟩ := hl
    obtain ⟨q, hq, hv⟩ := foldA_max (P := P) r us x v u s hl hxu h
    exact FreeOk.same (u := q) (by simp [execOp, hop, resolve, invoke, builtin, Builtin.max_, hu, hq]) hv
  · cases h

theorem evFree_sound (hE : EnvOk E P) {f : FuncId} {s : St} {fr : AF} {a : Act} {o : Oper} {v : AV} (hi : ImmLt s) (ho : OpsV E s fr a o.op.operands) (h : evFree E f fr o = some v) : FreeOk P s o a v := by
  obtain ⟨dst, op, ty, pos, after, guard⟩ := o
  cases op
  case move x =>
    simp only [evFree] at h
    exact FreeOk.same (u := a.eval x) rfl (ho x (by simp [Op.operands]) v h)
  case assign x =>
    simp only [evFree] at h
    exact FreeOk.same (u := a.eval x) rfl (ho x (by simp [Op.operands]) v h)
  case pick c x y =>
    simp only [evFree] at h
    split at h
    · rename_i t hc
      have hvc := ho c (by simp [Op.operands]) _ hc
      simp only [V_lit] at hvc
      cases t
      · exact FreeOk.same (u := a.eval y) (by simp [execOp, hvc, asBool]) (ho y (by simp [Op.operands]) v (by simpa using h))
      · exact FreeOk.same (u := a.eval x) (by simp [execOp, hvc, asBool]) (ho x (by simp [Op.operands]) v (by simpa using h))
    · cases h
  case alloc t =>
    simp only [evFree] at h
    split at h
    · split at h
      · rename_i i ht
        split at h
        · rename_i hz
          injection h with h
          subst h
          exact free_alloc hE hi ht hz
        · cases h
      · cases h
    · cases h
  case box e x =>
    simp only [evFree] at h
    split at h
    · split at h
      · rename_i vx hx
        split at h
        · rename_i hs
          injection h with h
          subst h
          exact free_box hi hx hs (fun y hy => ho y (by simpa [Op.operands] using hy))
        · cases h
      · cases h
    · cases h
  case build t ps =>
    have hops : ∀ p ∈ ps.toList, ∀ y, evA E fr p.2 = some y → V s y (a.eval p.2) := fun p hp => ho p.2 (by
      simp only [Op.operands, List.mem_toArray, List.mem_map]
      exact ⟨p, hp, rfl⟩)
    simp only [evFree] at h
    split at h
    · rename_i i vs ht hv
      split at h
      · rename_i fs hk
        split at h
        · rename_i hc
          simp only [Bool.and_eq_true] at hc
          obtain ⟨ys, hf, rfl⟩ := Option.map_eq_some_iff.1 h
          exact free_build_struct hE ht hk hc.1 hc.2 hv hops hf
        · cases h
      · rename_i n e hk
        split at h
        · rename_i ie he
          split at h
          · rename_i hz
            obtain ⟨ys, hf, rfl⟩ := Option.map_eq_some_iff.1 h
            exact free_build_array hE ht hk he hz hv hops hf
          · cases h
        · cases h
      · cases h
    · cases h
  case buildSlice t n ps =>
    have hops : ∀ p ∈ ps.toList, ∀ y, evA E fr p.2 = some y → V s y (a.eval p.2) := fun p hp => ho p.2 (by
      simp only [Op.operands, List.mem_toArray, List.mem_map]
      exact ⟨p, hp, rfl⟩)
    simp only [evFree] at h
    split at h
    · split at h
      · rename_i e vs hk hv
        split at h
        · rename_i ie he
          split at h
          · rename_i hc
            simp only [Bool.and_eq_true, decide_eq_true_eq] at hc
            obtain ⟨ys, hf, rfl⟩ := Option.map_eq_some_iff.1 h
            exact free_buildSlice hE hi hk he hc.1.1 hc.1.2 hc.2 hv hops hf
          · cases h
        · cases h
      · cases h
    · cases h
  case load t x =>
    simp only [evFree] at h
    split at h
    · rename_i xs i hx ht
      exact free_load hE hx ht h (fun y hy => ho y (by simpa [Op.operands] using hy))
    · cases h
  case binOp op t x y yt =>
    simp only [evFree] at h
    split at h
    · rename_i vx vy hx hy
      exact free_binOp hE hx hy (fun z hz => ho z (by simpa [Op.operands] using hz)) h
    · cases h
  case unOp op t x =>
    simp only [evFree] at h
    split at h
    · rename_i vx hx
      exact free_unOp hx (fun z hz => ho z (by simpa [Op.operands] using hz)) h
    · cases h
  case convert src d x =>
    simp only [evFree] at h
    split at h
    · rename_i kx n ks k hx hs hd
      injection h with h
      subst h
      exact free_convert hE hx hs hd (fun z hz => ho z (by simpa [Op.operands] using hz))
    · cases h
  case nilCheck x => exact free_nilCheck rfl (fun z hz => ho z (by simpa [Op.operands] using hz)) h
  case makeFunc fn first cap => exact free_makeFunc rfl ho h
  case slice t x lo hi' mx => exact free_slice hE rfl ho h
  case fieldAddr st x k =>
    have ho' : OpsV E s fr a #[x] := fun z hz => ho z (by simpa [Op.operands] using hz)
    simp only [evFree] at h
    split at h
    · rename_i xs fs hx hk
      split at h
      · rename_i off t hf
        split at h
        · rename_i i ht
          split at h
          · cases h
          · rename_i h0
            injection h with h
            subst h
            exact free_fieldAddr_rp hE hx hk hf ht h0 ho'
        · cases h
      · cases h
    · rename_i b ver off0 fs hx hk
      split at h
      · rename_i off t hf
        split at h
        · rename_i i ht
          split at h
          · cases h
          · rename_i h0
            injection h with h
            subst h
            exact free_fieldAddr_mp hE hx hk hf ht h0 ho'
        · cases h
      · cases h
    · cases h
  case field st x k =>
    have ho' : OpsV E s fr a #[x] := fun z hz => ho z (by simpa [Op.operands] using hz)
    simp only [evFree] at h
    split at h
    · rename_i cs fs hx hk
      split at h
      · rename_i off t hf
        split at h
        · rename_i i ht
          exact free_field hE hx hk hf ht h ho'
        · cases h
      · cases h
    · cases h
  case indexAddr t x ix => exact free_indexAddr hE rfl (fun z hz => ho z (by simpa [Op.operands] using hz)) h
  case index t x ix => exact free_index hE rfl (fun z hz => ho z (by simpa [Op.operands] using hz)) h
  case extract x k => exact free_extract rfl (fun z hz => ho z (by simpa [Op.operands] using hz)) h
  case call c =>
    obtain ⟨callee, args, tys⟩ := c
    cases callee
    case builtin b =>
      cases b
      case len => exact free_len hE rfl ho h
      case min => exact free_min rfl ho h
      case max => exact free_max rfl ho h
      all_goals (simp only [evFree] at h; cases h)
    all_goals (simp only [evFree] at h; cases h)
  all_goals (simp only [evFree] at h; cases h)

end
end Go.Abs
