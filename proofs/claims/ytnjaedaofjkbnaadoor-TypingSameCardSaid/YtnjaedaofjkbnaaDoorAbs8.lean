/- Rules by which abstract runs are told; the tables that a program itself gives. Conditions: none; a text of definitions and laws. -/
import Derived.Test.YtnjaedaofjkbnaaDoorAbs7
set_option linter.unusedVariables false
set_option linter.unusedSimpArgs false
namespace Go.Abs
open Go Go.RowKit

/-! ### The program's own tables -/
def kindOfDesc : TypeDesc → TK
  | .int k => .int k
  | .bool => .bool
  | .string => .string
  | .slice e => .slice e
  | .array n e => .array n e
  | .struct fs => .struct (fs.toList.map fun f => (f.offset, f.type))
  | .map k e => .map k e
  | .pointer _ => .ptr
  | .func _ _ _ => .func
  | _ => .other

theorem kindOfDesc_fits (d : TypeDesc) : (kindOfDesc d).fits d = true := by
  cases d <;> simp [kindOfDesc, TK.fits]

def tyOf (P : Program) (t : TypeId) : Option TI :=
  match P.info? t, P.underlying t with
  | some info, some d => info.zero.map fun z => ⟨kindOfDesc d, info.size, info.bytes, z⟩
  | _, _ => none

def fnOf (P : Program) (f : FuncId) : Option AFn :=
  match P.funcs[f]? with
  | some fn => if fn.name == "runtime.NumGoroutine" then none else fn.body.map fun c => ⟨fn.ntmps, c, fn.results.toList⟩
  | none => none

def Env.of (P : Program) (G : Nat → Option (List AV)) (pol : FuncId → Nat → Nat) (prim : FuncId → List AV → AHeap → AV → AHeap → Prop := fun _ _ _ _ _ => False) : Env := ⟨tyOf P, fnOf P, G, pol, prim⟩

theorem Env.ok {P : Program} {G : Nat → Option (List AV)} {pol : FuncId → Nat → Nat} {prim : FuncId → List AV → AHeap → AV → AHeap → Prop} (hm : P.follows .mixedOrders = true) (hG : ∀ g xs, G g = some xs → AV.closedL xs = true) (hs : 0 < P.types.size) : EnvOk (Env.of P G pol prim) P := by
  refine ⟨fun t i h => ?_, fun f F h => ?_, hm, hG, hs⟩
  · simp only [Env.of, tyOf] at h
    split at h
    · rename_i info d h1 h2
      obtain ⟨z, hz, rfl⟩ := Option.map_eq_some_iff.1 h
      exact ⟨info, d, h1, h2, kindOfDesc_fits d, rfl, rfl, hz⟩
    · cases h
  · simp only [Env.of, fnOf] at h
    split at h
    · rename_i fn h1
      split at h
      · cases h
      · rename_i h2
        obtain ⟨c, hc, rfl⟩ := Option.map_eq_some_iff.1 h
        exact ⟨fn, h1, hc, rfl, rfl, by simpa using h2⟩
    · cases h

theorem fnOf_eq {P : Program} {f : FuncId} {fn : Func} {F : AFn} (h : P.funcs[f]? = some fn) (h2 : (if fn.name == "runtime.NumGoroutine" then none else fn.body.map fun c => (⟨fn.ntmps, c, fn.results.toList⟩ : AFn)) = some F) : fnOf P f = some F := by
  simp only [fnOf, h]
  exact h2

/-! ### Runs -/
/-- A call in an empty heap, its answer read whole. -/
def PFn (E : Env) (f : FuncId) (args : List AV) (r : AV) : Prop := ∃ ws v h1 n r0, WkL args ws ∧ Ev E (.call f ws [] v h1) ∧ rdv h1 n v = some r0 ∧ r0.closed = true ∧ Wk r0 r
theorem PFn.wk {E : Env} {f : FuncId} {args args' : List AV} {r r' : AV} (h : PFn E f args r) (ha : WkL args' args) (hr : Wk r r') : PFn E f args' r' := let ⟨ws, v, h1, n, r0, a, b, c, d, e⟩ := h; ⟨ws, v, h1, n, r0, ha.trans a, b, c, d, e.trans hr⟩
def RunsC (E : Env) (f : FuncId) (N : Nat) (c : Code) (fr : AF) (h : AHeap) (Q : AEx → AF → AHeap → Prop) : Prop := ∃ ex fr' h', Ev E (.code f N c fr h ex fr' h') ∧ Q ex fr' h'
def RunsO (E : Env) (f : FuncId) (N : Nat) (all : Array Oper) (os : List Oper) (fr : AF) (h : AHeap) (K : List Cls → AF → AHeap → Prop) : Prop := ∃ cs fr' h', Ev E (.ops f N all os fr h cs fr' h') ∧ K cs fr' h'
/-- What comes of an exit: on to the next, or out. -/
def thenQ (K : AF → AHeap → Prop) (Q : AEx → AF → AHeap → Prop) : AEx → AF → AHeap → Prop := fun ex fr h => match ex with | .normal => K fr h | ex => Q ex fr h
def blockQ (id : Nat) (Q : AEx → AF → AHeap → Prop) : AEx → AF → AHeap → Prop := fun ex fr h => match ex with | .exit i => if i = id then Q .normal fr h else Q (.exit i) fr h | ex => Q ex fr h

section
variable {E : Env} {f : FuncId} {N : Nat} {fr : AF} {h : AHeap} {Q : AEx → AF → AHeap → Prop}

theorem runs_mono {c : Code} {Q' : AEx → AF → AHeap → Prop} (hr : RunsC E f N c fr h Q') (hq : ∀ ex fr h, Q' ex fr h → Q ex fr h) : RunsC E f N c fr h Q := let ⟨ex, fr', h', h1, h2⟩ := hr; ⟨ex, fr', h', h1, hq _ _ _ h2⟩
theorem runs_skip (hq : Q .normal fr h) : RunsC E f N .skip fr h Q := ⟨_, _, _, .skip, hq⟩
theorem runs_label {l : Nat} (hq : Q .normal fr h) : RunsC E f N (.label l) fr h Q := ⟨_, _, _, .label, hq⟩
theorem runs_ret (hq : Q .ret fr h) : RunsC E f N .ret fr h Q := ⟨_, _, _, .ret, hq⟩
theorem runs_exit {id : Nat} (hq : Q (.exit id) fr h) : RunsC E f N (.exit id) fr h Q := ⟨_, _, _, .exit, hq⟩
theorem runs_seq {a b : Code} (hr : RunsC E f N a fr h (thenQ (fun fr h => RunsC E f N b fr h Q) Q)) : RunsC E f N (.seq a b) fr h Q := by
  obtain ⟨ex, fr1, h1, he, hq⟩ := hr
  cases ex with
  | normal => obtain ⟨ex2, fr2, h2, he2, hq2⟩ := hq; exact ⟨ex2, fr2, h2, .seqN he he2, hq2⟩
  | exit id => exact ⟨_, fr1, h1, .seqX (by simp) he, hq⟩
  | ret => exact ⟨_, fr1, h1, .seqX (by simp) he, hq⟩
theorem runs_cond {c : Operand} {a b : Code} {t : Bool} (hc : evA E fr c = some (.lit (.bool t))) (hr : RunsC E f N (if t then a else b) fr h Q) : RunsC E f N (.cond c a b) fr h Q := by
  obtain ⟨ex, fr1, h1, he, hq⟩ := hr
  cases t with
  | true => exact ⟨ex, fr1, h1, .condT hc he, hq⟩
  | false => exact ⟨ex, fr1, h1, .condF hc he, hq⟩
theorem runs_condT {c : Operand} {a b : Code} (hc : evA E fr c = some (.lit (.bool true))) (hr : RunsC E f N a fr h Q) : RunsC E f N (.cond c a b) fr h Q := runs_cond hc hr
theorem runs_condF {c : Operand} {a b : Code} (hc : evA E fr c = some (.lit (.bool false))) (hr : RunsC E f N b fr h Q) : RunsC E f N (.cond c a b) fr h Q := runs_cond hc hr
theorem runs_block {id : Nat} {a : Code} (hr : RunsC E f N a fr h (blockQ id Q)) : RunsC E f N (.block id a) fr h Q := by
  obtain ⟨ex, fr1, h1, he, hq⟩ := hr
  cases ex with
  | normal => exact ⟨_, fr1, h1, .blockO (by simp) he, hq⟩
  | ret => exact ⟨_, fr1, h1, .blockO (by simp) he, hq⟩
  | exit i =>
    simp only [blockQ] at hq
    split at hq
    · rename_i e; subst e; exact ⟨_, fr1, h1, .blockX he, hq⟩
    · rename_i e; exact ⟨_, fr1, h1, .blockO (fun h => e (by injection h)) he, hq⟩
theorem runs_scope {a : Code} (hr : RunsC E f N a fr h Q) : RunsC E f N (.scope a) fr h Q := let ⟨ex, fr1, h1, he, hq⟩ := hr; ⟨ex, fr1, h1, .scope he, hq⟩
theorem runs_loop {a : Code} (hr : RunsC E f N a fr h (thenQ (fun fr h => RunsC E f N (.loop a) fr h Q) Q)) : RunsC E f N (.loop a) fr h Q := by
  obtain ⟨ex, fr1, h1, he, hq⟩ := hr
  cases ex with
  | normal => obtain ⟨ex2, fr2, h2, he2, hq2⟩ := hq; exact ⟨ex2, fr2, h2, .loopN he he2, hq2⟩
  | exit id => exact ⟨_, fr1, h1, .loopX (by simp) he, hq⟩
  | ret => exact ⟨_, fr1, h1, .loopX (by simp) he, hq⟩
theorem runs_region {id : Nat} {os : List Oper} (hr : RunsO E f N os.toArray os fr h (fun _ fr h => Q .normal fr h)) : RunsC E f N (.region id os.toArray false) fr h Q := by
  obtain ⟨cs, fr1, h1, he, hq⟩ := hr
  exact ⟨_, fr1, h1, .region he, hq⟩
theorem runs_draw {id : Nat} {os : List Oper} (hr : RunsO E f N os.toArray os fr h (fun cs fr h => drawOk os.toArray cs = true ∧ Q .normal fr h)) : RunsC E f N (.region id os.toArray true) fr h Q := by
  obtain ⟨cs, fr1, h1, he, hq⟩ := hr
  exact ⟨_, fr1, h1, .draw he hq.1, hq.2⟩

variable {all : Array Oper} {o : Oper} {os : List Oper} {K : List Cls → AF → AHeap → Prop}
theorem ops_nil (hk : K [] fr h) : RunsO E f N all [] fr h K := ⟨_, _, _, .nil, hk⟩
theorem ops_op {v : AV} {h1 : AHeap} {c : Cls} (hw : wantedA all o fr = some true) (hd : dstOk N o = true) (he : Ev E (.op f fr h o v h1 c)) (hr : RunsO E f N all os (updO fr o.dst v) h1 (fun cs => K (c :: cs))) : RunsO E f N all (o :: os) fr h K := by
  obtain ⟨cs, fr1, h2, he2, hq⟩ := hr
  exact ⟨_, fr1, h2, .cons hw hd he he2, hq⟩
theorem ops_skip (hw : wantedA all o fr = some false) (hd : dstOk N o = true) (hr : RunsO E f N all os (updO fr o.dst .undef) h (fun cs => K (.F :: cs))) : RunsO E f N all (o :: os) fr h K := by
  obtain ⟨cs, fr1, h2, he2, hq⟩ := hr
  exact ⟨_, fr1, h2, .skipOp hw hd he2, hq⟩
theorem ops_free {v : AV} (hw : wantedA all o fr = some true) (hd : dstOk N o = true) (he : evFree E f fr o = some v) (hr : RunsO E f N all os (updO fr o.dst v) h (fun cs => K (.F :: cs))) : RunsO E f N all (o :: os) fr h K := ops_op hw hd (.free he) hr
theorem ops_heap {v : AV} {h1 : AHeap} (hw : wantedA all o fr = some true) (hd : dstOk N o = true) (he : evHeap E f fr h o = some (v, h1)) (hr : RunsO E f N all os (updO fr o.dst v) h1 (fun cs => K (clsH o :: cs))) : RunsO E f N all (o :: os) fr h K := ops_op hw hd (.heap he) hr

/-- A call of a function, by its contract. -/
def callee (E : Env) (fr : AF) (o : Oper) : Option (FuncId × List AV) :=
  match o.op with
  | .call { callee := .value fo, args, .. } => match evA E fr fo, evArgs E fr args.toList with
    | some (.fn g cap), some vs => some (g, vs ++ cap)
    | _, _ => none
  | _ => none

theorem callee_spec {g : FuncId} {ws : List AV} (hc : callee E fr o = some (g, ws)) : ∃ fo args tys cap vs, o.op = .call { callee := .value fo, args := args, argTypes := tys } ∧ evA E fr fo = some (.fn g cap) ∧ evArgs E fr args.toList = some vs ∧ ws = vs ++ cap := by
  unfold callee at hc
  split at hc
  · rename_i fo args tys hop
    split at hc
    · rename_i g' cap vs h1 h2
      injection hc with hc
      simp only [Prod.mk.injEq] at hc
      obtain ⟨rfl, rfl⟩ := hc
      exact ⟨fo, args, tys, cap, vs, hop, h1, h2, rfl⟩
    · cases hc
  · cases hc

theorem ops_pcall {g : FuncId} {ws : List AV} {r : AV} (hw : wantedA all o fr = some true) (hd : dstOk N o = true) (hc : callee E fr o = some (g, ws)) (hcl : AV.closedL ws = true) (hp : PFn E g ws r) (hr : RunsO E f N all os (updO fr o.dst r) h (fun cs => K (.F :: cs))) : RunsO E f N all (o :: os) fr h K := by
  obtain ⟨fo, args, tys, cap, vs, h1, h2, h3, rfl⟩ := callee_spec hc
  obtain ⟨ws', v, hh, n, r0, hwl, he, hrd, hrc, hwk⟩ := hp
  exact ops_op hw hd (.pcall h1 h2 h3 hcl hwl he hrd hrc hwk) hr
theorem ops_icall {g : FuncId} {ws : List AV} {v : AV} {h1 : AHeap} (hw : wantedA all o fr = some true) (hd : dstOk N o = true) (hc : callee E fr o = some (g, ws)) (he : Ev E (.call g ws h v h1)) (hr : RunsO E f N all os (updO fr o.dst v) h1 (fun cs => K (.W :: cs))) : RunsO E f N all (o :: os) fr h K := by
  obtain ⟨fo, args, tys, cap, vs, g1, g2, g3, rfl⟩ := callee_spec hc
  exact ops_op hw hd (.icall g1 g2 g3 he) hr
/-- A function's contract. -/
theorem pfn_of {args : List AV} {r : AV} {F : AFn} (hF : E.fn f = some F) (hl : args.length ≤ F.N) (hr : RunsC E f F.N F.code (initF args) [] (fun ex fr h => (ex = .normal ∨ ex = .ret) ∧ ∃ vs n, evRes E fr h F.res = some vs ∧ rdv h n (oneOrTup vs) = some r ∧ r.closed = true)) : PFn E f args r := by
  obtain ⟨ex, fr', h', he, hex, vs, n, h1, h2, h3⟩ := hr
  exact ⟨_, _, h', n, _, .refl _, .call hF hl he hex h1, h2, h3, .refl _⟩

theorem rdv_closed {h : AHeap} {v : AV} (hv : v.closed = true) : rdv h 1 v = some v := by simp [rdv, hv]
end

@[simp] theorem upd_same {fr : AF} {d : Nat} {v : AV} : upd fr d v d = v := by simp [upd]
theorem upd_ne {fr : AF} {d t : Nat} {v : AV} (h : t ≠ d) : upd fr d v t = fr t := by simp [upd, h]
@[simp] theorem updO_some {fr : AF} {d : Nat} {v : AV} : updO fr (some d) v = upd fr d v := rfl
@[simp] theorem updO_none {fr : AF} {v : AV} : updO fr none v = fr := rfl

end Go.Abs
