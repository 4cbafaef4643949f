/- The abstract run of code, as a relation, and that Go's model runs so whatever the tape says. Conditions: the tables of types and functions fit the program (EnvOk). -/
import Derived.Test.YtnjaedaofjkbnaaDoorAbs5
set_option linter.unusedVariables false
set_option linter.unusedSimpArgs false
namespace Go.Abs
open Go Go.RowKit

inductive AEx where | normal | exit (id : Nat) | ret
  deriving DecidableEq

def wantedA (ops : Array Oper) (o : Oper) (fr : AF) : Option Bool :=
  match o.guard with
  | none => some true
  | some (j, want) => match (ops[j]?).bind (·.dst) with
    | some t => match fr t with | .lit (.bool b) => some (b == want) | .lit (.tuple _) => some false | _ => none
    | none => none

def dstOk (N : Nat) (o : Oper) : Bool := match o.dst with | some d => decide (d < N) | none => true

/-- Which operations stand ahead of each, as bits. -/
def befStep (acc : List Nat) (o : Oper) : Nat := o.after.toList.foldl (fun s e => if Region.binds .any e then s ||| (2 ^ e.on ||| acc.getD e.on 0) else s) 0
def befAux : List Oper → List Nat → List Nat
  | [], acc => acc
  | o :: os, acc => befAux os (acc ++ [befStep acc o])
def beforeL (ops : List Oper) : List Nat := befAux ops []

def evRes1 (E : Env) (fr : AF) (h : AHeap) : ResultVar → Option AV
  | .tmp t => some (fr t)
  | .cell p t => match fr p, E.ty t with
    | .rp xs, some i => takeT i xs
    | .mp b v off, some i => match getCells h b v with | some xs => takeT i (xs.drop off) | none => none
    | _, _ => none
def evRes (E : Env) (fr : AF) (h : AHeap) : List ResultVar → Option (List AV)
  | [] => some []
  | r :: rs => match evRes1 E fr h r, evRes E fr h rs with | some v, some vs => some (v :: vs) | _, _ => none
def oneOrTup : List AV → AV
  | [v] => v
  | vs => .tup vs

def initF (args : List AV) : AF := fun t => args.getD t .undef

inductive J where
  | call (f : FuncId) (args : List AV) (h : AHeap) (v : AV) (h' : AHeap)
  | op (f : FuncId) (fr : AF) (h : AHeap) (o : Oper) (v : AV) (h' : AHeap) (c : Cls)
  | ops (f : FuncId) (N : Nat) (all : Array Oper) (os : List Oper) (fr : AF) (h : AHeap) (cs : List Cls) (fr' : AF) (h' : AHeap)
  | code (f : FuncId) (N : Nat) (c : Code) (fr : AF) (h : AHeap) (ex : AEx) (fr' : AF) (h' : AHeap)

/-- Of a region that draws its order: no two operations that want to be in order are without one. -/
def drawOk0 (all : Array Oper) (cs : List Cls) : Bool :=
  let b := beforeL all.toList
  (List.range all.size).all fun i => match all[i]? with
    | none => true
    | some oi => (oi.after.all fun e => !Region.binds .any e || decide (e.on < i)) &&
      (List.range all.size).all fun j => i == j || match all[j]? with
        | none => true
        | some oj =>
          -- the slot of i, looked at by j
          (match oi.dst with
            | some d => oj.dst != some d && (!(oj.looksAt all).contains d || (if i < j then (b.getD j 0).testBit i else (b.getD i 0).testBit j))
            | none => true) &&
          -- what writes, and what reads or writes
          (match cs.getD i .F, cs.getD j .F with
            | .W, .W => (if i < j then (b.getD j 0).testBit i else (b.getD i 0).testBit j)
            | .W, .R => (if i < j then (b.getD j 0).testBit i else (b.getD i 0).testBit j)
            | _, _ => true)

/-- A fresh place that nothing guards. -/
def isNew (o : Oper) : Bool := match o.op with
  | .alloc _ => true
  | .makeSlice .. => true
  | _ => false
def isAl (o : Oper) : Bool := match o.guard, o.dst with
  | none, some _ => isNew o
  | _, _ => false
def Cls.isW : Cls → Bool
  | .W => true
  | _ => false
def Cls.isF : Cls → Bool
  | .F => true
  | _ => false
def alAt (all : Array Oper) (cs : List Cls) (i : Nat) : Bool := match all[i]? with
  | some o => isAl o && (cs.getD i .F).isW
  | none => false
/-- The same, where fresh places may be made in any order, ahead of all else that looks at the heap. -/
def drawOkA (all : Array Oper) (cs : List Cls) : Bool :=
  let b := beforeL all.toList
  let m := (List.range all.size).foldl (fun m i => if alAt all cs i then i + 1 else m) 0
  ((List.range all.size).all fun i => (!alAt all cs i || decide (i < m)) && (!decide (i < m) || !(cs.getD i .F).isW || alAt all cs i)) &&
  (List.range all.size).all fun i => match all[i]? with
    | none => true
    | some oi => (oi.after.all fun e => !Region.binds .any e || decide (e.on < i)) &&
      (List.range all.size).all fun j => i == j || match all[j]? with
        | none => true
        | some oj =>
          (match oi.dst with
            | some d => oj.dst != some d && (!(oj.looksAt all).contains d || (if i < j then (b.getD j 0).testBit i else (b.getD i 0).testBit j)) && (!alAt all cs i || !((cs.getD j .F).isF || alAt all cs j) || !(oj.looksAt all).contains d || (!alAt all cs j && (List.range all.size).all fun k => !alAt all cs k || (b.getD j 0).testBit k))
            | none => true) &&
          (!alAt all cs i || alAt all cs j || (cs.getD j .F).isF || decide (i < j)) &&
          (!(cs.getD i .F).isW || (cs.getD j .F).isF || (alAt all cs i && alAt all cs j) || (if i < j then (b.getD j 0).testBit i else (b.getD i 0).testBit j))
def drawOk (all : Array Oper) (cs : List Cls) : Bool := drawOk0 all cs || drawOkA all cs

inductive Ev (E : Env) : J → Prop where
  | free {f fr h o v} : evFree E f fr o = some v → Ev E (.op f fr h o v h .F)
  | heap {f fr h o v h'} : evHeap E f fr h o = some (v, h') → Ev E (.op f fr h o v h' (clsH o))
  | pcall {f fr h o fo args tys g cap vs ws v h1 n r r'} : o.op = .call { callee := .value fo, args := args, argTypes := tys } → evA E fr fo = some (.fn g cap) → evArgs E fr args.toList = some vs → AV.closedL (vs ++ cap) = true →
      WkL (vs ++ cap) ws → Ev E (.call g ws [] v h1) → rdv h1 n v = some r → r.closed = true → Wk r r' → Ev E (.op f fr h o r' h .F)
  | icall {f fr h o fo args tys g cap vs v h'} : o.op = .call { callee := .value fo, args := args, argTypes := tys } → evA E fr fo = some (.fn g cap) → evArgs E fr args.toList = some vs →
      Ev E (.call g (vs ++ cap) h v h') → Ev E (.op f fr h o v h' .W)
  | bcall {f fr h o fo args tys g cap vs ws ws' v h1 n n' r0 r} : o.op = .call { callee := .value fo, args := args, argTypes := tys } → evA E fr fo = some (.fn g cap) → evArgs E fr args.toList = some vs → rdvL h n (vs ++ cap) = some ws → AV.closedL ws = true →
      WkL ws ws' → Ev E (.call g ws' [] v h1) → rdv h1 n' v = some r0 → r0.closed = true → Wk r0 r → r.flats = true → Ev E (.op f fr h o r h .R)
  | nil {f N all fr h} : Ev E (.ops f N all [] fr h [] fr h)
  | cons {f N all o os fr h v h1 c cs fr' h'} : wantedA all o fr = some true → dstOk N o = true → Ev E (.op f fr h o v h1 c) → Ev E (.ops f N all os (updO fr o.dst v) h1 cs fr' h') → Ev E (.ops f N all (o :: os) fr h (c :: cs) fr' h')
  | skipOp {f N all o os fr h cs fr' h'} : wantedA all o fr = some false → dstOk N o = true → Ev E (.ops f N all os (updO fr o.dst .undef) h cs fr' h') → Ev E (.ops f N all (o :: os) fr h (.F :: cs) fr' h')
  | skip {f N fr h} : Ev E (.code f N .skip fr h .normal fr h)
  | label {f N l fr h} : Ev E (.code f N (.label l) fr h .normal fr h)
  | ret {f N fr h} : Ev E (.code f N .ret fr h .ret fr h)
  | exit {f N id fr h} : Ev E (.code f N (.exit id) fr h (.exit id) fr h)
  | region {f N id os fr h cs fr' h'} : Ev E (.ops f N os os.toList fr h cs fr' h') → Ev E (.code f N (.region id os false) fr h .normal fr' h')
  | draw {f N id os fr h cs fr' h'} : Ev E (.ops f N os os.toList fr h cs fr' h') → drawOk os cs = true → Ev E (.code f N (.region id os true) fr h .normal fr' h')
  | seqN {f N a b fr h fr1 h1 ex fr' h'} : Ev E (.code f N a fr h .normal fr1 h1) → Ev E (.code f N b fr1 h1 ex fr' h') → Ev E (.code f N (.seq a b) fr h ex fr' h')
  | seqX {f N a b fr h ex fr' h'} : ex ≠ .normal → Ev E (.code f N a fr h ex fr' h') → Ev E (.code f N (.seq a b) fr h ex fr' h')
  | condT {f N c a b fr h ex fr' h'} : evA E fr c = some (.lit (.bool true)) → Ev E (.code f N a fr h ex fr' h') → Ev E (.code f N (.cond c a b) fr h ex fr' h')
  | condF {f N c a b fr h ex fr' h'} : evA E fr c = some (.lit (.bool false)) → Ev E (.code f N b fr h ex fr' h') → Ev E (.code f N (.cond c a b) fr h ex fr' h')
  | blockX {f N id a fr h fr' h'} : Ev E (.code f N a fr h (.exit id) fr' h') → Ev E (.code f N (.block id a) fr h .normal fr' h')
  | blockO {f N id a fr h ex fr' h'} : ex ≠ .exit id → Ev E (.code f N a fr h ex fr' h') → Ev E (.code f N (.block id a) fr h ex fr' h')
  | freeze {f N c fr h ex fr' h' t b ver off n sz xs} : fr t = .ms b ver off n sz → getCells h b ver = some xs → off + n * sz ≤ xs.length →
      Ev E (.code f N c (upd fr t (.ro n ((xs.drop off).take (n * sz)))) (h.set b (.dead (ver + 1))) ex fr' h') → Ev E (.code f N c fr h ex fr' h')
  | scope {f N a fr h ex fr' h'} : Ev E (.code f N a fr h ex fr' h') → Ev E (.code f N (.scope a) fr h ex fr' h')
  | loopN {f N a fr h fr1 h1 ex fr' h'} : Ev E (.code f N a fr h .normal fr1 h1) → Ev E (.code f N (.loop a) fr1 h1 ex fr' h') → Ev E (.code f N (.loop a) fr h ex fr' h')
  | loopX {f N a fr h ex fr' h'} : ex ≠ .normal → Ev E (.code f N a fr h ex fr' h') → Ev E (.code f N (.loop a) fr h ex fr' h')
  | call {f F args h ex fr' h' vs} : E.fn f = some F → args.length ≤ F.N → Ev E (.code f F.N F.code (initF args) h ex fr' h') → (ex = .normal ∨ ex = .ret) → evRes E fr' h' F.res = some vs → Ev E (.call f args h (oneOrTup vs) h')
  | prim {f F args h v h'} : E.fn f = some F → E.prim f args h v h' → Ev E (.call f args h v h')

/-! ### Frames -/
structure FR (N : Nat) (s : St) (fr : AF) (a : Act) : Prop where
  defers : a.defers = []
  size : a.tmps.size = N
  val : ∀ t, V s (fr t) (a.tmps.getD t Go.undef)

section
variable {P : Program} {E : Env}

theorem FR.mono {N : Nat} {s s' : St} {fr : AF} {a : Act} (h : FR N s fr a) (hx : Ext s s') : FR N s' fr a := ⟨h.defers, h.size, fun t => V.mono hx _ _ (h.val t)⟩

theorem FR.eval {N : Nat} {s : St} {fr : AF} {a : Act} {hp : AHeap} (h : FR N s fr a) (hR : R E s hp) (x : Operand) (y : AV) (hy : evA E fr x = some y) : V s y (a.eval x) := by
  cases x with
  | tmp t =>
    simp only [evA, Option.some.injEq] at hy
    subst hy
    exact h.val t
  | const v =>
    simp only [evA, Option.some.injEq] at hy
    subst hy
    simp [Act.eval]
  | global g =>
    simp only [evA] at hy
    obtain ⟨xs, hx, rfl⟩ := Option.map_eq_some_iff.1 hy
    exact hR.glob g xs hx
  | func f =>
    simp only [evA, Option.some.injEq] at hy
    subst hy
    simp only [V, Act.eval]
    exact ⟨[], rfl, by simp⟩

theorem FR.put {N : Nat} {s : St} {fr : AF} {a : Act} {o : Oper} {v : AV} {u : Value} (h : FR N s fr a) (hd : dstOk N o = true) (hv : V s v u) : FR N s (updO fr o.dst v) (a.put o.dst u) := by
  cases hdst : o.dst with
  | none => exact h
  | some d =>
    simp only [dstOk, hdst, decide_eq_true_eq] at hd
    refine ⟨h.defers, by simp [Act.put, h.size], fun t => ?_⟩
    simp only [updO, upd, Act.put]
    by_cases ht : t = d
    · subst ht
      have hlt : t < a.tmps.size := by rw [h.size]; exact hd
      simp [hlt]
      exact hv
    · rw [if_neg ht]
      have := h.val t
      simpa [Array.getElem?_setIfInBounds_ne (Ne.symm ht)] using this

theorem wanted_eq {N : Nat} {s : St} {fr : AF} {a : Act} {all : Array Oper} {o : Oper} {b : Bool} (hv : ∀ t, (∃ j want, o.guard = some (j, want) ∧ (all[j]?).bind (·.dst) = some t) → V s (fr t) (a.tmps.getD t Go.undef)) (h : wantedA all o fr = some b) : Region.wanted o (yielded all a.tmps) = b := by
  unfold wantedA at h
  unfold Region.wanted
  split at h
  · rename_i hg
    injection h with h
    rw [hg]
    exact h
  · rename_i j want hg
    rw [hg]
    split at h
    · rename_i t ht
      split at h
      · rename_i c hc
        injection h with h
        have hvt := hv t ⟨j, want, hg, ht⟩
        rw [hc] at hvt
        simp only [V_lit] at hvt
        have hy : yielded all a.tmps j = some c := by
          unfold yielded
          rw [ht]
          simp only [Option.bind_some]
          cases hq : a.tmps[t]? with
          | none => simp [hq, Go.undef] at hvt
          | some q =>
            simp [hq] at hvt
            subst hvt
            rfl
        simp only [hy]
        rw [← h]
        rfl
      · rename_i c hc
        injection h with h
        have hvt := hv t ⟨j, want, hg, ht⟩
        rw [hc] at hvt
        simp only [V_lit] at hvt
        have hy : yielded all a.tmps j = none := by
          unfold yielded
          rw [ht]
          simp only [Option.bind_some]
          cases hq : a.tmps[t]? with
          | none => rfl
          | some q =>
            simp [hq] at hvt
            subst hvt
            rfl
        simp only [hy]
        rw [← h]
        rfl
      · cases h
    · cases h

/-! ### What each judgement says of the model -/
/-- What an operation that makes a fresh place makes: its value, by the place's number, and its cells. -/
def FreshO (E : Env) (fr : AF) (o : Oper) (mk : Nat → AV) (xs : List AV) : Prop :=
  (∃ t i, o.op = .alloc t ∧ E.ty t = some i ∧ zeroOk i = true ∧ mk = (fun b => .mp b 0 0) ∧ xs = (AV.ofV i.zero).cells) ∨
  (∃ t x y e ie kl kc l c, o.op = .makeSlice t x y ∧ kindOf E t = .slice e ∧ evA E fr x = some (.lit (.int kl l)) ∧ evA E fr y = some (.lit (.int kc c)) ∧ E.ty e = some ie ∧ zeroOk ie = true ∧ 0 < ie.size ∧ 0 ≤ l ∧ l ≤ c ∧
    (ie.bytes : Int) * c ≤ 281474976710656 ∧ c ≤ 9223372036854775807 ∧ mk = (fun b => .ms b 0 0 l.toNat ie.size) ∧ xs = zerosA l.toNat ie.zero)
theorem FreshO.same {E : Env} {fr : AF} {o : Oper} {mk mk' : Nat → AV} {xs xs' : List AV} (h : FreshO E fr o mk xs) (h' : FreshO E fr o mk' xs') : mk' = mk ∧ xs' = xs := by
  rcases h with ⟨t, i, a1, a2, a3, a4, a5⟩ | ⟨t, x, y, e, ie, kl, kc, l, c, a1, a2, a3, a4, a5, a6, a7, a8, a9, a10, a11, a12, a13⟩
  · rcases h' with ⟨t', i', b1, b2, b3, b4, b5⟩ | ⟨t', x', y', e', ie', kl', kc', l', c', b1, _⟩
    · rw [a1] at b1
      injection b1 with b1
      subst b1
      rw [a2] at b2
      injection b2 with b2
      subst b2
      exact ⟨b4.trans a4.symm, b5.trans a5.symm⟩
    · rw [a1] at b1; cases b1
  · rcases h' with ⟨t', i', b1, _⟩ | ⟨t', x', y', e', ie', kl', kc', l', c', b1, b2, b3, b4, b5, b6, b7, b8, b9, b10, b11, b12, b13⟩
    · rw [a1] at b1; cases b1
    · rw [a1] at b1
      injection b1 with q1 q2 q3
      subst q1
      subst q2
      rw [a2] at b2
      injection b2 with b2
      subst b2
      rw [a5] at b5
      injection b5 with b5
      subst b5
      rw [a3] at b3
      injection b3 with b3
      injection b3 with b3
      injection b3 with _ b3
      subst b3
      exact ⟨b12.trans a12.symm, b13.trans a13.symm⟩
/-- What comes of a fresh place. -/
def AllocF (E : Env) (fr : AF) (h : AHeap) (o : Oper) (v : AV) (h' : AHeap) (c : Cls) : Prop :=
  c = .W → isNew o = true → ∃ mk xs, FreshO E fr o mk xs ∧ v = mk h.length ∧ h' = h ++ [.cells 0 xs]
theorem AllocF.of_ne {E : Env} {fr : AF} {h h' : AHeap} {o : Oper} {v : AV} {c : Cls} (hc : c ≠ .W) : AllocF E fr h o v h' c := fun h => absurd h hc
def OpS (P : Program) (E : Env) (fr : AF) (h : AHeap) (o : Oper) (v : AV) (h' : AHeap) (c : Cls) : Prop :=
  ((c ≠ .W → h' = h) ∧ AllocF E fr h o v h' c) ∧
  ∀ (s : St) (a : Act) (H H' : AHeap), ((c = .F ∧ H' = H) ∨ (H = h ∧ H' = h')) → R E s H → OpsV E s fr a o.op.operands →
    ∀ (K : Act → World → Prop) (Q : Exit → Act → World → Prop), (∀ u s', Step s s' → R E s' H' → V s' v u → K (a.put o.dst u) s'.w) → o.wp P a s.w K Q

def CallS (P : Program) (E : Env) (f : FuncId) (args : List AV) (h : AHeap) (v : AV) (h' : AHeap) : Prop :=
  ∀ (s : St) (us : List Value), R E s h → VL s args us → Calls P f us.toArray s.w fun e w' => ∃ u s', e = .returned u ∧ s'.w = w' ∧ Step s s' ∧ R E s' h' ∧ V s' v u

def OpsS (P : Program) (E : Env) (N : Nat) (all : Array Oper) : List Oper → AF → AHeap → List Cls → AF → AHeap → Prop
  | [], fr, h, cs, fr', h' => cs = [] ∧ fr' = fr ∧ h' = h
  | o :: os, fr, h, cs, fr', h' => ∃ v h1 c cs', cs = c :: cs' ∧ dstOk N o = true ∧ ((wantedA all o fr = some true ∧ OpS P E fr h o v h1 c) ∨ (wantedA all o fr = some false ∧ v = .undef ∧ h1 = h ∧ c = .F)) ∧ OpsS P E N all os (updO fr o.dst v) h1 cs' fr' h'

def concEx : AEx → Exit
  | .normal => .normal
  | .exit id => .exit id
  | .ret => .ret

def CodeS (P : Program) (E : Env) (N : Nat) (c : Code) (fr : AF) (h : AHeap) (ex : AEx) (fr' : AF) (h' : AHeap) : Prop :=
  ∀ (s : St) (a : Act), R E s h → FR N s fr a → ∀ Q : Exit → Act → World → Prop, (∀ s' a', Step s s' → R E s' h' → FR N s' fr' a' → Q (concEx ex) a' s'.w) → c.wp P Q a s.w

def Sound (P : Program) (E : Env) : J → Prop
  | .call f args h v h' => CallS P E f args h v h'
  | .op _ fr h o v h' c => OpS P E fr h o v h' c
  | .ops _ N all os fr h cs fr' h' => OpsS P E N all os fr h cs fr' h'
  | .code _ N c fr h ex fr' h' => CodeS P E N c fr h ex fr' h'

theorem sound_free (hE : EnvOk E P) {f : FuncId} {fr : AF} {h : AHeap} {o : Oper} {v : AV} (he : evFree E f fr o = some v) : OpS P E fr h o v h .F := by
  refine ⟨⟨fun _ => rfl, .of_ne (by simp)⟩, fun s a H H' hH hR ho K Q hK => ?_⟩
  have hHH : H' = H := by rcases hH with ⟨_, h⟩ | ⟨h1, h2⟩ <;> simp_all
  subst hHH
  obtain ⟨u, s', hr, hq, hv⟩ := evFree_sound hE hR.immlt ho he
  unfold Oper.wp
  rw [hr]
  exact hK u s' (hq.step hR.immlt) (hR.quiet hq) hv

theorem sound_heap (hE : EnvOk E P) {f : FuncId} {fr : AF} {h h' : AHeap} {o : Oper} {v : AV} (he : evHeap E f fr h o = some (v, h')) : OpS P E fr h o v h' (clsH o) := by
  refine ⟨⟨fun hc => ?_, fun _ hnew => ?_⟩, fun s a H H' hH hR ho K Q hK => ?_⟩
  rotate_left
  · unfold isNew at hnew
    split at hnew
    · rename_i t ht
      unfold evHeap at he
      rw [ht] at he
      simp only at he
      split at he
      · cases he
      · split at he
        · rename_i i hi
          split at he
          · rename_i hz
            injection he with he
            injection he with e1 e2
            exact ⟨_, _, .inl ⟨t, i, ht, hi, hz, rfl, rfl⟩, e1.symm, e2.symm⟩
          · cases he
        · cases he
    · rename_i t x y ht
      unfold evHeap at he
      rw [ht] at he
      simp only at he
      split at he
      · rename_i e kl l kc c hk hx hy
        split at he
        · rename_i ie hie
          split at he
          · rename_i hc
            simp only [Bool.and_eq_true, decide_eq_true_eq] at hc
            obtain ⟨⟨⟨⟨⟨c1, c2⟩, c3⟩, c4⟩, c5⟩, c6⟩ := hc
            injection he with he
            injection he with e1 e2
            exact ⟨_, _, .inr ⟨t, x, y, e, ie, kl, kc, l, c, ht, hk, hx, hy, hie, c1, c2, c3, c4, c5, c6, rfl, rfl⟩, e1.symm, e2.symm⟩
          · cases he
        · cases he
      · cases he
    · cases hnew
  rotate_left
  · have hF : clsH o ≠ .F := by unfold clsH; split <;> simp
    have : clsH o = .R := by
      cases hcl : clsH o with
      | F => exact absurd hcl hF
      | R => rfl
      | W => exact absurd hcl hc
    exact evHeap_R he this
  · have hF : clsH o ≠ .F := by unfold clsH; split <;> simp
    rcases hH with ⟨h1, _⟩ | ⟨rfl, rfl⟩
    · exact absurd h1 hF
    · obtain ⟨nx, u, s', hr, hn, hst, hR', hv⟩ := evHeap_sound hE hR ho he
      unfold Oper.wp
      rw [hr]
      rcases hn with rfl | ⟨rfl, rfl⟩
      · exact hK u s' hst hR' hv
      · exact hK _ s' hst hR' hv

/-! ### Calls -/
/-- All the abstract heap's blocks are read-only from now on. -/
def St.still (s : St) (h : AHeap) : St := { s with imm := fun g => s.imm g ∨ ∃ b, b < h.length ∧ s.ρ b = some g }

theorem ext_still (s : St) (h : AHeap) : Ext s (s.still h) := ⟨fun b cur hb => ⟨cur, hb, Nat.le_refl _, fun _ => ⟨rfl, rfl⟩⟩, fun _ hg => .inl hg, fun _ _ => rfl, fun g c e hg => ⟨c, hg, rfl⟩, fun g arr clock h => ⟨arr, clock, h, fun j e he => ⟨e, he, rfl, rfl⟩⟩⟩

mutual
theorem rdv_V {s : St} {h : AHeap} (hR : R E s h) : ∀ (n : Nat) (x r : AV) (u : Value), rdv h n x = some r → V s x u → V (s.still h) r u
  | 0, x, r, u, hr, hv => by simp [rdv] at hr
  | n + 1, x, r, u, hr, hv => by
    simp only [rdv] at hr
    split at hr
    · injection hr with hr
      subst hr
      exact V.mono (ext_still s h) _ _ hv
    · rename_i hncl
      clear hncl
      cases x
      case agg cs =>
        simp only at hr
        obtain ⟨cs', hc, rfl⟩ := Option.map_eq_some_iff.1 hr
        simp only [V] at hv ⊢
        obtain ⟨us, rfl, hl, h1⟩ := hv
        exact ⟨us, rfl, rdvL_V hR n cs cs' us hc hl, h1⟩
      case tup cs =>
        simp only at hr
        obtain ⟨cs', hc, rfl⟩ := Option.map_eq_some_iff.1 hr
        simp only [V] at hv ⊢
        obtain ⟨us, rfl, hl⟩ := hv
        exact ⟨us, rfl, rdvL_V hR n cs cs' us hc hl⟩
      case ro k xs =>
        simp only at hr
        obtain ⟨cs', hc, rfl⟩ := Option.map_eq_some_iff.1 hr
        simp only [V] at hv ⊢
        obtain ⟨a, cap, us, rfl, hn, h0, hl, hm⟩ := hv
        refine ⟨a, cap, us, rfl, hn, h0, rdvL_V hR n xs cs' us hc hl, fun j x hj => ?_⟩
        obtain ⟨h1, ad, h2, h3, h4⟩ := hm j x hj
        exact ⟨h1, ad, h2, .inl h3, h4⟩
      case rp xs =>
        simp only at hr
        obtain ⟨cs', hc, rfl⟩ := Option.map_eq_some_iff.1 hr
        simp only [V] at hv ⊢
        obtain ⟨ad, us, rfl, hl, hm⟩ := hv
        refine ⟨ad, us, rfl, rdvL_V hR n xs cs' us hc hl, fun j x hj => ?_⟩
        obtain ⟨h1, h3, h4⟩ := hm j x hj
        exact ⟨h1, .inl h3, h4⟩
      case ms b ver off k sz =>
        simp only at hr
        split at hr
        · rename_i xs hg
          split at hr
          · rename_i hle
            obtain ⟨cs', hc, rfl⟩ := Option.map_eq_some_iff.1 hr
            simp only [V] at hv ⊢
            obtain ⟨ad, cap, cur, rfl, hn, hcur, hlev, hk⟩ := hv
            have hb := getCells_eq hg
            obtain ⟨g, c, e, us, h1, h2, h3, h4, h5, h6, _⟩ := blk_cells hR hb
            rw [hcur] at h2
            injection h2 with h2
            have hat : At s.w ad ((us.drop off).take (k * sz)) ∧ (0 < k → ad.block = g) := by
              rcases hk h2 with h0 | ⟨g', c', e', hg', _, rfl, _⟩
              · obtain rfl : k = 0 := by omega
                exact ⟨fun j x hj => by simp at hj, by omega⟩
              · rw [h1] at hg'
                injection hg' with hg'
                subst hg'
                exact ⟨(at_block (off := off) h3 h6).take (k * sz), fun _ => rfl⟩
            obtain ⟨hat, hbl⟩ := hat
            refine ⟨_, cap, (us.drop off).take (k * sz), rfl, hn, fun _ => rfl, rdvL_V hR n _ cs' _ hc ((h4.drop off).take _), fun j x hj => ⟨h5 x (List.mem_of_mem_drop (List.mem_of_mem_take (List.mem_of_getElem? hj))), _, rfl, .inr ⟨b, ?_, ?_⟩, hat j x hj⟩⟩
            · exact (List.getElem?_eq_some_iff.1 hb).1
            · rw [hbl (by
                rcases Nat.eq_zero_or_pos k with hk0 | hk0
                · subst hk0; simp at hj
                · exact hk0)]
              exact h1
          · cases hr
        · cases hr
      case mp b ver off =>
        simp only at hr
        split at hr
        · rename_i xs hg
          obtain ⟨cs', hc, rfl⟩ := Option.map_eq_some_iff.1 hr
          simp only [V] at hv ⊢
          obtain ⟨ad, cur, rfl, hcur, hlev, hk⟩ := hv
          have hb := getCells_eq hg
          obtain ⟨g, c, e, us, h1, h2, h3, h4, h5, h6, _⟩ := blk_cells hR hb
          rw [hcur] at h2
          injection h2 with h2
          obtain ⟨g', hg', rfl⟩ := hk h2
          rw [h1] at hg'
          injection hg' with hg'
          subst hg'
          have hat := at_block (off := off) h3 h6
          exact ⟨_, us.drop off, rfl, rdvL_V hR n _ cs' _ hc (h4.drop off), fun j x hj => ⟨h5 x (List.mem_of_mem_drop (List.mem_of_getElem? hj)), .inr ⟨b, (List.getElem?_eq_some_iff.1 hb).1, h1⟩, hat j x hj⟩⟩
        · cases hr
      case fn g cap =>
        simp only at hr
        obtain ⟨cs', hc, rfl⟩ := Option.map_eq_some_iff.1 hr
        simp only [V] at hv ⊢
        obtain ⟨us, rfl, hl⟩ := hv
        exact ⟨us, rfl, rdvL_V hR n cap cs' us hc hl⟩
      all_goals (simp at hr)
theorem rdvL_V {s : St} {h : AHeap} (hR : R E s h) : ∀ (n : Nat) (xs rs : List AV) (us : List Value), rdvL h n xs = some rs → VL s xs us → VL (s.still h) rs us
  | 0, xs, rs, us, hr, hv => by simp [rdvL] at hr
  | n + 1, [], rs, us, hr, hv => by
    simp only [rdvL, Option.some.injEq] at hr
    subst hr
    simpa using hv
  | n + 1, x :: xs, rs, us, hr, hv => by
    simp only [rdvL] at hr
    split at hr
    · rename_i y ys hy hys
      injection hr with hr
      subst hr
      simp only [VL] at hv ⊢
      obtain ⟨u, us', rfl, hx, hl⟩ := hv
      exact ⟨u, us', rfl, rdv_V hR n x y u hy hx, rdvL_V hR n xs ys us' hys hl⟩
    · cases hr
end

theorem closedL_append {xs ys : List AV} : AV.closedL (xs ++ ys) = (AV.closedL xs && AV.closedL ys) := by
  induction xs with
  | nil => simp [AV.closedL]
  | cons x xs ih => simp [AV.closedL, ih, Bool.and_assoc]

/-- A state with an empty heap of its own. -/
def St.fresh (s : St) : St := { ρ := fun _ => none, bs := fun _ => 0, imm := s.imm, vr := AHeap.vr [], w := s.w }

theorem extC_fresh (s : St) : ExtC s s.fresh := ⟨fun _ h => h, fun _ _ => rfl⟩

theorem R_fresh (hE : EnvOk E P) {s : St} (hi : ImmLt s) (hg : ∀ g xs, E.G g = some xs → V s (.rp xs) (.pointer (some ⟨g, 0, none⟩))) : R E s.fresh [] :=
  ⟨fun _ => rfl, fun b bl hb => by simp at hb, fun b b' g hb => by simp at hb, hi, fun g xs hx => V.closed (extC_fresh s) _ _ (by simp only [AV.closed]; exact hE.gcl g xs hx) (hg g xs hx)⟩

theorem fresh_vr (s : St) (b : Nat) : s.fresh.vr b = none := by simp [St.fresh, AHeap.vr]

theorem run_callValue (hE : EnvOk E P) {g : FuncId} {F : AFn} (hF : E.fn g = some F) {a : Act} {o : Oper} {fo : Operand} {args : Array Operand} {tys : Array TypeId} {cap : List Value} (hop : o.op = .call { callee := .value fo, args := args, argTypes := tys }) (hf : a.eval fo = .func (.func g) #[] cap.toArray) (w : World) :
    (execOp a.eval o).run P w = .ok (.enter g ((args.toList.map a.eval) ++ cap).toArray) w := by
  obtain ⟨fn, h1, h2, h3, h4, h5⟩ := hE.fn g F hF
  have h5' : ¬ (fn.name == "runtime.NumGoroutine") = true := by rw [h5]; simp
  simp only [execOp, hop, resolve, Deferred.ofValue, hf, invoke, callFunc, Sem.run_bind, Sem.run_pure, Result.andThen_ok, run_program, h1, if_neg h5', h2, Option.isNone_some, Bool.false_eq_true, if_false]
  congr 2
  apply Array.ext'
  simp

theorem flats_V {s s' : St} {v : AV} {u : Value} (h : v.flats = true) (hv : V s v u) : V s' v u := by
  have flat1 : ∀ (x : AV) (u : Value), x.flat = true → V s x u → V s' x u := by
    intro x u hx hv
    cases x <;> simp only [AV.flat] at hx <;> first | cases hx | skip
    simpa using hv
  cases v
  case tup vs =>
    simp only [AV.flats, List.all_eq_true] at h
    simp only [V] at hv ⊢
    obtain ⟨us, rfl, hl⟩ := hv
    refine ⟨us, rfl, VL.mk hl.length fun j x u hx hu => ?_⟩
    obtain ⟨u', hu', hv⟩ := hl.get j x hx
    rw [hu] at hu'
    injection hu' with hu'
    subst hu'
    exact flat1 x u (h x (List.mem_of_getElem? hx)) hv
  all_goals exact flat1 _ _ h hv

theorem callS_fn {g : FuncId} {args : List AV} {h h' : AHeap} {v : AV} (hev : Ev E (.call g args h v h')) : ∃ F, E.fn g = some F := by
  cases hev with
  | call hF _ _ _ _ => exact ⟨_, hF⟩
  | prim hF _ => exact ⟨_, hF⟩

theorem sound_icall (hE : EnvOk E P) {fr : AF} {h h' : AHeap} {o : Oper} {fo : Operand} {args : Array Operand} {tys : Array TypeId} {g : FuncId} {cap vs : List AV} {v : AV} (hop : o.op = .call { callee := .value fo, args := args, argTypes := tys }) (hf : evA E fr fo = some (.fn g cap))
    (ha : evArgs E fr args.toList = some vs) (hev : Ev E (.call g (vs ++ cap) h v h')) (ih : CallS P E g (vs ++ cap) h v h') : OpS P E fr h o v h' .W := by
  refine ⟨⟨fun hc => absurd rfl hc, fun _ ht => by unfold isNew at ht; rw [hop] at ht; cases ht⟩, fun s a H H' hH hR ho K Q hK => ?_⟩
  rcases hH with ⟨hF, _⟩ | ⟨rfl, rfl⟩
  · cases hF
  obtain ⟨F, hF⟩ := callS_fn hev
  have hvf := ho fo (by simp [hop, Op.operands, Call.operands]) _ hf
  simp only [V] at hvf
  obtain ⟨cu, hcu, hcl⟩ := hvf
  have hal := args_V (s := s) (a := a) args.toList vs ha fun p hp => ho p (by simp [hop, Op.operands, Call.operands]; exact .inr (by simpa using hp))
  unfold Oper.wp
  rw [run_callValue hE hF hop hcu]
  simp only [Oper.upon]
  refine (ih s _ hR (hal.append hcl)).mono fun e w' he => ?_
  obtain ⟨u, s', rfl, rfl, h1, h2, h3⟩ := he
  exact hK u s' h1 h2 h3

theorem quiet_of_fresh {s s0 : St} {H : AHeap} {h1 : AHeap} (hR : R E s H) (hst : Step s.fresh s0) (hR0 : R E s0 h1) (m : Nat → Prop) (hm1 : ∀ g, s.imm g → m g) (hm2 : ∀ g, m g → s.imm g ∨ (s0.imm g ∨ ∃ b, b < h1.length ∧ s0.ρ b = some g)) :
    Quiet s { ρ := s.ρ, bs := s.bs, vr := s.vr, imm := m, w := s0.w } := by
  refine ⟨rfl, rfl, rfl, hm1, fun g hg => ?_, fun g hg => hst.frame g hg fun b hb => absurd (fresh_vr s b) hb, hst.size, hst.os, hst.tape, hst.output⟩
  rcases hm2 g hg with h | h | ⟨b, hb, hg'⟩
  · exact .inl h
  · rcases hst.new g h with h' | h' | ⟨b, h', _⟩
    · exact .inl h'
    · exact .inr ⟨h', hR0.immlt g h⟩
    · exact absurd (fresh_vr s b) h'
  · obtain ⟨g2, k1, _, k3, _⟩ := hR0.blk b _ (List.getElem?_eq_getElem hb)
    rw [hg'] at k1
    injection k1 with k1
    subst k1
    rcases hst.rho b g (by rw [hR0.vr, vr_some (List.getElem?_eq_getElem hb)]; simp) hg' with ⟨h', _⟩ | h'
    · exact absurd (fresh_vr s b) h'
    · exact .inr ⟨h', k3⟩

theorem sound_pcall (hE : EnvOk E P) {fr : AF} {h h1 : AHeap} {o : Oper} {fo : Operand} {args : Array Operand} {tys : Array TypeId} {g : FuncId} {cap vs ws : List AV} {v r r' : AV} {n : Nat} (hop : o.op = .call { callee := .value fo, args := args, argTypes := tys }) (hf : evA E fr fo = some (.fn g cap))
    (ha : evArgs E fr args.toList = some vs) (hc : AV.closedL (vs ++ cap) = true) (hwl : WkL (vs ++ cap) ws) (hev : Ev E (.call g ws [] v h1)) (ih : CallS P E g ws [] v h1) (hr : rdv h1 n v = some r) (hrc : r.closed = true) (hwk : Wk r r') : OpS P E fr h o r' h .F := by
  refine ⟨⟨fun _ => rfl, .of_ne (by simp)⟩, fun s a H H' hH hR ho K Q hK => ?_⟩
  have hHH : H' = H := by rcases hH with ⟨_, h⟩ | ⟨h1, h2⟩ <;> simp_all
  subst hHH
  obtain ⟨F, hF⟩ := callS_fn hev
  have hvf := ho fo (by simp [hop, Op.operands, Call.operands]) _ hf
  simp only [V] at hvf
  obtain ⟨cu, hcu, hcl⟩ := hvf
  have hal := args_V (s := s) (a := a) args.toList vs ha fun p hp => ho p (by simp [hop, Op.operands, Call.operands]; exact .inr (by simpa using hp))
  unfold Oper.wp
  rw [run_callValue hE hF hop hcu]
  simp only [Oper.upon]
  have hV0 : VL s.fresh ws (args.toList.map a.eval ++ cu) := hwl _ _ (VL.closed (extC_fresh s) _ _ hc (hal.append hcl))
  refine (ih s.fresh _ (R_fresh hE hR.immlt hR.glob) hV0).mono fun e w' he => ?_
  obtain ⟨u, s0, rfl, rfl, hst, hR0, hv⟩ := he
  have hq := quiet_of_fresh hR hst hR0 (fun g => s0.imm g ∨ ∃ b, b < h1.length ∧ s0.ρ b = some g) (fun g hg => .inl (hst.ext.imm g hg)) (fun g hg => .inr hg)
  refine hK u ⟨s.ρ, s.bs, fun g => s0.imm g ∨ ∃ b, b < h1.length ∧ s0.ρ b = some g, s.vr, s0.w⟩ (hq.step hR.immlt) (hR.quiet hq) ?_
  have hv1 := rdv_V hR0 n v r u hr hv
  exact hwk _ _ <| V.closed (s := s0.still h1) (s' := ⟨s.ρ, s.bs, fun g => s0.imm g ∨ ∃ b, b < h1.length ∧ s0.ρ b = some g, s.vr, s0.w⟩) ⟨fun _ h => h, fun _ _ => rfl⟩ _ _ hrc hv1

theorem sound_bcall (hE : EnvOk E P) {fr : AF} {h h1 : AHeap} {o : Oper} {fo : Operand} {args : Array Operand} {tys : Array TypeId} {g : FuncId} {cap vs ws ws' : List AV} {v r0 r : AV} {n n' : Nat} (hop : o.op = .call { callee := .value fo, args := args, argTypes := tys }) (hf : evA E fr fo = some (.fn g cap))
    (ha : evArgs E fr args.toList = some vs) (hw : rdvL h n (vs ++ cap) = some ws) (hc : AV.closedL ws = true) (hwl : WkL ws ws') (hev : Ev E (.call g ws' [] v h1)) (ih : CallS P E g ws' [] v h1) (hr : rdv h1 n' v = some r0) (hrc : r0.closed = true) (hwk : Wk r0 r) (hfl : r.flats = true) : OpS P E fr h o r h .R := by
  refine ⟨⟨fun _ => rfl, .of_ne (by simp)⟩, fun s a H H' hH hR ho K Q hK => ?_⟩
  rcases hH with ⟨hF, _⟩ | ⟨e1, e2⟩
  · cases hF
  subst e2
  subst e1
  obtain ⟨F, hF⟩ := callS_fn hev
  have hvf := ho fo (by simp [hop, Op.operands, Call.operands]) _ hf
  simp only [V] at hvf
  obtain ⟨cu, hcu, hcl⟩ := hvf
  have hal := args_V (s := s) (a := a) args.toList vs ha fun p hp => ho p (by simp [hop, Op.operands, Call.operands]; exact .inr (by simpa using hp))
  unfold Oper.wp
  rw [run_callValue hE hF hop hcu]
  simp only [Oper.upon]
  have hVs := rdvL_V hR n _ ws _ hw (hal.append hcl)
  have hil : ImmLt (s.still H) := by
    intro g hg
    rcases hg with hg | ⟨b, hb, hg⟩
    · exact hR.immlt g hg
    · obtain ⟨g2, k1, _, k3, _⟩ := hR.blk b _ (List.getElem?_eq_getElem hb)
      rw [hg] at k1
      injection k1 with k1
      subst k1
      exact k3
  have hV0 : VL (s.still H).fresh ws' (args.toList.map a.eval ++ cu) := hwl _ _ (VL.closed (extC_fresh (s.still H)) _ _ hc hVs)
  refine (ih (s.still H).fresh _ (R_fresh hE hil fun g xs hg => V.mono (ext_still s H) _ _ (hR.glob g xs hg)) hV0).mono fun e w' he => ?_
  obtain ⟨u, s0, rfl, rfl, hst, hR0, hv⟩ := he
  have hq : Quiet s { ρ := s.ρ, bs := s.bs, vr := s.vr, imm := s.imm, w := s0.w } :=
    ⟨rfl, rfl, rfl, fun _ h => h, fun g hg => .inl hg, fun g hg => hst.frame g hg fun b hb => absurd (fresh_vr (s.still H) b) hb, hst.size, hst.os, hst.tape, hst.output⟩
  exact hK u ⟨s.ρ, s.bs, s.imm, s.vr, s0.w⟩ (hq.step hR.immlt) (hR.quiet hq) (flats_V hfl (hwk _ _ (rdv_V hR0 n' v r0 u hr hv)))

end
end Go.Abs
