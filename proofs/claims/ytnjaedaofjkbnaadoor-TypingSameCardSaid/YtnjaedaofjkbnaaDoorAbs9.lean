/- The abstract run of code as a condition that 'simp' works out: branches on what is not known are told as implications, calls and loops are left to the prover. Conditions: none; a text of definitions and laws. -/
import Derived.Test.YtnjaedaofjkbnaaDoorAbs8
set_option linter.unusedVariables false
set_option linter.unusedSimpArgs false
namespace Go.Abs
open Go Go.RowKit

def bindO {α : Type} (x : Option α) (F : α → Prop) : Prop := ∃ a, x = some a ∧ F a
theorem bindO_some {α : Type} {a : α} {F : α → Prop} : bindO (some a) F = F a := by simp [bindO]
theorem bindO_none {α : Type} {F : α → Prop} : bindO none F = False := by simp [bindO]
theorem bindO_ite {α : Type} {c : Prop} [Decidable c] {x : Option α} {F : α → Prop} : bindO (if c then x else none) F = (c ∧ bindO x F) := by
  by_cases h : c <;> simp [h, bindO]
theorem bindO_map {α β : Type} {x : Option α} {g : α → β} {F : β → Prop} : bindO (x.map g) F = bindO x (fun a => F (g a)) := by
  cases x <;> simp [bindO]

inductive How where | free | heap | call
def how (E : Env) (f : FuncId) (fr : AF) (o : Oper) : How :=
  match o.op with
  | .load _ x => match evA E fr x with | some (.mp ..) => .heap | _ => .free
  | .store .. => .heap
  | .makeSlice .. => .heap
  | .makeMap .. => .heap
  | .lookup .. => .heap
  | .mapEntry .. => .heap
  | .entryStore .. => .heap
  | .box .. => if mode E f o = 0 then .free else .heap
  | .alloc .. => if mode E f o = 0 then .free else .heap
  | .buildSlice .. => if mode E f o = 0 then .free else .heap
  | .call { callee := .builtin .append, .. } => .heap
  | .call { callee := .builtin .copy, .. } => .heap
  | .call { callee := .value _, .. } => .call
  | _ => .free

def guardO (all : Array Oper) (o : Oper) (fr : AF) (A : Bool → AF → Prop) : Prop :=
  match o.guard with
  | none => A true fr
  | some (j, want) => match (all[j]?).bind (·.dst) with
    | some t => match fr t with
      | .lit (.bool b) => (b = want → A true (upd fr t (.lit (.bool want)))) ∧ (b = !want → A false (upd fr t (.lit (.bool !want))))
      | .lit (.tuple _) => A false fr
      | _ => False
    | none => False

/-- Some way of calling a function answers so. -/
def CallT (E : Env) (h : AHeap) (g : FuncId) (ws : List AV) (K : AV → AHeap → Cls → Prop) : Prop :=
  ∃ v h' c, K v h' c ∧ ((AV.closedL ws = true ∧ PFn E g ws v ∧ h' = h ∧ c = .F) ∨ (Ev E (.call g ws h v h') ∧ c = .W) ∨
    (h' = h ∧ c = .R ∧ v.flats = true ∧ ∃ n ws', rdvL h n ws = some ws' ∧ AV.closedL ws' = true ∧ PFn E g ws' v))

section
variable (E : Env) (f : FuncId) (N : Nat)

def execO (o : Oper) (fr : AF) (h : AHeap) (K : AV → AHeap → Cls → Prop) : Prop :=
  match how E f fr o with
  | .free => bindO (evFree E f fr o) fun v => K v h .F
  | .heap => bindO (evHeap E f fr h o) fun v => K v.1 v.2 (clsH o)
  | .call => bindO (callee E fr o) fun p => CallT E h p.1 p.2 K

def O (all : Array Oper) : List Oper → AF → AHeap → (List Cls → AF → AHeap → Prop) → Prop
  | [], fr, h, K => K [] fr h
  | o :: os, fr, h, K => dstOk N o = true ∧ guardO all o fr fun b fr =>
    match b with
    | true => execO E f o fr h fun v h c => O all os (updO fr o.dst v) h fun cs => K (c :: cs)
    | false => O all os (updO fr o.dst .undef) h fun cs => K (.F :: cs)

def condW (x : Option AV) (A : Bool → Prop) : Prop :=
  match x with
  | some (.lit (.bool b)) => (b = true → A true) ∧ (b = false → A false)
  | _ => False

def setT (fr : AF) (c : Operand) (b : Bool) : AF := match c with | .tmp t => upd fr t (.lit (.bool b)) | _ => fr

/-- What must hold that code runs to what is asked. -/
def W : Code → AF → AHeap → (AEx → AF → AHeap → Prop) → Prop
  | .skip, fr, h, Q => Q .normal fr h
  | .label _, fr, h, Q => Q .normal fr h
  | .ret, fr, h, Q => Q .ret fr h
  | .exit id, fr, h, Q => Q (.exit id) fr h
  | .seq a b, fr, h, Q => W a fr h (thenQ (fun fr h => W b fr h Q) Q)
  | .cond c a b, fr, h, Q => condW (evA E fr c) fun t => match t with | true => W a (setT fr c true) h Q | false => W b (setT fr c false) h Q
  | .block id a, fr, h, Q => W a fr h (blockQ id Q)
  | .scope a, fr, h, Q => W a fr h Q
  | .region _ os d, fr, h, Q => O E f N os os.toList fr h fun cs fr h => (d = true → drawOk os cs = true) ∧ Q .normal fr h
  | c, fr, h, Q => RunsC E f N c fr h Q
end

section
variable {E : Env} {f : FuncId} {N : Nat} {fr : AF} {h : AHeap} {Q : AEx → AF → AHeap → Prop}

theorem upd_idem {fr : AF} {t : Nat} {v : AV} (h : fr t = v) : upd fr t v = fr := by
  funext j
  simp only [upd]
  split
  · rename_i e; subst e; exact h.symm
  · rfl

theorem execO_sound {o : Oper} {K : AV → AHeap → Cls → Prop} (hk : execO E f o fr h K) : ∃ v h' c, Ev E (.op f fr h o v h' c) ∧ K v h' c := by
  unfold execO at hk
  split at hk
  · obtain ⟨v, h1, h2⟩ := hk; exact ⟨v, h, .F, .free h1, h2⟩
  · obtain ⟨v, h1, h2⟩ := hk; exact ⟨v.1, v.2, clsH o, .heap h1, h2⟩
  · obtain ⟨⟨g, ws⟩, h1, v, h', c, hk, hc⟩ := hk
    obtain ⟨fo, args, tys, cap, vs, g1, g2, g3, rfl⟩ := callee_spec h1
    refine ⟨v, h', c, ?_, hk⟩
    rcases hc with ⟨a1, a2, rfl, rfl⟩ | ⟨a1, rfl⟩ | ⟨rfl, rfl, a1, n, ws', a2, a3, a4⟩
    · obtain ⟨ws', v', hh, n, r0, hwl, he, hrd, hrc, hwk⟩ := a2
      exact .pcall g1 g2 g3 a1 hwl he hrd hrc hwk
    · exact .icall g1 g2 g3 a1
    · obtain ⟨ws2, v', hh, n', r0, hwl, he, hrd, hrc, hwk⟩ := a4
      exact .bcall g1 g2 g3 a2 a3 hwl he hrd hrc hwk a1

theorem O_sound {all : Array Oper} : ∀ (os : List Oper) (fr : AF) (h : AHeap) (K : List Cls → AF → AHeap → Prop), O E f N all os fr h K → RunsO E f N all os fr h K
  | [], fr, h, K, hk => ops_nil hk
  | o :: os, fr, h, K, hk => by
    simp only [O] at hk
    obtain ⟨hd, hg⟩ := hk
    unfold guardO at hg
    have yes : ∀ (K' : AV → AHeap → Cls → Prop), (∀ v h c, K' v h c → O E f N all os (updO fr o.dst v) h fun cs => K (c :: cs)) → execO E f o fr h K' → wantedA all o fr = some true → RunsO E f N all (o :: os) fr h K := by
      intro K' hK he hw
      obtain ⟨v, h', c, h1, h2⟩ := execO_sound he
      exact ops_op hw hd h1 (O_sound os _ _ _ (hK _ _ _ h2))
    have nope : (O E f N all os (updO fr o.dst .undef) h fun cs => K (.F :: cs)) → wantedA all o fr = some false → RunsO E f N all (o :: os) fr h K := fun h1 hw => ops_skip hw hd (O_sound os _ _ _ h1)
    split at hg
    · rename_i hgd
      exact yes _ (fun v h c hh => hh) hg (by simp [wantedA, hgd])
    · rename_i j want hgd
      split at hg
      · rename_i t ht
        split at hg
        · rename_i b hb
          by_cases hbw : b = want
          · subst hbw
            have h1 := hg.1 rfl
            rw [upd_idem hb] at h1
            exact yes _ (fun v h c hh => hh) h1 (by simp [wantedA, hgd, ht, hb])
          · have hbn : b = !want := by cases b <;> cases want <;> simp_all
            have h1 := hg.2 hbn
            rw [upd_idem (by rw [hb, hbn])] at h1
            exact nope h1 (by simp [wantedA, hgd, ht, hb, hbn])
        · rename_i q hb
          exact nope hg (by simp [wantedA, hgd, ht, hb])
        · exact hg.elim
      · exact hg.elim

theorem W_sound : ∀ (c : Code) (fr : AF) (h : AHeap) (Q : AEx → AF → AHeap → Prop), W E f N c fr h Q → RunsC E f N c fr h Q
  | .skip, fr, h, Q, hk => runs_skip hk
  | .label _, fr, h, Q, hk => runs_label hk
  | .ret, fr, h, Q, hk => runs_ret hk
  | .exit id, fr, h, Q, hk => runs_exit hk
  | .seq a b, fr, h, Q, hk => by
    refine runs_seq (runs_mono (W_sound a _ _ _ hk) fun ex fr h hq => ?_)
    cases ex with
    | normal => exact W_sound b _ _ _ hq
    | exit id => exact hq
    | ret => exact hq
  | .cond c a b, fr, h, Q, hk => by
    simp only [W, condW] at hk
    split at hk
    · rename_i t ht
      have set : ∀ t, evA E fr c = some (.lit (.bool t)) → setT fr c t = fr := by
        intro t ht
        cases c with
        | tmp x => simp only [evA, Option.some.injEq] at ht; exact upd_idem ht
        | _ => rfl
      cases t with
      | true => have h1 := hk.1 rfl; simp only [set _ ht] at h1; exact runs_condT ht (W_sound a _ _ _ h1)
      | false => have h1 := hk.2 rfl; simp only [set _ ht] at h1; exact runs_condF ht (W_sound b _ _ _ h1)
    · exact hk.elim
  | .block id a, fr, h, Q, hk => runs_block (W_sound a _ _ _ hk)
  | .scope a, fr, h, Q, hk => runs_scope (W_sound a _ _ _ hk)
  | .region id os d, fr, h, Q, hk => by
    have h1 := O_sound _ _ _ _ hk
    have e : os = os.toList.toArray := by simp
    cases d with
    | false =>
      rw [e]
      refine runs_region ?_
      obtain ⟨cs, fr1, h1, he, hq⟩ := h1
      exact ⟨cs, fr1, h1, by simpa using he, hq.2⟩
    | true =>
      rw [e]
      refine runs_draw ?_
      obtain ⟨cs, fr1, h1, he, hq⟩ := h1
      exact ⟨cs, fr1, h1, by simpa using he, by simpa using hq.1, hq.2⟩
  | .loop a, fr, h, Q, hk => hk
  | .goto l, fr, h, Q, hk => hk
  | .rangeFunc a b c d, fr, h, Q, hk => hk
  | .refuse a, fr, h, Q, hk => hk

theorem condW_b {b : Bool} {A : Bool → Prop} : condW (some (.lit (.bool b))) A = ((b = true → A true) ∧ (b = false → A false)) := (rfl)

/-! The same, so told that 'simp' does not look into what is still to come. -/
inductive Dep {α : Type} (a : α) : Type | mk
abbrev QX := AEx → AF → AHeap → Prop
abbrev QK := AV → AHeap → Cls → Prop
section
variable (E : Env) (f : FuncId) (N : Nat)
def W1 (c : Code) (Q : QX) (d : Dep (c, Q)) (fr : AF) (h : AHeap) : Prop := W E f N c fr h Q
def L1 (c : Code) (Q : QX) (d : Dep (c, Q)) (fr : AF) (h : AHeap) : Prop := RunsC E f N (.loop c) fr h Q
def G1 (l : Nat) (Q : QX) (d : Dep (l, Q)) (fr : AF) (h : AHeap) : Prop := RunsC E f N (.goto l) fr h Q
def O1 (all os : List Oper) (K : List Cls → AF → AHeap → Prop) (d : Dep (all, os, K)) (fr : AF) (h : AHeap) : Prop := O E f N all.toArray os fr h K
def X1 (o : Oper) (K : QK) (d : Dep (o, K)) (fr : AF) (h : AHeap) : Prop := execO E f o fr h K
def H1 (o : Oper) (K : QK) (d : Dep (o, K)) (w : How) (fr : AF) (h : AHeap) : Prop :=
  match w with
  | .free => bindO (evFree E f fr o) fun v => K v h .F
  | .heap => bindO (evHeap E f fr h o) fun v => K v.1 v.2 (clsH o)
  | .call => bindO (callee E fr o) fun p => CallT E h p.1 p.2 K
def C1 (K : QK) (d : Dep K) (h : AHeap) (g : FuncId) (ws : List AV) : Prop := CallT E h g ws K
end
def B1 {α : Type} (F : α → Prop) (d : Dep F) (x : Option α) : Prop := bindO x F
def If1 (A : Bool → Prop) (d : Dep A) (b : Bool) : Prop := (b = true → A true) ∧ (b = false → A false)
def eqB (a b : Bool) : Bool := match a, b with | true, true => true | false, false => true | _, _ => false
def D1 (A : Bool → Prop) (d : Dep A) (x : Option AV) : Prop := condW x A
def T1 (K : AF → AHeap → Prop) (Q : QX) (d : Dep (K, Q)) : QX := thenQ K Q
def K1 (id : Nat) (Q : QX) (d : Dep (id, Q)) : QX := blockQ id Q
def slotOf : List Oper → Nat → Option Nat
  | [], _ => none
  | o :: _, 0 => o.dst
  | _ :: os, j + 1 => slotOf os j
def slotD (all : List Oper) (d : Dep all) (j : Nat) : Option Nat := slotOf all j
def V1 (want : Bool) (A : Bool → AF → Prop) (d : Dep (want, A)) (x : Option Nat) (fr : AF) : Prop := match x with
  | some t => match fr t with
      | .lit (.bool b) => (b = want → A true (upd fr t (.lit (.bool want)))) ∧ (b = !want → A false (upd fr t (.lit (.bool !want))))
      | .lit (.tuple _) => A false fr
      | _ => False
  | none => False
def U1 (t : Nat) (want : Bool) (A : Bool → AF → Prop) (d : Dep (want, A)) (x : AV) (fr : AF) : Prop := match x with
  | .lit (.bool b) => (b = want → A true (upd fr t (.lit (.bool want)))) ∧ (b = !want → A false (upd fr t (.lit (.bool !want))))
  | .lit (.tuple _) => A false fr
  | _ => False

theorem slotOf_eq : ∀ (os : List Oper) (j : Nat), (os.toArray[j]?).bind (·.dst) = slotOf os j
  | [], j => by simp [slotOf]
  | o :: os, 0 => by simp [slotOf]
  | o :: os, j + 1 => by simpa [slotOf] using slotOf_eq os j

theorem W1_skip {d : Dep (Code.skip, Q)} : W1 E f N .skip Q d fr h = Q .normal fr h := (rfl)
theorem W1_ret {d : Dep (Code.ret, Q)} : W1 E f N .ret Q d fr h = Q .ret fr h := (rfl)
theorem W1_label {l : Nat} {d : Dep (Code.label l, Q)} : W1 E f N (.label l) Q d fr h = Q .normal fr h := (rfl)
theorem W1_exit {id : Nat} {d : Dep (Code.exit id, Q)} : W1 E f N (.exit id) Q d fr h = Q (.exit id) fr h := (rfl)
theorem W1_seq {a b : Code} {d : Dep (Code.seq a b, Q)} : W1 E f N (.seq a b) Q d fr h = W1 E f N a (T1 (fun fr h => W1 E f N b Q .mk fr h) Q .mk) .mk fr h := (rfl)
theorem W1_cond {c : Operand} {a b : Code} {d : Dep (Code.cond c a b, Q)} : W1 E f N (.cond c a b) Q d fr h = D1 (fun t => match t with | true => W1 E f N a Q .mk (setT fr c true) h | false => W1 E f N b Q .mk (setT fr c false) h) .mk (evA E fr c) := (rfl)
theorem W1_block {id : Nat} {a : Code} {d : Dep (Code.block id a, Q)} : W1 E f N (.block id a) Q d fr h = W1 E f N a (K1 id Q .mk) .mk fr h := (rfl)
theorem W1_scope {a : Code} {d : Dep (Code.scope a, Q)} : W1 E f N (.scope a) Q d fr h = W1 E f N a Q .mk fr h := (rfl)
theorem W1_region {id : Nat} {os : List Oper} {d : Dep (Code.region id os.toArray false, Q)} : W1 E f N (.region id os.toArray false) Q d fr h = O1 E f N os os (fun cs fr h => Q .normal fr h) .mk fr h := by simp [W1, W, O1]
theorem W1_draw {id : Nat} {os : List Oper} {d : Dep (Code.region id os.toArray true, Q)} : W1 E f N (.region id os.toArray true) Q d fr h = O1 E f N os os (fun cs fr h => drawOk os.toArray cs = true ∧ Q .normal fr h) .mk fr h := by simp [W1, W, O1]
theorem W1_loop {a : Code} {d : Dep (Code.loop a, Q)} : W1 E f N (.loop a) Q d fr h = L1 E f N a Q .mk fr h := (rfl)

theorem B1_some {α : Type} {a : α} {F : α → Prop} {d : Dep F} : B1 F d (some a) = F a := bindO_some
theorem B1_none {α : Type} {F : α → Prop} {d : Dep F} : B1 F d none = False := bindO_none
theorem B1_ite {α : Type} {c : Prop} [Decidable c] {x : Option α} {F : α → Prop} {d : Dep F} : B1 F d (if c then x else none) = (c ∧ B1 F d x) := bindO_ite
theorem D1_b {b : Bool} {A : Bool → Prop} {d : Dep A} : D1 A d (some (.lit (.bool b))) = If1 A .mk b := (rfl)
theorem If1_t {A : Bool → Prop} {d : Dep A} : If1 A d true = A true := by simp [If1]
theorem If1_f {A : Bool → Prop} {d : Dep A} : If1 A d false = A false := by simp [If1]
theorem If1_not {b : Bool} {A : Bool → Prop} {d : Dep A} : If1 A d (!b) = If1 (fun x => A (!x)) .mk b := by cases b <;> simp [If1]
theorem If1.split {b : Bool} {A : Bool → Prop} {d : Dep A} (h1 : b = true → A true) (h2 : b = false → A false) : If1 A d b := ⟨h1, h2⟩
theorem eqB_tt : eqB true true = true := (rfl)
theorem eqB_tf : eqB true false = false := (rfl)
theorem eqB_ft : eqB false true = false := (rfl)
theorem eqB_ff : eqB false false = true := (rfl)
theorem setT_t {t : Nat} {b : Bool} : setT fr (.tmp t) b = upd fr t (.lit (.bool b)) := (rfl)
theorem setT_c {v : Value} {b : Bool} : setT fr (.const v) b = fr := (rfl)
theorem T1_n {K : AF → AHeap → Prop} {d : Dep (K, Q)} : T1 K Q d .normal fr h = K fr h := (rfl)
theorem T1_r {K : AF → AHeap → Prop} {d : Dep (K, Q)} : T1 K Q d .ret fr h = Q .ret fr h := (rfl)
theorem T1_x {K : AF → AHeap → Prop} {i : Nat} {d : Dep (K, Q)} : T1 K Q d (.exit i) fr h = Q (.exit i) fr h := (rfl)
theorem K1_n {id : Nat} {d : Dep (id, Q)} : K1 id Q d .normal fr h = Q .normal fr h := (rfl)
theorem K1_r {id : Nat} {d : Dep (id, Q)} : K1 id Q d .ret fr h = Q .ret fr h := (rfl)
theorem K1_x {id i : Nat} {d : Dep (id, Q)} : K1 id Q d (.exit i) fr h = if i = id then Q .normal fr h else Q (.exit i) fr h := (rfl)

theorem O1_nil {all : List Oper} {K : List Cls → AF → AHeap → Prop} {d : Dep (all, [], K)} : O1 E f N all [] K d fr h = K [] fr h := (rfl)
theorem O1_n {all : List Oper} {d : Option Nat} {op : Op} {ty : TypeId} {ps : String} {af : Array Edge} {os : List Oper} {K : List Cls → AF → AHeap → Prop} {dd : Dep (all, ⟨d, op, ty, ps, af, none⟩ :: os, K)} : O1 E f N all (⟨d, op, ty, ps, af, none⟩ :: os) K dd fr h = (dstOk N ⟨d, .nilCheck (.tmp 0), 0, "", #[], none⟩ = true ∧
    X1 E f ⟨d, op, ty, "", #[], none⟩ (fun v h c => O1 E f N all os (fun cs => K (c :: cs)) .mk (updO fr d v) h) .mk fr h) := (rfl)
theorem O1_s {all : List Oper} {d : Option Nat} {op : Op} {ty : TypeId} {ps : String} {af : Array Edge} {j : Nat} {want : Bool} {os : List Oper} {K : List Cls → AF → AHeap → Prop} {dd : Dep (all, ⟨d, op, ty, ps, af, some (j, want)⟩ :: os, K)} : O1 E f N all (⟨d, op, ty, ps, af, some (j, want)⟩ :: os) K dd fr h = (dstOk N ⟨d, .nilCheck (.tmp 0), 0, "", #[], none⟩ = true ∧
    V1 want (fun b fr => match b with
      | true => X1 E f ⟨d, op, ty, "", #[], none⟩ (fun v h c => O1 E f N all os (fun cs => K (c :: cs)) .mk (updO fr d v) h) .mk fr h
      | false => O1 E f N all os (fun cs => K (.F :: cs)) .mk (updO fr d .undef) h) .mk (slotD all .mk j) fr) := by
  unfold slotD
  rw [← slotOf_eq]
  rfl
theorem slotD_s {o : Oper} {os : List Oper} {d : Dep (o :: os)} {j : Nat} : slotD (o :: os) d (j + 1) = slotD os .mk j := (rfl)
theorem slotD_z {op : Op} {ty : TypeId} {ps : String} {af : Array Edge} {x : Option Nat} {g : Option (Nat × Bool)} {os : List Oper} {d : Dep (Oper.mk x op ty ps af g :: os)} : slotD (⟨x, op, ty, ps, af, g⟩ :: os) d 0 = x := (rfl)
theorem V1_s {t : Nat} {want : Bool} {A : Bool → AF → Prop} {d : Dep (want, A)} : V1 want A d (some t) fr = U1 t want A d (fr t) fr := (rfl)
theorem U1_b {t : Nat} {b want : Bool} {A : Bool → AF → Prop} {d : Dep (want, A)} : U1 t want A d (.lit (.bool b)) fr = If1 (fun x => A (eqB x want) (upd fr t (.lit (.bool x)))) .mk b := by
  cases b <;> cases want <;> simp [U1, If1, eqB]
theorem U1_u {t : Nat} {want : Bool} {A : Bool → AF → Prop} {d : Dep (want, A)} : U1 t want A d .undef fr = A false fr := (rfl)
theorem X1_eq {o : Oper} {K : QK} {d : Dep (o, K)} : X1 E f o K d fr h = H1 E f o K d (how E f fr o) fr h := (rfl)
theorem H1_f {o : Oper} {K : QK} {d : Dep (o, K)} : H1 E f o K d .free fr h = B1 (fun v => K v h .F) .mk (evFree E f fr o) := (rfl)
theorem H1_h {o : Oper} {K : QK} {d : Dep (o, K)} : H1 E f o K d .heap fr h = B1 (fun v => K v.1 v.2 (clsH o)) .mk (evHeap E f fr h o) := (rfl)
theorem H1_c {o : Oper} {K : QK} {d : Dep (o, K)} : H1 E f o K d .call fr h = B1 (fun p => C1 E K .mk h p.1 p.2) .mk (callee E fr o) := (rfl)

/-- A call by its contract. -/
theorem C1.pure {g : FuncId} {ws : List AV} {v : AV} {K : QK} {d : Dep K} (hp : PFn E g ws v) (hc : AV.closedL ws = true) (hk : K v h .F) : C1 E K d h g ws := ⟨v, h, .F, hk, Or.inl ⟨hc, hp, rfl, rfl⟩⟩
theorem C1.inner {g : FuncId} {ws : List AV} {v : AV} {h' : AHeap} {K : QK} {d : Dep K} (hp : Ev E (.call g ws h v h')) (hk : K v h' .W) : C1 E K d h g ws := ⟨v, h', .W, hk, Or.inr (Or.inl ⟨hp, rfl⟩)⟩


/-- What a call in an empty heap gives back, read whole. -/
def RetOk (h : AHeap) (vs : List AV) (r : AV) : Prop := ∃ n, rdv h n (oneOrTup vs) = some r ∧ r.closed = true
def FinP (E : Env) (res : List ResultVar) (r : AV) : AEx → AF → AHeap → Prop := fun ex fr h => match ex with | .exit _ => False | _ => bindO (evRes E fr h res) fun vs => RetOk h vs r
theorem FinP_n {res : List ResultVar} {r : AV} : FinP E res r .normal fr h = bindO (evRes E fr h res) fun vs => RetOk h vs r := (rfl)
theorem FinP_r {res : List ResultVar} {r : AV} : FinP E res r .ret fr h = bindO (evRes E fr h res) fun vs => RetOk h vs r := (rfl)
theorem RetOk_lit {v : Value} {r : AV} : RetOk h [.lit v] r = (r = .lit v) := by
  apply propext
  constructor
  · rintro ⟨n, h1, h2⟩
    cases n with
    | zero => simp [rdv] at h1
    | succ n => simp [rdv, oneOrTup, AV.closed] at h1; exact h1.symm
  · rintro rfl; exact ⟨1, by simp [rdv, oneOrTup, AV.closed], by simp [AV.closed]⟩
theorem RetOk_closed {vs : List AV} {r : AV} (hc : r.closed = true) (he : oneOrTup vs = r) : RetOk h vs r := ⟨1, by rw [he]; exact rdv_closed hc, hc⟩
theorem pfn_F {args : List AV} {r : AV} {F : AFn} (hF : E.fn f = some F) (hl : args.length ≤ F.N) (hr : W1 E f F.N F.code (FinP E F.res r) .mk (initF args) []) : PFn E f args r := by
  refine pfn_of hF hl (runs_mono (W_sound _ _ _ _ hr) ?_)
  intro ex fr h hq
  cases ex with
  | exit id => exact hq.elim
  | normal => obtain ⟨vs, h1, n, h2, h3⟩ := hq; exact ⟨Or.inl rfl, vs, n, h1, h2, h3⟩
  | ret => obtain ⟨vs, h1, n, h2, h3⟩ := hq; exact ⟨Or.inr rfl, vs, n, h1, h2, h3⟩

/-- Some answer, of which something holds. -/
def RetX (h : AHeap) (vs : List AV) (Φ : AV → Prop) : Prop := ∃ r, RetOk h vs r ∧ Φ r
def FinX (E : Env) (res : List ResultVar) (Φ : AV → Prop) : AEx → AF → AHeap → Prop := fun ex fr h => ∃ r, FinP E res r ex fr h ∧ Φ r
theorem bindX {res : List ResultVar} {Φ : AV → Prop} : (∃ r, (bindO (evRes E fr h res) fun vs => RetOk h vs r) ∧ Φ r) = bindO (evRes E fr h res) fun vs => RetX h vs Φ := by
  apply propext
  constructor
  · rintro ⟨r, ⟨vs, h1, h2⟩, h3⟩; exact ⟨vs, h1, r, h2, h3⟩
  · rintro ⟨vs, h1, r, h2, h3⟩; exact ⟨r, ⟨vs, h1, h2⟩, h3⟩
theorem FinX_n {res : List ResultVar} {Φ : AV → Prop} : FinX E res Φ .normal fr h = bindO (evRes E fr h res) fun vs => RetX h vs Φ := bindX
theorem FinX_r {res : List ResultVar} {Φ : AV → Prop} : FinX E res Φ .ret fr h = bindO (evRes E fr h res) fun vs => RetX h vs Φ := bindX
theorem RetX_lit {v : Value} {Φ : AV → Prop} : RetX h [.lit v] Φ = Φ (.lit v) := by simp [RetX, RetOk_lit]
theorem px_F {args : List AV} {Φ : AV → Prop} {F : AFn} (hF : E.fn f = some F) (hl : args.length ≤ F.N) (hr : W1 E f F.N F.code (FinX E F.res Φ) .mk (initF args) []) : ∃ r, PFn E f args r ∧ Φ r := by
  obtain ⟨ex, fr', h', he, r, hq, hΦ⟩ := W_sound _ _ _ _ hr
  refine ⟨r, pfn_of hF hl ⟨ex, fr', h', he, ?_⟩, hΦ⟩
  cases ex with
  | exit id => exact hq.elim
  | normal => obtain ⟨vs, h1, n, h2, h3⟩ := hq; exact ⟨Or.inl rfl, vs, n, h1, h2, h3⟩
  | ret => obtain ⟨vs, h1, n, h2, h3⟩ := hq; exact ⟨Or.inr rfl, vs, n, h1, h2, h3⟩

theorem L1_step {c : Code} {d : Dep (c, Q)} (hr : W1 E f N c (T1 (fun fr h => L1 E f N c Q .mk fr h) Q .mk) .mk fr h) : L1 E f N c Q d fr h := by
  refine runs_loop (runs_mono (W_sound _ _ _ _ hr) ?_)
  intro ex fr h hq
  cases ex with
  | normal => exact hq
  | exit id => exact hq
  | ret => exact hq

theorem RetX_closed {vs : List AV} {Φ : AV → Prop} (hc : (oneOrTup vs).closed = true) (hp : Φ (oneOrTup vs)) : RetX h vs Φ := ⟨_, RetOk_closed hc rfl, hp⟩

/-- A call whose code is run here, with the heap that the caller has. -/
def FinK (E : Env) (res : List ResultVar) (K : AV → AHeap → Prop) : AEx → AF → AHeap → Prop := fun ex fr h => match ex with | .exit _ => False | _ => bindO (evRes E fr h res) fun vs => K (oneOrTup vs) h
theorem FinK_n {res : List ResultVar} {K : AV → AHeap → Prop} : FinK E res K .normal fr h = bindO (evRes E fr h res) fun vs => K (oneOrTup vs) h := (rfl)
theorem FinK_r {res : List ResultVar} {K : AV → AHeap → Prop} : FinK E res K .ret fr h = bindO (evRes E fr h res) fun vs => K (oneOrTup vs) h := (rfl)
theorem C1.body {g : FuncId} {ws : List AV} {F : AFn} {K : QK} {d : Dep K} (hF : E.fn g = some F) (hl : ws.length ≤ F.N) (hr : W1 E g F.N F.code (FinK E F.res fun v h' => K v h' .W) .mk (initF ws) h) : C1 E K d h g ws := by
  obtain ⟨ex, fr', h', he, hq⟩ := W_sound _ _ _ _ hr
  cases ex with
  | exit id => exact hq.elim
  | normal => obtain ⟨vs, h1, h2⟩ := hq; exact C1.inner (.call hF hl he (Or.inl rfl) h1) h2
  | ret => obtain ⟨vs, h1, h2⟩ := hq; exact C1.inner (.call hF hl he (Or.inr rfl) h1) h2
/-- A slice that nobody writes any more, from here on. -/
theorem L1.freeze {c : Code} {d : Dep (c, Q)} {t b ver off n sz : Nat} {xs : List AV} (ht : fr t = .ms b ver off n sz) (hg : getCells h b ver = some xs) (hle : off + n * sz ≤ xs.length)
    (hk : L1 E f N c Q d (upd fr t (.ro n ((xs.drop off).take (n * sz)))) (h.set b (.dead (ver + 1)))) : L1 E f N c Q d fr h := by
  obtain ⟨ex, fr', h', he, hq⟩ := hk
  exact ⟨ex, fr', h', .freeze ht hg hle he, hq⟩
theorem C1.bodyF {g : FuncId} {ws : List AV} {F : AFn} {K : QK} {d : Dep K} {t b ver off n sz : Nat} {xs : List AV} (hF : E.fn g = some F) (hl : ws.length ≤ F.N) (ht : initF ws t = .ms b ver off n sz) (hg : getCells h b ver = some xs) (hle : off + n * sz ≤ xs.length)
    (hr : W1 E g F.N F.code (FinK E F.res fun v h' => K v h' .W) .mk (upd (initF ws) t (.ro n ((xs.drop off).take (n * sz)))) (h.set b (.dead (ver + 1)))) : C1 E K d h g ws := by
  obtain ⟨ex, fr', h', he, hq⟩ := W_sound _ _ _ _ hr
  cases ex with
  | exit id => exact hq.elim
  | normal => obtain ⟨vs, h1, h2⟩ := hq; exact C1.inner (.call hF hl (.freeze ht hg hle he) (Or.inl rfl) h1) h2
  | ret => obtain ⟨vs, h1, h2⟩ := hq; exact C1.inner (.call hF hl (.freeze ht hg hle he) (Or.inr rfl) h1) h2
/-- A call of a function that is told elsewhere. -/
theorem C1.prim {g : FuncId} {ws : List AV} {F : AFn} {v : AV} {h' : AHeap} {K : QK} {d : Dep K} (hF : E.fn g = some F) (hp : E.prim g ws h v h') (hk : K v h' .W) : C1 E K d h g ws := C1.inner (.prim hF hp) hk
theorem oneOrTup_1 {v : AV} : oneOrTup [v] = v := (rfl)

/-- A loop that counts up to a number. -/
theorem L1_up {c : Code} {d : Dep (c, Q)} (n : Nat) (Inv : Nat → AF → AHeap → Prop)
    (step : ∀ i, i < n → ∀ fr h, Inv i fr h → W1 E f N c (T1 (fun fr h => Inv (i + 1) fr h) Q .mk) .mk fr h)
    (last : ∀ fr h, Inv n fr h → W1 E f N c (T1 (fun _ _ => False) Q .mk) .mk fr h) :
    ∀ i, i ≤ n → ∀ fr h, Inv i fr h → L1 E f N c Q d fr h := by
  have key : ∀ k i, i + k = n → ∀ fr h, Inv i fr h → L1 E f N c Q d fr h := by
    intro k
    induction k with
    | zero =>
      intro i hi fr h hI
      obtain rfl : i = n := by omega
      refine runs_loop (runs_mono (W_sound _ _ _ _ (last fr h hI)) ?_)
      intro ex fr h hq
      cases ex with
      | normal => exact hq.elim
      | exit id => exact hq
      | ret => exact hq
    | succ k ih =>
      intro i hi fr h hI
      refine runs_loop (runs_mono (W_sound _ _ _ _ (step i (by omega) fr h hI)) ?_)
      intro ex fr h hq
      cases ex with
      | normal => exact ih (i + 1) (by omega) fr h hq
      | exit id => exact hq
      | ret => exact hq
  intro i hi
  exact key (n - i) i (by omega)
end
end Go.Abs
