/- What one operation of Go's model makes of abstract values: with no look at the abstract heap (evFree), or with one (evHeap). Conditions: none; a text of definitions. -/
import Derived.Test.YtnjaedaofjkbnaaDoorAbs1
set_option linter.unusedVariables false
set_option linter.unusedSimpArgs false
namespace Go.Abs
open Go Go.RowKit

inductive TK where
  | int (k : IntKind) | bool | string
  | slice (e : TypeId) | array (n : Nat) (e : TypeId) | struct (fs : List (Nat × TypeId)) | map (k e : TypeId) | ptr | func | other
  deriving Inhabited, DecidableEq

structure TI where
  kind : TK
  size : Nat
  bytes : Nat
  zero : Value
  deriving Inhabited

structure AFn where
  N : Nat
  code : Code
  res : List ResultVar

/-- Whatever is as the one says is as the other says. -/
def Wk (a b : AV) : Prop := ∀ (s : St) (u : Value), V s a u → V s b u
def WkL (a b : List AV) : Prop := ∀ (s : St) (us : List Value), VL s a us → VL s b us
theorem Wk.refl (a : AV) : Wk a a := fun _ _ h => h
theorem WkL.refl (a : List AV) : WkL a a := fun _ _ h => h
theorem Wk.trans {a b c : AV} (h : Wk a b) (k : Wk b c) : Wk a c := fun s u x => k s u (h s u x)
theorem WkL.trans {a b c : List AV} (h : WkL a b) (k : WkL b c) : WkL a c := fun s u x => k s u (h s u x)
theorem WkL.cons {a b : AV} {as bs : List AV} (h : Wk a b) (k : WkL as bs) : WkL (a :: as) (b :: bs) := fun s us x => by
  obtain ⟨u, us', rfl, h1, h2⟩ := VL_cons.1 x
  exact VL_cons.2 ⟨u, us', rfl, h s u h1, k s us' h2⟩
theorem WkL.append {a b a' b' : List AV} (h : WkL a b) (k : WkL a' b') : WkL (a ++ a') (b ++ b') := fun s us x => by
  have hl : us.length = a.length + a'.length := by rw [x.length, List.length_append]
  have h1 := x.take a.length
  have h2 := x.drop a.length
  rw [List.take_left'  rfl] at h1
  rw [List.drop_left' rfl] at h2
  rw [← List.take_append_drop a.length us]
  exact (h s _ h1).append (k s _ h2)
theorem Wk.nil : Wk (.lit (.slice none 0 0)) (.ro 0 []) := fun s u h => by
  rw [V_lit] at h
  subst h
  simp only [V]
  exact ⟨none, 0, [], rfl, Nat.le_refl _, fun h => by simp at h, VL_nil.2 rfl, by simp⟩
theorem Wk.agg {a b : List AV} (h : WkL a b) : Wk (.agg a) (.agg b) := fun s u x => by
  simp only [V] at x ⊢
  obtain ⟨us, h1, h2, h3⟩ := x
  exact ⟨us, h1, h s us h2, h3⟩
theorem Wk.tup {a b : List AV} (h : WkL a b) : Wk (.tup a) (.tup b) := fun s u x => by
  simp only [V] at x ⊢
  obtain ⟨us, h1, h2⟩ := x
  exact ⟨us, h1, h s us h2⟩
theorem Wk.ro {n : Nat} {a b : List AV} (h : WkL a b) : Wk (.ro n a) (.ro n b) := fun s u x => by
  simp only [V] at x ⊢
  obtain ⟨p, cap, us, h1, h2, h3, h4, h5⟩ := x
  exact ⟨p, cap, us, h1, h2, h3, h s us h4, h5⟩
theorem Wk.rp {a b : List AV} (h : WkL a b) : Wk (.rp a) (.rp b) := fun s u x => by
  simp only [V] at x ⊢
  obtain ⟨p, us, h1, h4, h5⟩ := x
  exact ⟨p, us, h1, h s us h4, h5⟩


inductive ABlock where
  | cells (ver : Nat) (xs : List AV)
  | map (kd vd : IntKind) (f : Int → Int → Int)
  | dead (ver : Nat)
  deriving Inhabited
abbrev AHeap := List ABlock

structure Env where
  ty : TypeId → Option TI
  fn : FuncId → Option AFn
  G : Nat → Option (List AV)
  pol : FuncId → Nat → Nat
  prim : FuncId → List AV → AHeap → AV → AHeap → Prop

abbrev AF := Nat → AV
def upd (fr : AF) (d : Nat) (v : AV) : AF := fun t => if t = d then v else fr t
def updO (fr : AF) (d : Option Nat) (v : AV) : AF := match d with | some d => upd fr d v | none => fr

def AV.cells : AV → List AV
  | .agg cs => cs
  | x => [x]
/-- May it lie in one cell? -/
def AV.one : AV → Bool
  | .lit v => v.oneCell'
  | .agg _ => false
  | .tup _ => false
  | _ => true
def AV.storable : AV → Bool
  | .agg _ => true
  | x => x.one
def AV.ofV : Value → AV
  | .agg cs => .agg (cs.toList.map .lit)
  | v => .lit v
def AV.flat : AV → Bool
  | .lit _ => true
  | _ => false
def AV.flats : AV → Bool
  | .tup vs => vs.all AV.flat
  | x => x.flat

def vrOf : ABlock → Nat
  | .cells v _ => v
  | .map .. => 0
  | .dead v => v
def AHeap.vr (h : AHeap) (b : Nat) : Option Nat := (h[b]?).map vrOf

def evA (E : Env) (fr : AF) : Operand → Option AV
  | .tmp t => some (fr t)
  | .const v => some (.lit v)
  | .global g => (E.G g).map .rp
  | .func f => some (.fn f [])

/-! ### Arithmetic -/
def litInt (op : BinOp) (k : IntKind) (a : Int) (k' : IntKind) (b : Int) : Option Value :=
  match op with
  | .shl => if b < 0 then none else some (.int k (k.wrap (a * 2 ^ (min b.toNat k.bits))))
  | .shr => if b < 0 then none else some (.int k (a.fdiv (2 ^ (min b.toNat k.bits))))
  | .add => if k = k' then some (.int k (k.wrap (a + b))) else none
  | .sub => if k = k' then some (.int k (k.wrap (a - b))) else none
  | .mul => if k = k' then some (.int k (k.wrap (a * b))) else none
  | .quo => if k = k' ∧ b ≠ 0 then some (.int k (k.wrap (a.tdiv b))) else none
  | .rem => if k = k' ∧ b ≠ 0 then some (.int k (a.tmod b)) else none
  | .and => if k = k' then some (.int k (bits .and k a b)) else none
  | .or => if k = k' then some (.int k (bits .or k a b)) else none
  | .xor => if k = k' then some (.int k (bits .xor k a b)) else none
  | .andNot => if k = k' then some (.int k (bits .andNot k a b)) else none
  | .eql => if k = k' then some (.bool (a == b)) else none
  | .neq => if k = k' then some (.bool (a != b)) else none
  | .lss => if k = k' then some (.bool (decide (a < b))) else none
  | .leq => if k = k' then some (.bool (decide (a ≤ b))) else none
  | .gtr => if k = k' then some (.bool (decide (a > b))) else none
  | .geq => if k = k' then some (.bool (decide (a ≥ b))) else none

def litStr (op : BinOp) (x y : ByteArray) : Option Value :=
  match op with
  | .eql => some (.bool (x.toList == y.toList))
  | .neq => some (.bool (!(x.toList == y.toList)))
  | .add => if x.size + y.size ≤ 9223372036854775807 then some (.string (x ++ y)) else none
  | _ => none

def litBool (op : BinOp) (x y : Bool) : Option Value :=
  match op with
  | .eql => some (.bool (x == y))
  | .neq => some (.bool (!(x == y)))
  | _ => none

def kindOf (E : Env) (t : TypeId) : TK := match E.ty t with | some i => i.kind | none => .other

/-- '==' or '!=' where the answer to '==' is known. -/
def eqA (op : BinOp) (r : Bool) : Option AV :=
  match op with
  | .eql => some (.lit (.bool r))
  | .neq => some (.lit (.bool (!r)))
  | _ => none

def binA (E : Env) (op : BinOp) (t : TypeId) (x y : AV) : Option AV :=
  match x, y with
  | .lit (.int k a), .lit (.int k' b) => (litInt op k a k' b).map .lit
  | .lit (.string a), .lit (.string b) => (litStr op a b).map .lit
  | .lit (.bool a), .lit (.bool b) => if kindOf E t = .bool then (litBool op a b).map .lit else none
  | .lit (.slice none _ _), .lit (.slice none 0 0) => match kindOf E t with | .slice _ => eqA op true | _ => none
  | .rp _, .lit (.pointer none) => if kindOf E t = .ptr then eqA op false else none
  | .lit (.pointer none), .lit (.pointer none) => if kindOf E t = .ptr then eqA op true else none
  | _, _ => none

def unA (op : UnOp) (x : AV) : Option AV :=
  match op, x with
  | .neg, .lit (.int k n) => some (.lit (.int k (k.wrap (0 - n))))
  | .xor, .lit (.int k n) => some (.lit (.int k (bits .xor k (if k.signed then -1 else k.max) n)))
  | .not, .lit (.bool b) => some (.lit (.bool (!b)))
  | _, _ => none

/-! ### Structs, arrays, literals -/
def putAt (xs : List AV) (off : Nat) (ys : List AV) : Option (List AV) :=
  if off + ys.length ≤ xs.length then some (xs.take off ++ ys ++ xs.drop (off + ys.length)) else none

def fillA (place : Nat → Option (Nat × Nat)) (xs : List AV) : List (Nat × AV) → Option (List AV)
  | [] => some xs
  | (i, v) :: rest =>
    match place i with
    | none => none
    | some (off, size) => if v.cells.length = size ∧ v.storable = true then (match putAt xs off v.cells with | some ys => fillA place ys rest | none => none) else none

def zerosA (n : Nat) (z : Value) : List AV := (List.replicate n (AV.ofV z).cells).flatten
def zeroOk (i : TI) : Bool := (AV.ofV i.zero).cells.length == i.size && (AV.ofV i.zero).storable && (i.zero.cells.all (·.oneCell'))

def evParts (E : Env) (fr : AF) : List (Nat × Operand) → Option (List (Nat × AV))
  | [] => some []
  | (i, x) :: r => match evA E fr x, evParts E fr r with
    | some v, some vs => some ((i, v) :: vs)
    | _, _ => none
def evArgs (E : Env) (fr : AF) : List Operand → Option (List AV)
  | [] => some []
  | x :: r => match evA E fr x, evArgs E fr r with
    | some v, some vs => some (v :: vs)
    | _, _ => none

def sizesOf (E : Env) (fs : List (Nat × TypeId)) : Nat → Option (Nat × Nat) := fun i =>
  match fs[i]? with
  | some (off, t) => match E.ty t with | some ti => some (off, ti.size) | none => none
  | none => none
def allTyped (E : Env) (fs : List (Nat × TypeId)) : Bool := fs.all fun p => (E.ty p.2).isSome

/-- A value of a type from cells on: an aggregate, or the first cell. -/
def takeT (i : TI) (xs : List AV) : Option AV :=
  match i.kind with
  | .struct _ | .array .. => if i.size ≤ xs.length then some (.agg (xs.take i.size)) else none
  | _ => match xs with | x :: _ => some x | [] => none

def asI : AV → Option Int
  | .lit (.int _ i) => some i
  | _ => none

def sliceLH (len cap : Nat) (lo hi : Option (Option AV)) : Option (Nat × Nat) :=
  match (match hi with | none => some (len : Int) | some (some (.lit (.int _ i))) => some i | _ => none),
        (match lo with | none => some (0 : Int) | some (some (.lit (.int _ i))) => some i | _ => none) with
  | some h, some l => if 0 ≤ l ∧ l ≤ h ∧ h ≤ cap then some (l.toNat, h.toNat) else none
  | _, _ => none

def minA (x y : AV) : Option AV := match x, y with | .lit (.int k a), .lit (.int _ b) => some (.lit (.int k (if b < a then b else a))) | _, _ => none
def maxA (x y : AV) : Option AV := match x, y with | .lit (.int k a), .lit (.int _ b) => some (.lit (.int k (if b > a then b else a))) | _, _ => none
def foldA (f : AV → AV → Option AV) : AV → List AV → Option AV
  | x, [] => some x
  | x, y :: r => match f x y with | some z => foldA f z r | none => none

def mode (E : Env) (f : FuncId) (o : Oper) : Nat := match o.dst with | some d => E.pol f d | none => 1

/-- Operations that do not look at the abstract heap. -/
def evFree (E : Env) (f : FuncId) (fr : AF) (o : Oper) : Option AV :=
  match o.op with
  | .move x => evA E fr x
  | .assign x => evA E fr x
  | .pick c a b => match evA E fr c with | some (.lit (.bool t)) => if t then evA E fr a else evA E fr b | _ => none
  | .binOp op t x y _ => match evA E fr x, evA E fr y with | some x, some y => binA E op t x y | _, _ => none
  | .unOp op _ x => match evA E fr x with | some x => unA op x | none => none
  | .convert s d x => match evA E fr x, kindOf E s, kindOf E d with
    | some (.lit (.int _ n)), .int _, .int k => some (.lit (.int k (k.wrap n)))
    | _, _, _ => none
  | .box _ x => if mode E f o = 0 then (match evA E fr x with | some v => if v.storable then some (.rp v.cells) else none | none => none) else none
  | .alloc t => if mode E f o = 0 then (match E.ty t with | some i => if zeroOk i then some (.rp (AV.ofV i.zero).cells) else none | none => none) else none
  | .build t ps => match E.ty t, evParts E fr ps.toList with
    | some i, some vs => match i.kind with
      | .struct fs => if zeroOk i && allTyped E fs then (fillA (sizesOf E fs) (AV.ofV i.zero).cells vs).map .agg else none
      | .array _ e => match E.ty e with
        | some ie => if zeroOk i then (fillA (fun j => some (j * ie.size, ie.size)) (AV.ofV i.zero).cells vs).map .agg else none
        | none => none
      | _ => none
    | _, _ => none
  | .buildSlice t n ps => if mode E f o = 0 then match kindOf E t, evParts E fr ps.toList with
      | .slice e, some vs => match E.ty e with
        | some ie => if zeroOk ie && decide (0 < ie.size) && decide (n * ie.size ≤ 16777216) then (fillA (fun j => some (j * ie.size, ie.size)) (zerosA n ie.zero) vs).map (.ro n) else none
        | none => none
      | _, _ => none
    else none
  | .load t x => match evA E fr x, E.ty t with
    | some (.rp xs), some i => takeT i xs
    | _, _ => none
  | .fieldAddr s x k => match evA E fr x, kindOf E s with
    | some (.rp xs), .struct fs => match fs[k]? with
      | some (off, t) => match E.ty t with | some i => if i.size = 0 then none else some (.rp (xs.drop off)) | none => none
      | none => none
    | some (.mp b v o), .struct fs => match fs[k]? with
      | some (off, t) => match E.ty t with | some i => if i.size = 0 then none else some (.mp b v (o + off)) | none => none
      | none => none
    | _, _ => none
  | .field s x k => match evA E fr x, kindOf E s with
    | some (.agg cs), .struct fs => match fs[k]? with
      | some (off, t) => match E.ty t with | some i => takeT i (cs.drop off) | none => none
      | none => none
    | _, _ => none
  | .indexAddr t x ix => match evA E fr x, evA E fr ix, kindOf E t with
    | some (.ro n xs), some (.lit (.int _ i)), .slice e => match E.ty e with | some ie => if 0 ≤ i ∧ i < n then some (.rp (xs.drop (i.toNat * ie.size))) else none | none => none
    | some (.ms b v off n sz), some (.lit (.int _ i)), .slice e => match E.ty e with | some ie => if ie.size = sz ∧ 0 ≤ i ∧ i < n then some (.mp b v (off + i.toNat * sz)) else none | none => none
    | some (.rp xs), some (.lit (.int _ i)), .array n e => match E.ty e with | some ie => if 0 ≤ i ∧ i < n then some (.rp (xs.drop (i.toNat * ie.size))) else none | none => none
    | some (.mp b v o), some (.lit (.int _ i)), .array n e => match E.ty e with | some ie => if 0 ≤ i ∧ i < n then some (.mp b v (o + i.toNat * ie.size)) else none | none => none
    | _, _, _ => none
  | .index t x ix => match evA E fr x, evA E fr ix, kindOf E t with
    | some (.agg cs), some (.lit (.int _ i)), .array n e => match E.ty e with | some ie => if 0 ≤ i ∧ i < n then takeT ie (cs.drop (i.toNat * ie.size)) else none | none => none
    | some (.lit (.string s)), some (.lit (.int _ i)), .string => if 0 ≤ i then (match s[i.toNat]? with | some b => some (.lit (.int .u8 b.toNat)) | none => none) else none
    | _, _, _ => none
  | .slice t x lo hi mx => match evA E fr x, kindOf E t, mx with
    | some (.ro n xs), .slice e, none => match E.ty e, sliceLH n n (lo.map (evA E fr)) (hi.map (evA E fr)) with
      | some ie, some (l, h) => some (.ro (h - l) ((xs.drop (l * ie.size)).take ((h - l) * ie.size)))
      | _, _ => none
    | some (.ms b v off n sz), .slice e, none => match E.ty e, sliceLH n n (lo.map (evA E fr)) (hi.map (evA E fr)) with
      | some ie, some (l, h) => if ie.size = sz ∧ l = 0 then some (.ms b v off h sz) else if ie.size = sz then some (.ms b v (off + l * sz) (h - l) sz) else none
      | _, _ => none
    | some (.lit (.string s)), .string, none => match sliceLH s.size s.size (lo.map (evA E fr)) (hi.map (evA E fr)) with
      | some (l, h) => some (.lit (.string (s.extract l h)))
      | none => none
    | _, _, _ => none
  | .makeFunc (.func g) first cap => if first.isEmpty then (match evArgs E fr cap.toList with | some vs => some (.fn g vs) | none => none) else none
  | .extract x k => match evA E fr x with | some (.tup vs) => vs[k]? | _ => none
  | .nilCheck x => match evA E fr x with
    | some (.rp xs) => some (.rp xs)
    | some (.mp b v o) => some (.mp b v o)
    | some (.fn g c) => some (.fn g c)
    | _ => none
  | .call { callee := .builtin .len, args, argTypes } => match args.toList.map (evA E fr), argTypes.toList with
    | [some x], [t] => match x, kindOf E t with
      | .ro n _, .slice _ => some (.lit (.int .i64 n))
      | .ms _ _ _ n _, .slice _ => some (.lit (.int .i64 n))
      | .lit (.slice _ n _), .slice _ => some (.lit (.int .i64 n))
      | .lit (.string s), .string => some (.lit (.int .i64 s.size))
      | _, _ => none
    | _, _ => none
  | .call { callee := .builtin .min, args, .. } => match evArgs E fr args.toList with | some (x :: r) => foldA minA x r | _ => none
  | .call { callee := .builtin .max, args, .. } => match evArgs E fr args.toList with | some (x :: r) => foldA maxA x r | _ => none
  | _ => none

/-! ### With the heap -/
inductive Cls where | F | R | W
  deriving DecidableEq, Inhabited

/-- Does an operation that looks at the heap leave it as it was? -/
def clsH (o : Oper) : Cls := match o.op with | .load .. => .R | .lookup .. => .R | .mapEntry .. => .R | _ => .W

def getCells (h : AHeap) (b ver : Nat) : Option (List AV) := match h[b]? with | some (.cells v xs) => if v = ver then some xs else none | _ => none

/-- The cells of a slice. -/
def cellsS (h : AHeap) (size : Nat) : AV → Option (Nat × List AV)
  | .lit (.slice none 0 0) => some (0, [])
  | .ro n xs => if xs.length = n * size then some (n, xs) else none
  | .ms b v off n sz => match getCells h b v with
    | some xs => if sz = size ∧ off + n * sz ≤ xs.length then some (n, (xs.drop off).take (n * sz)) else none
    | none => none
  | _ => none

/-- 'append': what it makes of the heap. -/
def appendA (ie : TI) (h : AHeap) (s : AV) (m : Nat) (ys : List AV) : Option (AV × AHeap) :=
  match s with
  | .lit (.slice none 0 0) => if m = 0 then some (s, h) else if m * ie.bytes ≤ 140737488355328 ∧ m ≤ 9223372036854775807 then some (.ms h.length 0 0 m ie.size, h ++ [.cells 0 ys]) else none
  | .ms b v off n sz => match getCells h b v with
    | some xs => if off = 0 ∧ sz = ie.size ∧ n * sz ≤ xs.length ∧ (n + m) * ie.bytes ≤ 140737488355328 ∧ n + m ≤ 9223372036854775807 then some (.ms b (v + 1) 0 (n + m) sz, h.set b (.cells (v + 1) (xs.take (n * sz) ++ ys))) else none
    | none => none
  | _ => none

/-- A map with pairs of numbers as keys, of numbers: the kinds. -/
def mapTI (E : Env) (t : TypeId) : Option (IntKind × IntKind) := match kindOf E t with
  | .map k e => match kindOf E k, kindOf E e, E.ty k, E.ty e with
    | .array n ke, .int vd, some ik, some ie => match kindOf E ke, E.ty ke, AV.ofV ie.zero with
      | .int kd, some i, .lit (.int vk z) => if n = 2 ∧ ik.size = 2 ∧ i.size = 1 ∧ vk = vd ∧ z = 0 then some (kd, vd) else none
      | _, _, _ => none
    | _, _, _, _ => none
  | _ => none
def keyA (kd : IntKind) : AV → Option (Int × Int)
  | .agg [.lit (.int k1 x), .lit (.int k2 y)] => if k1 = kd ∧ k2 = kd ∧ (Lit.int kd x).wf = true ∧ (Lit.int kd y).wf = true then some (x, y) else none
  | _ => none
def getMap (h : AHeap) (b : Nat) (kd vd : IntKind) : Option (Int → Int → Int) := match h[b]? with
  | some (.map k v f) => if k = kd ∧ v = vd then some f else none
  | _ => none
def mput (f : Int → Int → Int) (x y n : Int) : Int → Int → Int := fun p q => if p = x ∧ q = y then n else f p q

def evHeap (E : Env) (f : FuncId) (fr : AF) (h : AHeap) (o : Oper) : Option (AV × AHeap) :=
  match o.op with
  | .load t x => match evA E fr x, E.ty t with
    | some (.mp b v off), some i => match getCells h b v with
      | some xs => (takeT i (xs.drop off)).map fun r => (r, h)
      | none => none
    | _, _ => none
  | .store t x y => match evA E fr x, evA E fr y, E.ty t with
    | some (.mp b v off), some y, some i => match getCells h b v with
      | some xs => if y.cells.length = i.size ∧ y.storable = true then (putAt xs off y.cells).map fun xs => (.undef, h.set b (.cells v xs)) else none
      | none => none
    | _, _, _ => none
  | .box _ x => if mode E f o = 0 then none else match evA E fr x with
    | some v => if v.storable then some (.mp h.length 0 0, h ++ [.cells 0 v.cells]) else none
    | none => none
  | .alloc t => if mode E f o = 0 then none else match E.ty t with
    | some i => if zeroOk i then some (.mp h.length 0 0, h ++ [.cells 0 (AV.ofV i.zero).cells]) else none
    | none => none
  | .buildSlice t n ps => if mode E f o = 0 then none else match kindOf E t, evParts E fr ps.toList with
    | .slice e, some vs => match E.ty e with
      | some ie => if zeroOk ie && decide (0 < ie.size) && decide (n * ie.size ≤ 16777216) then (fillA (fun j => some (j * ie.size, ie.size)) (zerosA n ie.zero) vs).map fun xs => (.ms h.length 0 0 n ie.size, h ++ [.cells 0 xs]) else none
      | none => none
    | _, _ => none
  | .makeSlice t l c => match kindOf E t, evA E fr l, evA E fr c with
    | .slice e, some (.lit (.int _ l)), some (.lit (.int _ c)) => match E.ty e with
      | some ie => if zeroOk ie && decide (0 < ie.size) && decide (0 ≤ l) && decide (l ≤ c) && decide ((ie.bytes : Int) * c ≤ 281474976710656) && decide (c ≤ 9223372036854775807) then
          some (.ms h.length 0 0 l.toNat ie.size, h ++ [.cells 0 (zerosA l.toNat ie.zero)]) else none
      | none => none
    | _, _, _ => none
  | .makeMap t none => match mapTI E t with
    | some (kd, vd) => some (.mref h.length, h ++ [.map kd vd fun _ _ => 0])
    | none => none
  | .lookup t m k false => match evA E fr m, evA E fr k, mapTI E t with
    | some (.mref b), some kv, some (kd, vd) => match getMap h b kd vd, keyA kd kv with
      | some f, some (x, y) => some (.lit (.int vd (f x y)), h)
      | _, _ => none
    | _, _, _ => none
  | .mapEntry t m k => match evA E fr m, evA E fr k, mapTI E t with
    | some (.mref b), some kv, some (kd, vd) => match getMap h b kd vd, keyA kd kv with
      | some f, some (x, y) => some (.tup [.lit (.int vd (f x y)), .ent b kd x y], h)
      | _, _ => none
    | _, _, _ => none
  | .entryStore t m s v => match evA E fr m, evA E fr s, evA E fr v, mapTI E t with
    | some (.mref b), some (.ent b' kd' x y), some (.lit (.int vk n)), some (kd, vd) => match getMap h b kd vd with
      | some f => if b' = b ∧ kd' = kd ∧ vk = vd then some (.undef, h.set b (.map kd vd (mput f x y n))) else none
      | none => none
    | _, _, _, _ => none
  | .call { callee := .builtin .append, args, argTypes } => match args.toList.map (evA E fr), argTypes.toList with
    | [some s, some x], [t, t'] => if t = t' then match kindOf E t with
      | .slice e => match E.ty e with
        | some ie => if zeroOk ie && decide (0 < ie.size) then match cellsS h ie.size x with
          | some (m, ys) => appendA ie h s m ys
          | none => none
          else none
        | none => none
      | _ => none
      else none
    | _, _ => none
  | .call { callee := .builtin .copy, args, argTypes } => match args.toList.map (evA E fr), argTypes.toList with
    | [some (.ms b v off n sz), some x], [t, t'] => match kindOf E t with
      | .slice e => match E.ty e, getCells h b v with
        | some ie, some xs => if ie.size = sz then match cellsS h ie.size x with
          | some (m, ys) => (putAt xs off (ys.take (min m n * sz))).map fun xs => (.lit (.int .i64 (min m n : Nat)), h.set b (.cells v xs))
          | none => none
          else none
        | _, _ => none
      | _ => none
    | _, _ => none
  | _ => none

/-! ### Reading a value whole -/
mutual
def rdv (h : AHeap) : Nat → AV → Option AV
  | 0, _ => none
  | n + 1, x => if x.closed then some x else match x with
    | .agg cs => (rdvL h n cs).map .agg
    | .tup cs => (rdvL h n cs).map .tup
    | .ro k xs => (rdvL h n xs).map (.ro k)
    | .rp xs => (rdvL h n xs).map .rp
    | .ms b v off k sz => match getCells h b v with
      | some xs => if off + k * sz ≤ xs.length then (rdvL h n ((xs.drop off).take (k * sz))).map (.ro k) else none
      | none => none
    | .mp b v off => match getCells h b v with
      | some xs => (rdvL h n (xs.drop off)).map .rp
      | none => none
    | .fn g c => (rdvL h n c).map (.fn g)
    | _ => none
def rdvL (h : AHeap) : Nat → List AV → Option (List AV)
  | 0, _ => none
  | n + 1, [] => some []
  | n + 1, x :: xs => match rdv h n x, rdvL h n xs with
    | some y, some ys => some (y :: ys)
    | _, _ => none
end

end Go.Abs
