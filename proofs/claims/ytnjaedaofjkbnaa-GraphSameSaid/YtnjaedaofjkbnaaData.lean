/- The data of the program's arguments as Lean's, and the cells that they lie in; small laws of loops, of numbers and of what is read whole. Conditions: none. -/
import Derived.Test.YtnjaedaofjkbnaaKit
set_option maxRecDepth 100000
set_option linter.unusedVariables false
set_option linter.unusedSimpArgs false
namespace Go.Abs
open Go
abbrev I (n : Int) : AV := .lit (.int .i64 n)
abbrev B (b : Bool) : AV := .lit (.bool b)
theorem B_eq {x y : Bool} (h : x = true ↔ y = true) : B x = .lit (.bool y) := by rw [Bool.eq_iff_iff.2 h]
def In64 (n : Int) : Prop := -9223372036854775808 ≤ n ∧ n < 9223372036854775808
theorem wrap64 {n : Int} (h : In64 n) : IntKind.i64.wrap n = n := by
  unfold In64 at h
  simp only [IntKind.wrap, IntKind.signed, IntKind.bits]
  simp
  omega
theorem wrap_in (n : Int) : In64 (IntKind.i64.wrap n) := by
  unfold In64
  simp only [IntKind.wrap, IntKind.signed, IntKind.bits]
  simp
  omega
theorem cz : ((0 : Nat) : Int) = 0 := rfl
theorem at_end {h : AHeap} {x : ABlock} : (h ++ [x])[h.length]? = some x := by simp
theorem set_end {h : AHeap} {x y : ABlock} : (h ++ [x]).set h.length y = h ++ [y] := by simp

/-- A loop whose measure falls. -/
theorem L1_wf {E : Env} {f : FuncId} {N : Nat} {Q : QX} {c : Code} {d : Dep (c, Q)} (Inv : Nat → AF → AHeap → Prop)
    (step : ∀ k fr h, Inv k fr h → W1 E f N c (T1 (fun fr h => ∃ k', k' < k ∧ Inv k' fr h) Q .mk) .mk fr h) :
    ∀ k fr h, Inv k fr h → L1 E f N c Q d fr h := by
  intro k
  induction k using Nat.strongRecOn with
  | _ k ih =>
  intro fr h hI
  refine runs_loop (runs_mono (W_sound _ _ _ _ (step k fr h hI)) ?_)
  intro ex fr h hq
  cases ex with
  | normal => obtain ⟨k', h1, h2⟩ := hq; exact ih k' h1 fr h h2
  | exit id => exact hq
  | ret => exact hq

/-- Records one behind the other. -/
def recs {α : Type} (c : α → List AV) (l : List α) : List AV := l.flatMap c
theorem recs_nil {α : Type} {c : α → List AV} : recs c [] = [] := rfl
theorem recs_cons {α : Type} {c : α → List AV} {x : α} {l : List α} : recs c (x :: l) = c x ++ recs c l := by simp [recs]
theorem recs_append {α : Type} {c : α → List AV} {l m : List α} : recs c (l ++ m) = recs c l ++ recs c m := by simp [recs]
theorem recs_length {α : Type} {c : α → List AV} {w : Nat} (hw : ∀ x, (c x).length = w) : ∀ l, (recs c l).length = l.length * w
  | [] => by simp [recs]
  | x :: l => by rw [recs_cons, List.length_append, hw, recs_length hw l, List.length_cons, Nat.succ_mul, Nat.add_comm]
theorem recs_drop {α : Type} {c : α → List AV} {w : Nat} (hw : ∀ x, (c x).length = w) : ∀ (l : List α) (i : Nat), (recs c l).drop (i * w) = recs c (l.drop i)
  | l, 0 => by simp
  | [], i + 1 => by simp [recs]
  | x :: l, i + 1 => by
    rw [recs_cons, List.drop_succ_cons, ← recs_drop hw l i, Nat.succ_mul, Nat.add_comm, ← List.drop_drop, List.drop_left' (hw x)]
theorem recs_at {α : Type} {c : α → List AV} {w : Nat} (hw : ∀ x, (c x).length = w) {l : List α} {i : Nat} {x : α} (h : l[i]? = some x) : (recs c l).drop (i * w) = c x ++ recs c (l.drop (i + 1)) := by
  rw [recs_drop hw, List.drop_eq_getElem?_toList_append, h]
  simp [recs_cons]
theorem recs_closed {α : Type} {c : α → List AV} : ∀ (l : List α), (∀ x ∈ l, AV.closedL (c x) = true) → AV.closedL (recs c l) = true
  | [], _ => rfl
  | x :: l, h => by
    rw [recs_cons, closedL_append]
    simp [h x (by simp), recs_closed l fun y hy => h y (by simp [hy])]

def intC (n : Int) : List AV := [I n]
abbrev intsA (l : List Int) : AV := .ro l.length (recs intC l)
theorem intC_at {l : List Int} {i : Nat} {x : Int} (h : l[i]? = some x) : (recs intC l).drop (i * 1) = I x :: recs intC (l.drop (i + 1)) := recs_at (w := 1) (fun _ => rfl) h
theorem ints_closed (l : List Int) : AV.closedL (recs intC l) = true := recs_closed l fun x _ => rfl

/-- An expression. -/
inductive Ex where | mk (op t n m : Int) (l : List Ex)
def Ex.op : Ex → Int | .mk a _ _ _ _ => a
def Ex.t : Ex → Int | .mk _ a _ _ _ => a
def Ex.n : Ex → Int | .mk _ _ a _ _ => a
def Ex.m : Ex → Int | .mk _ _ _ a _ => a
def Ex.l : Ex → List Ex | .mk _ _ _ _ a => a
mutual
def Ex.cs : Ex → List AV
  | .mk op t n m l => [I op, I t, I n, I m, .ro l.length (Ex.csL l)]
def Ex.csL : List Ex → List AV
  | [] => []
  | e :: l => Ex.cs e ++ Ex.csL l
end
theorem Ex.csL_eq : ∀ l : List Ex, Ex.csL l = recs Ex.cs l
  | [] => by simp [Ex.csL, recs]
  | e :: l => by rw [Ex.csL, recs_cons, Ex.csL_eq l]
theorem Ex.cs_eq (e : Ex) : e.cs = [I e.op, I e.t, I e.n, I e.m, .ro e.l.length (recs Ex.cs e.l)] := by
  cases e with
  | mk op t n m l => simp [Ex.cs, Ex.csL_eq, Ex.op, Ex.t, Ex.n, Ex.m, Ex.l]
theorem Ex.cs_len (e : Ex) : e.cs.length = 5 := by rw [Ex.cs_eq]; rfl
abbrev exA (e : Ex) : AV := .agg [I e.op, I e.t, I e.n, I e.m, .ro e.l.length (recs Ex.cs e.l)]
mutual
theorem Ex.closed : ∀ e : Ex, AV.closedL e.cs = true
  | .mk op t n m l => by simp [Ex.cs, AV.closedL, AV.closed, Ex.closedL l]
theorem Ex.closedL : ∀ l : List Ex, AV.closedL (Ex.csL l) = true
  | [] => by simp [Ex.csL, AV.closedL]
  | e :: l => by rw [Ex.csL, closedL_append, Ex.closed e, Ex.closedL l]; rfl
end
theorem ex_closed (l : List Ex) : AV.closedL (recs Ex.cs l) = true := by rw [← Ex.csL_eq]; exact Ex.closedL l
theorem Ex.at {l : List Ex} {i : Nat} {x : Ex} (h : l[i]? = some x) : (recs Ex.cs l).drop (i * 5) = [I x.op, I x.t, I x.n, I x.m, .ro x.l.length (recs Ex.cs x.l)] ++ recs Ex.cs (l.drop (i + 1)) := by
  rw [recs_at Ex.cs_len h, Ex.cs_eq]
mutual
theorem Ex.ind {M : Ex → Prop} (h : ∀ e, (∀ x ∈ e.l, M x) → M e) : ∀ e, M e
  | .mk a b c d l => h (.mk a b c d l) (Ex.indL h l)
theorem Ex.indL {M : Ex → Prop} (h : ∀ e, (∀ x ∈ e.l, M x) → M e) : ∀ l : List Ex, ∀ x ∈ l, M x
  | [], x, hx => by simp at hx
  | e :: l, x, hx => (List.mem_cons.1 hx).elim (fun hxe => hxe ▸ Ex.ind h e) (Ex.indL h l x)
end
theorem Ex.ext {a b : Ex} (h1 : a.op = b.op) (h2 : a.t = b.t) (h3 : a.n = b.n) (h4 : a.m = b.m) (h5 : a.l = b.l) : a = b := by
  cases a; cases b; simp_all [Ex.op, Ex.t, Ex.n, Ex.m, Ex.l]
noncomputable def same1 (a b : Ex) : Bool := @decide (a = b) (Classical.propDecidable _)
theorem same1_iff {a b : Ex} : same1 a b = true ↔ a = b := by simp [same1]
/-- Are all lists in it of lengths that Go's may have? -/
inductive Ex.Fit : Ex → Prop
  | mk (e : Ex) : e.l.length < 9223372036854775808 → In64 e.op → In64 e.t → In64 e.n → In64 e.m → (∀ x ∈ e.l, Ex.Fit x) → Ex.Fit e
theorem Ex.Fit.len {e : Ex} (h : e.Fit) : e.l.length < 9223372036854775808 := by cases h; assumption
theorem Ex.Fit.sub {e : Ex} (h : e.Fit) : ∀ x ∈ e.l, Ex.Fit x := by cases h; assumption

/-- An argument: a field, and an expression. -/
structure Ag where
  f : Int
  e : Ex
abbrev Ag.cs (a : Ag) : List AV := [I a.f, I a.e.op, I a.e.t, I a.e.n, I a.e.m, .ro a.e.l.length (recs Ex.cs a.e.l)]
theorem ag_closed (l : List Ag) : AV.closedL (recs Ag.cs l) = true := recs_closed l fun x _ => by simp [AV.closedL, AV.closed, ex_closed]
theorem Ag.at {l : List Ag} {i : Nat} {x : Ag} (h : l[i]? = some x) : (recs Ag.cs l).drop (i * 6) = [I x.f, I x.e.op, I x.e.t, I x.e.n, I x.e.m, .ro x.e.l.length (recs Ex.cs x.e.l)] ++ recs Ag.cs (l.drop (i + 1)) := recs_at (c := Ag.cs) (w := 6) (fun _ => rfl) h

/-- The part of a statement that holds no statements. -/
structure Ba where
  kind : Int
  cost : Int
  n : Int
  m : Int
  e : Ex
  i : Ex
  l : List Ex
  args : List Ag
/-- A statement; an arm: labels, and statements. -/
inductive Sm where | mk (b : Ba) (body els : List Sm) (arms : List (List Int × List Sm))
def Sm.b : Sm → Ba | .mk a _ _ _ => a
def Sm.body : Sm → List Sm | .mk _ a _ _ => a
def Sm.els : Sm → List Sm | .mk _ _ a _ => a
def Sm.arms : Sm → List (List Int × List Sm) | .mk _ _ _ a => a
abbrev Ba.cs (b : Ba) : List AV := [I b.kind, I b.cost, I b.n, I b.m, I b.e.op, I b.e.t, I b.e.n, I b.e.m, .ro b.e.l.length (recs Ex.cs b.e.l), I b.i.op, I b.i.t, I b.i.n, I b.i.m, .ro b.i.l.length (recs Ex.cs b.i.l), .ro b.l.length (recs Ex.cs b.l), .ro b.args.length (recs Ag.cs b.args)]
mutual
def Sm.cs : Sm → List AV
  | .mk b body els arms => b.cs ++ [.ro body.length (Sm.csL body), .ro els.length (Sm.csL els), .ro arms.length (Sm.csA arms)]
def Sm.csL : List Sm → List AV
  | [] => []
  | s :: l => Sm.cs s ++ Sm.csL l
def Sm.csA : List (List Int × List Sm) → List AV
  | [] => []
  | (is, l) :: r => [.ro is.length (recs intC is), .ro l.length (Sm.csL l)] ++ Sm.csA r
end
theorem Sm.csL_eq : ∀ l : List Sm, Sm.csL l = recs Sm.cs l
  | [] => by simp [Sm.csL, recs]
  | e :: l => by rw [Sm.csL, recs_cons, Sm.csL_eq l]
def armC (a : List Int × List Sm) : List AV := [.ro a.1.length (recs intC a.1), .ro a.2.length (recs Sm.cs a.2)]
theorem Sm.csA_eq : ∀ l : List (List Int × List Sm), Sm.csA l = recs armC l
  | [] => by simp [Sm.csA, recs]
  | (is, l) :: r => by rw [Sm.csA, recs_cons, Sm.csA_eq r, Sm.csL_eq]; rfl
abbrev Sm.cells (s : Sm) : List AV := [I s.b.kind, I s.b.cost, I s.b.n, I s.b.m, I s.b.e.op, I s.b.e.t, I s.b.e.n, I s.b.e.m, .ro s.b.e.l.length (recs Ex.cs s.b.e.l), I s.b.i.op, I s.b.i.t, I s.b.i.n, I s.b.i.m, .ro s.b.i.l.length (recs Ex.cs s.b.i.l), .ro s.b.l.length (recs Ex.cs s.b.l), .ro s.b.args.length (recs Ag.cs s.b.args),
  .ro s.body.length (recs Sm.cs s.body), .ro s.els.length (recs Sm.cs s.els), .ro s.arms.length (recs armC s.arms)]
theorem Sm.cs_eq (s : Sm) : s.cs = s.cells := by
  cases s with
  | mk b body els arms => simp [Sm.cs, Sm.csL_eq, Sm.csA_eq, Sm.b, Sm.body, Sm.els, Sm.arms]
theorem Sm.cs_len (s : Sm) : s.cs.length = 19 := by rw [Sm.cs_eq]; rfl
mutual
theorem Sm.closed : ∀ s : Sm, AV.closedL s.cs = true
  | .mk b body els arms => by simp [Sm.cs, AV.closedL, AV.closed, ex_closed, ag_closed, Sm.closedL body, Sm.closedL els, Sm.closedA arms]
theorem Sm.closedL : ∀ l : List Sm, AV.closedL (Sm.csL l) = true
  | [] => by simp [Sm.csL, AV.closedL]
  | e :: l => by rw [Sm.csL, closedL_append, Sm.closed e, Sm.closedL l]; rfl
theorem Sm.closedA : ∀ l : List (List Int × List Sm), AV.closedL (Sm.csA l) = true
  | [] => by simp [Sm.csA, AV.closedL]
  | (is, l) :: r => by rw [Sm.csA, closedL_append, Sm.closedA r]; simp [AV.closedL, AV.closed, ints_closed, Sm.closedL l]
end
theorem sm_closed (l : List Sm) : AV.closedL (recs Sm.cs l) = true := by rw [← Sm.csL_eq]; exact Sm.closedL l
theorem arm_closed (l : List (List Int × List Sm)) : AV.closedL (recs armC l) = true := by rw [← Sm.csA_eq]; exact Sm.closedA l
abbrev smA (s : Sm) : AV := .agg s.cells
abbrev smsA (l : List Sm) : AV := .ro l.length (recs Sm.cs l)
theorem Sm.at {l : List Sm} {i : Nat} {x : Sm} (h : l[i]? = some x) : (recs Sm.cs l).drop (i * 19) = x.cells ++ recs Sm.cs (l.drop (i + 1)) := by
  rw [recs_at Sm.cs_len h, Sm.cs_eq]
theorem arm_at {l : List (List Int × List Sm)} {i : Nat} {x : List Int × List Sm} (h : l[i]? = some x) : (recs armC l).drop (i * 2) = [.ro x.1.length (recs intC x.1), .ro x.2.length (recs Sm.cs x.2)] ++ recs armC (l.drop (i + 1)) := recs_at (c := armC) (w := 2) (fun _ => rfl) h
structure Ba.Fit (b : Ba) : Prop where
  kind : In64 b.kind
  cost : In64 b.cost
  n : In64 b.n
  m : In64 b.m
  e : b.e.Fit
  i : b.i.Fit
  ll : b.l.length < 9223372036854775808
  l : ∀ x ∈ b.l, x.Fit
  al : b.args.length < 9223372036854775808
  a : ∀ x ∈ b.args, In64 x.f ∧ x.e.Fit
inductive Sm.Fit : Sm → Prop
  | mk (s : Sm) : s.b.Fit → s.body.length < 9223372036854775808 → s.els.length < 9223372036854775808 → s.arms.length < 9223372036854775808 → (∀ x ∈ s.body, Sm.Fit x) → (∀ x ∈ s.els, Sm.Fit x) →
    (∀ a ∈ s.arms, a.1.length < 9223372036854775808 ∧ a.2.length < 9223372036854775808) → (∀ a ∈ s.arms, ∀ x ∈ a.2, Sm.Fit x) → Sm.Fit s

/-- An event: a statement, and the places behind it. -/
structure Nd where
  s : Sm
  next : List Int
abbrev Nd.cs (x : Nd) : List AV := x.s.cells ++ [.ro x.next.length (recs intC x.next)]
theorem nd_closed (l : List Nd) : AV.closedL (recs Nd.cs l) = true := recs_closed l fun x _ => by simp [AV.closedL, AV.closed, ex_closed, ag_closed, ints_closed, sm_closed, arm_closed]
abbrev ndA (x : Nd) : AV := .agg x.cs
abbrev ndsA (l : List Nd) : AV := .ro l.length (recs Nd.cs l)
theorem Nd.at {l : List Nd} {i : Nat} {x : Nd} (h : l[i]? = some x) : (recs Nd.cs l).drop (i * 20) = x.s.cells ++ .ro x.next.length (recs intC x.next) :: recs Nd.cs (l.drop (i + 1)) := by
  rw [recs_at (c := Nd.cs) (w := 20) (fun _ => rfl) h]; simp
structure Nd.Fit (x : Nd) : Prop where
  s : x.s.Fit
  nl : x.next.length < 9223372036854775808
  n : ∀ k ∈ x.next, In64 k

/-! ### Read whole -/
/-- Read whole, in all so many steps or more. -/
def Rdb (h : AHeap) (x y : AV) : Prop := ∃ N, ∀ n, N ≤ n → rdv h n x = some y
def RdbL (h : AHeap) (x y : List AV) : Prop := ∃ N, ∀ n, N ≤ n → rdvL h n x = some y
theorem Rdb.closed {h : AHeap} {x : AV} (hx : x.closed = true) : Rdb h x x := ⟨1, fun n hn => by
  cases n with
  | zero => omega
  | succ n => simp [rdv, hx]⟩
theorem RdbL.nil {h : AHeap} : RdbL h [] [] := ⟨1, fun n hn => by
  cases n with
  | zero => omega
  | succ n => simp [rdvL]⟩
theorem RdbL.cons {h : AHeap} {x y : AV} {xs ys : List AV} (h1 : Rdb h x y) (h2 : RdbL h xs ys) : RdbL h (x :: xs) (y :: ys) := by
  obtain ⟨a, ha⟩ := h1
  obtain ⟨b, hb⟩ := h2
  refine ⟨a + b + 1, fun n hn => ?_⟩
  cases n with
  | zero => omega
  | succ n => simp [rdvL, ha n (by omega), hb n (by omega)]
theorem RdbL.closed {h : AHeap} : ∀ {xs : List AV}, AV.closedL xs = true → RdbL h xs xs
  | [], _ => .nil
  | x :: xs, hc => by
    simp only [AV.closedL, Bool.and_eq_true] at hc
    exact .cons (.closed hc.1) (.closed hc.2)
theorem RdbL.eq {h : AHeap} {xs ys : List AV} (hy : RdbL h xs ys) (hc : AV.closedL xs = true) : xs = ys := by
  obtain ⟨N, hN⟩ := hy
  obtain ⟨M, hM⟩ := RdbL.closed (h := h) hc
  have a := hN (N + M) (by omega)
  have b := hM (N + M) (by omega)
  rw [a] at b
  injection b with b
  exact b.symm
theorem Rdb.ms {h : AHeap} {b ver off k sz : Nat} {xs ys : List AV} (hb : h[b]? = some (.cells ver xs)) (hl : off + k * sz ≤ xs.length) (hy : RdbL h ((xs.drop off).take (k * sz)) ys) : Rdb h (.ms b ver off k sz) (.ro k ys) := by
  obtain ⟨N, hN⟩ := hy
  refine ⟨N + 1, fun n hn => ?_⟩
  cases n with
  | zero => omega
  | succ n => simp [rdv, AV.closed, getCells, hb, hl, hN n (by omega)]
theorem Rdb.agg {h : AHeap} {xs ys : List AV} (hy : RdbL h xs ys) : Rdb h (.agg xs) (.agg ys) := by
  by_cases hc : AV.closedL xs = true
  · obtain rfl := hy.eq hc
    exact .closed (by simpa [AV.closed] using hc)
  · obtain ⟨N, hN⟩ := hy
    refine ⟨N + 1, fun n hn => ?_⟩
    cases n with
    | zero => omega
    | succ n => simp [rdv, AV.closed, hc, hN n (by omega)]
theorem Rdb.tup {h : AHeap} {xs ys : List AV} (hy : RdbL h xs ys) : Rdb h (.tup xs) (.tup ys) := by
  by_cases hc : AV.closedL xs = true
  · obtain rfl := hy.eq hc
    exact .closed (by simpa [AV.closed] using hc)
  · obtain ⟨N, hN⟩ := hy
    refine ⟨N + 1, fun n hn => ?_⟩
    cases n with
    | zero => omega
    | succ n => simp [rdv, AV.closed, hc, hN n (by omega)]
theorem Rdb.mp {h : AHeap} {b ver off : Nat} {xs ys : List AV} (hb : h[b]? = some (.cells ver xs)) (hy : RdbL h (xs.drop off) ys) : Rdb h (.mp b ver off) (.rp ys) := by
  obtain ⟨N, hN⟩ := hy
  refine ⟨N + 1, fun n hn => ?_⟩
  cases n with
  | zero => omega
  | succ n => simp [rdv, AV.closed, getCells, hb, hN n (by omega)]
theorem RetOk_rdb {h : AHeap} {vs : List AV} {r : AV} (h1 : Rdb h (oneOrTup vs) r) (h2 : r.closed = true) : RetOk h vs r := by
  obtain ⟨N, hN⟩ := h1
  exact ⟨N, hN N (Nat.le_refl _), h2⟩
theorem RetX_rdb {h : AHeap} {vs : List AV} {Φ : AV → Prop} {r : AV} (h1 : Rdb h (oneOrTup vs) r) (h2 : r.closed = true) (h3 : Φ r) : RetX h vs Φ := ⟨r, RetOk_rdb h1 h2, h3⟩
/-- A call by its contract, whose arguments lie in the caller's memory and are only looked at. -/
theorem C1.read {E : Env} {h : AHeap} {g : FuncId} {ws ws' : List AV} {v : AV} {K : QK} {d : Dep K} (hp : PFn E g ws' v) (hr : RdbL h ws ws') (hc : AV.closedL ws' = true) (hf : v.flats = true) (hk : K v h .R) : C1 E K d h g ws := by
  obtain ⟨N, hN⟩ := hr
  exact ⟨v, h, .R, hk, Or.inr (Or.inr ⟨rfl, rfl, hf, N, ws', hN N (Nat.le_refl _), hc, hp⟩)⟩
theorem set_self {h : AHeap} {b : Nat} {x y : ABlock} (hb : h[b]? = some x) : (h.set b y)[b]? = some y := by
  rw [List.getElem?_set_self (List.getElem?_eq_some_iff.1 hb).1]
def IsI (v : AV) : Prop := ∃ n, v = I n
def IsB (v : AV) : Prop := ∃ b, v = B b
end Go.Abs

