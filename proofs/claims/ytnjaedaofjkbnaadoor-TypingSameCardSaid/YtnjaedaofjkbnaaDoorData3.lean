/- The data of networks. Conditions: none. -/
import Derived.Test.YtnjaedaofjkbnaaDoorC12
set_option maxRecDepth 100000
set_option linter.unusedVariables false
set_option linter.unusedSimpArgs false
namespace Go.Abs
open Go
/-- A network. -/
inductive Nt where | mk (kind neg : Int) (e : Ex) (l : List Nt)
def Nt.kind : Nt → Int | .mk a _ _ _ => a
def Nt.neg : Nt → Int | .mk _ a _ _ => a
def Nt.e : Nt → Ex | .mk _ _ a _ => a
def Nt.l : Nt → List Nt | .mk _ _ _ a => a
mutual
def Nt.cs : Nt → List AV
  | .mk k n e l => [I k, I n, I e.op, I e.t, I e.n, I e.m, .ro e.l.length (recs Ex.cs e.l), .ro l.length (Nt.csL l)]
def Nt.csL : List Nt → List AV
  | [] => []
  | e :: l => Nt.cs e ++ Nt.csL l
end
theorem Nt.csL_eq : ∀ l : List Nt, Nt.csL l = recs Nt.cs l
  | [] => by simp [Nt.csL, recs]
  | e :: l => by rw [Nt.csL, recs_cons, Nt.csL_eq l]
theorem Nt.cs_eq (x : Nt) : x.cs = [I x.kind, I x.neg, I x.e.op, I x.e.t, I x.e.n, I x.e.m, .ro x.e.l.length (recs Ex.cs x.e.l), .ro x.l.length (recs Nt.cs x.l)] := by
  cases x with
  | mk k n e l => simp [Nt.cs, Nt.csL_eq, Nt.kind, Nt.neg, Nt.e, Nt.l]
theorem Nt.cs_len (e : Nt) : e.cs.length = 8 := by rw [Nt.cs_eq]; rfl
abbrev ntA (x : Nt) : AV := .agg [I x.kind, I x.neg, I x.e.op, I x.e.t, I x.e.n, I x.e.m, .ro x.e.l.length (recs Ex.cs x.e.l), .ro x.l.length (recs Nt.cs x.l)]
mutual
theorem Nt.closed : ∀ e : Nt, AV.closedL e.cs = true
  | .mk k n e l => by simp [Nt.cs, AV.closedL, AV.closed, Nt.closedL l, ex_closed]
theorem Nt.closedL : ∀ l : List Nt, AV.closedL (Nt.csL l) = true
  | [] => by simp [Nt.csL, AV.closedL]
  | e :: l => by rw [Nt.csL, closedL_append, Nt.closed e, Nt.closedL l]; rfl
end
theorem nt_closed (l : List Nt) : AV.closedL (recs Nt.cs l) = true := by rw [← Nt.csL_eq]; exact Nt.closedL l
theorem ntA_closed (x : Nt) : (ntA x).closed = true := by simp [AV.closedL, AV.closed, ex_closed, nt_closed]
theorem Nt.at {l : List Nt} {i : Nat} {x : Nt} (h : l[i]? = some x) : (recs Nt.cs l).drop (i * 8) = [I x.kind, I x.neg, I x.e.op, I x.e.t, I x.e.n, I x.e.m, .ro x.e.l.length (recs Ex.cs x.e.l), .ro x.l.length (recs Nt.cs x.l)] ++ recs Nt.cs (l.drop (i + 1)) := by
  rw [recs_at Nt.cs_len h, Nt.cs_eq]
mutual
theorem Nt.ind {M : Nt → Prop} (h : ∀ e, (∀ x ∈ e.l, M x) → M e) : ∀ e, M e
  | .mk a b c l => h (.mk a b c l) (Nt.indL h l)
theorem Nt.indL {M : Nt → Prop} (h : ∀ e, (∀ x ∈ e.l, M x) → M e) : ∀ l : List Nt, ∀ x ∈ l, M x
  | [], x, hx => by simp at hx
  | e :: l, x, hx => (List.mem_cons.1 hx).elim (fun hxe => hxe ▸ Nt.ind h e) (Nt.indL h l x)
end
theorem Nt.ext {a b : Nt} (h1 : a.kind = b.kind) (h2 : a.neg = b.neg) (h3 : a.e = b.e) (h4 : a.l = b.l) : a = b := by
  cases a; cases b; simp_all [Nt.kind, Nt.neg, Nt.e, Nt.l]
inductive Nt.Fit : Nt → Prop
  | mk (x : Nt) : x.l.length < 9223372036854775808 → In64 x.kind → In64 x.neg → x.e.Fit → (∀ y ∈ x.l, Nt.Fit y) → Nt.Fit x
theorem Nt.Fit.len {e : Nt} (h : e.Fit) : e.l.length < 9223372036854775808 := by cases h; assumption
theorem Nt.Fit.ex {e : Nt} (h : e.Fit) : e.e.Fit := by cases h; assumption
theorem Nt.Fit.nums {e : Nt} (h : e.Fit) : In64 e.kind ∧ In64 e.neg := by cases h; exact ⟨by assumption, by assumption⟩
theorem Nt.Fit.sub {e : Nt} (h : e.Fit) : ∀ x ∈ e.l, Nt.Fit x := by cases h; assumption
inductive Nt.Small : Nt → Prop
  | mk (x : Nt) : x.l.length ≤ 100 → x.e.Small → (∀ y ∈ x.l, Nt.Small y) → Nt.Small x
theorem Nt.Small.len {e : Nt} (h : e.Small) : e.l.length ≤ 100 := by cases h; assumption
theorem Nt.Small.ex {e : Nt} (h : e.Small) : e.e.Small := by cases h; assumption
theorem Nt.Small.sub {e : Nt} (h : e.Small) : ∀ x ∈ e.l, Nt.Small x := by cases h; assumption
end Go.Abs

