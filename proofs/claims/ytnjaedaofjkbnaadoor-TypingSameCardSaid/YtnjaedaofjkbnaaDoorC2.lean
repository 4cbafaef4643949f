/- Contracts: parts of expressions. Conditions: none. -/
import Derived.Test.YtnjaedaofjkbnaaDoorData
set_option maxRecDepth 100000
set_option linter.unusedVariables false
set_option linter.unusedSimpArgs false
namespace Go.Abs
open Go

def one1 (e : Ex) : Bool := e.op == 6 && e.m == 17 && e.t == 0 && e.n == 0 && decide (e.l.length = 1)
def two1 (e : Ex) (ops : List Int) : Bool := e.op == 7 && e.t == 0 && e.n == 0 && decide (e.l.length = 2) && ops.contains e.m
mutual
theorem Ex.ind {M : Ex → Prop} (h : ∀ e, (∀ x ∈ e.l, M x) → M e) : ∀ e, M e
  | .mk a b c d l => h (.mk a b c d l) (Ex.indL h l)
theorem Ex.indL {M : Ex → Prop} (h : ∀ e, (∀ x ∈ e.l, M x) → M e) : ∀ l : List Ex, ∀ x ∈ l, M x
  | [], x, hx => by simp at hx
  | e :: l, x, hx => (List.mem_cons.1 hx).elim (fun hxe => hxe ▸ Ex.ind h e) (Ex.indL h l x)
end
theorem ex_closed (l : List Ex) : AV.closedL (recs Ex.cs l) = true := exL_closed l
theorem Ex.ext {a b : Ex} (h1 : a.op = b.op) (h2 : a.t = b.t) (h3 : a.n = b.n) (h4 : a.m = b.m) (h5 : a.l = b.l) : a = b := by
  cases a; cases b; simp_all [Ex.op, Ex.t, Ex.n, Ex.m, Ex.l]

noncomputable def same1 (a b : Ex) : Bool := @decide (a = b) (Classical.propDecidable _)
theorem same1_iff {a b : Ex} : same1 a b = true ↔ a = b := by simp [same1]
/-- Are all lists in it of lengths that Go's may have? -/
inductive Ex.Fit : Ex → Prop
  | mk (e : Ex) : e.l.length < 9223372036854775808 → In64 e.op → In64 e.t → In64 e.n → In64 e.m → (∀ x ∈ e.l, Ex.Fit x) → Ex.Fit e
theorem Ex.Fit.len {e : Ex} (h : e.Fit) : e.l.length < 9223372036854775808 := by cases h; assumption
theorem Ex.Fit.sub {e : Ex} (h : e.Fit) : ∀ x ∈ e.l, Ex.Fit x := by cases h; assumption

end Go.Abs

