/- Contract: the type of an expression. Conditions: none. -/
import Derived.Test.YtnjaedaofjkbnaaDoorC7
set_option maxRecDepth 100000
set_option linter.unusedVariables false
set_option linter.unusedSimpArgs false
namespace Go.Abs
open Go

def typK (s : Sc) (e : Ex) : List Int → Int
  | [] => leaf1 s e
  | [a] => typ1 s e a
  | [a, b] => typ2 e a b
  | _ => 0
mutual
def typ (s : Sc) : Ex → Int
  | .mk op t n m l => if (typL s l).any (· == 0) then 0 else typK s (.mk op t n m l) (typL s l)
def typL (s : Sc) : List Ex → List Int
  | [] => []
  | e :: l => typ s e :: typL s l
end
theorem typL_eq (s : Sc) : ∀ l, typL s l = l.map (typ s)
  | [] => rfl
  | e :: l => by rw [typL, typL_eq s l, List.map_cons]
theorem typ_eq (s : Sc) (e : Ex) : typ s e = if (e.l.map (typ s)).any (· == 0) then 0 else typK s e (e.l.map (typ s)) := by
  cases e with
  | mk op t n m l => rw [typ, typL_eq]; rfl
/-- At most a hundred in each list. -/
inductive Ex.Small : Ex → Prop
  | mk (e : Ex) : e.l.length ≤ 100 → (∀ x ∈ e.l, Ex.Small x) → Ex.Small e
theorem Ex.Small.len {e : Ex} (h : e.Small) : e.l.length ≤ 100 := by cases h; assumption
theorem Ex.Small.sub {e : Ex} (h : e.Small) : ∀ x ∈ e.l, Ex.Small x := by cases h; assumption
/-- A slice of numbers that grows. -/
def HS (h : AHeap) (v : AV) (l : List Int) : Prop := (v = .lit (.slice none 0 0) ∧ l = []) ∨ ∃ b ver, v = .ms b ver 0 l.length 1 ∧ h[b]? = some (.cells ver (recs intC l))
theorem at_end {h : AHeap} {x : ABlock} : (h ++ [x])[h.length]? = some x := by simp
theorem set_end {h : AHeap} {x y : ABlock} : (h ++ [x]).set h.length y = h ++ [y] := by simp
end Go.Abs

