/- The data of the program's arguments as Lean's, and the cells that they lie in. Conditions: none. -/
import Derived.Test.YtnjaedaofjkbnaaDoorC1
set_option maxRecDepth 100000
set_option linter.unusedVariables false
set_option linter.unusedSimpArgs false
namespace Go.Abs
open Go

/-- Records one behind the other. -/
def recs {α : Type} (c : α → List AV) (l : List α) : List AV := l.flatMap c
theorem recs_nil {α : Type} {c : α → List AV} : recs c [] = [] := rfl
theorem recs_cons {α : Type} {c : α → List AV} {x : α} {l : List α} : recs c (x :: l) = c x ++ recs c l := by simp [recs]
theorem recs_append {α : Type} {c : α → List AV} {l m : List α} : recs c (l ++ m) = recs c l ++ recs c m := by simp [recs]
theorem recs_length {α : Type} {c : α → List AV} {w : Nat} (hw : ∀ x, (c x).length = w) : ∀ l, (recs c l).length = l.length * w
  | [] => by simp [recs]
  | x :: l => by rw [recs_cons, List.length_append, hw, recs_length hw l, List.length_cons, Nat.succ_mul, Nat.add_comm]
theorem recs_drop {α : Type} {c : α → List AV} {w : Nat} (hw : ∀ x, (c x).length = w) : ∀ (l : List α) (i : Nat), (recs c l).drop (i * w) = recs c (l.drop i)
  | l, 0 => by simp
  | [], i + 1 => by simp [recs]
  | x :: l, i + 1 => by
    rw [recs_cons, List.drop_succ_cons, ← recs_drop hw l i, Nat.succ_mul, Nat.add_comm, ← List.drop_drop, List.drop_left' (hw x)]
theorem recs_at {α : Type} {c : α → List AV} {w : Nat} (hw : ∀ x, (c x).length = w) {l : List α} {i : Nat} {x : α} (h : l[i]? = some x) : (recs c l).drop (i * w) = c x ++ recs c (l.drop (i + 1)) := by
  rw [recs_drop hw, List.drop_eq_getElem?_toList_append, h]
  simp [recs_cons]
theorem recs_closed {α : Type} {c : α → List AV} : ∀ (l : List α), (∀ x ∈ l, AV.closedL (c x) = true) → AV.closedL (recs c l) = true
  | [], _ => rfl
  | x :: l, h => by
    rw [recs_cons, closedL_append]
    simp [h x (by simp), recs_closed l fun y hy => h y (by simp [hy])]

def intC (n : Int) : List AV := [I n]
abbrev intsA (l : List Int) : AV := .ro l.length (recs intC l)
theorem intC_at {l : List Int} {i : Nat} {x : Int} (h : l[i]? = some x) : (recs intC l).drop (i * 1) = I x :: recs intC (l.drop (i + 1)) := recs_at (w := 1) (fun _ => rfl) h

/-- An expression. -/
inductive Ex where | mk (op t n m : Int) (l : List Ex)
def Ex.op : Ex → Int | .mk a _ _ _ _ => a
def Ex.t : Ex → Int | .mk _ a _ _ _ => a
def Ex.n : Ex → Int | .mk _ _ a _ _ => a
def Ex.m : Ex → Int | .mk _ _ _ a _ => a
def Ex.l : Ex → List Ex | .mk _ _ _ _ a => a
mutual
def Ex.cs : Ex → List AV
  | .mk op t n m l => [I op, I t, I n, I m, .ro l.length (Ex.csL l)]
def Ex.csL : List Ex → List AV
  | [] => []
  | e :: l => Ex.cs e ++ Ex.csL l
end
theorem Ex.csL_eq : ∀ l : List Ex, Ex.csL l = recs Ex.cs l
  | [] => by simp [Ex.csL, recs]
  | e :: l => by rw [Ex.csL, recs_cons, Ex.csL_eq l]
theorem Ex.cs_eq (e : Ex) : e.cs = [I e.op, I e.t, I e.n, I e.m, .ro e.l.length (recs Ex.cs e.l)] := by
  cases e with
  | mk op t n m l => simp [Ex.cs, Ex.csL_eq, Ex.op, Ex.t, Ex.n, Ex.m, Ex.l]
theorem Ex.cs_len (e : Ex) : e.cs.length = 5 := by rw [Ex.cs_eq]; rfl
abbrev exA (e : Ex) : AV := .agg [I e.op, I e.t, I e.n, I e.m, .ro e.l.length (recs Ex.cs e.l)]
mutual
theorem Ex.closed : ∀ e : Ex, AV.closedL e.cs = true
  | .mk op t n m l => by simp [Ex.cs, AV.closedL, AV.closed, Ex.closedL l]
theorem Ex.closedL : ∀ l : List Ex, AV.closedL (Ex.csL l) = true
  | [] => by simp [Ex.csL, AV.closedL]
  | e :: l => by rw [Ex.csL, closedL_append, Ex.closed e, Ex.closedL l]; rfl
end
theorem exL_closed (l : List Ex) : AV.closedL (recs Ex.cs l) = true := by rw [← Ex.csL_eq]; exact Ex.closedL l
theorem ints_closed (l : List Int) : AV.closedL (recs intC l) = true := recs_closed l fun x _ => rfl
theorem Ex.at {l : List Ex} {i : Nat} {x : Ex} (h : l[i]? = some x) : (recs Ex.cs l).drop (i * 5) = [I x.op, I x.t, I x.n, I x.m, .ro x.l.length (recs Ex.cs x.l)] ++ recs Ex.cs (l.drop (i + 1)) := by
  rw [recs_at Ex.cs_len h, Ex.cs_eq]
end Go.Abs

