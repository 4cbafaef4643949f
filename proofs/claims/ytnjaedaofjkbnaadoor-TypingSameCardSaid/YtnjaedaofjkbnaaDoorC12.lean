/- Contract: the normal form. Conditions: none. -/
import Derived.Test.YtnjaedaofjkbnaaDoorC11
set_option maxRecDepth 100000
set_option linter.unusedVariables false
set_option linter.unusedSimpArgs false
namespace Go.Abs
open Go
def ex0 : Ex := .mk 0 0 0 0 []
def binE (op : Int) (a b : Ex) : Ex := .mk 7 0 0 op [a, b]
def nmK (e : Ex) (fs : List (Bool → Ex)) (turned : Bool) : Ex :=
  let f0 := fs.getD 0 (fun _ => ex0)
  let f1 := fs.getD 1 (fun _ => ex0)
  if one1 e then f0 (!turned)
  else if two1 e [14, 15] then binE (if turned then IntKind.i64.wrap (29 - e.m) else e.m) (f0 turned) (f1 turned)
  else if two1 e [16, 20, 21] then
    let same := (e.m == 20) != turned
    binE 15 (binE 14 (f0 false) (f1 (false == same))) (binE 14 (f0 true) (f1 (true == same)))
  else if e.op = 1 then (if turned then .mk e.op e.t (IntKind.i64.wrap (1 - e.n)) e.m e.l else e)
  else if turned then .mk 6 0 0 17 [e]
  else e
mutual
def nm1 : Ex → Bool → Ex
  | .mk op t n m l => nmK (.mk op t n m l) (nmL l)
def nmL : List Ex → List (Bool → Ex)
  | [] => []
  | e :: l => nm1 e :: nmL l
end
theorem nmL_eq : ∀ l, nmL l = l.map nm1
  | [] => rfl
  | e :: l => by rw [nmL, nmL_eq l, List.map_cons]
theorem nm1_eq (e : Ex) : nm1 e = nmK e (e.l.map nm1) := by
  cases e with
  | mk op t n m l => rw [nm1, nmL_eq]; rfl
end Go.Abs

