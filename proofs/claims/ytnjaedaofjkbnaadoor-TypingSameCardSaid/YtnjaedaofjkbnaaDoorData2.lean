/- The data of scopes. Conditions: none. -/
import Derived.Test.YtnjaedaofjkbnaaDoorData
set_option maxRecDepth 100000
set_option linter.unusedVariables false
set_option linter.unusedSimpArgs false
namespace Go.Abs
open Go
structure Vr where
  name : ByteArray
  t : Int
  n : Int
  area : Int
  ini : Int
def Vr.cs (v : Vr) : List AV := [.lit (.string v.name), I v.t, I v.n, I v.area, I v.ini]
structure Bk where
  name : ByteArray
  kind : Int
def Bk.cs (b : Bk) : List AV := [.lit (.string b.name), I b.kind]
structure Sg where
  params : List Int
  result : Int
def Sg.cs (s : Sg) : List AV := [intsA s.params, I s.result]
structure Sc where
  vars : List Vr
  blocks : List Bk
  sigs : List Sg
  slots : List Int
abbrev scA (s : Sc) : AV := .agg [.ro s.vars.length (recs Vr.cs s.vars), .ro s.blocks.length (recs Bk.cs s.blocks), .ro s.sigs.length (recs Sg.cs s.sigs), .ro s.slots.length (recs intC s.slots)]
theorem vr_closed (l : List Vr) : AV.closedL (recs Vr.cs l) = true := recs_closed l fun x _ => rfl
theorem bk_closed (l : List Bk) : AV.closedL (recs Bk.cs l) = true := recs_closed l fun x _ => rfl
theorem sg_closed (l : List Sg) : AV.closedL (recs Sg.cs l) = true := recs_closed l fun x _ => by simp [Sg.cs, AV.closedL, AV.closed, ints_closed]
theorem Vr.at {l : List Vr} {i : Nat} {x : Vr} (h : l[i]? = some x) : (recs Vr.cs l).drop (i * 5) = [.lit (.string x.name), I x.t, I x.n, I x.area, I x.ini] ++ recs Vr.cs (l.drop (i + 1)) := recs_at (w := 5) (fun _ => rfl) h
theorem Bk.at {l : List Bk} {i : Nat} {x : Bk} (h : l[i]? = some x) : (recs Bk.cs l).drop (i * 2) = [.lit (.string x.name), I x.kind] ++ recs Bk.cs (l.drop (i + 1)) := recs_at (w := 2) (fun _ => rfl) h
end Go.Abs

