/- The data of programs, states and cases. Conditions: none. -/
import Derived.Test.YtnjaedaofjkbnaaDoorData3
set_option maxRecDepth 100000
set_option linter.unusedVariables false
set_option linter.unusedSimpArgs false
namespace Go.Abs
open Go
structure Cn where
  t : Int
  v : Int
def Cn.cs (c : Cn) : List AV := [I c.t, I c.v]
structure I3 where
  op : Int
  a : Int
  b : Int
def I3.cs (c : I3) : List AV := [I c.op, I c.a, I c.b]
structure Un where
  name : ByteArray
  params : List Int
  result : Int
  locals : List Int
  code : List I3
def Un.cs (u : Un) : List AV := [.lit (.string u.name), intsA u.params, I u.result, intsA u.locals, .ro u.code.length (recs I3.cs u.code)]
abbrev uniA (u : Un) : AV := .agg [.lit (.string u.name), intsA u.params, I u.result, intsA u.locals, .ro u.code.length (recs I3.cs u.code)]
structure Pr where
  consts : List Cn
  vars : List Vr
  blocks : List Bk
  units : List Un
abbrev Pr.cs (p : Pr) : List AV := [.ro p.consts.length (recs Cn.cs p.consts), .ro p.vars.length (recs Vr.cs p.vars), .ro p.blocks.length (recs Bk.cs p.blocks), .ro p.units.length (recs Un.cs p.units)]
abbrev prA (p : Pr) : AV := .agg [.ro p.consts.length (recs Cn.cs p.consts), .ro p.vars.length (recs Vr.cs p.vars), .ro p.blocks.length (recs Bk.cs p.blocks), .ro p.units.length (recs Un.cs p.units)]
abbrev prR (p : Pr) : AV := .rp [.ro p.consts.length (recs Cn.cs p.consts), .ro p.vars.length (recs Vr.cs p.vars), .ro p.blocks.length (recs Bk.cs p.blocks), .ro p.units.length (recs Un.cs p.units)]
/-- What a block's instance has. -/
structure Ins where
  l : List Int
  h : l.length = 10
def Ins.cs (x : Ins) : List AV := recs intC x.l
def rowC (l : List Int) : List AV := [intsA l]
structure Sta where
  vars : List (List Int)
  blocks : List Ins
  now : Int
  fault : Int
abbrev Sta.cs (s : Sta) : List AV := [.ro s.vars.length (recs rowC s.vars), .ro s.blocks.length (recs Ins.cs s.blocks), I s.now, I s.fault]
abbrev stA (s : Sta) : AV := .agg [.ro s.vars.length (recs rowC s.vars), .ro s.blocks.length (recs Ins.cs s.blocks), I s.now, I s.fault]
abbrev stR (s : Sta) : AV := .rp [.ro s.vars.length (recs rowC s.vars), .ro s.blocks.length (recs Ins.cs s.blocks), I s.now, I s.fault]
structure Cas where
  p : Pr
  u : Int
  s : Sta
  slots : List Int
abbrev Cas.cs (c : Cas) : List AV := [.ro c.p.consts.length (recs Cn.cs c.p.consts), .ro c.p.vars.length (recs Vr.cs c.p.vars), .ro c.p.blocks.length (recs Bk.cs c.p.blocks), .ro c.p.units.length (recs Un.cs c.p.units), I c.u,
  .ro c.s.vars.length (recs rowC c.s.vars), .ro c.s.blocks.length (recs Ins.cs c.s.blocks), I c.s.now, I c.s.fault, intsA c.slots]
abbrev casA (c : Cas) : AV := .agg c.cs
abbrev casR (c : Cas) : AV := .rp c.cs
theorem cn_closed (l : List Cn) : AV.closedL (recs Cn.cs l) = true := recs_closed l fun x _ => rfl
theorem i3_closed (l : List I3) : AV.closedL (recs I3.cs l) = true := recs_closed l fun x _ => rfl
theorem un_closed (l : List Un) : AV.closedL (recs Un.cs l) = true := recs_closed l fun x _ => by simp [Un.cs, AV.closedL, AV.closed, ints_closed, i3_closed]
theorem row_closed (l : List (List Int)) : AV.closedL (recs rowC l) = true := recs_closed l fun x _ => by simp [rowC, AV.closedL, AV.closed, ints_closed]
theorem ins_closed (l : List Ins) : AV.closedL (recs Ins.cs l) = true := recs_closed l fun x _ => by simp [Ins.cs, ints_closed]
theorem Un.at {l : List Un} {i : Nat} {x : Un} (h : l[i]? = some x) : (recs Un.cs l).drop (i * 5) = [.lit (.string x.name), intsA x.params, I x.result, intsA x.locals, .ro x.code.length (recs I3.cs x.code)] ++ recs Un.cs (l.drop (i + 1)) := recs_at (w := 5) (fun _ => rfl) h
theorem row_at {l : List (List Int)} {i : Nat} {x : List Int} (h : l[i]? = some x) : (recs rowC l).drop (i * 1) = intsA x :: recs rowC (l.drop (i + 1)) := recs_at (w := 1) (fun _ => rfl) h
/-- What is read of an argument: the lists that Go's may be. -/
def Short {α : Type} (l : List α) : Prop := l.length < 9223372036854775808
structure Cas.Fit (c : Cas) : Prop where
  consts : Short c.p.consts
  vars : Short c.p.vars
  blocks : Short c.p.blocks
  units : Short c.p.units
  svars : Short c.s.vars
  rows : ∀ l ∈ c.s.vars, Short l
  sblocks : Short c.s.blocks
  slots : Short c.slots
end Go.Abs

