/- Contract: how many literals. Conditions: none. -/
import Derived.Test.YtnjaedaofjkbnaaDoorC9
set_option maxRecDepth 100000
set_option linter.unusedVariables false
set_option linter.unusedSimpArgs false
namespace Go.Abs
open Go

theorem Ex.take0 {l : List Ex} {x : Ex} (h : l[0]? = some x) : (recs Ex.cs l).take 5 = [I x.op, I x.t, I x.n, I x.m, .ro x.l.length (recs Ex.cs x.l)] := by
  have := Ex.at h
  simp only [Nat.zero_mul, List.drop_zero] at this
  rw [this]
  rfl
theorem Ex.len0 {l : List Ex} {x : Ex} (h : l[0]? = some x) : 5 ≤ (recs Ex.cs l).length := by
  rw [recs_length Ex.cs_len]
  have := (List.getElem?_eq_some_iff.1 h).1
  omega
theorem Ex.drop1 {l : List Ex} {x : Ex} (h : l[1]? = some x) : (recs Ex.cs l).drop 5 = [I x.op, I x.t, I x.n, I x.m, .ro x.l.length (recs Ex.cs x.l)] ++ recs Ex.cs (l.drop 2) := by
  have := Ex.at h
  simpa using this

def cntK (s : Sc) (e : Ex) (cs : List Int) : Int :=
  if one1 e then cs.getD 0 0
  else if two1 e [14, 15] then min 25 (cs.getD 0 0 + cs.getD 1 0)
  else if two1 e [16, 20, 21] then min 25 (2 * (cs.getD 0 0 + cs.getD 1 0))
  else if nleaf s e then 1 else 25
mutual
def cnt (s : Sc) : Ex → Int
  | .mk op t n m l => cntK s (.mk op t n m l) (cntL s l)
def cntL (s : Sc) : List Ex → List Int
  | [] => []
  | e :: l => cnt s e :: cntL s l
end
theorem cntL_eq (s : Sc) : ∀ l, cntL s l = l.map (cnt s)
  | [] => rfl
  | e :: l => by rw [cntL, cntL_eq s l, List.map_cons]
theorem cnt_eq (s : Sc) (e : Ex) : cnt s e = cntK s e (e.l.map (cnt s)) := by
  cases e with
  | mk op t n m l => rw [cnt, cntL_eq]; rfl
theorem one1_len {e : Ex} (h : one1 e = true) : e.l.length = 1 := by simp [one1] at h; exact h.2
theorem two1_len {e : Ex} {ops : List Int} (h : two1 e ops = true) : e.l.length = 2 := by simp [two1] at h; exact h.1.2
theorem cnt_in (s : Sc) : ∀ e : Ex, 1 ≤ cnt s e ∧ cnt s e ≤ 25 := by
  intro e
  induction e using Ex.ind with
  | _ e ih =>
  rw [cnt_eq, cntK]
  have get : ∀ i, i < e.l.length → 1 ≤ (e.l.map (cnt s)).getD i 0 ∧ (e.l.map (cnt s)).getD i 0 ≤ 25 := by
    intro i hi
    rw [List.getD_eq_getElem?_getD, List.getElem?_map, List.getElem?_eq_getElem hi]
    exact ih _ (List.getElem_mem hi)
  split
  · rename_i h; exact get 0 (by rw [one1_len h]; omega)
  split
  · rename_i h; have h0 := get 0 (by rw [two1_len h]; omega); have h1 := get 1 (by rw [two1_len h]; omega); omega
  split
  · rename_i h; have h0 := get 0 (by rw [two1_len h]; omega); have h1 := get 1 (by rw [two1_len h]; omega); omega
  split <;> omega
abbrev scR (s : Sc) : AV := .rp [.ro s.vars.length (recs Vr.cs s.vars), .ro s.blocks.length (recs Bk.cs s.blocks), .ro s.sigs.length (recs Sg.cs s.sigs), .ro s.slots.length (recs intC s.slots)]
abbrev exR (e : Ex) : AV := .rp [I e.op, I e.t, I e.n, I e.m, .ro e.l.length (recs Ex.cs e.l)]
theorem scR_closed (s : Sc) : (scR s).closed = true := by simp [AV.closedL, AV.closed, vr_closed, bk_closed, sg_closed, ints_closed]
theorem exR_closed (e : Ex) : (exR e).closed = true := by simp [AV.closedL, AV.closed, ex_closed]
end Go.Abs

