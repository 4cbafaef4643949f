/- Whichever way one comes to a place of a unit's code, the stack is the same there, and the highest one is as high as is told. Conditions: none beyond the given row's own cells; the card ties the three laid tables to the program's text. -/
import Derived.Test.YtnjaedaofjkbnaaDoorT14
import Derived.Test.YtnjaedaofjkbnaaDoorRead2
import Derived.Test.YtnjaedaofjkbnaaDoorCards
import Derived.Test.YtnjaedaofjkbnaaDoorTie
import Derived.WalkKit
import Derived.ProofKit
import Derived.OpenShut
import Derived.ChangeOld
import Derived.Carry
import Derived.Deep.DeepHandedRow
import Derived.LaidLaws
namespace Go.Proofs.YtnjaedaofjkbnaaDoor.typingSame
open Go Go.Abs Go.ChangeShapes Go.WideShapes Go.ChangeAt Go.RowKit
set_option linter.unusedVariables false
theorem own : ownKnob Tryd.prog.godebug = none := by kernel_rfl
theorem laidOut : laidOutB Tryd.prog = true := by kernel_rfl
theorem mixed : Tryd.prog.follows .mixedOrders = true := by kernel_rfl
theorem envOk : EnvOk E P := Env.ok mixed (fun g xs h => by
  unfold GT at h
  split at h
  · injection h with h; subst h; kernel_rfl
  · split at h
    · injection h with h; subst h; kernel_rfl
    · split at h
      · injection h with h; subst h; kernel_rfl
      · cases h) (of_decide_eq_true (by kernel_rfl))
theorem globs {W : World} (h : laidMetH Tryd.prog Rows.typingSameRow.laid W) : ∀ g xs, E.G g = some xs → V (stIn W) (.rp xs) (.pointer (some ⟨g, 0, none⟩)) := by
  obtain ⟨ps, hl, _⟩ : laidMet Tryd.prog Rows.typingSameRow.laid W := h
  intro g xs hx
  have hx' : GT g = some xs := hx
  unfold GT at hx'
  split at hx'
  · rename_i hg
    subst hg
    injection hx' with hx'
    subst hx'
    exact glob_of (name := "ladderback/op.rows") (d := Rows.laid_ladderback_op_rows) (n := 8) (by kernel_rfl) (t := (((Tryd.prog.globals[0]?).map (·.type)).getD 0)) (by kernel_rfl) (by kernel_rfl) (by kernel_rfl) (by kernel_rfl) hl (.tail _ (.tail _ (.head _)))
  · split at hx'
    · rename_i hg
      subst hg
      injection hx' with hx'
      subst hx'
      exact glob_of (name := "ladderback/alu.goes") (d := Rows.laid_ladderback_alu_goes) (n := 8) (by kernel_rfl) (t := (((Tryd.prog.globals[1]?).map (·.type)).getD 0)) (by kernel_rfl) (by kernel_rfl) (by kernel_rfl) (by kernel_rfl) hl (.head _)
    · split at hx'
      · rename_i hg
        subst hg
        injection hx' with hx'
        subst hx'
        exact glob_of (name := "ladderback/block.rows") (d := Rows.laid_ladderback_block_rows) (n := 8) (by kernel_rfl) (t := (((Tryd.prog.globals[2]?).map (·.type)).getD 0)) (by kernel_rfl) (by kernel_rfl) (by kernel_rfl) (by kernel_rfl) hl (.tail _ (.head _))
      · cases hx'
set_option maxRecDepth 100000 in
/-- What the walk gives, for every argument and every world that holds the tables. -/
theorem contract (H : Type) (enc : TypeId × Value → H) (W : World) (base : Nat) (args : Array Value) (ds gs : List (DataW H)) (before : List MemPlace)
    (hval : ∀ (j : Nat) t v, Tryd.f6.params[j]? = some t → args[j]? = some v → Value.okWide Tryd.prog W .any base t v)
    (hW : DataW.Whole enc Tryd.prog Tryd.f6.params.toList Rows.typingSameSpec.vars false W args.toList ds gs before) (hL : laidMetH Tryd.prog Rows.typingSameRow.laid W) :
    Calls Tryd.prog 6 args W fun e W' => ∃ v, e = .returned v ∧ Rows.typingSameSpec.post enc Tryd.prog Tryd.f6 false true false false W args v W' := by
  have hW' := hW
  obtain ⟨p, q, hA0, hV, rfl, hfz, hnd⟩ := hW
  have hA : DataW.TrodAll enc Tryd.prog W 0 (fun _ => true) true Tryd.f6.params.toList args.toList ds p := hA0
  rw [Tryd.params6] at hA
  obtain ⟨v0, vs0, d0, ds0, p0, q0, hargs, rfl, rfl, h0, r0⟩ := trodAll_cons hA
  obtain ⟨v1, vs1, d1, ds1, p1, q1, rfl, rfl, rfl, h1, r1⟩ := trodAll_cons r0
  obtain ⟨rfl, rfl, rfl⟩ := trodAll_nil r1
  obtain rfl : args = #[v0, v1] := by cases args; simp_all
  obtain ⟨rfl, rfl⟩ := trodVars_none hV
  clear hA0
  obtain ⟨c, hc, hcf⟩ := read_pr h0
  rw [Tryd.params6] at hval
  have hv1 : Value.okWide Tryd.prog W .any base 3 v1 := hval 1 3 v1 rfl rfl
  obtain ⟨u, rfl⟩ := okWide_int Tryd.underlying3 hv1
  have k0 := h0
  have k1 := h1
  have lt0 : ∀ x ∈ p0, x.block < W.heap.size := by obtain ⟨m, hm⟩ := k0; exact DataW.trod_lt m _ _ _ hm
  have lt1 : ∀ x ∈ p1, x.block < W.heap.size := by obtain ⟨m, hm⟩ := k1; exact DataW.trod_lt m _ _ _ hm
  have hcl : AV.closedL [prA c, I u] = true := by simp [AV.closedL, AV.closed, cn_closed, vr_closed, bk_closed, un_closed]
  refine (calls_of (us := [v0, .int .i64 u]) (c6_in c u hcf) envOk (globs hL) hcl (VL_cons.2 ⟨_, _, rfl, hc, VL_cons.2 ⟨_, _, rfl, V_lit.2 rfl, VL_nil.2 rfl⟩⟩)).mono fun e W' ⟨he, bel⟩ => ?_
  subst he
  exact ⟨_, rfl, _, _, _, [], _, [], hW', trodAll_mk1 (shut_bool Tryd.underlying4 _),
    trodAll_cons_mk (Below.trod laidOut (by kernel_rfl) (of_decide_eq_true (by kernel_rfl)) k0 bel lt0) (trodAll_cons_mk (Below.trod laidOut (by kernel_rfl) (of_decide_eq_true (by kernel_rfl)) k1 bel lt1) trodAll_mk0),
    rfl, bel.frame _, fun h => by cases h⟩
/-- A world for the witness: the settled one, with what the initialisers lay. -/
def fill (xs : List AV) : Obj → Obj
  | .cells _ t frozen => .cells (unlit xs).toArray t frozen
  | o => o
def zeroI : Value := .int .i64 0
def zeroS : Value := .slice none 0 0
def zero0 : Value := .agg #[zeroS, zeroS, zeroS, zeroS]
noncomputable def laidWorld (os : Os) : World :=
  { World.holding Tryd.prog os ⟨#[], #[], []⟩ with heap := (((World.holding Tryd.prog os ⟨#[], #[], []⟩).heap.modify 0 (fill tab_ladderback_op_rows)).modify 1 (fill tab_ladderback_alu_goes)).modify 2 (fill tab_ladderback_block_rows) }
theorem laid_met (os : Os) : laidMet Tryd.prog Rows.typingSameRow.laid ((laidWorld os).forCall (fun _ _ => 0) ⟨#[], #[zero0, zeroI], []⟩).memory :=
  laidMet_of_run' 8 (by kernel_rfl) (by kernel_rfl)
def dI {H : Type} : DataW H := .lit (.int .i64 0)
def dProg {H : Type} : DataW H := .agg [.nil, .nil, .nil, .nil]
theorem reads (os : Os) {H : Type} (enc : TypeId × Value → H) : ∃ places, DataW.whole enc Tryd.prog ((laidWorld os).forCall (fun _ _ => 0) ⟨#[], #[zero0, zeroI], []⟩).memory Tryd.f6.params.toList Rows.typingSameSpec.vars false #[zero0, zeroI].toList 8 = some ([dProg, dI], [], places) :=
  ⟨[], by kernel_rfl⟩
set_option maxRecDepth 100000 in
theorem lifted (os : Os) (started : os.Started) (H : Type) (enc : TypeId × Value → H) (F : Stop.Interp) :
    ReturnsInHanded {} Tryd.checked os 6 .any ((OpenSpec.ofChange Rows.typingSameSpec).preRow enc Tryd.prog Tryd.f6 Rows.typingSameRow.domain false Rows.typingSameRow.laid) (((OpenSpec.ofChange Rows.typingSameSpec).at F).post enc Tryd.prog Tryd.f6 false true false false) := by
  obtain ⟨places, hx⟩ := reads os enc
  refine returnsInHanded_of_row (C := Tryd.checked) (s := OpenSpec.ofChange Rows.typingSameSpec) own started (by kernel_rfl) Tryd.func6
    (witness_row_at (enc := enc) (C := Tryd.checked) false (laidWorld os) #[zero0, zeroI] rfl (by kernel_rfl) (by kernel_rfl) (by kernel_rfl)
      (OpenSpec.preRow_of_cond 8 hx (by kernel_rfl) (fun k hk => by cases hk) (by kernel_rfl) (laid_met os))) ?_
  intro W base args ds gs before hval hW _ _ _ hL _ _
  exact contract H enc W base args ds gs before hval hW hL
theorem said : Rows.TypingSameSaid :=
  OpenClaim.holds_of_cond 6 Tryd.f6 rfl rfl rfl rfl rfl rfl rfl ⟨rfl, rfl, rfl, rfl, rfl⟩ rfl rfl rfl rfl rfl (by kernel_rfl) Tryd.func6 (by kernel_rfl)
    (of_decide_eq_true (by kernel_rfl)) (by unfold Func.isWrapper; first | (rw [if_pos (by decide +kernel)]; kernel_rfl) | (rw [if_neg (by decide +kernel)]; exact ⟨rfl, rfl⟩))
    (fun os started H enc _ F => by rw [OpenClaim.pre_eq_preRow]; exact lifted os started H enc F)
/-- No parameter wants a stand-in; the program's own looks are off. -/
theorem plain (f : FuncId) (fn : Func) (hf : Tryd.pinned.checked.prog.funcNamed "ladderback/ladderbacklaw20.TypingSame" = some f) (hfn : Tryd.pinned.checked.prog.funcs[f]? = some fn) :
    false = Tryd.pinned.checked.prog.looks [] ∧ ∀ (j : Nat) t, fn.params[j]? = some t → Tryd.pinned.checked.prog.wantsStandIn t = false := by
  obtain rfl : f = 6 := Option.some.inj ((show Tryd.prog.funcNamed "ladderback/ladderbacklaw20.TypingSame" = some 6 by kernel_rfl).symm.trans hf) |>.symm
  obtain rfl : fn = Tryd.f6 := (Option.some.inj (Tryd.func6.symm.trans hfn)).symm
  refine ⟨by kernel_rfl, fun j t ht => ?_⟩
  rw [Tryd.params6] at ht
  have hm := Array.mem_of_getElem? ht
  simp at hm
  rcases hm with rfl | rfl
  · exact (show Tryd.prog.wantsStandIn 27 = false by kernel_rfl)
  · exact (show Tryd.prog.wantsStandIn 3 = false by kernel_rfl)
theorem card : Rows.TypingSameCardSaid :=
  Claim7.holds_tied_plain_at .later [] _ _ _ _ said (fun _ h => by cases h) (by kernel_rfl) (fun _ h => by cases h) typingSame_row_tie rfl ⟨rfl, rfl⟩ (by kernel_rfl) rfl plain (by kernel_rfl)
end Go.Proofs.YtnjaedaofjkbnaaDoor.typingSame
namespace Go.Proofs.YtnjaedaofjkbnaaDoor
/-- The card, under a short name, for the claim. -/
theorem typingSame_holds : Rows.TypingSameCardSaid := typingSame.card
#print axioms typingSame_holds
end Go.Proofs.YtnjaedaofjkbnaaDoor

