/- Of any networks the program tells what the document does: whether each is right, how many contacts it has, whether any two are the same. Conditions: none beyond the given row's own cells; the card ties the two laid tables to the program's text. -/
import Derived.Test.YtnjaedaofjkbnaaDoorC31
import Derived.Test.YtnjaedaofjkbnaaDoorRead2
import Derived.Test.YtnjaedaofjkbnaaDoorCards
import Derived.Test.YtnjaedaofjkbnaaDoorTie
import Derived.WalkKit
import Derived.ProofKit
import Derived.OpenShut
import Derived.ChangeOld
import Derived.Carry
import Derived.Deep.DeepHandedRow
import Derived.LaidLaws
namespace Go.Proofs.YtnjaedaofjkbnaaDoor.netTells
open Go Go.Abs Go.ChangeShapes Go.WideShapes Go.ChangeAt Go.RowKit
set_option linter.unusedVariables false
theorem own : ownKnob Tryd.prog.godebug = none := by kernel_rfl
theorem laidOut : laidOutB Tryd.prog = true := by kernel_rfl
theorem mixed : Tryd.prog.follows .mixedOrders = true := by kernel_rfl
theorem envOk : EnvOk E P := Env.ok mixed fun g xs h => by
  unfold GT at h
  split at h
  · injection h with h; subst h; kernel_rfl
  · split at h
    · injection h with h; subst h; kernel_rfl
    · cases h
theorem globs {W : World} (h : laidMetH Tryd.prog Rows.netTellsRow.laid W) : ∀ g xs, E.G g = some xs → V (stIn W) (.rp xs) (.pointer (some ⟨g, 0, none⟩)) := by
  obtain ⟨ps, hl, _⟩ : laidMet Tryd.prog Rows.netTellsRow.laid W := h
  intro g xs hx
  have hx' : GT g = some xs := hx
  unfold GT at hx'
  split at hx'
  · rename_i hg
    subst hg
    injection hx' with hx'
    subst hx'
    exact glob_of (name := "ladderback/alu.goes") (d := Rows.laid_ladderback_alu_goes) (n := 8) (by kernel_rfl) (t := (((Tryd.prog.globals[1]?).map (·.type)).getD 0)) (by kernel_rfl) (by kernel_rfl) (by kernel_rfl) (by kernel_rfl) hl (.head _)
  · split at hx'
    · rename_i hg
      subst hg
      injection hx' with hx'
      subst hx'
      exact glob_of (name := "ladderback/block.rows") (d := Rows.laid_ladderback_block_rows) (n := 8) (by kernel_rfl) (t := (((Tryd.prog.globals[2]?).map (·.type)).getD 0)) (by kernel_rfl) (by kernel_rfl) (by kernel_rfl) (by kernel_rfl) hl (.tail _ (.head _))
    · cases hx'
theorem cas_cl (c : Cas) : (casA c).closed = true := by rw [AV.closed, cas_closed]
/-- What the walk gives, for every argument and every world that holds the tables. -/
theorem contract (H : Type) (enc : TypeId × Value → H) (W : World) (args : Array Value) (ds gs : List (DataW H)) (before : List MemPlace)
    (hW : DataW.Whole enc Tryd.prog Tryd.f4.params.toList Rows.netTellsSpec.vars false W args.toList ds gs before) (hL : laidMetH Tryd.prog Rows.netTellsRow.laid W) :
    Calls Tryd.prog 4 args W fun e W' => ∃ v, e = .returned v ∧ Rows.netTellsSpec.post enc Tryd.prog Tryd.f4 false true false false W args v W' := by
  have hW' := hW
  obtain ⟨p, q, hA0, hV, rfl, hfz, hnd⟩ := hW
  have hA : DataW.TrodAll enc Tryd.prog W 0 (fun _ => true) true Tryd.f4.params.toList args.toList ds p := hA0
  rw [Tryd.params4] at hA
  obtain ⟨v0, vs0, d0, ds0, p0, q0, hargs, rfl, rfl, h0, r0⟩ := trodAll_cons hA
  obtain ⟨v1, vs1, d1, ds1, p1, q1, rfl, rfl, rfl, h1, r1⟩ := trodAll_cons r0
  obtain ⟨v2, vs2, d2, ds2, p2, q2, rfl, rfl, rfl, h2, r2⟩ := trodAll_cons r1
  obtain ⟨rfl, rfl, rfl⟩ := trodAll_nil r2
  obtain rfl : args = #[v0, v1, v2] := by cases args; simp_all
  obtain ⟨rfl, rfl⟩ := trodVars_none hV
  clear hA0
  obtain ⟨c, hc, hcf⟩ := read_cas h0
  obtain ⟨a, ha, haf⟩ := read_nt h1
  obtain ⟨b, hb, hbf⟩ := read_nt h2
  have k0 := h0
  have k1 := h1
  have k2 := h2
  have lt0 : ∀ x ∈ p0, x.block < W.heap.size := by obtain ⟨m, hm⟩ := k0; exact DataW.trod_lt m _ _ _ hm
  have lt1 : ∀ x ∈ p1, x.block < W.heap.size := by obtain ⟨m, hm⟩ := k1; exact DataW.trod_lt m _ _ _ hm
  have lt2 : ∀ x ∈ p2, x.block < W.heap.size := by obtain ⟨m, hm⟩ := k2; exact DataW.trod_lt m _ _ _ hm
  have hcl : AV.closedL [casA c, ntA a, ntA b] = true := by simp only [AV.closedL, cas_cl, ntA_closed, Bool.and_self]
  refine (calls_of (us := [v0, v1, v2]) (c4 c a b hcf haf hbf) envOk (globs hL) hcl (VL_cons.2 ⟨_, _, rfl, hc, VL_cons.2 ⟨_, _, rfl, ha, VL_cons.2 ⟨_, _, rfl, hb, VL_nil.2 rfl⟩⟩⟩)).mono fun e W' ⟨he, bel⟩ => ?_
  subst he
  exact ⟨_, rfl, _, _, _, [], _, [], hW', trodAll_mk1 (shut_bool Tryd.underlying4 _),
    trodAll_cons_mk (Below.trod laidOut (by kernel_rfl) (of_decide_eq_true (by kernel_rfl)) k0 bel lt0) (trodAll_cons_mk (Below.trod laidOut (by kernel_rfl) (of_decide_eq_true (by kernel_rfl)) k1 bel lt1) (trodAll_cons_mk (Below.trod laidOut (by kernel_rfl) (of_decide_eq_true (by kernel_rfl)) k2 bel lt2) trodAll_mk0)),
    rfl, bel.frame _, fun h => by cases h⟩
/-- A world for the witness: the settled one, with what the initialisers lay. -/
def fill (xs : List AV) : Obj → Obj
  | .cells _ t frozen => .cells (unlit xs).toArray t frozen
  | o => o
def zeroI : Value := .int .i64 0
def zeroS : Value := .slice none 0 0
def zero0 : Value := .agg #[zeroS, zeroS, zeroS, zeroS, zeroI, zeroS, zeroS, zeroI, zeroI, zeroS]
def zero1 : Value := .agg #[zeroI, zeroI, zeroI, zeroI, zeroI, zeroI, zeroS, zeroS]
noncomputable def laidWorld (os : Os) : World :=
  { World.holding Tryd.prog os ⟨#[], #[], []⟩ with heap := ((World.holding Tryd.prog os ⟨#[], #[], []⟩).heap.modify 1 (fill tab_ladderback_alu_goes)).modify 2 (fill tab_ladderback_block_rows) }
theorem laid_met (os : Os) : laidMet Tryd.prog Rows.netTellsRow.laid ((laidWorld os).forCall (fun _ _ => 0) ⟨#[], #[zero0, zero1, zero1], []⟩).memory :=
  laidMet_of_run' 8 (by kernel_rfl) (by kernel_rfl)
def dI {H : Type} : DataW H := .lit (.int .i64 0)
def dCase {H : Type} : DataW H := .agg [.agg [.nil, .nil, .nil, .nil], dI, .agg [.nil, .nil, dI, dI], .nil]
def dNet {H : Type} : DataW H := .agg [dI, dI, .agg [dI, dI, dI, dI, .nil], .nil]
theorem reads (os : Os) {H : Type} (enc : TypeId × Value → H) : ∃ places, DataW.whole enc Tryd.prog ((laidWorld os).forCall (fun _ _ => 0) ⟨#[], #[zero0, zero1, zero1], []⟩).memory Tryd.f4.params.toList Rows.netTellsSpec.vars false #[zero0, zero1, zero1].toList 8 = some ([dCase, dNet, dNet], [], places) :=
  ⟨[], by kernel_rfl⟩
set_option maxRecDepth 100000 in
theorem lifted (os : Os) (started : os.Started) (H : Type) (enc : TypeId × Value → H) (F : Stop.Interp) :
    ReturnsInHanded {} Tryd.checked os 4 .any ((OpenSpec.ofChange Rows.netTellsSpec).preRow enc Tryd.prog Tryd.f4 Rows.netTellsRow.domain false Rows.netTellsRow.laid) (((OpenSpec.ofChange Rows.netTellsSpec).at F).post enc Tryd.prog Tryd.f4 false true false false) := by
  obtain ⟨places, hx⟩ := reads os enc
  refine returnsInHanded_of_row (C := Tryd.checked) (s := OpenSpec.ofChange Rows.netTellsSpec) own started (by kernel_rfl) Tryd.func4
    (witness_row_at (enc := enc) (C := Tryd.checked) false (laidWorld os) #[zero0, zero1, zero1] rfl (by kernel_rfl) (by kernel_rfl) (by kernel_rfl)
      (OpenSpec.preRow_of_cond 8 hx (by kernel_rfl) (fun k hk => by cases hk) (by kernel_rfl) (laid_met os))) ?_
  intro W base args ds gs before hval hW _ _ _ hL _ _
  exact contract H enc W args ds gs before hW hL
theorem said : Rows.NetTellsSaid :=
  OpenClaim.holds_of_cond 4 Tryd.f4 rfl rfl rfl rfl rfl rfl rfl ⟨rfl, rfl, rfl, rfl, rfl⟩ rfl rfl rfl rfl rfl (by kernel_rfl) Tryd.func4 (by kernel_rfl)
    (of_decide_eq_true (by kernel_rfl)) (by unfold Func.isWrapper; first | (rw [if_pos (by decide +kernel)]; kernel_rfl) | (rw [if_neg (by decide +kernel)]; exact ⟨rfl, rfl⟩))
    (fun os started H enc _ F => by rw [OpenClaim.pre_eq_preRow]; exact lifted os started H enc F)
/-- No parameter wants a stand-in; the program's own looks are off. -/
theorem plain (f : FuncId) (fn : Func) (hf : Tryd.pinned.checked.prog.funcNamed "ladderback/ladderbacklaw44.NetTells" = some f) (hfn : Tryd.pinned.checked.prog.funcs[f]? = some fn) :
    false = Tryd.pinned.checked.prog.looks [] ∧ ∀ (j : Nat) t, fn.params[j]? = some t → Tryd.pinned.checked.prog.wantsStandIn t = false := by
  obtain rfl : f = 4 := Option.some.inj ((show Tryd.prog.funcNamed "ladderback/ladderbacklaw44.NetTells" = some 4 by kernel_rfl).symm.trans hf) |>.symm
  obtain rfl : fn = Tryd.f4 := (Option.some.inj (Tryd.func4.symm.trans hfn)).symm
  refine ⟨by kernel_rfl, fun j t ht => ?_⟩
  rw [Tryd.params4] at ht
  have hm := Array.mem_of_getElem? ht
  simp at hm
  rcases hm with rfl | rfl
  · exact (show Tryd.prog.wantsStandIn 34 = false by kernel_rfl)
  · exact (show Tryd.prog.wantsStandIn 54 = false by kernel_rfl)
theorem card : Rows.NetTellsCardSaid :=
  Claim7.holds_tied_plain_at .later [] _ _ _ _ said (fun _ h => by cases h) (by kernel_rfl) (fun _ h => by cases h) netTells_row_tie rfl ⟨rfl, rfl⟩ (by kernel_rfl) rfl plain (by kernel_rfl)
end Go.Proofs.YtnjaedaofjkbnaaDoor.netTells
namespace Go.Proofs.YtnjaedaofjkbnaaDoor
/-- The card, under a short name, for the claim. -/
theorem netTells_holds : Rows.NetTellsCardSaid := netTells.card
#print axioms netTells_holds
end Go.Proofs.YtnjaedaofjkbnaaDoor

