/- Contracts: literals and counts. Conditions: none. -/
import Derived.Test.YtnjaedaofjkbnaaDoorC8
set_option maxRecDepth 100000
set_option linter.unusedVariables false
set_option linter.unusedSimpArgs false
namespace Go.Abs
open Go

theorem scA_closed (s : Sc) : (scA s).closed = true := by simp [AV.closedL, AV.closed, vr_closed, bk_closed, sg_closed, ints_closed]
theorem exA_closed (e : Ex) : (exA e).closed = true := by simp [AV.closedL, AV.closed, ex_closed]
def nleaf (s : Sc) (e : Ex) : Bool := decide (e.op = 1 ∨ e.op = 2 ∨ e.op = 3 ∨ e.op = 5) && typ s e == 1
end Go.Abs

