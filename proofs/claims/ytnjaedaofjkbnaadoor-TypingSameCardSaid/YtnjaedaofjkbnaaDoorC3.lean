/- Contracts: expressions, room, and the makers of one. Conditions: none. -/
import Derived.Test.YtnjaedaofjkbnaaDoorC2
set_option maxRecDepth 100000
set_option linter.unusedVariables false
set_option linter.unusedSimpArgs false
namespace Go.Abs
open Go

def IsI (v : AV) : Prop := ∃ n, v = I n
def IsB (v : AV) : Prop := ∃ b, v = B b
def typed1 (t : Int) : Int := if right1 t then t else 0
end Go.Abs

