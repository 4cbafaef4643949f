/- Contract: Count. Conditions: none. -/
import Derived.Test.YtnjaedaofjkbnaaDoorC10
set_option maxRecDepth 100000
set_option linter.unusedVariables false
set_option linter.unusedSimpArgs false
namespace Go.Abs
open Go
theorem ints2_closed {l : List Int} : (intsA l).closed = true := by simp [AV.closed, ints_closed]
end Go.Abs

