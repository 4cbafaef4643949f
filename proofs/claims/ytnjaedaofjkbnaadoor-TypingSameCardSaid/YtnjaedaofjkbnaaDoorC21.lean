/- Contracts: are a program's and a state's lists short? Conditions: none. -/
import Derived.Test.YtnjaedaofjkbnaaDoorData4
set_option maxRecDepth 100000
set_option linter.unusedVariables false
set_option linter.unusedSimpArgs false
namespace Go.Abs
open Go
end Go.Abs

