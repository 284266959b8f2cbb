/- Own lemmas, twenty-first part: a scope through which the run goes without a jump; rows of plain numbers under another memory. -/
import Derived.Test.YtbhjplflnkidgaaGreatGl20
import Derived.Scope
namespace Go.Gl
open Go.RowKit
set_option linter.unusedVariables false
end Go.Gl
