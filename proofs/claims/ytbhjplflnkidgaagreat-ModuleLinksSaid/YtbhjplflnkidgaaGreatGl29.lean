/- Own lemmas, twenty-ninth part: shifts to the right, rows that are made at a whole number's length. -/
import Derived.Test.YtbhjplflnkidgaaGreatGl26
import Derived.Test.YtbhjplflnkidgaaGreatGl19
namespace Go.Gl
open Go.RowKit
set_option linter.unusedVariables false
set_option linter.unusedSimpArgs false
section
variable {P : Program} {Γ : Ctx} {l : Al Value} {L L1 : Al Ob} {D : Al Fact} {a : Act} {w : World} {d : Option Tmp} {ty : TypeId} {pos : String} {af : Array Edge} {g : Option (Nat × Bool)} {x y : Operand} {t t' : TypeId} {k k' : IntKind} {i j : Nat}
end
end Go.Gl
