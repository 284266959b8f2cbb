/- Own lemmas, eighteenth part: regions in any order: operations that look at no memory, taken at once behind a loud one. -/
import Derived.Test.YtbhjplflnkidgaaGreatGl17
namespace Go.Gl
open Go.RowKit
set_option linter.unusedVariables false
set_option linter.unusedSimpArgs false
section
variable {Γ : Ctx} {l : Al Value} {L L0 L1 : Al Ob} {D D0 : Al Fact} {a : Act} {w wr : World} {P : Program} {ops : Array Oper} {o : Oper} {v : Value} {d : Nat} {md : Region.Mode} {fuel : Nat} {listed : Array Bool}
variable {F : Act → World → Prop} {need : Nat → Nat → Bool}
end
end Go.Gl

