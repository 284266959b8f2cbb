/- Own lemmas, nineteenth part: min, max, remainders of bytes, make of a slice. -/
import Derived.Test.YtbhjplflnkidgaaGreatGl18
import Derived.Laws.OwnMore
namespace Go.Gl
open Go.RowKit
set_option linter.unusedVariables false
set_option linter.unusedSimpArgs false
section
variable {Γ : Ctx} {l : Al Value} {L L1 : Al Ob} {D : Al Fact} {a : Act} {w : World} {P : Program} {x y : Operand} {k : IntKind} {m n : Int} {t t' ty : TypeId} {d : Option Tmp} {pos : String} {af : Array Edge} {g : Option (Nat × Bool)}
end
section
variable {Γ : Ctx} {l : Al Value} {L : Al Ob} {D : Al Fact} {a : Act} {w : World} {P : Program} {x y : Operand} {t ty : TypeId} {d : Tmp} {pos : String} {af : Array Edge} {g : Option (Nat × Bool)} {K : Act → World → Prop} {Q : Exit → Act → World → Prop}
end
end Go.Gl
