/- Own lemmas, twenty-sixth part: the lesser of two strings, the end of a row cleared. -/
import Derived.Test.YtbhjplflnkidgaaGreatGl25
import Derived.Lib.SliceRun
namespace Go.Gl
open Go.RowKit
set_option linter.unusedVariables false
set_option linter.unusedSimpArgs false
section
variable {Γ : Ctx} {l : Al Value} {L L1 : Al Ob} {D : Al Fact} {a : Act} {w : World} {P : Program} {x y : Operand} {t t' ty : TypeId} {d : Option Tmp} {pos : String} {af : Array Edge} {g : Option (Nat × Bool)} {K : Act → World → Prop} {Q : Exit → Act → World → Prop}
def smin (p q : List UInt8) : List UInt8 := if (Op.bytesLess p q || p == q) = true then p else q
def clr (xs : List (List UInt8)) (i : Nat) : List (List UInt8) := xs.take i ++ List.replicate (xs.length - i) []
end
end Go.Gl
