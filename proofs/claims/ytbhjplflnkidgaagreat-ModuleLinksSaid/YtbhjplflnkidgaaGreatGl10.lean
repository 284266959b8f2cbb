/- Own lemmas, tenth part: ranges over strings. -/
import Derived.Test.YtbhjplflnkidgaaGreatGl9
import Derived.Laws.RangeString
namespace Go.Gl
open Go.RowKit
set_option linter.unusedVariables false
set_option linter.unusedSimpArgs false
def Ob.iter (b : Nat) (s : ByteArray) (pos : Nat) : Ob where
  ids := fun k => k = b
  holds := fun w => w.heap[b]? = some (.stringIter s pos)
  lt := fun h e => by rw [e]; exact block_lt h
  keep := fun h hk => (hk b rfl).trans h
section
variable {P : Program} {Γ : Ctx} {l : Al Value} {L L1 : Al Ob} {D : Al Fact} {a : Act} {w : World} {d : Tmp} {ty : TypeId} {pos : String} {af : Array Edge} {g : Option (Nat × Bool)} {x : Operand} {t : TypeId} {kk : Nat} {K : Act → World → Prop} {Q : Exit → Act → World → Prop}
end
end Go.Gl
