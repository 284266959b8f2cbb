/- Own lemmas, twentieth part: a part of a row of one-cell elements that a call of the library's has written over. -/
import Derived.Test.YtbhjplflnkidgaaGreatGl19
namespace Go.Gl
open Go.RowKit Go.Sort Go.Proofs
set_option linter.unusedVariables false
set_option linter.unusedSectionVars false
set_option linter.unusedSimpArgs false
structure One {α : Type} (R : Rep α) (enc : α → Value) : Prop where
  size : R.size = 1
  of : ∀ M w cs x, R.rd M w cs x → cs = [enc x]
section
variable {α : Type} [Inhabited α] {R : Rep α} {enc : α → Value}
variable {M C : Bs} {w : World} {A : Option Addr} {n c k j : Nat} {e : TypeId} {x d : List α} {cs : List Value}
end
end Go.Gl
