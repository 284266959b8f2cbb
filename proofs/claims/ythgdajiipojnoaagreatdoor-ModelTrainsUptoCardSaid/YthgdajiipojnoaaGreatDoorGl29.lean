/- Own lemmas, twenty-ninth part: shifts to the right, rows that are made at a whole number's length. -/
import Derived.Test.YthgdajiipojnoaaGreatDoorGl26
import Derived.Test.YthgdajiipojnoaaGreatDoorGl19
namespace Go.Gl
open Go.RowKit
set_option linter.unusedVariables false
set_option linter.unusedSimpArgs false
section
variable {P : Program} {Γ : Ctx} {l : Al Value} {L L1 : Al Ob} {D : Al Fact} {a : Act} {w : World} {d : Option Tmp} {ty : TypeId} {pos : String} {af : Array Edge} {g : Option (Nat × Bool)} {x y : Operand} {t t' : TypeId} {k k' : IntKind} {i j : Nat}
theorem y_shrN (hS : St Γ l L D a w) (hx : ev l x = some (.int k (i : Int))) (hy : ev l y = some (.int k' (j : Int))) (hj : j ≤ k.bits) :
    Yl P L L1 ⟨d, .binOp .shr t x y t', ty, pos, af, g⟩ a w (.int k ((i / 2 ^ j : Nat) : Int)) := fun w' _ => by
  have h := shift_shr k k' (i : Int) (j : Int) (by omega) (by omega)
  have e : ((i : Int) / 2 ^ (j : Int).toNat) = ((i / 2 ^ j : Nat) : Int) := by simp
  rw [e] at h
  simp [execOp, hS.fr.eval hx, hS.fr.eval hy, eqGuard_shr, binOp_shr, h]
end
end Go.Gl
