/- Own lemmas, ninth part: rows of the call's own that are read and written in place. -/
import Derived.Test.YtbhjplflnkidgaaGreatGl6
namespace Go.Gl
open Go.RowKit
set_option linter.unusedVariables false
set_option linter.unusedSimpArgs false
section
variable {P : Program} {Γ : Ctx} {l : Al Value} {L L1 : Al Ob} {D : Al Fact} {a : Act} {w : World} {d : Option Tmp} {ty : TypeId} {pos : String} {af : Array Edge} {g : Option (Nat × Bool)} {v u : Value} {x y c : Operand} {t t' : TypeId} {k : IntKind} {m : Int} {kk : Nat} {K : Act → World → Prop} {Q : Exit → Act → World → Prop} {α : Type} {R : Rep α} {M : Bs}
theorem rowN {A : Option Addr} {n c sz : Nat} {e : TypeId} {cs : List Value} {xs : List α} (h : (Ob.row A n c e sz cs).holds w) (hr : RdAll R M w cs xs) (hs : R.size = sz) (hpos : Nat.blt 0 sz = true) : xs.length = n := by
  have h' : w.ownsRow 0 e sz (.slice A n c) n cs := h
  have h1 := h'.1
  rw [hr.len, hs] at h1
  exact Nat.eq_of_mul_eq_mul_right (Nat.le_of_ble_eq_true hpos) h1
theorem St.lendLt {L' : Al Ob} (hS : St Γ l L D a w) (hL : SubA L' L) : ∀ b, mtb Γ L' b → b < w.heap.size := fun b hb => hS.lt b (mtb_sub hL hb)
end
end Go.Gl
