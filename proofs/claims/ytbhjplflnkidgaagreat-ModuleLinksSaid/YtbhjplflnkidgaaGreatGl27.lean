/- Own lemmas, twenty-seventh part: an element's place, read again in a later world. -/
import Derived.Test.YtbhjplflnkidgaaGreatGl26
namespace Go.Gl
open Go.RowKit
set_option linter.unusedVariables false
theorem SlR.again {α : Type} {R : Rep α} {M : Bs} {w : World} {A : Option Addr} {n c i : Nat} {xs : List α} {x : α} {p : Addr} (h : SlR R M w A n c xs) (hx : xs[i]? = some x) (he : ElemP A (i * R.size) p) : PtrR R M w p x := by
  obtain ⟨p', he', hp'⟩ := h.elemX hx
  obtain ⟨q, q1, q2⟩ := he
  obtain ⟨q', q1', q2'⟩ := he'
  rw [q1] at q1'
  cases q1'
  rw [q2, ← q2']
  exact hp'
end Go.Gl
