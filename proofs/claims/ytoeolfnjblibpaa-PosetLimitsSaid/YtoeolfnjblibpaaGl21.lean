/- Own lemmas, twenty-first part: a scope through which the run goes without a jump; rows of plain numbers under another memory. -/
import Derived.Test.YtoeolfnjblibpaaGl20
import Derived.Scope
namespace Go.Gl
open Go.RowKit
set_option linter.unusedVariables false
theorem p_scN {Q : Exit → Act → World → Prop} {a : Act} {w : World} (h : Q .normal a w) : Exit.noGoto Q .normal a w := h
theorem p_scX {Q : Exit → Act → World → Prop} {a : Act} {w : World} {i : Nat} (h : Q (.exit i) a w) : Exit.noGoto Q (.exit i) a w := h
theorem p_scR {Q : Exit → Act → World → Prop} {a : Act} {w : World} (h : Q .ret a w) : Exit.noGoto Q .ret a w := h
theorem RdAll.anyM {α : Type} {R : Rep α} {M M' : Bs} {w w' : World} {cs : List Value} {xs : List α} (hR : ∀ M w M' w' cs x, R.rd M w cs x → R.rd M' w' cs x) (h : RdAll R M w cs xs) : RdAll R M' w' cs xs :=
  ⟨h.len, fun i x hx => hR _ _ _ _ _ _ (h.at_ i x hx)⟩
end Go.Gl
