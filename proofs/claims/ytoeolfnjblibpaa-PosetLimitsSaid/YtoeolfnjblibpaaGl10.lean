/- Own lemmas, tenth part: ranges over strings. -/
import Derived.Test.YtoeolfnjblibpaaGl9
import Derived.Laws.RangeString
namespace Go.Gl
open Go.RowKit
set_option linter.unusedVariables false
set_option linter.unusedSimpArgs false

def Ob.iter (b : Nat) (s : ByteArray) (pos : Nat) : Ob where
  ids := fun k => k = b
  holds := fun w => w.heap[b]? = some (.stringIter s pos)
  lt := fun h e => by rw [e]; exact block_lt h
  keep := fun h hk => (hk b rfl).trans h
section
variable {P : Program} {Γ : Ctx} {l : Al Value} {L L1 : Al Ob} {D : Al Fact} {a : Act} {w : World} {d : Tmp} {ty : TypeId} {pos : String} {af : Array Edge} {g : Option (Nat × Bool)} {x : Operand} {t : TypeId} {kk : Nat} {K : Act → World → Prop} {Q : Exit → Act → World → Prop}
theorem l_range {s : ByteArray} (hS : St Γ l L D a w) (kk : Nat) (hx : ev l x = some (.string s)) (hu : P.underlying t = some .string) (hk : look L kk = none) (hd : Nat.blt d Γ.N = true)
    (h : ∀ b a' w', w.heap.size ≤ b → Keeps noB w w' → St Γ ((d, .pointer (some ⟨b, 0, none⟩)) :: l) ((kk, Ob.iter b s 0) :: L) D a' w' → K a' w') : Oper.wp P ⟨some d, .range t x, ty, pos, af, g⟩ a w K Q := by
  refine wp_value (v := .pointer (some ⟨w.heap.size, 0, none⟩)) (w' := w.alloc (.stringIter s 0)) ?_ ?_
  · simp [execOp, hS.fr.eval hx, Instr.range, run_underlying hu]
  · have he := ext_alloc hS (.stringIter s 0)
    exact h w.heap.size _ _ (Nat.le_refl _) (Keeps.alloc _ _ _) ⟨hS.fr.put hd, hS.wd.new he hk (by show (w.alloc _).heap[w.heap.size]? = _; rw [heap_new]) (fun b hb => by cases hb; exact Nat.le_refl _)⟩
theorem l_nextEnd {s : ByteArray} {b p : Nat} (hS : St Γ l L D a w) (hx : ev l x = some (.pointer (some ⟨b, 0, none⟩))) (hb : look L kk = some (Ob.iter b s p)) (hp : ¬ p < s.size) (hd : Nat.blt d Γ.N = true)
    (h : ∀ a', St Γ ((d, .tuple #[.bool false]) :: l) L D a' w → K a' w) : Oper.wp P ⟨some d, .next x true, ty, pos, af, g⟩ a w K Q := by
  have hh : w.heap[b]? = some (.stringIter s p) := hS.wd.holds kk _ hb
  refine wp_value (v := .tuple #[.bool false]) (w' := w) ?_ (h _ (hS.put hd))
  simp [execOp, hS.fr.eval hx, Instr.next, getObj, Sem.run, hh, hp]
end
end Go.Gl
