/- Own lemmas, twentieth part: a part of a row of one-cell elements that a call of the library's has written over. -/
import Derived.Test.YtbhjplflnkidgaaGreatGl19
namespace Go.Gl
open Go.RowKit Go.Sort Go.Proofs
set_option linter.unusedVariables false
set_option linter.unusedSectionVars false
set_option linter.unusedSimpArgs false
/-- elements of one cell each, written by 'enc' -/
structure One {α : Type} (R : Rep α) (enc : α → Value) : Prop where
  size : R.size = 1
  of : ∀ M w cs x, R.rd M w cs x → cs = [enc x]
theorem One.num (k : IntKind) : One (Rep.num k) (Value.int k) := ⟨rfl, fun _ _ _ _ h => h⟩
theorem One.str : One Rep.str encStr := ⟨rfl, fun _ _ _ _ h => h.1⟩
section
variable {α : Type} [Inhabited α] {R : Rep α} {enc : α → Value}
theorem One.cells (h1 : One R enc) {M : Bs} {w : World} {cs : List Value} {xs : List α} (h : RdAll R M w cs xs) : cs = xs.map enc := by
  have hl : cs.length = xs.length := by rw [h.len, h1.size]; exact Nat.mul_one _
  apply List.ext_getElem?
  intro i
  rw [List.getElem?_map]
  cases hx : xs[i]? with
  | none =>
    rw [List.getElem?_eq_none_iff] at hx
    rw [List.getElem?_eq_none (by omega)]
    rfl
  | some x =>
    have h2 := h1.of _ _ _ _ (h.at_ i x hx)
    rw [h1.size, Nat.mul_one] at h2
    exact take1 h2
theorem One.at (h1 : One R enc) {M : Bs} {w : World} {cs : List Value} {xs : List α} (h : RdAll R M w cs xs) : ∀ x ∈ xs, R.rd M w [enc x] x := fun x hx => by
  obtain ⟨i, hi⟩ := List.getElem?_of_mem hx
  have h2 := h.at_ i x hi
  have h3 := h1.of _ _ _ _ h2
  rw [h3] at h2
  exact h2
theorem One.rd (h1 : One R enc) {M : Bs} {w : World} {xs : List α} (h : ∀ x ∈ xs, R.rd M w [enc x] x) : RdAll R M w (xs.map enc) xs := by
  refine ⟨by rw [List.length_map, h1.size]; exact (Nat.mul_one _).symm, fun i x hx => ?_⟩
  obtain ⟨hi, he⟩ := List.getElem?_eq_some_iff.1 hx
  rw [h1.size, Nat.mul_one, List.drop_eq_getElem_cons (by rw [List.length_map]; exact hi)]
  have := h x (List.mem_of_getElem? hx)
  simpa [he] using this
variable {M C : Bs} {w : World} {A : Option Addr} {n c k j : Nat} {e : TypeId} {x d : List α} {cs : List Value}
end
end Go.Gl

