/- Own lemmas, fifteenth part: plain lists and bytes: what the printed plain programs are reckoned with. -/
import Derived.Test.YtbhjplflnkidgaaGreatGl14
namespace Go.Gl
open Go.RowKit
set_option linter.unusedVariables false
set_option linter.unusedSimpArgs false
section
variable {α β : Type}
theorem drop_cons {xs : List α} {i : Nat} {x : α} {t : List α} (h : xs.drop i = x :: t) : i < xs.length ∧ xs[i]? = some x ∧ xs.drop (i + 1) = t := by
  have hi : i < xs.length := by
    rcases Nat.lt_or_ge i xs.length with h1 | h1
    · exact h1
    · rw [List.drop_of_length_le h1] at h; cases h
  rw [List.drop_eq_getElem_cons hi] at h
  injection h with h1 h2
  exact ⟨hi, by rw [List.getElem?_eq_getElem hi, h1], h2⟩
theorem drop_nil' {xs : List α} {i : Nat} (h : xs.drop i = []) : ¬ i < xs.length := by
  have := List.drop_eq_nil_iff.1 h
  omega
@[simp] theorem bind_some' (a : α) (f : α → Option β) : (some a).bind f = f a := rfl
@[simp] theorem jn_def {ρ : Type} (k : α) (b : α → Option ρ) : jn k b = b k := rfl
end
end Go.Gl
