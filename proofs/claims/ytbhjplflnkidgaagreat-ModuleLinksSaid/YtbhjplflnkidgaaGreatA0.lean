/- Chapter 22: sorting by insertion; what the library's functions yield. -/
import Derived.Test.YtbhjplflnkidgaaGreatGl33
import Derived.Test.YtbhjplflnkidgaaGreatGl26
import Derived.Shelf.Slices.CompactS
namespace Go.Proofs.YtbhjplflnkidgaaGreat
open Go.Gl Go.RowKit Go.Sort
set_option linter.unusedVariables false
set_option linter.unusedSimpArgs false
def insS (x : List UInt8) : List (List UInt8) → List (List UInt8)
  | [] => [x]
  | y :: t => if x ≤ y then x :: y :: t else y :: insS x t
def sortS : List (List UInt8) → List (List UInt8)
  | [] => []
  | x :: t => insS x (sortS t)
theorem insS_perm (x : List UInt8) : ∀ l, (insS x l).Perm (x :: l)
  | [] => .refl _
  | y :: t => by
    unfold insS
    split
    · exact .refl _
    · exact ((insS_perm x t).cons y).trans (.swap x y t)
theorem sortS_perm : ∀ l, (sortS l).Perm l
  | [] => .refl _
  | x :: t => (insS_perm x _).trans ((sortS_perm t).cons x)
theorem le_of_not {x y : List UInt8} (h : ¬ x ≤ y) : y ≤ x := (List.le_total x y).resolve_left h
theorem insS_sorted (x : List UInt8) : ∀ l, l.Pairwise (· ≤ ·) → (insS x l).Pairwise (· ≤ ·)
  | [], _ => by simp [insS]
  | y :: t, h => by
    obtain ⟨h1, h2⟩ := List.pairwise_cons.1 h
    unfold insS
    split
    · rename_i hx
      refine List.pairwise_cons.2 ⟨fun z hz => ?_, h⟩
      rcases List.mem_cons.1 hz with rfl | hz
      · exact hx
      · exact List.le_trans hx (h1 z hz)
    · rename_i hx
      refine List.pairwise_cons.2 ⟨fun z hz => ?_, insS_sorted x t h2⟩
      rcases List.mem_cons.1 ((insS_perm x t).mem_iff.1 hz) with rfl | hz
      · exact le_of_not hx
      · exact h1 z hz
theorem sortS_sorted : ∀ l, (sortS l).Pairwise (· ≤ ·)
  | [] => .nil
  | x :: t => insS_sorted x _ (sortS_sorted t)
theorem sortS_len (l : List (List UInt8)) : (sortS l).length = l.length := (sortS_perm l).length_eq
theorem eq_of_perm : ∀ (a b : List (List UInt8)), a.Perm b → a.Pairwise (· ≤ ·) → b.Pairwise (· ≤ ·) → a = b
  | [], b, h, _, _ => (List.nil_perm.1 h).symm
  | x :: a, [], h, _, _ => by have := h.length_eq; simp at this
  | x :: a, y :: b, h, ha, hb => by
    obtain ⟨a1, a2⟩ := List.pairwise_cons.1 ha
    obtain ⟨b1, b2⟩ := List.pairwise_cons.1 hb
    have hxy : x = y := by
      have h1 : x ∈ y :: b := h.mem_iff.1 (by simp)
      have h2 : y ∈ x :: a := h.mem_iff.2 (by simp)
      rcases List.mem_cons.1 h1 with h1 | h1
      · exact h1
      rcases List.mem_cons.1 h2 with h2 | h2
      · exact h2.symm
      exact List.le_antisymm (a1 y h2) (b1 x h1)
    subst hxy
    rw [eq_of_perm a b (List.perm_cons x |>.1 h) a2 b2]
theorem mergeSort_eq (l : List (List UInt8)) : (l.mergeSort fun x y => decide (x ≤ y)) = sortS l := by
  refine eq_of_perm _ _ ((List.mergeSort_perm _ _).trans (sortS_perm l).symm) ?_ (sortS_sorted l)
  have := List.pairwise_mergeSort (le := fun x y : List UInt8 => decide (x ≤ y)) (fun a b c h1 h2 => by simp only [decide_eq_true_eq] at *; exact List.le_trans h1 h2) (fun a b => by simp only [Bool.or_eq_true, decide_eq_true_eq]; exact List.le_total a b) l
  exact this.imp (fun h => by simpa using h)
def slices_Sort_string (n : Nat) (x_ : List (List UInt8)) : Option (List (List UInt8)) :=
  chk (x_.length < 4611686018427387904) (some (sortS x_))
def slices_Compact_string (n : Nat) (x_ : List (List UInt8)) : Option (List (List UInt8)) :=
  chk (x_.length ≤ 9223372036854775807) (some (Lib.compact x_))
def sortedValues (n : Nat) (x_ : List (List UInt8)) : Option (List (List UInt8)) :=
  chk (x_.length * 16 ≤ 140737488351232) (some (sortS x_))
def slices_Grow_Def {α : Type} (n : Nat) (k : Int) : Option (List α) := chk (0 ≤ k ∧ k ≤ 1000000000) (some [])
def slices_Grow_TypeDecl {α : Type} (n : Nat) (k : Int) : Option (List α) := chk (0 ≤ k ∧ k ≤ 1000000000) (some [])
theorem compact_sub (l : List (List UInt8)) : (Lib.compact l).length ≤ l.length ∧ ∀ y ∈ Lib.compact l, y ∈ l := by
  unfold Lib.compact Lib.compactUpTo
  constructor
  · rw [List.length_map]
    exact Nat.le_trans (List.length_filter_le _ _) (by simp)
  · intro y hy
    obtain ⟨i, hi, rfl⟩ := List.mem_map.1 hy
    have h1 : i < l.length := by simpa using (List.mem_filter.1 hi).1
    simp [h1]
end Go.Proofs.YtbhjplflnkidgaaGreat
