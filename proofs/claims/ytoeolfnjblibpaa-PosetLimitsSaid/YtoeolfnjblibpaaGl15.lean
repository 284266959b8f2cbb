/- Own lemmas, fifteenth part: plain lists and bytes: what the printed plain programs are reckoned with. -/
import Derived.Test.YtoeolfnjblibpaaGl14
namespace Go.Gl
open Go.RowKit
set_option linter.unusedVariables false
set_option linter.unusedSimpArgs false

section
variable {α β : Type}
theorem drop_cons {xs : List α} {i : Nat} {x : α} {t : List α} (h : xs.drop i = x :: t) : i < xs.length ∧ xs[i]? = some x ∧ xs.drop (i + 1) = t := by
  have hi : i < xs.length := by
    rcases Nat.lt_or_ge i xs.length with h1 | h1
    · exact h1
    · rw [List.drop_of_length_le h1] at h; cases h
  rw [List.drop_eq_getElem_cons hi] at h
  injection h with h1 h2
  exact ⟨hi, by rw [List.getElem?_eq_getElem hi, h1], h2⟩
theorem drop_nil' {xs : List α} {i : Nat} (h : xs.drop i = []) : ¬ i < xs.length := by
  have := List.drop_eq_nil_iff.1 h
  omega
theorem drop_full (xs : List α) : xs.drop 0 = xs := rfl
@[simp] theorem bind_some' (a : α) (f : α → Option β) : (some a).bind f = f a := rfl
@[simp] theorem jn_def {ρ : Type} (k : α) (b : α → Option ρ) : jn k b = b k := rfl
theorem chk_true {p : Prop} [Decidable p] {x : Option α} (h : p) : chk p x = x := if_pos h
@[simp] theorem chk_tt {x : Option α} {inst : Decidable True} : @chk α True inst x = x := by unfold chk; simp
theorem get_app_len (xs : List α) (y : α) (zs : List α) : (xs ++ y :: zs)[xs.length]? = some y := by simp
end

/-! runes -/
theorem get_bang {s : List UInt8} {i : Nat} {x : UInt8} (h : s[i]? = some x) : (bs s).get! i = x := by
  obtain ⟨hi, he⟩ := List.getElem?_eq_some_iff.1 h
  have : (bs s).get! i = (bs s).data[i]! := rfl
  rw [this]
  simp [bs, hi, he]
theorem rune_ascii {s : List UInt8} {i : Nat} {x : UInt8} (h : s[i]? = some x) (hx : x.toNat < 128) : runeAt s i = (x.toNat : Int) ∧ runeLen s i = 1 := by
  have e : (bs s).get! (i + 0) = x := get_bang h
  unfold runeAt runeLen Utf8.decode
  simp only [e, hx, if_true, and_self]
theorem rune_other {s : List UInt8} {i : Nat} {x : UInt8} (h : s[i]? = some x) (hx : 128 ≤ x.toNat) : 128 ≤ runeAt s i ∧ 1 ≤ runeLen s i := by
  have e : (bs s).get! (i + 0) = x := get_bang h
  have hn : ¬ x.toNat < 128 := by omega
  unfold runeAt runeLen Utf8.decode
  simp only [e, hn, if_false]
  have hE : (128 : Int) ≤ (Utf8.runeError : Nat) ∧ 1 ≤ 1 := ⟨by decide, Nat.le_refl _⟩
  repeat' split
  all_goals first
    | exact hE
    | (rename_i hc; refine ⟨?_, by omega⟩; first | (have hc' := hc; simp only [ge_iff_le, Bool.and_eq_true, decide_eq_true_eq] at hc'; omega) | (simp at hc; omega) | omega)
end Go.Gl
