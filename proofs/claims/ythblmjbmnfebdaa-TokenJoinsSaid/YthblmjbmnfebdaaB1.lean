/- Chapter 27: words, reckoned -/
import Derived.Test.YthblmjbmnfebdaaA2
import Derived.Test.YthblmjbmnfebdaaGl15
namespace Go.Proofs.Ythblmjbmnfebdaa
open Go.Gl
set_option linter.unusedVariables false
set_option linter.unusedSimpArgs false
/-! words: text.Word and its reference; lists of strings held against each other -/
def isUp (x : UInt8) : Prop := 65 ≤ x.toNat ∧ x.toNat ≤ 90
instance (x : UInt8) : Decidable (isUp x) := inferInstanceAs (Decidable (_ ∧ _))
def isPt (x : UInt8) : Prop := 33 ≤ x.toNat ∧ x.toNat ≤ 126 ∧ ¬ isUp x ∧ x.toNat ≠ 34 ∧ x.toNat ≠ 92
instance (x : UInt8) : Decidable (isPt x) := inferInstanceAs (Decidable (_ ∧ _))
def wordy (s : List UInt8) : Prop := ∀ x ∈ s, isPt x
instance (s : List UInt8) : Decidable (wordy s) := inferInstanceAs (Decidable (∀ x ∈ s, isPt x))
def isWord (s : List UInt8) : Prop := s ≠ [] ∧ s.length ≤ 32 ∧ wordy s
instance (s : List UInt8) : Decidable (isWord s) := inferInstanceAs (Decidable (_ ∧ _))
theorem text_upper_eq (n : Nat) (c : Int) : text_upper n c = some (decide (65 ≤ c ∧ c ≤ 90)) := by
  unfold text_upper
  by_cases h1 : (65 : Int) ≤ c <;> by_cases h2 : c ≤ 90 <;> simp [h1, h2]
theorem r01_upper_eq (n : Nat) (c : UInt8) : r01_upper n c = some (decide (isUp c)) := by
  unfold r01_upper isUp
  by_cases h1 : 65 ≤ c.toNat <;> by_cases h2 : c.toNat ≤ 90 <;> simp [h1, h2]
theorem wordy_cons (x : UInt8) (t : List UInt8) : wordy (x :: t) ↔ isPt x ∧ wordy t := by simp [wordy]
theorem r01_Word_L0_eq (n : Nat) (s : List UInt8) : ∀ (t : List UInt8) (m i : Nat), s.drop i = t → t.length < m → r01_Word_L0 n s m i = some (decide (wordy t))
  | [], m + 1, i, h, _ => by
    rw [r01_Word_L0, if_neg (drop_nil' h)]
    simp [wordy]
  | x :: t, m + 1, i, h, hm => by
    obtain ⟨h1, h2, h3⟩ := drop_cons h
    rw [r01_Word_L0, if_pos h1, h2]
    simp only [jn_def, bind_some', r01_upper_eq]
    rw [r01_Word_L0_eq n s t m (i + 1) h3 (by simpa using hm)]
    have key : wordy (x :: t) ↔ isPt x ∧ wordy t := wordy_cons x t
    by_cases a1 : x.toNat < 33
    · simp [a1, key, isPt]; omega
    by_cases a2 : 126 < x.toNat
    · simp [a1, a2, key, isPt]; omega
    by_cases a3 : isUp x
    · simp [a1, a2, a3, key, isPt]
    by_cases a4 : x.toNat = 34
    · simp [a1, a2, a3, a4, key, isPt]
    by_cases a5 : x.toNat = 92
    · simp [a1, a2, a3, a5, key, isPt]
    · have hp : isPt x := ⟨by omega, by omega, a3, a4, a5⟩
      simp [a1, a2, a3, a4, a5, key, hp]
theorem r01_Word_eq (n : Nat) (s : List UInt8) (hn : 40 ≤ n) : r01_Word n s = some (decide (isWord s)) := by
  unfold r01_Word
  simp only [jn_def]
  by_cases h1 : s.length < 1
  · have : s = [] := List.eq_nil_of_length_eq_zero (by omega)
    simp [this, isWord]
  by_cases h2 : 32 < s.length
  · have : ¬ isWord s := fun h => by have := h.2.1; omega
    simp [h1, h2, this]
  · have h0 : s ≠ [] := fun e => by subst e; simp at h1
    rw [if_neg h1, if_neg (by simp [h2]), r01_Word_L0_eq n s s n 0 rfl (by omega)]
    have : isWord s ↔ wordy s := ⟨fun h => h.2.2, fun h => ⟨h0, by omega, h⟩⟩
    simp [this]
theorem text_Word_L0_eq (n : Nat) (s : List UInt8) : ∀ (t : List UInt8) (m i : Nat), s.drop i = t → t.length < m → text_Word_L0 n s m i = some (decide (wordy t))
  | [], m + 1, i, h, _ => by
    rw [text_Word_L0, if_neg (drop_nil' h)]
    simp [wordy]
  | x :: t, m + 1, i, h, hm => by
    obtain ⟨h1, h2, h3⟩ := drop_cons h
    rw [text_Word_L0, if_pos h1]
    simp only [jn_def, text_upper_eq, bind_some']
    have key : wordy (x :: t) ↔ isPt x ∧ wordy t := wordy_cons x t
    by_cases hx : x.toNat < 128
    · obtain ⟨e1, e2⟩ := rune_ascii h2 hx
      rw [e1, e2, text_Word_L0_eq n s t m (i + 1) h3 (by simpa using hm)]
      by_cases a1 : x.toNat < 33
      · rw [if_pos (by omega)]; simp [key, isPt]; omega
      rw [if_neg (by omega)]
      by_cases a2 : 126 < x.toNat
      · rw [if_pos (by omega)]; simp [key, isPt]; omega
      rw [if_neg (by omega)]
      by_cases a3 : isUp x
      · rw [if_pos (by simp [isUp] at a3; simp; omega)]; simp [key, isPt, a3]
      rw [if_neg (by simp [isUp] at a3; simp; omega)]
      by_cases a4 : x.toNat = 34
      · rw [if_pos (by omega)]; simp [key, isPt, a4]
      rw [if_neg (by omega)]
      by_cases a5 : x.toNat = 92
      · rw [if_pos (by simp; omega)]; simp [key, isPt, a5]
      · have hp : isPt x := ⟨by omega, by omega, a3, a4, a5⟩
        rw [if_neg (by simp; omega)]; simp [key, hp]
    · obtain ⟨e1, e2⟩ := rune_other h2 (by omega)
      rw [if_neg (by omega), if_pos (by omega)]
      have : ¬ isPt x := fun h => by have := h.2.1; omega
      simp [key, this]
theorem text_Word_eq (n : Nat) (s : List UInt8) (hn : 40 ≤ n) : text_Word n s = some (decide (isWord s)) := by
  unfold text_Word
  simp only [jn_def]
  by_cases h1 : s.length = 0
  · have : s = [] := List.eq_nil_of_length_eq_zero h1
    simp [this, isWord]
  by_cases h2 : 32 < s.length
  · have : ¬ isWord s := fun h => by have := h.2.1; omega
    simp [h1, h2, this]
  · have h0 : s ≠ [] := fun e => by subst e; simp at h1
    rw [if_neg h1, if_neg (by simp [h2]), text_Word_L0_eq n s s n 0 rfl (by omega)]
    have : isWord s ↔ wordy s := ⟨fun h => h.2.2, fun h => ⟨h0, by omega, h⟩⟩
    simp [this]
theorem r01_Same_L0_eq (n : Nat) (a b : List (List UInt8)) (hab : a.length = b.length) : ∀ (t : List (List UInt8)) (m i : Nat), a.drop i = t → t.length < m → r01_Same_L0 n a b m i = some (decide (t = b.drop i))
  | [], m + 1, i, h, _ => by
    have := drop_nil' h
    rw [r01_Same_L0, if_neg this, List.drop_of_length_le (by omega)]
    simp
  | x :: t, m + 1, i, h, hm => by
    obtain ⟨h1, h2, h3⟩ := drop_cons h
    rcases hbd : b.drop i with _ | ⟨y, u⟩
    · exact absurd (drop_nil' hbd) (by omega)
    obtain ⟨k1, k2, k3⟩ := drop_cons hbd
    rw [r01_Same_L0, if_pos h1, h2, k2]
    simp only [bind_some']
    rw [r01_Same_L0_eq n a b hab t m (i + 1) h3 (by simpa using hm), k3]
    by_cases hx : x = y
    · simp [hx]
    · simp [hx]
theorem r01_Same_eq (n : Nat) (a b : List (List UInt8)) (hn : a.length < n ∨ b.length < n) : r01_Same n a b = some (decide (a = b)) := by
  unfold r01_Same
  by_cases h : a.length = b.length
  · rw [if_neg (by simp [h]), r01_Same_L0_eq n a b h a n 0 rfl (by omega)]
    rfl
  · have : a ≠ b := fun e => h (by rw [e])
    simp [h, this]
end Go.Proofs.Ythblmjbmnfebdaa
