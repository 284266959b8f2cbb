/- Chapter 24: names, words, affixes, reckoned -/
import Derived.Test.YtgmghembhenonaaD1
namespace Go.Proofs.Ytgmghembhenonaa
open Go.Gl
set_option linter.unusedVariables false
set_option linter.unusedSimpArgs false
/-! words: text.Word and its reference; lists of strings held against each other -/
def isUp (x : UInt8) : Prop := 65 ≤ x.toNat ∧ x.toNat ≤ 90
instance (x : UInt8) : Decidable (isUp x) := inferInstanceAs (Decidable (_ ∧ _))
def isPt (x : UInt8) : Prop := 33 ≤ x.toNat ∧ x.toNat ≤ 126 ∧ ¬ isUp x ∧ x.toNat ≠ 34 ∧ x.toNat ≠ 92
instance (x : UInt8) : Decidable (isPt x) := inferInstanceAs (Decidable (_ ∧ _))
def wordy (s : List UInt8) : Prop := ∀ x ∈ s, isPt x
instance (s : List UInt8) : Decidable (wordy s) := inferInstanceAs (Decidable (∀ x ∈ s, isPt x))
def isWord (s : List UInt8) : Prop := s ≠ [] ∧ s.length ≤ 32 ∧ wordy s
instance (s : List UInt8) : Decidable (isWord s) := inferInstanceAs (Decidable (_ ∧ _))
theorem text_upper_eq (n : Nat) (c : Int) : text_upper n c = some (decide (65 ≤ c ∧ c ≤ 90)) := by
  unfold text_upper
  by_cases h1 : (65 : Int) ≤ c <;> by_cases h2 : c ≤ 90 <;> simp [h1, h2]
theorem r01_upper_eq (n : Nat) (c : UInt8) : r01_upper n c = some (decide (isUp c)) := by
  unfold r01_upper isUp
  by_cases h1 : 65 ≤ c.toNat <;> by_cases h2 : c.toNat ≤ 90 <;> simp [h1, h2]
theorem wordy_cons (x : UInt8) (t : List UInt8) : wordy (x :: t) ↔ isPt x ∧ wordy t := by simp [wordy]
theorem r01_Word_L0_eq (n : Nat) (s : List UInt8) : ∀ (t : List UInt8) (m i : Nat), s.drop i = t → t.length < m → r01_Word_L0 n s m i = some (decide (wordy t))
  | [], m + 1, i, h, _ => by
    rw [r01_Word_L0, if_neg (drop_nil' h)]
    simp [wordy]
  | x :: t, m + 1, i, h, hm => by
    obtain ⟨h1, h2, h3⟩ := drop_cons h
    rw [r01_Word_L0, if_pos h1, h2]
    simp only [jn_def, bind_some', r01_upper_eq]
    rw [r01_Word_L0_eq n s t m (i + 1) h3 (by simpa using hm)]
    have key : wordy (x :: t) ↔ isPt x ∧ wordy t := wordy_cons x t
    by_cases a1 : x.toNat < 33
    · simp [a1, key, isPt]; omega
    by_cases a2 : 126 < x.toNat
    · simp [a1, a2, key, isPt]; omega
    by_cases a3 : isUp x
    · simp [a1, a2, a3, key, isPt]
    by_cases a4 : x.toNat = 34
    · simp [a1, a2, a3, a4, key, isPt]
    by_cases a5 : x.toNat = 92
    · simp [a1, a2, a3, a5, key, isPt]
    · have hp : isPt x := ⟨by omega, by omega, a3, a4, a5⟩
      simp [a1, a2, a3, a4, a5, key, hp]
theorem r01_Word_eq (n : Nat) (s : List UInt8) (hn : 40 ≤ n) : r01_Word n s = some (decide (isWord s)) := by
  unfold r01_Word
  simp only [jn_def]
  by_cases h1 : s.length < 1
  · have : s = [] := List.eq_nil_of_length_eq_zero (by omega)
    simp [this, isWord]
  by_cases h2 : 32 < s.length
  · have : ¬ isWord s := fun h => by have := h.2.1; omega
    simp [h1, h2, this]
  · have h0 : s ≠ [] := fun e => by subst e; simp at h1
    rw [if_neg h1, if_neg (by simp [h2]), r01_Word_L0_eq n s s n 0 rfl (by omega)]
    have : isWord s ↔ wordy s := ⟨fun h => h.2.2, fun h => ⟨h0, by omega, h⟩⟩
    simp [this]
theorem text_Word_L0_eq (n : Nat) (s : List UInt8) : ∀ (t : List UInt8) (m i : Nat), s.drop i = t → t.length < m → text_Word_L0 n s m i = some (decide (wordy t))
  | [], m + 1, i, h, _ => by
    rw [text_Word_L0, if_neg (drop_nil' h)]
    simp [wordy]
  | x :: t, m + 1, i, h, hm => by
    obtain ⟨h1, h2, h3⟩ := drop_cons h
    rw [text_Word_L0, if_pos h1]
    simp only [jn_def, text_upper_eq, bind_some']
    have key : wordy (x :: t) ↔ isPt x ∧ wordy t := wordy_cons x t
    by_cases hx : x.toNat < 128
    · obtain ⟨e1, e2⟩ := rune_ascii h2 hx
      rw [e1, e2, text_Word_L0_eq n s t m (i + 1) h3 (by simpa using hm)]
      by_cases a1 : x.toNat < 33
      · rw [if_pos (by omega)]; simp [key, isPt]; omega
      rw [if_neg (by omega)]
      by_cases a2 : 126 < x.toNat
      · rw [if_pos (by omega)]; simp [key, isPt]; omega
      rw [if_neg (by omega)]
      by_cases a3 : isUp x
      · rw [if_pos (by simp [isUp] at a3; simp; omega)]; simp [key, isPt, a3]
      rw [if_neg (by simp [isUp] at a3; simp; omega)]
      by_cases a4 : x.toNat = 34
      · rw [if_pos (by omega)]; simp [key, isPt, a4]
      rw [if_neg (by omega)]
      by_cases a5 : x.toNat = 92
      · rw [if_pos (by simp; omega)]; simp [key, isPt, a5]
      · have hp : isPt x := ⟨by omega, by omega, a3, a4, a5⟩
        rw [if_neg (by simp; omega)]; simp [key, hp]
    · obtain ⟨e1, e2⟩ := rune_other h2 (by omega)
      rw [if_neg (by omega), if_pos (by omega)]
      have : ¬ isPt x := fun h => by have := h.2.1; omega
      simp [key, this]
theorem text_Word_eq (n : Nat) (s : List UInt8) (hn : 40 ≤ n) : text_Word n s = some (decide (isWord s)) := by
  unfold text_Word
  simp only [jn_def]
  by_cases h1 : s.length = 0
  · have : s = [] := List.eq_nil_of_length_eq_zero h1
    simp [this, isWord]
  by_cases h2 : 32 < s.length
  · have : ¬ isWord s := fun h => by have := h.2.1; omega
    simp [h1, h2, this]
  · have h0 : s ≠ [] := fun e => by subst e; simp at h1
    rw [if_neg h1, if_neg (by simp [h2]), text_Word_L0_eq n s s n 0 rfl (by omega)]
    have : isWord s ↔ wordy s := ⟨fun h => h.2.2, fun h => ⟨h0, by omega, h⟩⟩
    simp [this]
theorem r01_Same_L0_eq (n : Nat) (a b : List (List UInt8)) (hab : a.length = b.length) : ∀ (t : List (List UInt8)) (m i : Nat), a.drop i = t → t.length < m → r01_Same_L0 n a b m i = some (decide (t = b.drop i))
  | [], m + 1, i, h, _ => by
    have := drop_nil' h
    rw [r01_Same_L0, if_neg this, List.drop_of_length_le (by omega)]
    simp
  | x :: t, m + 1, i, h, hm => by
    obtain ⟨h1, h2, h3⟩ := drop_cons h
    rcases hbd : b.drop i with _ | ⟨y, u⟩
    · exact absurd (drop_nil' hbd) (by omega)
    obtain ⟨k1, k2, k3⟩ := drop_cons hbd
    rw [r01_Same_L0, if_pos h1, h2, k2]
    simp only [bind_some']
    rw [r01_Same_L0_eq n a b hab t m (i + 1) h3 (by simpa using hm), k3]
    by_cases hx : x = y
    · simp [hx]
    · simp [hx]
theorem r01_Same_eq (n : Nat) (a b : List (List UInt8)) (hn : a.length < n ∨ b.length < n) : r01_Same n a b = some (decide (a = b)) := by
  unfold r01_Same
  by_cases h : a.length = b.length
  · rw [if_neg (by simp [h]), r01_Same_L0_eq n a b h a n 0 rfl (by omega)]
    rfl
  · have : a ≠ b := fun e => h (by rw [e])
    simp [h, this]
/-! names -/
def isLo (x : UInt8) : Prop := 97 ≤ x.toNat ∧ x.toNat ≤ 122
instance (x : UInt8) : Decidable (isLo x) := inferInstanceAs (Decidable (_ ∧ _))
def isDg (x : UInt8) : Prop := 48 ≤ x.toNat ∧ x.toNat ≤ 57
instance (x : UInt8) : Decidable (isDg x) := inferInstanceAs (Decidable (_ ∧ _))
def nmc (x : UInt8) : Prop := isLo x ∨ isDg x ∨ x.toNat = 45
instance (x : UInt8) : Decidable (nmc x) := inferInstanceAs (Decidable (_ ∨ _))
def namy (s : List UInt8) : Prop := ∀ x ∈ s, nmc x
instance (s : List UInt8) : Decidable (namy s) := inferInstanceAs (Decidable (∀ x ∈ s, nmc x))
def isName : List UInt8 → Prop
  | [] => False
  | x :: t => t.length ≤ 31 ∧ isLo x ∧ namy t
instance (s : List UInt8) : Decidable (isName s) := match s with
  | [] => inferInstanceAs (Decidable False)
  | x :: t => inferInstanceAs (Decidable (_ ∧ _))
theorem namy_cons (x : UInt8) (t : List UInt8) : namy (x :: t) ↔ nmc x ∧ namy t := by simp [namy]
theorem text_lower_eq (n : Nat) (c : Int) : text_lower n c = some (decide (97 ≤ c ∧ c ≤ 122)) := by
  unfold text_lower
  by_cases h1 : (97 : Int) ≤ c <;> by_cases h2 : c ≤ 122 <;> simp [h1, h2]
theorem text_digit_eq (n : Nat) (c : Int) : text_digit n c = some (decide (48 ≤ c ∧ c ≤ 57)) := by
  unfold text_digit
  by_cases h1 : (48 : Int) ≤ c <;> by_cases h2 : c ≤ 57 <;> simp [h1, h2]
theorem text_follows_L0_eq (n : Nat) (s : List UInt8) (f : Int → Option Bool) (hf : ∀ c, f c = some (decide (97 ≤ c ∧ c ≤ 122))) : ∀ (t : List UInt8) (m i : Nat), s.drop i = t → t.length < m → 0 < i → text_follows_L0 n s f m i = some (decide (namy t))
  | [], m + 1, i, h, _, _ => by
    rw [text_follows_L0, if_neg (drop_nil' h)]
    simp [namy]
  | x :: t, m + 1, i, h, hm, hi => by
    obtain ⟨h1, h2, h3⟩ := drop_cons h
    rw [text_follows_L0, if_pos h1]
    simp only [jn_def, hf, text_digit_eq, bind_some']
    have key := namy_cons x t
    have hi0 : ¬ i = 0 := by omega
    by_cases hx : x.toNat < 128
    · obtain ⟨e1, e2⟩ := rune_ascii h2 hx
      rw [e1, e2, text_follows_L0_eq n s f hf t m (i + 1) h3 (by simpa using hm) (by omega)]
      by_cases a1 : isLo x
      · have : (97 : Int) ≤ (x.toNat : Int) ∧ (x.toNat : Int) ≤ 122 := by unfold isLo at a1; omega
        simp [this, key, nmc, a1]
      · have q1 : ¬ ((97 : Int) ≤ (x.toNat : Int) ∧ (x.toNat : Int) ≤ 122) := by unfold isLo at a1; omega
        by_cases a2 : isDg x
        · have q2 : (48 : Int) ≤ (x.toNat : Int) ∧ (x.toNat : Int) ≤ 57 := by unfold isDg at a2; omega
          simp [q1, q2, hi0, key, nmc, a2]
        · have q2 : ¬ ((48 : Int) ≤ (x.toNat : Int) ∧ (x.toNat : Int) ≤ 57) := by unfold isDg at a2; omega
          by_cases a3 : x.toNat = 45
          · have q3 : ((x.toNat : Nat) : Int) = 45 := by omega
            simp [q1, q2, q3, hi0, key, nmc, a3]
          · have q3 : ((x.toNat : Nat) : Int) ≠ 45 := by omega
            simp [q1, q2, q3, hi0, key, nmc, a1, a2, a3]
    · obtain ⟨e1, e2⟩ := rune_other h2 (by omega)
      have q1 : ¬ ((97 : Int) ≤ runeAt s i ∧ runeAt s i ≤ 122) := by omega
      have q2 : ¬ ((48 : Int) ≤ runeAt s i ∧ runeAt s i ≤ 57) := by omega
      have q3 : runeAt s i ≠ 45 := by omega
      have : ¬ nmc x := by unfold nmc isLo isDg; omega
      simp [q1, q2, q3, hi0, key, this]
theorem text_Name_eq (n : Nat) (s : List UInt8) (hn : 40 ≤ n) : text_Name n s = some (decide (isName s)) := by
  unfold text_Name text_follows
  simp only [jn_def]
  cases s with
  | nil => simp; decide
  | cons x t =>
    rw [if_neg (by simp)]
    by_cases h2 : 32 < (x :: t).length
    · have : ¬ isName (x :: t) := fun h => by have := h.1; simp at h2; omega
      simp only [h2, decide_true, if_true, bind_some', this, decide_false]
    · rw [if_neg (by simpa using h2)]
      simp only [List.length_cons] at h2
      obtain ⟨m, rfl⟩ : ∃ m, n = m + 1 := ⟨n - 1, by omega⟩
      have hf : ∀ c, (fun p => text_lower (m + 1) p) c = some (decide (97 ≤ c ∧ c ≤ 122)) := fun c => text_lower_eq (m + 1) c
      generalize (fun p => text_lower (m + 1) p) = f at *
      rw [text_follows_L0, if_pos (by simp)]
      simp only [jn_def, hf, bind_some']
      have h0 : (x :: t)[0]? = some x := rfl
      by_cases hx : x.toNat < 128
      · obtain ⟨e1, e2⟩ := rune_ascii h0 hx
        rw [e1, e2, text_follows_L0_eq (m + 1) (x :: t) f hf t m (0 + 1) rfl (by omega) (by omega)]
        by_cases a1 : isLo x
        · have : (97 : Int) ≤ (x.toNat : Int) ∧ (x.toNat : Int) ≤ 122 := by unfold isLo at a1; omega
          have e : isName (x :: t) ↔ namy t := ⟨fun h => h.2.2, fun h => ⟨by omega, a1, h⟩⟩
          simp [this, e]
        · have q1 : ¬ ((97 : Int) ≤ (x.toNat : Int) ∧ (x.toNat : Int) ≤ 122) := by unfold isLo at a1; omega
          have e : ¬ isName (x :: t) := fun h => a1 h.2.1
          simp [q1, e]
      · obtain ⟨e1, e2⟩ := rune_other h0 (by omega)
        have q1 : ¬ ((97 : Int) ≤ runeAt (x :: t) 0 ∧ runeAt (x :: t) 0 ≤ 122) := by omega
        have e : ¬ isName (x :: t) := fun h => by have := h.2.1; unfold isLo at this; omega
        simp [q1, e]
theorem r01_digit_eq (n : Nat) (x : UInt8) : r01_digit n x = some (decide (isDg x)) := by
  unfold r01_digit isDg
  by_cases h1 : 48 ≤ x.toNat <;> by_cases h2 : x.toNat ≤ 57 <;> simp [h1, h2]
theorem r01_lower_eq (n : Nat) (x : UInt8) : r01_lower n x = some (decide (isLo x)) := by
  unfold r01_lower isLo
  by_cases h1 : 97 ≤ x.toNat <;> by_cases h2 : x.toNat ≤ 122 <;> simp [h1, h2]
theorem r01_part_eq (n : Nat) (x : UInt8) : r01_part n x false = some (decide (nmc x)) := by
  unfold r01_part nmc
  rw [r01_digit_eq, r01_lower_eq]
  by_cases h1 : isDg x <;> by_cases h2 : x.toNat = 45 <;> by_cases h3 : isLo x <;> simp [h1, h2, h3]
theorem r01_named_L0_eq (n : Nat) (s : List UInt8) : ∀ (t : List UInt8) (m i : Nat), s.drop i = t → t.length < m → r01_named_L0 n s false m i = some (decide (namy t))
  | [], m + 1, i, h, _ => by
    rw [r01_named_L0, if_neg (drop_nil' h)]
    simp [namy]
  | x :: t, m + 1, i, h, hm => by
    obtain ⟨h1, h2, h3⟩ := drop_cons h
    rw [r01_named_L0, if_pos h1, h2]
    simp only [bind_some', r01_part_eq]
    rw [r01_named_L0_eq n s t m (i + 1) h3 (by simpa using hm)]
    have key := namy_cons x t
    by_cases a : nmc x <;> simp [a, key]
theorem r01_Name_eq (n : Nat) (s : List UInt8) (hn : 40 ≤ n) : r01_Name n s = some (decide (isName s)) := by
  unfold r01_Name r01_named
  simp only [jn_def]
  cases s with
  | nil => simp; decide
  | cons x t =>
    rw [if_neg (by simp)]
    by_cases h2 : 32 < (x :: t).length
    · have : ¬ isName (x :: t) := fun h => by have := h.1; simp at h2; omega
      rw [if_pos h2]
      simp [this]
    · rw [if_neg h2]
      simp only [List.length_cons] at h2
      simp only [List.getElem?_cons_zero, bind_some', r01_digit_eq]
      rw [r01_named_L0_eq n (x :: t) (x :: t) n 0 rfl (by simp; omega)]
      have key := namy_cons x t
      by_cases a1 : isDg x
      · have : ¬ isName (x :: t) := fun h => by have := h.2.1; unfold isLo at this; unfold isDg at a1; omega
        simp [a1, this]
      by_cases a2 : x.toNat = 45
      · have : ¬ isName (x :: t) := fun h => by have := h.2.1; unfold isLo at this; omega
        simp [a1, a2, this]
      · have e : isName (x :: t) ↔ namy (x :: t) := by
          rw [key]
          constructor
          · rintro ⟨_, h1, h2⟩; exact ⟨.inl h1, h2⟩
          · rintro ⟨h1 | h1 | h1, h2⟩
            · exact ⟨by omega, h1, h2⟩
            · exact absurd h1 a1
            · exact absurd h1 a2
        simp [a1, a2, e]
/-! affixes -/
def enc {α : Type} (d : α) : Option α → α × Bool
  | some v => (v, true)
  | none => (d, false)
theorem HasPrefix_eq (n : Nat) (s p : List UInt8) : stringslite_HasPrefix n s p = some (decide (p.length ≤ s.length ∧ s.take p.length = p)) := by
  unfold stringslite_HasPrefix
  by_cases h : p.length ≤ s.length
  · rw [if_pos h, chk_true h]; simp [h]
  · simp [h]
theorem toNat_sub' (a b : Nat) (h : b ≤ a) : ((a : Int) - (b : Int)).toNat = a - b := by omega
theorem HasSuffix_eq (n : Nat) (s p : List UInt8) : stringslite_HasSuffix n s p = some (decide (p.length ≤ s.length ∧ s.drop (s.length - p.length) = p)) := by
  unfold stringslite_HasSuffix
  by_cases h : p.length ≤ s.length
  · rw [if_pos h, chk_true (by omega), toNat_sub' _ _ h, chk_true (by omega)]; simp [h]
  · simp [h]
def fitsS (k : Int) (p w : List UInt8) : Prop := p.length < w.length ∧ if k = 2 then w.take p.length = p else w.drop (w.length - p.length) = p
instance (k : Int) (p w : List UInt8) : Decidable (fitsS k p w) := by unfold fitsS; exact inferInstance
def replS (k : Int) (w a b : List UInt8) : List UInt8 := if k = 2 then b ++ w.drop a.length else w.take (w.length - a.length) ++ b
def applyP (k : Int) (w : List UInt8) : List Change → Option (List UInt8)
  | [] => none
  | p :: t => if fitsS k p.Old w then (if isWord (replS k w p.Old p.New) then some (replS k w p.Old p.New) else none) else applyP k w t
def applyS (a : Affix) (w : List UInt8) : Option (List UInt8) := if a.Kind = 0 then some w else applyP a.Kind w a.Pairs
def lightA (a : Affix) : Prop := a.Pairs.length ≤ 40 ∧ ∀ p ∈ a.Pairs, p.Old.length ≤ 100 ∧ p.New.length ≤ 100
instance (a : Affix) : Decidable (lightA a) := inferInstanceAs (Decidable (_ ∧ _))
theorem affix_Apply_L0_eq (n : Nat) (a : Affix) (w : List UInt8) (hn : 1000 ≤ n) (hw : w.length ≤ 1000000) (ha : ∀ p ∈ a.Pairs, p.New.length ≤ 1000000) (sd : side) (hsd : affix_sideOf n a.Kind = some sd) : ∀ (t : List Change) (m i : Nat), a.Pairs.drop i = t → t.length < m → affix_Apply_L0 n a w sd m i = some (enc [] (applyP a.Kind w t))
  | [], m + 1, i, h, _ => by
    rw [affix_Apply_L0, if_neg (drop_nil' h)]
    rfl
  | p :: t, m + 1, i, h, hm => by
    obtain ⟨h1, h2, h3⟩ := drop_cons h
    have hp := ha p (List.mem_of_getElem? h2)
    rw [affix_Apply_L0, if_pos h1, h2]
    simp only [bind_some', jn_def]
    rw [affix_Apply_L0_eq n a w hn hw ha sd hsd t m (i + 1) h3 (by simpa using hm)]
    unfold affix_sideOf at hsd
    by_cases hk : a.Kind = 2
    · rw [if_pos hk] at hsd
      obtain rfl := Option.some.inj hsd
      simp only [strings_HasPrefix, strings_TrimPrefix, stringslite_TrimPrefix, affix_sideOf_1, HasPrefix_eq, bind_some', text_Word_eq n _ (show 40 ≤ n by omega)]
      by_cases hf : fitsS a.Kind p.Old w
      · have hf' := hf
        unfold fitsS at hf'
        rw [if_pos hk] at hf'
        have e : p.Old.length ≤ w.length ∧ w.take p.Old.length = p.Old := ⟨by omega, hf'.2⟩
        have hr : replS a.Kind w p.Old p.New = p.New ++ w.drop p.Old.length := by simp [replS, hk]
        simp only [e, decide_true, if_true, hf'.1, and_self, chk_tt, bind_some']
        rw [chk_true (by rw [List.length_drop]; omega)]
        simp only [bind_some', applyP, hf, if_true, hr]
        by_cases hw' : isWord (p.New ++ w.drop p.Old.length) <;> simp [hw', enc]
      · have hne : ¬ ((p.Old.length ≤ w.length ∧ w.take p.Old.length = p.Old) ∧ p.Old.length < w.length) := fun ⟨x, y⟩ => hf (by unfold fitsS; rw [if_pos hk]; exact ⟨y, x.2⟩)
        simp only [applyP, hf, if_false]
        by_cases q1 : p.Old.length ≤ w.length ∧ w.take p.Old.length = p.Old
        · have q2 : ¬ p.Old.length < w.length := fun h => hne ⟨q1, h⟩
          simp [q1, q2]
        · simp [q1]
    · rw [if_neg hk] at hsd
      obtain rfl := Option.some.inj hsd
      simp only [strings_HasSuffix, strings_TrimSuffix, stringslite_TrimSuffix, affix_sideOf_2, HasSuffix_eq, bind_some', text_Word_eq n _ (show 40 ≤ n by omega)]
      by_cases hf : fitsS a.Kind p.Old w
      · have hf' := hf
        unfold fitsS at hf'
        rw [if_neg hk] at hf'
        have e : p.Old.length ≤ w.length ∧ w.drop (w.length - p.Old.length) = p.Old := ⟨by omega, hf'.2⟩
        have hr : replS a.Kind w p.Old p.New = w.take (w.length - p.Old.length) ++ p.New := by simp [replS, hk]
        simp only [e, decide_true, if_true, hf'.1, and_self, toNat_sub' _ _ e.1]
        rw [chk_true (by omega), chk_true (by omega)]
        simp only [bind_some']
        rw [chk_true (by rw [List.length_take]; omega)]
        simp only [bind_some', applyP, hf, if_true, hr]
        by_cases hw' : isWord (w.take (w.length - p.Old.length) ++ p.New) <;> simp [hw', enc]
      · have hne : ¬ ((p.Old.length ≤ w.length ∧ w.drop (w.length - p.Old.length) = p.Old) ∧ p.Old.length < w.length) := fun ⟨x, y⟩ => hf (by unfold fitsS; rw [if_neg hk]; exact ⟨y, x.2⟩)
        simp only [applyP, hf, if_false]
        by_cases q1 : p.Old.length ≤ w.length ∧ w.drop (w.length - p.Old.length) = p.Old
        · have q2 : ¬ p.Old.length < w.length := fun h => hne ⟨q1, h⟩
          simp [q1, q2]
        · simp [q1]
theorem affix_Apply_eq (n : Nat) (a : Affix) (w : List UInt8) (hn : 1000 ≤ n) (hw : w.length ≤ 1000000) (ha : lightA a) : affix_Apply n a w = some (enc [] (applyS a w)) := by
  unfold affix_Apply applyS
  by_cases hk : a.Kind = 0
  · simp [hk, enc]
  · rw [if_neg hk, if_neg hk]
    have : ∃ sd, affix_sideOf n a.Kind = some sd := by unfold affix_sideOf; split <;> exact ⟨_, rfl⟩
    obtain ⟨sd, hsd⟩ := this
    have hl := ha.1
    rw [hsd, bind_some', affix_Apply_L0_eq n a w hn hw (fun p hp => by have := (ha.2 p hp).2; omega) sd hsd a.Pairs n 0 rfl (by omega)]
theorem r23_fits_eq (n : Nat) (k : Int) (p w : List UInt8) : r23_fits n k p w = some (decide (fitsS k p w)) := by
  unfold r23_fits fitsS
  by_cases h : w.length ≤ p.length
  · have : ¬ p.length < w.length := by omega
    simp [h, this]
  · have h' : p.length < w.length := by omega
    by_cases hk : k = 2
    · rw [if_neg h, if_pos hk, chk_true (by omega)]; simp [h', hk]
    · rw [if_neg h, if_neg hk, chk_true (by omega), toNat_sub' _ _ (by omega), chk_true (by omega)]; simp [h', hk]
theorem r23_replaced_eq (n : Nat) (k : Int) (w a b : List UInt8) (h : a.length ≤ w.length) (hw : w.length ≤ 1000000) (hb : b.length ≤ 1000000) : r23_replaced n k w a b = some (replS k w a b) := by
  unfold r23_replaced replS
  by_cases hk : k = 2
  · rw [if_pos hk, chk_true h, chk_true (by rw [List.length_drop]; omega)]; simp [hk]
  · rw [if_neg hk, chk_true (by omega), toNat_sub' _ _ h, chk_true (by omega), chk_true (by rw [List.length_take]; omega)]; simp [hk]
theorem r23_Apply_L0_eq (n : Nat) (a : Affix) (w : List UInt8) (hn : 1000 ≤ n) (hw : w.length ≤ 1000000) (ha : ∀ p ∈ a.Pairs, p.New.length ≤ 1000000) : ∀ (t : List Change) (m i : Nat), a.Pairs.drop i = t → t.length < m → r23_Apply_L0 n a w m i = some (enc [] (applyP a.Kind w t))
  | [], m + 1, i, h, _ => by
    rw [r23_Apply_L0, if_neg (drop_nil' h)]
    rfl
  | p :: t, m + 1, i, h, hm => by
    obtain ⟨h1, h2, h3⟩ := drop_cons h
    have hp := ha p (List.mem_of_getElem? h2)
    rw [r23_Apply_L0, if_pos h1, h2]
    simp only [bind_some', r23_fits_eq]
    rw [r23_Apply_L0_eq n a w hn hw ha t m (i + 1) h3 (by simpa using hm)]
    by_cases hf : fitsS a.Kind p.Old w
    · have hl : p.Old.length ≤ w.length := by have := hf.1; omega
      rw [r23_replaced_eq n _ _ _ _ hl hw hp]
      simp only [hf, decide_true, if_true, bind_some', r01_Word_eq n _ (show 40 ≤ n by omega), applyP]
      by_cases hw' : isWord (replS a.Kind w p.Old p.New) <;> simp [hw', enc]
    · simp [hf, applyP]
theorem r23_Apply_eq (n : Nat) (a : Affix) (w : List UInt8) (hn : 1000 ≤ n) (hw : w.length ≤ 1000000) (ha : lightA a) : r23_Apply n a w = some (enc [] (applyS a w)) := by
  unfold r23_Apply applyS
  by_cases hk : a.Kind = 0
  · simp [hk, enc]
  · have hl := ha.1
    rw [if_neg hk, if_neg hk, r23_Apply_L0_eq n a w hn hw (fun p hp => by have := (ha.2 p hp).2; omega) a.Pairs n 0 rfl (by omega)]
/-! several words -/
def atS (a : Affix) (l : List (List UInt8)) : Nat := if a.Kind = 2 then 0 else l.length - 1
def wordsA (a : Affix) (l : List (List UInt8)) : Option (List (List UInt8)) := if a.Kind = 0 then some l else match l[atS a l]? with
  | some x => (applyS a x).map fun v => l.set (atS a l) v
  | none => none
def kindOk (a : Affix) : Prop := a.Kind = 0 ∨ a.Kind = 1 ∨ a.Kind = 2
theorem at_lt (a : Affix) (l : List (List UInt8)) (h : l ≠ []) : atS a l < l.length := by
  have : 0 < l.length := List.length_pos_iff.2 h
  unfold atS; split <;> omega
theorem affix_Words_eq (n : Nat) (a : Affix) (l : List (List UInt8)) (hn : 1000 ≤ n) (h0 : l ≠ []) (hl : l.length ≤ 1000000) (hw : ∀ w ∈ l, w.length ≤ 1000000) (ha : lightA a) : affix_Words n a l = some (enc [] (wordsA a l)) := by
  unfold affix_Words wordsA
  by_cases hk : a.Kind = 0
  · simp [hk, enc]
  rw [if_neg hk, if_neg hk]
  simp only [jn_def]
  have hlt := at_lt a l h0
  have key : ∀ i : Nat, i = atS a l → ((ix l (i : Int)).bind fun x9 => (affix_Apply n a x9).bind fun r11 => if (!r11.2) = true then some ([], false) else (slices_Clone_string n l).bind fun r19 => (ix r19 (i : Int)).bind fun x25 => some (r19.set (i : Int).toNat r11.1, true)) = some (enc [] (match l[atS a l]? with
      | some x => (applyS a x).map fun v => l.set (atS a l) v
      | none => none)) := by
    rintro i rfl
    have hg : l[atS a l]? = some l[atS a l] := List.getElem?_eq_getElem hlt
    simp only [ix_nat, hg, bind_some', slices_Clone_string]
    rw [affix_Apply_eq n a _ hn (hw _ (List.getElem_mem hlt)) ha]
    cases hA : applyS a l[atS a l] with
    | none => simp [enc]
    | some v =>
      simp only [bind_some', enc, Bool.not_true, Bool.false_eq_true, if_false]
      rw [chk_true (by omega)]
      simp [hg, enc]
  by_cases h2 : a.Kind = 2
  · rw [if_pos h2]
    exact key 0 (by simp [atS, h2])
  · rw [if_neg h2]
    have hp : 0 < l.length := List.length_pos_iff.2 h0
    have e : ((l.length : Nat) : Int) - 1 = ((l.length - 1 : Nat) : Int) := by omega
    rw [e]
    exact key _ (by simp [atS, h2])
theorem r23_Words_eq (n : Nat) (a : Affix) (l : List (List UInt8)) (hn : 1000 ≤ n) (h0 : l ≠ []) (hl : l.length ≤ 1000000) (hw : ∀ w ∈ l, w.length ≤ 1000000) (ha : lightA a) (hko : kindOk a) : r23_Words n a l = some (enc [] (wordsA a l)) := by
  unfold r23_Words wordsA
  rw [chk_true (by omega)]
  by_cases hk : a.Kind = 0
  · simp [hk, enc]
  rw [if_neg hk, if_neg hk]
  simp only [jn_def]
  have hlt := at_lt a l h0
  have key : ∀ i : Nat, i = atS a l → ((ix l (i : Int)).bind fun x16 => (r23_Apply n a x16).bind fun r18 => if (!r18.2) = true then some ([], false) else some (l.set (i : Int).toNat r18.1, true)) = some (enc [] (match l[atS a l]? with
      | some x => (applyS a x).map fun v => l.set (atS a l) v
      | none => none)) := by
    rintro i rfl
    have hg : l[atS a l]? = some l[atS a l] := List.getElem?_eq_getElem hlt
    simp only [ix_nat, hg, bind_some']
    rw [r23_Apply_eq n a _ hn (hw _ (List.getElem_mem hlt)) ha]
    cases hA : applyS a l[atS a l] with
    | none => simp [enc]
    | some v => simp [enc]
  by_cases h1 : a.Kind = 1
  · rw [if_pos h1]
    have hp : 0 < l.length := List.length_pos_iff.2 h0
    have e : ((l.length : Nat) : Int) - 1 = ((l.length - 1 : Nat) : Int) := by omega
    rw [e]
    exact key _ (by simp [atS, h1])
  · rw [if_neg h1]
    have h2 : a.Kind = 2 := by rcases hko with h | h | h <;> first | exact absurd h hk | exact absurd h h1 | exact h
    exact key 0 (by simp [atS, h2])
end Go.Proofs.Ytgmghembhenonaa
