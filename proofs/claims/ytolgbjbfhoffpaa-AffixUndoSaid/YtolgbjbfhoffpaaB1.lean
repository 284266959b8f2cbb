/- Chapter 23: words, affixes -/
import Derived.Test.YtolgbjbfhoffpaaD1
namespace Go.Proofs.Ytolgbjbfhoffpaa
open Go.Gl
set_option linter.unusedVariables false
set_option linter.unusedSimpArgs false
/-! words: text.Word and its reference; lists of strings held against each other -/
def isUp (x : UInt8) : Prop := 65 ≤ x.toNat ∧ x.toNat ≤ 90
instance (x : UInt8) : Decidable (isUp x) := inferInstanceAs (Decidable (_ ∧ _))
def isPt (x : UInt8) : Prop := 33 ≤ x.toNat ∧ x.toNat ≤ 126 ∧ ¬ isUp x ∧ x.toNat ≠ 34 ∧ x.toNat ≠ 92
instance (x : UInt8) : Decidable (isPt x) := inferInstanceAs (Decidable (_ ∧ _))
def wordy (s : List UInt8) : Prop := ∀ x ∈ s, isPt x
instance (s : List UInt8) : Decidable (wordy s) := inferInstanceAs (Decidable (∀ x ∈ s, isPt x))
def isWord (s : List UInt8) : Prop := s ≠ [] ∧ s.length ≤ 32 ∧ wordy s
instance (s : List UInt8) : Decidable (isWord s) := inferInstanceAs (Decidable (_ ∧ _))
theorem text_upper_eq (n : Nat) (c : Int) : text_upper n c = some (decide (65 ≤ c ∧ c ≤ 90)) := by
  unfold text_upper
  by_cases h1 : (65 : Int) ≤ c <;> by_cases h2 : c ≤ 90 <;> simp [h1, h2]
theorem r01_upper_eq (n : Nat) (c : UInt8) : r01_upper n c = some (decide (isUp c)) := by
  unfold r01_upper isUp
  by_cases h1 : 65 ≤ c.toNat <;> by_cases h2 : c.toNat ≤ 90 <;> simp [h1, h2]
theorem wordy_cons (x : UInt8) (t : List UInt8) : wordy (x :: t) ↔ isPt x ∧ wordy t := by simp [wordy]
theorem r01_Word_L0_eq (n : Nat) (s : List UInt8) : ∀ (t : List UInt8) (m i : Nat), s.drop i = t → t.length < m → r01_Word_L0 n s m i = some (decide (wordy t))
  | [], m + 1, i, h, _ => by
    rw [r01_Word_L0, if_neg (drop_nil' h)]
    simp [wordy]
  | x :: t, m + 1, i, h, hm => by
    obtain ⟨h1, h2, h3⟩ := drop_cons h
    rw [r01_Word_L0, if_pos h1, h2]
    simp only [jn_def, bind_some', r01_upper_eq]
    rw [r01_Word_L0_eq n s t m (i + 1) h3 (by simpa using hm)]
    have key : wordy (x :: t) ↔ isPt x ∧ wordy t := wordy_cons x t
    by_cases a1 : x.toNat < 33
    · simp [a1, key, isPt]; omega
    by_cases a2 : 126 < x.toNat
    · simp [a1, a2, key, isPt]; omega
    by_cases a3 : isUp x
    · simp [a1, a2, a3, key, isPt]
    by_cases a4 : x.toNat = 34
    · simp [a1, a2, a3, a4, key, isPt]
    by_cases a5 : x.toNat = 92
    · simp [a1, a2, a3, a5, key, isPt]
    · have hp : isPt x := ⟨by omega, by omega, a3, a4, a5⟩
      simp [a1, a2, a3, a4, a5, key, hp]
theorem r01_Word_eq (n : Nat) (s : List UInt8) (hn : 40 ≤ n) : r01_Word n s = some (decide (isWord s)) := by
  unfold r01_Word
  simp only [jn_def]
  by_cases h1 : s.length < 1
  · have : s = [] := List.eq_nil_of_length_eq_zero (by omega)
    simp [this, isWord]
  by_cases h2 : 32 < s.length
  · have : ¬ isWord s := fun h => by have := h.2.1; omega
    simp [h1, h2, this]
  · have h0 : s ≠ [] := fun e => by subst e; simp at h1
    rw [if_neg h1, if_neg (by simp [h2]), r01_Word_L0_eq n s s n 0 rfl (by omega)]
    have : isWord s ↔ wordy s := ⟨fun h => h.2.2, fun h => ⟨h0, by omega, h⟩⟩
    simp [this]
theorem text_Word_L0_eq (n : Nat) (s : List UInt8) : ∀ (t : List UInt8) (m i : Nat), s.drop i = t → t.length < m → text_Word_L0 n s m i = some (decide (wordy t))
  | [], m + 1, i, h, _ => by
    rw [text_Word_L0, if_neg (drop_nil' h)]
    simp [wordy]
  | x :: t, m + 1, i, h, hm => by
    obtain ⟨h1, h2, h3⟩ := drop_cons h
    rw [text_Word_L0, if_pos h1]
    simp only [jn_def, text_upper_eq, bind_some']
    have key : wordy (x :: t) ↔ isPt x ∧ wordy t := wordy_cons x t
    by_cases hx : x.toNat < 128
    · obtain ⟨e1, e2⟩ := rune_ascii h2 hx
      rw [e1, e2, text_Word_L0_eq n s t m (i + 1) h3 (by simpa using hm)]
      by_cases a1 : x.toNat < 33
      · rw [if_pos (by omega)]; simp [key, isPt]; omega
      rw [if_neg (by omega)]
      by_cases a2 : 126 < x.toNat
      · rw [if_pos (by omega)]; simp [key, isPt]; omega
      rw [if_neg (by omega)]
      by_cases a3 : isUp x
      · rw [if_pos (by simp [isUp] at a3; simp; omega)]; simp [key, isPt, a3]
      rw [if_neg (by simp [isUp] at a3; simp; omega)]
      by_cases a4 : x.toNat = 34
      · rw [if_pos (by omega)]; simp [key, isPt, a4]
      rw [if_neg (by omega)]
      by_cases a5 : x.toNat = 92
      · rw [if_pos (by simp; omega)]; simp [key, isPt, a5]
      · have hp : isPt x := ⟨by omega, by omega, a3, a4, a5⟩
        rw [if_neg (by simp; omega)]; simp [key, hp]
    · obtain ⟨e1, e2⟩ := rune_other h2 (by omega)
      rw [if_neg (by omega), if_pos (by omega)]
      have : ¬ isPt x := fun h => by have := h.2.1; omega
      simp [key, this]
theorem text_Word_eq (n : Nat) (s : List UInt8) (hn : 40 ≤ n) : text_Word n s = some (decide (isWord s)) := by
  unfold text_Word
  simp only [jn_def]
  by_cases h1 : s.length = 0
  · have : s = [] := List.eq_nil_of_length_eq_zero h1
    simp [this, isWord]
  by_cases h2 : 32 < s.length
  · have : ¬ isWord s := fun h => by have := h.2.1; omega
    simp [h1, h2, this]
  · have h0 : s ≠ [] := fun e => by subst e; simp at h1
    rw [if_neg h1, if_neg (by simp [h2]), text_Word_L0_eq n s s n 0 rfl (by omega)]
    have : isWord s ↔ wordy s := ⟨fun h => h.2.2, fun h => ⟨h0, by omega, h⟩⟩
    simp [this]
theorem r01_Same_L0_eq (n : Nat) (a b : List (List UInt8)) (hab : a.length = b.length) : ∀ (t : List (List UInt8)) (m i : Nat), a.drop i = t → t.length < m → r01_Same_L0 n a b m i = some (decide (t = b.drop i))
  | [], m + 1, i, h, _ => by
    have := drop_nil' h
    rw [r01_Same_L0, if_neg this, List.drop_of_length_le (by omega)]
    simp
  | x :: t, m + 1, i, h, hm => by
    obtain ⟨h1, h2, h3⟩ := drop_cons h
    rcases hbd : b.drop i with _ | ⟨y, u⟩
    · exact absurd (drop_nil' hbd) (by omega)
    obtain ⟨k1, k2, k3⟩ := drop_cons hbd
    rw [r01_Same_L0, if_pos h1, h2, k2]
    simp only [bind_some']
    rw [r01_Same_L0_eq n a b hab t m (i + 1) h3 (by simpa using hm), k3]
    by_cases hx : x = y
    · simp [hx]
    · simp [hx]
theorem r01_Same_eq (n : Nat) (a b : List (List UInt8)) (hn : a.length < n ∨ b.length < n) : r01_Same n a b = some (decide (a = b)) := by
  unfold r01_Same
  by_cases h : a.length = b.length
  · rw [if_neg (by simp [h]), r01_Same_L0_eq n a b h a n 0 rfl (by omega)]
    rfl
  · have : a ≠ b := fun e => h (by rw [e])
    simp [h, this]
/-! affixes -/
def enc {α : Type} (d : α) : Option α → α × Bool
  | some v => (v, true)
  | none => (d, false)
theorem HasPrefix_eq (n : Nat) (s p : List UInt8) : stringslite_HasPrefix n s p = some (decide (p.length ≤ s.length ∧ s.take p.length = p)) := by
  unfold stringslite_HasPrefix
  by_cases h : p.length ≤ s.length
  · rw [if_pos h, chk_true h]; simp [h]
  · simp [h]
theorem toNat_sub' (a b : Nat) (h : b ≤ a) : ((a : Int) - (b : Int)).toNat = a - b := by omega
theorem HasSuffix_eq (n : Nat) (s p : List UInt8) : stringslite_HasSuffix n s p = some (decide (p.length ≤ s.length ∧ s.drop (s.length - p.length) = p)) := by
  unfold stringslite_HasSuffix
  by_cases h : p.length ≤ s.length
  · rw [if_pos h, chk_true (by omega), toNat_sub' _ _ h, chk_true (by omega)]; simp [h]
  · simp [h]
def fitsS (k : Int) (p w : List UInt8) : Prop := p.length < w.length ∧ if k = 2 then w.take p.length = p else w.drop (w.length - p.length) = p
instance (k : Int) (p w : List UInt8) : Decidable (fitsS k p w) := by unfold fitsS; exact inferInstance
def replS (k : Int) (w a b : List UInt8) : List UInt8 := if k = 2 then b ++ w.drop a.length else w.take (w.length - a.length) ++ b
def applyP (k : Int) (w : List UInt8) : List Change → Option (List UInt8)
  | [] => none
  | p :: t => if fitsS k p.Old w then (if isWord (replS k w p.Old p.New) then some (replS k w p.Old p.New) else none) else applyP k w t
def applyS (a : Affix) (w : List UInt8) : Option (List UInt8) := if a.Kind = 0 then some w else applyP a.Kind w a.Pairs
def lightA (a : Affix) : Prop := a.Pairs.length ≤ 40 ∧ ∀ p ∈ a.Pairs, p.Old.length ≤ 100 ∧ p.New.length ≤ 100
instance (a : Affix) : Decidable (lightA a) := inferInstanceAs (Decidable (_ ∧ _))
theorem affix_Apply_L0_eq (n : Nat) (a : Affix) (w : List UInt8) (hn : 1000 ≤ n) (hw : w.length ≤ 1000000) (ha : ∀ p ∈ a.Pairs, p.New.length ≤ 1000000) (sd : side) (hsd : affix_sideOf n a.Kind = some sd) : ∀ (t : List Change) (m i : Nat), a.Pairs.drop i = t → t.length < m → affix_Apply_L0 n a w sd m i = some (enc [] (applyP a.Kind w t))
  | [], m + 1, i, h, _ => by
    rw [affix_Apply_L0, if_neg (drop_nil' h)]
    rfl
  | p :: t, m + 1, i, h, hm => by
    obtain ⟨h1, h2, h3⟩ := drop_cons h
    have hp := ha p (List.mem_of_getElem? h2)
    rw [affix_Apply_L0, if_pos h1, h2]
    simp only [bind_some', jn_def]
    rw [affix_Apply_L0_eq n a w hn hw ha sd hsd t m (i + 1) h3 (by simpa using hm)]
    unfold affix_sideOf at hsd
    by_cases hk : a.Kind = 2
    · rw [if_pos hk] at hsd
      obtain rfl := Option.some.inj hsd
      simp only [strings_HasPrefix, strings_TrimPrefix, stringslite_TrimPrefix, affix_sideOf_1, HasPrefix_eq, bind_some', text_Word_eq n _ (show 40 ≤ n by omega)]
      by_cases hf : fitsS a.Kind p.Old w
      · have hf' := hf
        unfold fitsS at hf'
        rw [if_pos hk] at hf'
        have e : p.Old.length ≤ w.length ∧ w.take p.Old.length = p.Old := ⟨by omega, hf'.2⟩
        have hr : replS a.Kind w p.Old p.New = p.New ++ w.drop p.Old.length := by simp [replS, hk]
        simp only [e, decide_true, if_true, hf'.1, and_self, chk_tt, bind_some']
        rw [chk_true (by rw [List.length_drop]; omega)]
        simp only [bind_some', applyP, hf, if_true, hr]
        by_cases hw' : isWord (p.New ++ w.drop p.Old.length) <;> simp [hw', enc]
      · have hne : ¬ ((p.Old.length ≤ w.length ∧ w.take p.Old.length = p.Old) ∧ p.Old.length < w.length) := fun ⟨x, y⟩ => hf (by unfold fitsS; rw [if_pos hk]; exact ⟨y, x.2⟩)
        simp only [applyP, hf, if_false]
        by_cases q1 : p.Old.length ≤ w.length ∧ w.take p.Old.length = p.Old
        · have q2 : ¬ p.Old.length < w.length := fun h => hne ⟨q1, h⟩
          simp [q1, q2]
        · simp [q1]
    · rw [if_neg hk] at hsd
      obtain rfl := Option.some.inj hsd
      simp only [strings_HasSuffix, strings_TrimSuffix, stringslite_TrimSuffix, affix_sideOf_2, HasSuffix_eq, bind_some', text_Word_eq n _ (show 40 ≤ n by omega)]
      by_cases hf : fitsS a.Kind p.Old w
      · have hf' := hf
        unfold fitsS at hf'
        rw [if_neg hk] at hf'
        have e : p.Old.length ≤ w.length ∧ w.drop (w.length - p.Old.length) = p.Old := ⟨by omega, hf'.2⟩
        have hr : replS a.Kind w p.Old p.New = w.take (w.length - p.Old.length) ++ p.New := by simp [replS, hk]
        simp only [e, decide_true, if_true, hf'.1, and_self, toNat_sub' _ _ e.1]
        rw [chk_true (by omega), chk_true (by omega)]
        simp only [bind_some']
        rw [chk_true (by rw [List.length_take]; omega)]
        simp only [bind_some', applyP, hf, if_true, hr]
        by_cases hw' : isWord (w.take (w.length - p.Old.length) ++ p.New) <;> simp [hw', enc]
      · have hne : ¬ ((p.Old.length ≤ w.length ∧ w.drop (w.length - p.Old.length) = p.Old) ∧ p.Old.length < w.length) := fun ⟨x, y⟩ => hf (by unfold fitsS; rw [if_neg hk]; exact ⟨y, x.2⟩)
        simp only [applyP, hf, if_false]
        by_cases q1 : p.Old.length ≤ w.length ∧ w.drop (w.length - p.Old.length) = p.Old
        · have q2 : ¬ p.Old.length < w.length := fun h => hne ⟨q1, h⟩
          simp [q1, q2]
        · simp [q1]
theorem affix_Apply_eq (n : Nat) (a : Affix) (w : List UInt8) (hn : 1000 ≤ n) (hw : w.length ≤ 1000000) (ha : lightA a) : affix_Apply n a w = some (enc [] (applyS a w)) := by
  unfold affix_Apply applyS
  by_cases hk : a.Kind = 0
  · simp [hk, enc]
  · rw [if_neg hk, if_neg hk]
    have : ∃ sd, affix_sideOf n a.Kind = some sd := by unfold affix_sideOf; split <;> exact ⟨_, rfl⟩
    obtain ⟨sd, hsd⟩ := this
    have hl := ha.1
    rw [hsd, bind_some', affix_Apply_L0_eq n a w hn hw (fun p hp => by have := (ha.2 p hp).2; omega) sd hsd a.Pairs n 0 rfl (by omega)]
theorem r23_fits_eq (n : Nat) (k : Int) (p w : List UInt8) : r23_fits n k p w = some (decide (fitsS k p w)) := by
  unfold r23_fits fitsS
  by_cases h : w.length ≤ p.length
  · have : ¬ p.length < w.length := by omega
    simp [h, this]
  · have h' : p.length < w.length := by omega
    by_cases hk : k = 2
    · rw [if_neg h, if_pos hk, chk_true (by omega)]; simp [h', hk]
    · rw [if_neg h, if_neg hk, chk_true (by omega), toNat_sub' _ _ (by omega), chk_true (by omega)]; simp [h', hk]
theorem r23_replaced_eq (n : Nat) (k : Int) (w a b : List UInt8) (h : a.length ≤ w.length) (hw : w.length ≤ 1000000) (hb : b.length ≤ 1000000) : r23_replaced n k w a b = some (replS k w a b) := by
  unfold r23_replaced replS
  by_cases hk : k = 2
  · rw [if_pos hk, chk_true h, chk_true (by rw [List.length_drop]; omega)]; simp [hk]
  · rw [if_neg hk, chk_true (by omega), toNat_sub' _ _ h, chk_true (by omega), chk_true (by rw [List.length_take]; omega)]; simp [hk]
theorem r23_Apply_L0_eq (n : Nat) (a : Affix) (w : List UInt8) (hn : 1000 ≤ n) (hw : w.length ≤ 1000000) (ha : ∀ p ∈ a.Pairs, p.New.length ≤ 1000000) : ∀ (t : List Change) (m i : Nat), a.Pairs.drop i = t → t.length < m → r23_Apply_L0 n a w m i = some (enc [] (applyP a.Kind w t))
  | [], m + 1, i, h, _ => by
    rw [r23_Apply_L0, if_neg (drop_nil' h)]
    rfl
  | p :: t, m + 1, i, h, hm => by
    obtain ⟨h1, h2, h3⟩ := drop_cons h
    have hp := ha p (List.mem_of_getElem? h2)
    rw [r23_Apply_L0, if_pos h1, h2]
    simp only [bind_some', r23_fits_eq]
    rw [r23_Apply_L0_eq n a w hn hw ha t m (i + 1) h3 (by simpa using hm)]
    by_cases hf : fitsS a.Kind p.Old w
    · have hl : p.Old.length ≤ w.length := by have := hf.1; omega
      rw [r23_replaced_eq n _ _ _ _ hl hw hp]
      simp only [hf, decide_true, if_true, bind_some', r01_Word_eq n _ (show 40 ≤ n by omega), applyP]
      by_cases hw' : isWord (replS a.Kind w p.Old p.New) <;> simp [hw', enc]
    · simp [hf, applyP]
theorem r23_Apply_eq (n : Nat) (a : Affix) (w : List UInt8) (hn : 1000 ≤ n) (hw : w.length ≤ 1000000) (ha : lightA a) : r23_Apply n a w = some (enc [] (applyS a w)) := by
  unfold r23_Apply applyS
  by_cases hk : a.Kind = 0
  · simp [hk, enc]
  · have hl := ha.1
    rw [if_neg hk, if_neg hk, r23_Apply_L0_eq n a w hn hw (fun p hp => by have := (ha.2 p hp).2; omega) a.Pairs n 0 rfl (by omega)]
/-! several words -/
def atS (a : Affix) (l : List (List UInt8)) : Nat := if a.Kind = 2 then 0 else l.length - 1
def wordsA (a : Affix) (l : List (List UInt8)) : Option (List (List UInt8)) := if a.Kind = 0 then some l else match l[atS a l]? with
  | some x => (applyS a x).map fun v => l.set (atS a l) v
  | none => none
def kindOk (a : Affix) : Prop := a.Kind = 0 ∨ a.Kind = 1 ∨ a.Kind = 2
theorem at_lt (a : Affix) (l : List (List UInt8)) (h : l ≠ []) : atS a l < l.length := by
  have : 0 < l.length := List.length_pos_iff.2 h
  unfold atS; split <;> omega
theorem affix_Words_eq (n : Nat) (a : Affix) (l : List (List UInt8)) (hn : 1000 ≤ n) (h0 : l ≠ []) (hl : l.length ≤ 1000000) (hw : ∀ w ∈ l, w.length ≤ 1000000) (ha : lightA a) : affix_Words n a l = some (enc [] (wordsA a l)) := by
  unfold affix_Words wordsA
  by_cases hk : a.Kind = 0
  · simp [hk, enc]
  rw [if_neg hk, if_neg hk]
  simp only [jn_def]
  have hlt := at_lt a l h0
  have key : ∀ i : Nat, i = atS a l → ((ix l (i : Int)).bind fun x9 => (affix_Apply n a x9).bind fun r11 => if (!r11.2) = true then some ([], false) else (slices_Clone_string n l).bind fun r19 => (ix r19 (i : Int)).bind fun x25 => some (r19.set (i : Int).toNat r11.1, true)) = some (enc [] (match l[atS a l]? with
      | some x => (applyS a x).map fun v => l.set (atS a l) v
      | none => none)) := by
    rintro i rfl
    have hg : l[atS a l]? = some l[atS a l] := List.getElem?_eq_getElem hlt
    simp only [ix_nat, hg, bind_some', slices_Clone_string]
    rw [affix_Apply_eq n a _ hn (hw _ (List.getElem_mem hlt)) ha]
    cases hA : applyS a l[atS a l] with
    | none => simp [enc]
    | some v =>
      simp only [bind_some', enc, Bool.not_true, Bool.false_eq_true, if_false]
      rw [chk_true (by omega)]
      simp [hg, enc]
  by_cases h2 : a.Kind = 2
  · rw [if_pos h2]
    exact key 0 (by simp [atS, h2])
  · rw [if_neg h2]
    have hp : 0 < l.length := List.length_pos_iff.2 h0
    have e : ((l.length : Nat) : Int) - 1 = ((l.length - 1 : Nat) : Int) := by omega
    rw [e]
    exact key _ (by simp [atS, h2])
theorem r23_Words_eq (n : Nat) (a : Affix) (l : List (List UInt8)) (hn : 1000 ≤ n) (h0 : l ≠ []) (hl : l.length ≤ 1000000) (hw : ∀ w ∈ l, w.length ≤ 1000000) (ha : lightA a) (hko : kindOk a) : r23_Words n a l = some (enc [] (wordsA a l)) := by
  unfold r23_Words wordsA
  rw [chk_true (by omega)]
  by_cases hk : a.Kind = 0
  · simp [hk, enc]
  rw [if_neg hk, if_neg hk]
  simp only [jn_def]
  have hlt := at_lt a l h0
  have key : ∀ i : Nat, i = atS a l → ((ix l (i : Int)).bind fun x16 => (r23_Apply n a x16).bind fun r18 => if (!r18.2) = true then some ([], false) else some (l.set (i : Int).toNat r18.1, true)) = some (enc [] (match l[atS a l]? with
      | some x => (applyS a x).map fun v => l.set (atS a l) v
      | none => none)) := by
    rintro i rfl
    have hg : l[atS a l]? = some l[atS a l] := List.getElem?_eq_getElem hlt
    simp only [ix_nat, hg, bind_some']
    rw [r23_Apply_eq n a _ hn (hw _ (List.getElem_mem hlt)) ha]
    cases hA : applyS a l[atS a l] with
    | none => simp [enc]
    | some v => simp [enc]
  by_cases h1 : a.Kind = 1
  · rw [if_pos h1]
    have hp : 0 < l.length := List.length_pos_iff.2 h0
    have e : ((l.length : Nat) : Int) - 1 = ((l.length - 1 : Nat) : Int) := by omega
    rw [e]
    exact key _ (by simp [atS, h1])
  · rw [if_neg h1]
    have h2 : a.Kind = 2 := by rcases hko with h | h | h <;> first | exact absurd h hk | exact absurd h h1 | exact h
    exact key 0 (by simp [atS, h2])
/-! light arguments -/
theorem r23_Light_L0_eq (n : Nat) (a : Affix) : ∀ (t : List Change) (m i : Nat), a.Pairs.drop i = t → t.length < m → r23_Light_L0 n a m i = some (decide (∀ p ∈ t, p.Old.length ≤ 100 ∧ p.New.length ≤ 100))
  | [], m + 1, i, h, _ => by
    rw [r23_Light_L0, if_neg (drop_nil' h)]
    simp
  | x :: t, m + 1, i, h, hm => by
    obtain ⟨h1, h2, h3⟩ := drop_cons h
    rw [r23_Light_L0, if_pos h1]
    simp only [jn_def, h2, bind_some']
    rw [r23_Light_L0_eq n a t m (i + 1) h3 (by simpa using hm)]
    by_cases b1 : 100 < x.Old.length
    · have : ¬ ∀ p ∈ x :: t, p.Old.length ≤ 100 ∧ p.New.length ≤ 100 := fun h => by have := (h x (by simp)).1; omega
      simp only [b1, if_true, this, decide_false]
    by_cases b2 : 100 < x.New.length
    · have : ¬ ∀ p ∈ x :: t, p.Old.length ≤ 100 ∧ p.New.length ≤ 100 := fun h => by have := (h x (by simp)).2; omega
      simp only [b1, b2, if_false, if_true, this, decide_false, decide_true]
    · have : (∀ p ∈ x :: t, p.Old.length ≤ 100 ∧ p.New.length ≤ 100) ↔ ∀ p ∈ t, p.Old.length ≤ 100 ∧ p.New.length ≤ 100 := by
        simp only [List.mem_cons, forall_eq_or_imp]
        exact ⟨fun h => h.2, fun h => ⟨by omega, h⟩⟩
      simp only [b1, b2, if_false, decide_false, Bool.false_eq_true, this]
theorem r23_Light_eq (n : Nat) (a : Affix) (hn : 1000 ≤ n) : r23_Light n a = some (decide (lightA a)) := by
  unfold r23_Light lightA
  by_cases h : 40 < a.Pairs.length
  · have : ¬ a.Pairs.length ≤ 40 := by omega
    simp [h, this]
  · rw [if_neg h, r23_Light_L0_eq n a a.Pairs n 0 rfl (by omega)]
    have : a.Pairs.length ≤ 40 := by omega
    simp [this]
theorem r23_plain_L0_eq (n : Nat) (s : List UInt8) : ∀ (t : List UInt8) (m i : Nat), s.drop i = t → t.length < m → r23_plain_L0 n s m i = some (decide (wordy t))
  | [], m + 1, i, h, _ => by
    rw [r23_plain_L0, if_neg (drop_nil' h)]
    simp [wordy]
  | x :: t, m + 1, i, h, hm => by
    obtain ⟨h1, h2, h3⟩ := drop_cons h
    rw [r23_plain_L0, if_pos h1, h2]
    simp only [jn_def, bind_some']
    rw [r23_plain_L0_eq n s t m (i + 1) h3 (by simpa using hm)]
    have key := wordy_cons x t
    by_cases a1 : x.toNat < 33
    · simp [a1, key, isPt]; omega
    by_cases a2 : 126 < x.toNat
    · simp [a1, a2, key, isPt]; omega
    by_cases a3 : 65 ≤ x.toNat
    · by_cases a4 : x.toNat ≤ 90
      · simp [a1, a2, a3, a4, key, isPt, isUp]
      · by_cases a5 : x.toNat = 34
        · omega
        by_cases a6 : x.toNat = 92
        · simp [a1, a2, a3, a4, a5, a6, key, isPt, isUp]
        · have hp : isPt x := ⟨by omega, by omega, by unfold isUp; omega, a5, a6⟩
          simp [a1, a2, a3, a4, a5, a6, key, hp]
    · by_cases a5 : x.toNat = 34
      · simp [a1, a2, a3, a5, key, isPt]
      by_cases a6 : x.toNat = 92
      · omega
      · have hp : isPt x := ⟨by omega, by omega, by unfold isUp; omega, a5, a6⟩
        simp [a1, a2, a3, a5, a6, key, hp]
theorem r23_plain_eq (n : Nat) (s : List UInt8) (hn : s.length < n) : r23_plain n s = some (decide (wordy s)) := r23_plain_L0_eq n s s n 0 rfl hn
theorem r23_Check_L1_tot (n : Nat) (a : Affix) (i : Nat) (hi : i ≤ a.Pairs.length) (hl : a.Pairs.length ≤ 40) (c : Int) (x : Change) : ∀ (d m j : Nat), i - j = d → d < m → j ≤ i → ∃ r, r23_Check_L1 n a i (some c) x m j = some r ∧ (r = c ∨ r = 4)
  | 0, m + 1, j, h, _, hj => by
    rw [r23_Check_L1, if_neg (by omega)]
    exact ⟨c, rfl, .inl rfl⟩
  | d + 1, m + 1, j, h, hm, hj => by
    rw [r23_Check_L1, if_pos (by omega), List.getElem?_eq_getElem (by omega)]
    simp only [bind_some']
    split
    · exact ⟨4, rfl, .inr rfl⟩
    · rw [chk_true (by omega)]
      exact r23_Check_L1_tot n a i hi hl c x d m (j + 1) (by omega) (by omega) (by omega)
theorem r23_Check_L0_tot (n : Nat) (a : Affix) (hn : 1000 ≤ n) (hl : lightA a) : ∀ (t : List Change) (m i : Nat), a.Pairs.drop i = t → t.length < m → ∃ r, r23_Check_L0 n a m i = some r
  | [], m + 1, i, h, _ => by
    rw [r23_Check_L0, if_neg (drop_nil' h)]
    exact ⟨_, rfl⟩
  | x :: t, m + 1, i, h, hm => by
    obtain ⟨h1, h2, h3⟩ := drop_cons h
    obtain ⟨c, hc⟩ := r23_Check_L0_tot n a hn hl t m (i + 1) h3 (by simpa using hm)
    have hx := hl.2 x (List.mem_of_getElem? h2)
    rw [r23_Check_L0, if_pos h1]
    simp only [jn_def, h2, bind_some', hc, r23_plain_eq n x.Old (by omega), r23_plain_eq n x.New (by omega)]
    obtain ⟨r, hr, _⟩ := r23_Check_L1_tot n a i (by omega) hl.1 c x i n 0 (by omega) (by have := hl.1; omega) (by omega)
    simp only [hr]
    repeat' split
    all_goals exact ⟨_, rfl⟩
theorem r23_Check_tot (n : Nat) (a : Affix) (hn : 1000 ≤ n) (hl : lightA a) : ∃ r, r23_Check n a = some r ∧ (r = 0 → kindOk a) := by
  unfold r23_Check
  simp only [jn_def]
  obtain ⟨c, hc⟩ := r23_Check_L0_tot n a hn hl a.Pairs n 0 rfl (by have := hl.1; omega)
  simp only [hc]
  by_cases k0 : a.Kind = 0
  · rw [if_neg (by simpa using k0), if_neg (by simp)]
    repeat' split
    all_goals exact ⟨_, rfl, fun _ => .inl k0⟩
  rw [if_pos k0]
  by_cases k1 : a.Kind = 1
  · rw [if_neg (by simpa using k1), if_neg (by simp)]
    repeat' split
    all_goals exact ⟨_, rfl, fun _ => .inr (.inl k1)⟩
  rw [if_pos k1]
  by_cases k2 : a.Kind = 2
  · rw [if_neg (by simp [k2])]
    repeat' split
    all_goals exact ⟨_, rfl, fun _ => .inr (.inr k2)⟩
  · rw [if_pos (by simp [k2])]
    exact ⟨14, rfl, fun h => by simp at h⟩
end Go.Proofs.Ytolgbjbfhoffpaa
