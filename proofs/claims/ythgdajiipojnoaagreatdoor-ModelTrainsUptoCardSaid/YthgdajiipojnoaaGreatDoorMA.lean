/- Chapter 37: plain laws of models and derivations -/
import Derived.Test.YthgdajiipojnoaaGreatDoorB0
import Derived.Test.YthgdajiipojnoaaGreatDoorA0
import Derived.Test.YthgdajiipojnoaaGreatDoorGl15
import Derived.Test.YthgdajiipojnoaaGreatDoorGl16
import Derived.Test.YthgdajiipojnoaaGreatDoorO1
namespace Go.Proofs.YthgdajiipojnoaaGreatDoor
open Go.Gl Go.Sort
set_option linter.unusedVariables false
set_option linter.unusedSimpArgs false
/-! names -/
def isLo (x : UInt8) : Prop := 97 ≤ x.toNat ∧ x.toNat ≤ 122
instance (x : UInt8) : Decidable (isLo x) := inferInstanceAs (Decidable (_ ∧ _))
def isDg (x : UInt8) : Prop := 48 ≤ x.toNat ∧ x.toNat ≤ 57
instance (x : UInt8) : Decidable (isDg x) := inferInstanceAs (Decidable (_ ∧ _))
def nmc (x : UInt8) : Prop := isLo x ∨ isDg x ∨ x.toNat = 45
instance (x : UInt8) : Decidable (nmc x) := inferInstanceAs (Decidable (_ ∨ _))
def namy (s : List UInt8) : Prop := ∀ x ∈ s, nmc x
instance (s : List UInt8) : Decidable (namy s) := inferInstanceAs (Decidable (∀ x ∈ s, nmc x))
def isName : List UInt8 → Prop
  | [] => False
  | x :: t => t.length ≤ 31 ∧ isLo x ∧ namy t
instance (s : List UInt8) : Decidable (isName s) := match s with
  | [] => inferInstanceAs (Decidable False)
  | x :: t => inferInstanceAs (Decidable (_ ∧ _))
theorem namy_cons (x : UInt8) (t : List UInt8) : namy (x :: t) ↔ nmc x ∧ namy t := by simp [namy]
theorem text_lower_eq (n : Nat) (c : Int) : text_lower n c = some (decide (97 ≤ c ∧ c ≤ 122)) := by
  unfold text_lower
  by_cases h1 : (97 : Int) ≤ c <;> by_cases h2 : c ≤ 122 <;> simp [h1, h2]
theorem text_digit_eq (n : Nat) (c : Int) : text_digit n c = some (decide (48 ≤ c ∧ c ≤ 57)) := by
  unfold text_digit
  by_cases h1 : (48 : Int) ≤ c <;> by_cases h2 : c ≤ 57 <;> simp [h1, h2]
theorem text_follows_L0_eq (n : Nat) (s : List UInt8) (f : Int → Option Bool) (hf : ∀ c, f c = some (decide (97 ≤ c ∧ c ≤ 122))) : ∀ (t : List UInt8) (m i : Nat), s.drop i = t → t.length < m → 0 < i → text_follows_L0 n s f m i = some (decide (namy t))
  | [], m + 1, i, h, _, _ => by
    rw [text_follows_L0, if_neg (drop_nil' h)]
    simp [namy]
  | x :: t, m + 1, i, h, hm, hi => by
    obtain ⟨h1, h2, h3⟩ := drop_cons h
    rw [text_follows_L0, if_pos h1]
    simp only [jn_def, hf, text_digit_eq, bind_some']
    have key := namy_cons x t
    have hi0 : ¬ i = 0 := by omega
    by_cases hx : x.toNat < 128
    · obtain ⟨e1, e2⟩ := rune_ascii h2 hx
      rw [e1, e2, text_follows_L0_eq n s f hf t m (i + 1) h3 (by simpa using hm) (by omega)]
      by_cases a1 : isLo x
      · have : (97 : Int) ≤ (x.toNat : Int) ∧ (x.toNat : Int) ≤ 122 := by unfold isLo at a1; omega
        simp [this, key, nmc, a1]
      · have q1 : ¬ ((97 : Int) ≤ (x.toNat : Int) ∧ (x.toNat : Int) ≤ 122) := by unfold isLo at a1; omega
        by_cases a2 : isDg x
        · have q2 : (48 : Int) ≤ (x.toNat : Int) ∧ (x.toNat : Int) ≤ 57 := by unfold isDg at a2; omega
          simp [q1, q2, hi0, key, nmc, a2]
        · have q2 : ¬ ((48 : Int) ≤ (x.toNat : Int) ∧ (x.toNat : Int) ≤ 57) := by unfold isDg at a2; omega
          by_cases a3 : x.toNat = 45
          · have q3 : ((x.toNat : Nat) : Int) = 45 := by omega
            simp [q1, q2, q3, hi0, key, nmc, a3]
          · have q3 : ((x.toNat : Nat) : Int) ≠ 45 := by omega
            simp [q1, q2, q3, hi0, key, nmc, a1, a2, a3]
    · obtain ⟨e1, e2⟩ := rune_other h2 (by omega)
      have q1 : ¬ ((97 : Int) ≤ runeAt s i ∧ runeAt s i ≤ 122) := by omega
      have q2 : ¬ ((48 : Int) ≤ runeAt s i ∧ runeAt s i ≤ 57) := by omega
      have q3 : runeAt s i ≠ 45 := by omega
      have : ¬ nmc x := by unfold nmc isLo isDg; omega
      simp [q1, q2, q3, hi0, key, this]
theorem text_Name_eq (n : Nat) (s : List UInt8) (hn : 40 ≤ n) : text_Name n s = some (decide (isName s)) := by
  unfold text_Name text_follows
  simp only [jn_def]
  cases s with
  | nil => simp; decide
  | cons x t =>
    rw [if_neg (by simp)]
    by_cases h2 : 32 < (x :: t).length
    · have : ¬ isName (x :: t) := fun h => by have := h.1; simp at h2; omega
      simp only [h2, decide_true, if_true, bind_some', this, decide_false]
    · rw [if_neg (by simpa using h2)]
      simp only [List.length_cons] at h2
      obtain ⟨m, rfl⟩ : ∃ m, n = m + 1 := ⟨n - 1, by omega⟩
      have hf : ∀ c, (fun p => text_lower (m + 1) p) c = some (decide (97 ≤ c ∧ c ≤ 122)) := fun c => text_lower_eq (m + 1) c
      generalize (fun p => text_lower (m + 1) p) = f at *
      rw [text_follows_L0, if_pos (by simp)]
      simp only [jn_def, hf, bind_some']
      have h0 : (x :: t)[0]? = some x := rfl
      by_cases hx : x.toNat < 128
      · obtain ⟨e1, e2⟩ := rune_ascii h0 hx
        rw [e1, e2, text_follows_L0_eq (m + 1) (x :: t) f hf t m (0 + 1) rfl (by omega) (by omega)]
        by_cases a1 : isLo x
        · have : (97 : Int) ≤ (x.toNat : Int) ∧ (x.toNat : Int) ≤ 122 := by unfold isLo at a1; omega
          have e : isName (x :: t) ↔ namy t := ⟨fun h => h.2.2, fun h => ⟨by omega, a1, h⟩⟩
          simp [this, e]
        · have q1 : ¬ ((97 : Int) ≤ (x.toNat : Int) ∧ (x.toNat : Int) ≤ 122) := by unfold isLo at a1; omega
          have e : ¬ isName (x :: t) := fun h => a1 h.2.1
          simp [q1, e]
      · obtain ⟨e1, e2⟩ := rune_other h0 (by omega)
        have q1 : ¬ ((97 : Int) ≤ runeAt (x :: t) 0 ∧ runeAt (x :: t) 0 ≤ 122) := by omega
        have e : ¬ isName (x :: t) := fun h => by have := h.2.1; unfold isLo at this; omega
        simp [q1, e]
theorem r01_digit_eq (n : Nat) (x : UInt8) : r01_digit n x = some (decide (isDg x)) := by
  unfold r01_digit isDg
  by_cases h1 : 48 ≤ x.toNat <;> by_cases h2 : x.toNat ≤ 57 <;> simp [h1, h2]
theorem r01_lower_eq (n : Nat) (x : UInt8) : r01_lower n x = some (decide (isLo x)) := by
  unfold r01_lower isLo
  by_cases h1 : 97 ≤ x.toNat <;> by_cases h2 : x.toNat ≤ 122 <;> simp [h1, h2]
theorem r01_part_eq (n : Nat) (x : UInt8) : r01_part n x false = some (decide (nmc x)) := by
  unfold r01_part nmc
  rw [r01_digit_eq, r01_lower_eq]
  by_cases h1 : isDg x <;> by_cases h2 : x.toNat = 45 <;> by_cases h3 : isLo x <;> simp [h1, h2, h3]
theorem r01_named_L0_eq (n : Nat) (s : List UInt8) : ∀ (t : List UInt8) (m i : Nat), s.drop i = t → t.length < m → r01_named_L0 n s false m i = some (decide (namy t))
  | [], m + 1, i, h, _ => by
    rw [r01_named_L0, if_neg (drop_nil' h)]
    simp [namy]
  | x :: t, m + 1, i, h, hm => by
    obtain ⟨h1, h2, h3⟩ := drop_cons h
    rw [r01_named_L0, if_pos h1, h2]
    simp only [bind_some', r01_part_eq]
    rw [r01_named_L0_eq n s t m (i + 1) h3 (by simpa using hm)]
    have key := namy_cons x t
    by_cases a : nmc x <;> simp [a, key]
theorem r01_Name_eq (n : Nat) (s : List UInt8) (hn : 40 ≤ n) : r01_Name n s = some (decide (isName s)) := by
  unfold r01_Name r01_named
  simp only [jn_def]
  cases s with
  | nil => simp; decide
  | cons x t =>
    rw [if_neg (by simp)]
    by_cases h2 : 32 < (x :: t).length
    · have : ¬ isName (x :: t) := fun h => by have := h.1; simp at h2; omega
      rw [if_pos h2]
      simp [this]
    · rw [if_neg h2]
      simp only [List.length_cons] at h2
      simp only [List.getElem?_cons_zero, bind_some', r01_digit_eq]
      rw [r01_named_L0_eq n (x :: t) (x :: t) n 0 rfl (by simp; omega)]
      have key := namy_cons x t
      by_cases a1 : isDg x
      · have : ¬ isName (x :: t) := fun h => by have := h.2.1; unfold isLo at this; unfold isDg at a1; omega
        simp [a1, this]
      by_cases a2 : x.toNat = 45
      · have : ¬ isName (x :: t) := fun h => by have := h.2.1; unfold isLo at this; omega
        simp [a1, a2, this]
      · have e : isName (x :: t) ↔ namy (x :: t) := by
          rw [key]
          constructor
          · rintro ⟨_, h1, h2⟩; exact ⟨.inl h1, h2⟩
          · rintro ⟨h1 | h1 | h1, h2⟩
            · exact ⟨by omega, h1, h2⟩
            · exact absurd h1 a1
            · exact absurd h1 a2
        simp [a1, a2, e]
/-! features: strings cut and split -/
def spl (c : UInt8) : List UInt8 → List (List UInt8)
  | [] => [[]]
  | x :: t => if x = c then [] :: spl c t else match spl c t with
    | [] => [[x]]
    | h :: r => (x :: h) :: r
theorem spl_len (c : UInt8) : ∀ t, (spl c t).length = t.count c + 1
  | [] => by simp [spl]
  | x :: t => by
    have ih := spl_len c t
    unfold spl
    by_cases h : x = c
    · simp [h, ih]
    · rw [if_neg h, List.count_cons_of_ne h]
      cases e : spl c t with
      | nil => rw [e] at ih; simp at ih
      | cons a r => rw [e] at ih; simpa using ih
theorem spl_none {c : UInt8} : ∀ {t : List UInt8}, c ∉ t → spl c t = [t]
  | [], _ => rfl
  | x :: t, h => by
    simp only [List.mem_cons, not_or] at h
    unfold spl
    rw [if_neg (fun e => h.1 e.symm), spl_none h.2]
theorem spl_pre {c : UInt8} : ∀ {p q : List UInt8}, c ∉ p → spl c (p ++ c :: q) = p :: spl c q
  | [], q, _ => by simp [spl]
  | x :: p, q, h => by
    simp only [List.mem_cons, not_or] at h
    show (if x = c then [] :: spl c (p ++ c :: q) else match spl c (p ++ c :: q) with
      | [] => [[x]]
      | h :: r => (x :: h) :: r) = (x :: p) :: spl c q
    rw [if_neg (fun e => h.1 e.symm), spl_pre h.2]
theorem index_cases (c : UInt8) : ∀ t : List UInt8, (c ∉ t ∧ Lib.indexByte t c = -1) ∨ ∃ p q, t = p ++ c :: q ∧ c ∉ p ∧ Lib.indexByte t c = (p.length : Int)
  | [] => .inl ⟨by simp, rfl⟩
  | x :: t => by
    unfold Lib.indexByte
    by_cases h : x = c
    · exact .inr ⟨[], t, by simp [h], by simp, by simp [h]⟩
    · rcases index_cases c t with ⟨h1, h2⟩ | ⟨p, q, h1, h2, h3⟩
      · refine .inl ⟨by simp only [List.mem_cons, not_or]; exact ⟨fun e => h e.symm, h1⟩, ?_⟩
        rw [h2]
        simp [h]
      · refine .inr ⟨x :: p, q, by rw [h1]; rfl, by simp only [List.mem_cons, not_or]; exact ⟨fun e => h e.symm, h2⟩, ?_⟩
        rw [h3]
        have : ¬ ((p.length : Int) = -1) := by omega
        simp [h, this]
theorem split_L0 (n : Nat) (c : UInt8) (s : List UInt8) (K : Nat) (z : Int) (hz : (if (((s).length + 1 : Nat) : Int) < z then (((s).length + 1 : Nat) : Int) else z) = (K : Int)) (k : List UInt8 → List (List UInt8) → Nat → Option (List (List UInt8))) : ∀ (m : Nat) (t : List UInt8) (arr : List (List UInt8)) (i : Nat), arr.length = K → t.count c + i + 1 = K → t.count c < m → t.length ≤ 1048576 → K ≤ 1048577 → ∃ t' arr', strings_genSplit_L0 n s [c] 0 z k m t arr i = k t' arr' (K - 1) ∧ arr'.length = K ∧ arr'.take (K - 1) ++ [t'] = arr.take i ++ spl c t
  | 0, _, _, _, _, _, h, _, _ => by omega
  | m + 1, t, arr, i, ha, hc, hm, hl, hK => by
    rcases index_cases c t with ⟨h1, h2⟩ | ⟨p, q, h1, h2, h3⟩
    · have h0 : t.count c = 0 := List.count_eq_zero.2 h1
      rw [strings_genSplit_L0, hz, if_neg (by omega)]
      refine ⟨t, arr, by rw [show K - 1 = i by omega], ha, ?_⟩
      rw [spl_none h1, show K - 1 = i by omega]
    · have hcq : t.count c = q.count c + 1 := by
        rw [h1, List.count_append, List.count_eq_zero.2 h2, List.count_cons_self]
        omega
      have hlen : t.length = p.length + q.length + 1 := by rw [h1, List.length_append, List.length_cons]; omega
      have hai : i < arr.length := by omega
      obtain ⟨y, hy⟩ : ∃ y, arr[i]? = some y := ⟨_, List.getElem?_eq_getElem hai⟩
      have e0 : strings_Index n t [c] = some (p.length : Int) := by show some (Lib.indexByte t c) = _; rw [h3]
      have e1 : ((p.length : Int) + 0).toNat = p.length := by omega
      have e2 : ((p.length : Int) + (([c].length : Nat) : Int)).toNat = p.length + 1 := by rw [List.length_singleton]; omega
      have e3 : t.drop (p.length + 1) = q := by rw [h1, List.drop_append, List.drop_of_length_le (by omega), show p.length + 1 - p.length = 1 by omega]; rfl
      have e4 : t.take p.length = p := by rw [h1, List.take_append_of_le_length (Nat.le_refl _), List.take_length]
      have step : strings_genSplit_L0 n s [c] 0 z k (m + 1) t arr i = strings_genSplit_L0 n s [c] 0 z k m q (arr.set i p) (i + 1) := by
        rw [strings_genSplit_L0, hz, if_pos (by omega), e0, bind_some', if_neg (by omega), chk_pos (by omega), chk_pos (by omega), e1, chk_pos (by omega), hy, bind_some', e2, chk_pos (by rw [List.length_singleton]; omega), chk_pos (by rw [List.length_singleton]; omega), chk_pos (by omega), chk_pos (by omega), e3, e4]
      rw [step]
      obtain ⟨t', arr', r1, r2, r3⟩ := split_L0 n c s K z hz k m q (arr.set i p) (i + 1) (by rw [List.length_set]; exact ha) (by omega) (by omega) (by omega) hK
      refine ⟨t', arr', r1, r2, ?_⟩
      rw [r3, h1, spl_pre h2, List.take_add_one, List.getElem?_set_self hai, List.take_set_of_le (Nat.le_refl _)]
      simp
theorem count_le (c : UInt8) (t : List UInt8) : t.count c ≤ t.length := List.count_le_length
theorem Split_eq (n : Nat) (c : UInt8) (s : List UInt8) (hs : s.length ≤ 1048576) (hn : 2000000 ≤ n) : strings_Split n s [c] = some (spl c s) := by
  have hc := count_le c s
  unfold strings_Split strings_genSplit
  have e0 : strings_Count n s [c] = some ((s.count c : Nat) : Int) := rfl
  rw [if_neg (by omega), if_neg (by simp), jn_def, if_pos (by omega), e0, bind_some', chk_pos (by omega)]
  have hz : (if (((s).length + 1 : Nat) : Int) < ((s.count c : Nat) : Int) + 1 then (((s).length + 1 : Nat) : Int) else ((s.count c : Nat) : Int) + 1) = ((s.count c + 1 : Nat) : Int) := by
    rw [if_neg (by omega)]; omega
  dsimp only
  rw [hz, chk_pos (by omega), chk_pos (by omega), Int.toNat_natCast, chk_pos (by omega), chk_pos (by omega), jn_def]
  obtain ⟨t', arr', r1, r2, r3⟩ := split_L0 n c s (s.count c + 1) (((s.count c : Nat) : Int) + 1) hz (fun (t_24 : (List UInt8)) (t_25 : (List (List UInt8))) (t_29 : Nat) =>
     (t_25[t_29]?).bind fun x54 =>
     chk (t_29 + 1 ≤ 9223372036854775807) (
     chk (t_29 + 1 ≤ ((t_25).set t_29 t_24).length) (
     some (((t_25).set t_29 t_24).take (t_29 + 1))))) n s (List.replicate (s.count c + 1) []) 0 (by simp) (by omega) (by omega) hs (by omega)
  rw [r1]
  rw [Nat.add_sub_cancel] at r3 ⊢
  have hlt : s.count c < arr'.length := by omega
  obtain ⟨y, hy⟩ : ∃ y, arr'[s.count c]? = some y := ⟨_, List.getElem?_eq_getElem hlt⟩
  simp only [hy, bind_some']
  rw [chk_pos (by omega), chk_pos (by rw [List.length_set]; omega), bind_some', List.take_add_one, List.getElem?_set_self hlt, List.take_set_of_le (Nat.le_refl _)]
  simpa using r3
theorem rsplit_L0 (n : Nat) (s : List UInt8) (hs : s.length ≤ 1048576) (k : List (List UInt8) → Nat → Option (List (List UInt8))) : ∀ (t : List UInt8) (m : Nat) (out : List (List UInt8)) (fr i : Nat), s.drop i = t → t.length < m → fr ≤ i → i ≤ s.length → out.length ≤ i → (32 : UInt8) ∉ (s.drop fr).take (i - fr) → ∃ out' fr', r37_Split_L0 n s k m out fr i = k out' fr' ∧ fr' ≤ s.length ∧ out'.length ≤ s.length ∧ out' ++ [s.drop fr'] = out ++ spl 32 (s.drop fr)
  | [], m + 1, out, fr, i, h, _, hf, hi, ho, hno => by
    have h1 := drop_nil' h
    rw [r37_Split_L0, if_neg h1]
    refine ⟨out, fr, rfl, by omega, by omega, ?_⟩
    rw [List.take_of_length_le (by rw [List.length_drop]; omega)] at hno
    rw [spl_none hno]
  | x :: t, m + 1, out, fr, i, h, hm, hf, hi, ho, hno => by
    obtain ⟨h1, h2, h3⟩ := drop_cons h
    rw [r37_Split_L0, if_pos h1, h2, bind_some']
    have hsp : (s.drop fr).take (i - fr) ++ x :: t = s.drop fr := by
      have h4 : (s.drop fr).drop (i - fr) = x :: t := by rw [List.drop_drop, show fr + (i - fr) = i by omega]; exact h
      rw [← h4, List.take_append_drop]
    by_cases e : x.toNat = 32
    · have ex : x = 32 := UInt8.toNat_inj.1 e
      rw [if_pos e, chk_pos ⟨hf, by omega⟩, chk_pos (by rw [List.length_singleton]; omega)]
      obtain ⟨out', fr', r1, r2, r3, r4⟩ := rsplit_L0 n s hs k t m (out ++ [(s.drop fr).take (i - fr)]) (i + 1) (i + 1) h3 (by simpa using hm) (by omega) (by omega) (by rw [List.length_append, List.length_singleton]; omega) (by simp)
      refine ⟨out', fr', r1, r2, r3, ?_⟩
      have e5 : spl 32 (s.drop fr) = (s.drop fr).take (i - fr) :: spl 32 t := by
        conv => lhs; rw [← hsp]
        rw [ex]
        exact spl_pre hno
      rw [r4, e5, h3]
      simp
    · have ex : x ≠ 32 := fun q => e (by rw [q]; rfl)
      rw [if_neg e]
      obtain ⟨out', fr', r1, r2, r3, r4⟩ := rsplit_L0 n s hs k t m out fr (i + 1) h3 (by simpa using hm) (by omega) (by omega) (by omega) (by
        rw [show i + 1 - fr = (i - fr) + 1 by omega, List.take_add_one, List.getElem?_drop, show fr + (i - fr) = i by omega, h2]
        simp only [Option.toList_some, List.mem_append, List.mem_singleton, not_or]
        exact ⟨hno, fun q => ex q.symm⟩)
      exact ⟨out', fr', r1, r2, r3, r4⟩
theorem rSplit_eq (n : Nat) (s : List UInt8) (hs : s.length ≤ 1048576) (hn : 2000000 ≤ n) : r37_Split n s = some (spl 32 s) := by
  unfold r37_Split
  rw [jn_def]
  obtain ⟨out', fr', r1, r2, r3, r4⟩ := rsplit_L0 n s hs (fun (out_4 : (List (List UInt8))) (from_8 : Nat) =>
  chk (from_8 ≤ (s).length) (
  chk ((out_4).length + ([(s).drop from_8]).length ≤ 137438953472) (
  some (out_4 ++ [(s).drop from_8])))) s n [] 0 0 rfl (by omega) (Nat.le_refl _) (Nat.zero_le _) (by simp) (by simp)
  rw [r1, chk_pos r2, chk_pos (by rw [List.length_singleton]; omega), r4]
  simp
theorem isName_nmc {s : List UInt8} (h : isName s) : ∀ x ∈ s, nmc x := by
  cases s with
  | nil => exact h.elim
  | cons a t =>
    obtain ⟨_, h1, h2⟩ := h
    intro x hx
    rcases List.mem_cons.1 hx with rfl | hx
    · exact .inl h1
    · exact h2 x hx
theorem isName_no {s : List UInt8} (h : isName s) {c : UInt8} (hc : ¬ nmc c) : c ∉ s := fun q => hc (isName_nmc h c q)
theorem no62 : ¬ nmc 62 := by decide
theorem no32 : ¬ nmc 32 := by decide
/-- the form of a feature -/
def isFeat (s : List UInt8) : Prop := isName s ∨ ∃ p q, s = p ++ 62 :: q ∧ isName p ∧ (spl 32 q).length ≤ 2 ∧ ∀ x ∈ spl 32 q, isName x
theorem feat_cut {p q : List UInt8} (hp : (62 : UInt8) ∉ p) : isFeat (p ++ 62 :: q) ↔ isName p ∧ (spl 32 q).length ≤ 2 ∧ ∀ x ∈ spl 32 q, isName x := by
  constructor
  · rintro (h | ⟨p', q', h1, h2, h3, h4⟩)
    · exact absurd (by simp) (isName_no h no62)
    · have hp' := isName_no h2 no62
      have key : ∀ (a b c d : List UInt8), (62 : UInt8) ∉ a → (62 : UInt8) ∉ c → a ++ 62 :: b = c ++ 62 :: d → a = c ∧ b = d := by
        intro a
        induction a with
        | nil =>
          intro b c d _ hc h
          cases c with
          | nil => simpa using h
          | cons y c => simp at h; simp [← h.1] at hc
        | cons x a ih =>
          intro b c d ha hc h
          cases c with
          | nil => simp at h; simp [h.1] at ha
          | cons y c =>
            simp at h ha hc
            obtain ⟨e1, e2⟩ := ih b c d ha.2 hc.2 h.2
            exact ⟨by rw [h.1, e1], e2⟩
      obtain ⟨rfl, rfl⟩ := key p q p' q' hp hp' h1
      exact ⟨h2, h3, h4⟩
  · rintro ⟨h1, h2, h3⟩
    exact .inr ⟨p, q, rfl, h1, h2, h3⟩
theorem feat_plain {s : List UInt8} (h : (62 : UInt8) ∉ s) : isFeat s ↔ isName s := by
  constructor
  · rintro (h1 | ⟨p, q, rfl, _⟩)
    · exact h1
    · exact absurd (by simp) h
  · exact .inl
theorem IndexS_L0 (n : Nat) (l : List (List UInt8)) (f : List UInt8 → Option Bool) (p : List UInt8 → Bool) (hf : ∀ x ∈ l, f x = some (p x)) : ∀ (t : List (List UInt8)) (m i : Nat), l.drop i = t → t.length < m → ∃ z, slices_IndexFunc_string_L0 n l f m i = some z ∧ (decide (0 ≤ z) = t.any p)
  | [], m + 1, i, h, _ => ⟨-1, by rw [slices_IndexFunc_string_L0, if_neg (drop_nil' h)], by simp⟩
  | x :: t, m + 1, i, h, hm => by
    obtain ⟨h1, h2, h3⟩ := drop_cons h
    rw [slices_IndexFunc_string_L0, if_pos h1, h2, bind_some', hf x (List.mem_of_getElem? h2), bind_some']
    by_cases e : p x = true
    · rw [if_pos e]
      exact ⟨_, rfl, by simp [e]⟩
    · rw [if_neg e]
      obtain ⟨z, r1, r2⟩ := IndexS_L0 n l f p hf t m (i + 1) h3 (by simpa using hm)
      exact ⟨z, r1, by rw [r2]; simp [e]⟩
theorem Cut_no (n : Nat) {s : List UInt8} (h : (62 : UInt8) ∉ s) : strings_Cut n s [62] = some (s, [], false) := by
  unfold strings_Cut stringslite_Cut
  have e0 : stringslite_Index n s [62] = some (Lib.indexByte s 62) := rfl
  rcases index_cases 62 s with ⟨h1, h2⟩ | ⟨p, q, h1, h2, h3⟩
  · rw [e0, bind_some', h2, if_neg (by omega)]
    rfl
  · exact absurd (by rw [h1]; simp) h
theorem Cut_yes (n : Nat) {p q : List UInt8} (h : (62 : UInt8) ∉ p) (hl : (p ++ 62 :: q).length ≤ 1048576) : strings_Cut n (p ++ 62 :: q) [62] = some (p, q, true) := by
  unfold strings_Cut stringslite_Cut
  have e0 : stringslite_Index n (p ++ 62 :: q) [62] = some (p.length : Int) := by
    show some (Lib.indexByte (p ++ 62 :: q) 62) = _
    rcases index_cases 62 (p ++ 62 :: q) with ⟨h1, h2⟩ | ⟨p', q', h1, h2, h3⟩
    · exact absurd (by simp) h1
    · rw [h3]
      have key : ∀ (a b c d : List UInt8), (62 : UInt8) ∉ a → (62 : UInt8) ∉ c → a ++ 62 :: b = c ++ 62 :: d → a.length = c.length := by
        intro a
        induction a with
        | nil =>
          intro b c d _ hc h
          cases c with
          | nil => rfl
          | cons y c => simp at h; simp [← h.1] at hc
        | cons x a ih =>
          intro b c d ha hc h
          cases c with
          | nil => simp at h; simp [h.1] at ha
          | cons y c =>
            simp at h ha hc
            simp [ih b c d ha.2 hc.2 h.2]
      rw [key p q p' q' h h2 h1]
  have hlen : (p ++ 62 :: q).length = p.length + q.length + 1 := by rw [List.length_append, List.length_cons]; omega
  have e2 : ((p.length : Int) + ((([62] : List UInt8).length : Nat) : Int)).toNat = p.length + 1 := by rw [List.length_singleton]; omega
  have e3 : (p ++ 62 :: q).drop (p.length + 1) = q := by rw [List.drop_append, List.drop_of_length_le (by omega), show p.length + 1 - p.length = 1 by omega]; rfl
  have e4 : (p ++ 62 :: q).take p.length = p := by rw [List.take_append_of_le_length (Nat.le_refl _), List.take_length]
  rw [e0, bind_some', if_pos (by omega), chk_pos (by omega), Int.toNat_natCast, chk_pos (by omega), chk_pos (by rw [List.length_singleton]; omega), e2, chk_pos (by rw [List.length_singleton]; omega), chk_pos (by omega), e3, e4]
  rfl
theorem ContainsS_eq (n : Nat) (l : List (List UInt8)) (f : List UInt8 → Option Bool) (p : List UInt8 → Bool) (hf : ∀ x ∈ l, f x = some (p x)) (hn : l.length < n) : slices_ContainsFunc_string n l f = some (l.any p) := by
  obtain ⟨z, z1, z2⟩ := IndexS_L0 n l f p hf l n 0 rfl hn
  unfold slices_ContainsFunc_string slices_IndexFunc_string
  rw [z1, bind_some', z2]
theorem feature_1 (n : Nat) (x : List UInt8) (hn : 40 ≤ n) : model_feature_1 n x = some (!decide (isName x)) := by
  unfold model_feature_1
  rw [text_Name_eq n x hn]
  rfl
theorem feature_p (n : Nat) (s : List UInt8) (hs : s.length ≤ 1048576) (hn : 2000000 ≤ n) : ∃ b, model_feature n s = some b ∧ (b = true ↔ isFeat s) := by
  by_cases h : (62 : UInt8) ∈ s
  · obtain ⟨p, q, rfl, hp⟩ : ∃ p q, s = p ++ 62 :: q ∧ (62 : UInt8) ∉ p := by
      rcases index_cases 62 s with ⟨h1, h2⟩ | ⟨p, q, h1, h2, h3⟩
      · exact absurd h h1
      · exact ⟨p, q, h1, h2⟩
    have hl := spl_len 32 q
    have hc := count_le 32 q
    have hq : q.length ≤ 1048576 := by rw [List.length_append, List.length_cons] at hs; omega
    have e1 := Split_eq n 32 q hq hn
    have e2 := text_Name_eq n p (by omega)
    have e3 := ContainsS_eq n (spl 32 q) (fun p => model_feature_1 n p) (fun x => !decide (isName x)) (fun x _ => feature_1 n x (by omega)) (by omega)
    rw [feat_cut hp]
    unfold model_feature
    rw [Cut_yes n hp hs, bind_some']
    dsimp only
    rw [e1, bind_some', e2, bind_some', e3, bind_some', if_neg (by simp)]
    by_cases a1 : isName p
    · rw [if_pos (by simpa using a1)]
      by_cases a2 : (spl 32 q).length ≤ 2
      · rw [if_pos a2]
        refine ⟨_, rfl, ?_⟩
        simp [a1, a2]
      · rw [if_neg a2]
        exact ⟨false, rfl, by simp [a2]⟩
    · rw [if_neg (by simpa using a1)]
      exact ⟨false, rfl, by simp [a1]⟩
  · unfold model_feature
    rw [Cut_no n h, bind_some']
    dsimp only
    rw [if_pos (by rfl), text_Name_eq n s (by omega), bind_some']
    exact ⟨_, rfl, by rw [decide_eq_true_eq, feat_plain h]⟩
theorem rfeat_L1 (n : Nat) (l : List (List UInt8)) (hn : 2000000 ≤ n) : ∀ (t : List (List UInt8)) (m i : Nat), l.drop i = t → t.length < m → r37_feature_L1 n l m i = some (decide (∀ x ∈ t, isName x))
  | [], m + 1, i, h, _ => by rw [r37_feature_L1, if_neg (drop_nil' h)]; simp
  | x :: t, m + 1, i, h, hm => by
    obtain ⟨h1, h2, h3⟩ := drop_cons h
    rw [r37_feature_L1, if_pos h1, h2, bind_some', r01_Name_eq n x (by omega), bind_some', rfeat_L1 n l hn t m (i + 1) h3 (by simpa using hm)]
    by_cases e : isName x <;> simp [e]
theorem rfeat_L0 (n : Nat) (s : List UInt8) (hs : s.length ≤ 1048576) (hn : 2000000 ≤ n) : ∀ (t : List UInt8) (m i : Nat), s.drop i = t → t.length < m → (62 : UInt8) ∉ s.take i → ∃ b, r37_feature_L0 n s m i = some b ∧ (b = true ↔ 62 ∈ s ∧ isFeat s)
  | [], m + 1, i, h, _, hno => by
    have h1 := drop_nil' h
    rw [r37_feature_L0, if_neg h1]
    rw [List.take_of_length_le (by omega)] at hno
    exact ⟨false, rfl, by simp [hno]⟩
  | x :: t, m + 1, i, h, hm, hno => by
    obtain ⟨h1, h2, h3⟩ := drop_cons h
    rw [r37_feature_L0, if_pos h1, h2, bind_some']
    by_cases e : x.toNat ≠ 62
    · rw [if_pos e]
      refine rfeat_L0 n s hs hn t m (i + 1) h3 (by simpa using hm) ?_
      rw [List.take_add_one, h2]
      simp only [Option.toList_some, List.mem_append, List.mem_singleton, not_or]
      exact ⟨hno, fun q => e (by rw [← q]; rfl)⟩
    · have ex : x = 62 := UInt8.toNat_inj.1 (by simpa using e)
      have hsp : s = s.take i ++ 62 :: t := by rw [← ex, ← h, List.take_append_drop]
      have hm62 : (62 : UInt8) ∈ s := by rw [hsp]; simp
      rw [if_neg e, chk_pos (by omega), h3, rSplit_eq n t (by have := congrArg List.length h3; rw [List.length_drop] at this; omega) hn, bind_some', jn_def, chk_pos (by omega), r01_Name_eq n _ (by omega), bind_some']
      have hl := spl_len 32 t
      have hc := count_le 32 t
      have ht : t.length ≤ 1048576 := by have := congrArg List.length h3; rw [List.length_drop] at this; omega
      have hF : isFeat s ↔ isName (s.take i) ∧ (spl 32 t).length ≤ 2 ∧ ∀ x ∈ spl 32 t, isName x := by
        conv => lhs; rw [hsp]
        exact feat_cut hno
      rw [rfeat_L1 n (spl 32 t) hn (spl 32 t) n 0 rfl (by omega), hF]
      simp only [hm62, true_and]
      by_cases a1 : isName (s.take i)
      · by_cases a2 : 2 < (spl 32 t).length
        · simp only [a1, a2, decide_true, Bool.not_true, Bool.false_eq_true, if_false, if_true, true_and]
          exact ⟨false, rfl, by simp; omega⟩
        · simp only [a1, a2, decide_true, decide_false, Bool.not_true, Bool.false_eq_true, if_false, true_and]
          exact ⟨_, rfl, by rw [decide_eq_true_eq]; exact ⟨fun q => ⟨by omega, q⟩, fun q => q.2⟩⟩
      · simp only [a1, decide_false, Bool.not_false, if_true, false_and]
        exact ⟨false, rfl, by simp⟩
theorem feature_r (n : Nat) (s : List UInt8) (hs : s.length ≤ 1048576) (hn : 2000000 ≤ n) : ∃ b, r37_feature n s = some b ∧ (b = true ↔ isFeat s) := by
  unfold r37_feature
  rw [r01_Name_eq n s (by omega), bind_some']
  by_cases h : isName s
  · simp only [h, decide_true, if_true]
    exact ⟨true, rfl, by simp [isFeat, h]⟩
  · simp only [h, decide_false, Bool.false_eq_true, if_false]
    obtain ⟨b, b1, b2⟩ := rfeat_L0 n s hs hn s n 0 rfl (by omega) (by simp)
    refine ⟨b, b1, b2.trans ⟨fun q => q.2, fun q => ⟨?_, q⟩⟩⟩
    rcases q with q | ⟨p, q', rfl, _⟩
    · exact absurd q h
    · simp
theorem lt_of_le_ne {x y : List UInt8} (h : x ≤ y) (hne : x ≠ y) : x < y := by
  rcases Decidable.em (x < y) with h1 | h1
  · exact h1
  · exact absurd (List.le_antisymm h h1) hne
theorem asc_eq : ∀ (a b : List (List UInt8)), a.Pairwise (· < ·) → b.Pairwise (· < ·) → (∀ v, v ∈ a ↔ v ∈ b) → a = b
  | [], [], _, _, _ => rfl
  | [], y :: b, _, _, h => by have := (h y).2 (by simp); simp at this
  | x :: a, [], _, _, h => by have := (h x).1 (by simp); simp at this
  | x :: a, y :: b, ha, hb, h => by
    obtain ⟨a1, a2⟩ := List.pairwise_cons.1 ha
    obtain ⟨b1, b2⟩ := List.pairwise_cons.1 hb
    have hxy : x = y := by
      rcases List.mem_cons.1 ((h x).1 (by simp)) with h1 | h1
      · exact h1
      rcases List.mem_cons.1 ((h y).2 (by simp)) with h2 | h2
      · exact h2.symm
      exact absurd (List.lt_trans (a1 y h2) (b1 x h1)) (List.lt_irrefl _)
    subst hxy
    rw [asc_eq a b a2 b2 (fun v => ?_)]
    constructor
    · intro hv
      rcases List.mem_cons.1 ((h v).1 (by simp [hv])) with h1 | h1
      · subst h1; exact absurd (a1 v hv) (List.lt_irrefl _)
      · exact h1
    · intro hv
      rcases List.mem_cons.1 ((h v).2 (by simp [hv])) with h1 | h1
      · subst h1; exact absurd (b1 v hv) (List.lt_irrefl _)
      · exact h1
/-! models: their errors -/
theorem nlt_iff {p c : List UInt8} : (¬ p < c) ↔ (c < p ∨ c = p) := by
  constructor
  · intro h
    by_cases e : c = p
    · exact .inr e
    · exact .inl (lt_of_le_ne h e)
  · rintro (h | rfl)
    · exact List.lt_asymm h
    · exact List.lt_irrefl _
structure GoodW (w : Weight) : Prop where
  feat : isFeat w.Feature
  nz : w.Value ≠ 0
  lo : -1048576 ≤ w.Value
  hi : w.Value ≤ 1048576
def ascFrom : Option (List UInt8) → List Weight → Prop
  | _, [] => True
  | p, w :: t => (∀ q, p = some q → q < w.Feature) ∧ ascFrom (some w.Feature) t
theorem ascFrom_le : ∀ {p : List UInt8} {l : List Weight}, ascFrom (some p) l → ∀ w ∈ l, p < w.Feature
  | _, [], _, w, h => by cases h
  | p, x :: t, h, w, hw => by
    have h1 := h.1 p rfl
    rcases List.mem_cons.1 hw with rfl | hw
    · exact h1
    · exact List.lt_trans h1 (ascFrom_le h.2 w hw)
theorem ascFrom_pw : ∀ {p : Option (List UInt8)} {l : List Weight}, ascFrom p l → l.Pairwise (fun a b => a.Feature < b.Feature)
  | _, [], _ => .nil
  | _, x :: t, h => .cons (fun w hw => ascFrom_le h.2 w hw) (ascFrom_pw h.2)
theorem pw_ascFrom : ∀ {p : Option (List UInt8)} {l : List Weight}, l.Pairwise (fun a b => a.Feature < b.Feature) → (∀ q w, p = some q → w ∈ l → q < w.Feature) → ascFrom p l
  | _, [], _, _ => trivial
  | p, x :: t, h, hq => by
    obtain ⟨h1, h2⟩ := List.pairwise_cons.1 h
    exact ⟨fun q e => hq q x e (by simp), pw_ascFrom h2 (fun q w e hw => by cases e; exact h1 w hw)⟩
structure okM (l : List Weight) : Prop where
  good : ∀ w ∈ l, GoodW w
  asc : l.Pairwise (fun a b => a.Feature < b.Feature)
def prevF (l : List Weight) (i : Nat) : Option (List UInt8) := if i = 0 then none else (l[i - 1]?).map (·.Feature)
theorem Check_L0 (n : Nat) (m : Model) (hs : ∀ w ∈ m.Weights, w.Feature.length ≤ 1048576) (hn : 2000000 ≤ n) : ∀ (t : List Weight) (k i : Nat), m.Weights.drop i = t → t.length < k → ∃ c, model_Check_L0 n m k i = some c ∧ r37_Check_L0 n m k i = some c ∧ (c = 0 ↔ (∀ w ∈ t, GoodW w) ∧ ascFrom (prevF m.Weights i) t)
  | [], k + 1, i, h, _ => ⟨0, by rw [model_Check_L0, if_neg (drop_nil' h)], by rw [r37_Check_L0, if_neg (drop_nil' h)], by simp [ascFrom]⟩
  | x :: t, k + 1, i, h, hk => by
    obtain ⟨h1, h2, h3⟩ := drop_cons h
    obtain ⟨c, c1, c2, c3⟩ := Check_L0 n m hs hn t k (i + 1) h3 (by simpa using hk)
    have hxl := hs x (List.mem_of_getElem? h2)
    obtain ⟨b, b1, b2⟩ := feature_p n x.Feature hxl hn
    obtain ⟨b', b1', b2'⟩ := feature_r n x.Feature hxl hn
    have eb : b' = b := by
      cases b <;> cases b' <;> simp_all
    subst eb
    have hp : prevF m.Weights (i + 1) = some x.Feature := by unfold prevF; rw [if_neg (by omega), Nat.add_sub_cancel, h2]; rfl
    rw [model_Check_L0, r37_Check_L0, if_pos h1, if_pos h1, h2, bind_some', bind_some', b1, b1', bind_some', bind_some', c1, c2]
    simp only [jn_def]
    cases b' with
    | false =>
      simp only [Bool.not_false, if_true]
      exact ⟨1, rfl, rfl, by
        constructor
        · intro q; cases q
        · intro q; exact absurd (b2.2 (q.1 x (by simp)).feat) (by simp)⟩
    | true =>
      simp only [Bool.not_true, Bool.false_eq_true, if_false]
      have hF := b2.1 rfl
      by_cases v0 : x.Value = 0
      · simp only [v0, if_true]
        exact ⟨2, rfl, rfl, by
          constructor
          · intro q; cases q
          · intro q; exact absurd v0 (q.1 x (by simp)).nz⟩
      by_cases v1 : x.Value < -1048576
      · simp only [v0, v1, if_true, if_false]
        exact ⟨2, rfl, rfl, by
          constructor
          · intro q; cases q
          · intro q; have := (q.1 x (by simp)).lo; omega⟩
      by_cases v2 : 1048576 < x.Value
      · simp only [v0, v1, v2, if_true, if_false, decide_true]
        exact ⟨2, rfl, rfl, by
          constructor
          · intro q; cases q
          · intro q; have := (q.1 x (by simp)).hi; omega⟩
      simp only [v0, v1, v2, if_false, decide_false, Bool.false_eq_true]
      have hG : GoodW x := ⟨hF, v0, by omega, by omega⟩
      have hall : (∀ w ∈ x :: t, GoodW w) ↔ ∀ w ∈ t, GoodW w := by simp [hG]
      rw [hall]
      rw [hp] at c3
      by_cases i0 : 0 < i
      · obtain ⟨y, hy⟩ : ∃ y, m.Weights[i - 1]? = some y := ⟨_, List.getElem?_eq_getElem (by omega)⟩
        have hix : ix m.Weights ((i : Int) - 1) = some y := by
          rw [show (i : Int) - 1 = ((i - 1 : Nat) : Int) by omega, ix_nat]; exact hy
        have hpi : prevF m.Weights i = some y.Feature := by unfold prevF; rw [if_neg (by omega), hy]; rfl
        rw [if_pos i0, if_pos i0, hix, bind_some', bind_some', hpi]
        simp only [bytesLess_eq]
        by_cases q : y.Feature < x.Feature
        · have q1 : ¬ (x.Feature < y.Feature) := List.lt_asymm q
          have q2 : ¬ (x.Feature = y.Feature) := fun e => by rw [e] at q; exact List.lt_irrefl _ q
          simp only [q, q1, decide_true, decide_false, Bool.not_true, Bool.false_or, Bool.false_eq_true, if_false, beq_iff_eq, q2]
          refine ⟨c, rfl, rfl, c3.trans ⟨fun z => ⟨z.1, fun q' e => by cases e; exact q, z.2⟩, fun z => ⟨z.1, z.2.2⟩⟩⟩
        · have q3 : (decide (x.Feature < y.Feature) || x.Feature == y.Feature) = true := by
            rcases nlt_iff.1 q with z | z
            · simp [z]
            · simp [z]
          simp only [q, q3, decide_false, Bool.not_false, if_true]
          exact ⟨3, rfl, rfl, by
            constructor
            · intro z; cases z
            · intro z; exact absurd (z.2.1 _ rfl) q⟩
      · have i1 : i = 0 := by omega
        have hpi : prevF m.Weights i = none := by unfold prevF; rw [if_pos i1]
        rw [if_neg i0, if_neg i0, hpi]
        exact ⟨c, rfl, rfl, c3.trans ⟨fun z => ⟨z.1, fun q' e => (by cases e), z.2⟩, fun z => ⟨z.1, z.2.2⟩⟩⟩
theorem sum_mem {l : List Nat} {x : Nat} (h : x ∈ l) : x ≤ l.sum := by
  induction l with
  | nil => cases h
  | cons a l ih =>
    rw [List.sum_cons]
    rcases List.mem_cons.1 h with rfl | h
    · omega
    · have := ih h; omega
theorem szM_feat {m : Model} {w : Weight} (h : w ∈ m.Weights) : w.Feature.length + 3 ≤ szM m := by
  have := sum_mem (List.mem_map.2 ⟨w, h, rfl⟩ : szW w ∈ m.Weights.map szW)
  have e : szW w = w.Feature.length + 3 := rfl
  unfold szM
  omega
theorem sum_len : ∀ (l : List Weight), 3 * l.length ≤ (l.map szW).sum
  | [] => by simp
  | x :: t => by
    have := sum_len t
    rw [List.length_cons, List.map_cons, List.sum_cons]
    unfold szW at *
    omega
theorem szM_len (m : Model) : m.Weights.length ≤ szM m := by
  have := sum_len m.Weights
  unfold szM
  omega
theorem Check_eq (n : Nat) (m : Model) (hs : szM m ≤ 1048576) (hn : 2000000 ≤ n) : ∃ c, model_Check n m = some c ∧ r37_Check n m = some c ∧ (c = 0 ↔ okM m.Weights) := by
  obtain ⟨c, c1, c2, c3⟩ := Check_L0 n m (fun w hw => by have := szM_feat hw; omega) hn m.Weights n 0 rfl (by have := szM_len m; omega)
  refine ⟨c, c1, c2, c3.trans ⟨fun h => ⟨h.1, ascFrom_pw h.2⟩, fun h => ⟨h.good, pw_ascFrom h.asc (fun q w e _ => by cases e)⟩⟩⟩
/-! features of derivations -/
def js (l : List (List UInt8)) : List UInt8 := (l.map fun x => 32 :: x).flatten
def jo : List (List UInt8) → List UInt8
  | [] => []
  | x :: t => x ++ js t
def tr (nm : List UInt8) : List Deriv → List (List UInt8)
  | [] => []
  | d :: t => [nm ++ 62 :: jo ((d :: t).map (·.Name))]
mutual
def ftD : Deriv → List (List UInt8)
  | ⟨_, nm, _, _, ks⟩ => nm :: (tr nm ks ++ ftL ks)
def ftL : List Deriv → List (List UInt8)
  | [] => []
  | d :: r => ftD d ++ ftL r
end
theorem ftD_eq (d : Deriv) : ftD d = d.Name :: (tr d.Name d.Kids ++ ftL d.Kids) := by cases d; rfl
theorem szD_eq (d : Deriv) : szD d = d.Name.length + szL d.Kids + 1 := by cases d; rfl
theorem szL_cons (d : Deriv) (r : List Deriv) : szL (d :: r) = szD d + szL r := rfl
theorem szD_pos (d : Deriv) : 1 ≤ szD d := by rw [szD_eq]; omega
theorem szL_mem : ∀ {l : List Deriv} {d : Deriv}, d ∈ l → szD d ≤ szL l
  | x :: l, d, h => by
    rw [szL_cons]
    rcases List.mem_cons.1 h with rfl | h
    · omega
    · have := szL_mem h; omega
theorem szL_len : ∀ l : List Deriv, l.length ≤ szL l
  | [] => Nat.zero_le _
  | d :: r => by
    have := szL_len r
    have := szD_pos d
    rw [szL_cons, List.length_cons]; omega
theorem tr_len (nm : List UInt8) (ks : List Deriv) : (tr nm ks).length ≤ ks.length := by
  cases ks <;> simp [tr]
mutual
theorem ftD_len : ∀ d : Deriv, (ftD d).length ≤ 2 * szD d
  | ⟨a, nm, b, c, ks⟩ => by
    have h1 := ftL_len ks
    have h2 := tr_len nm ks
    have h3 := szL_len ks
    show (nm :: (tr nm ks ++ ftL ks)).length ≤ 2 * (nm.length + szL ks + 1)
    cases ks with
    | nil => simp [tr, ftL]; omega
    | cons x t =>
      rw [List.length_cons, List.length_append]
      have : (tr nm (x :: t)).length = 1 := rfl
      omega
theorem ftL_len : ∀ l : List Deriv, (ftL l).length ≤ 2 * szL l
  | [] => by simp [ftL]
  | d :: r => by
    have h1 := ftD_len d
    have h2 := ftL_len r
    show (ftD d ++ ftL r).length ≤ 2 * (szD d + szL r)
    rw [List.length_append]; omega
end
theorem join_jo : ∀ l : List (List UInt8), Lib.join l [32] = jo l
  | [] => rfl
  | x :: t => (Lib.join_cons x t [32]).trans rfl
theorem js_len : ∀ l : List Deriv, (js (l.map (·.Name))).length ≤ szL l
  | [] => by simp [js]
  | d :: r => by
    have := js_len r
    have h2 := szD_eq d
    unfold js at *
    rw [List.map_cons, List.map_cons, List.flatten_cons, List.length_append, szL_cons, List.length_cons]
    omega
theorem jo_len (l : List Deriv) : (jo (l.map (·.Name))).length ≤ szL l := by
  cases l with
  | nil => simp [jo]
  | cons d r =>
    have := js_len r
    have h2 := szD_eq d
    rw [List.map_cons, jo, List.length_append, szL_cons]
    omega
theorem Feat_L0 (n : Nat) (d : Deriv) (k : List (List UInt8) → Option (List (List UInt8))) : ∀ (t : List Deriv) (m i : Nat) (nms : List (List UInt8)), d.Kids.drop i = t → t.length < m → nms.length + t.length ≤ 100000000 → model_Features_L0 n d k m nms i = k (nms ++ t.map (·.Name))
  | [], m + 1, i, nms, h, _, _ => by rw [model_Features_L0, if_neg (drop_nil' h)]; simp
  | x :: t, m + 1, i, nms, h, hm, hb => by
    obtain ⟨h1, h2, h3⟩ := drop_cons h
    rw [List.length_cons] at hb
    rw [model_Features_L0, if_pos h1, h2, bind_some', chk_pos (by rw [List.length_singleton]; omega), Feat_L0 n d k t m (i + 1) _ h3 (by simpa using hm) (by rw [List.length_append, List.length_singleton]; omega)]
    simp
theorem Feat_L1 (n : Nat) (d : Deriv) (sf : Deriv → Option (List (List UInt8))) (hsf : ∀ x ∈ d.Kids, sf x = some (ftD x)) : ∀ (t : List Deriv) (m i : Nat) (out : List (List UInt8)), d.Kids.drop i = t → t.length < m → out.length + (ftL t).length ≤ 100000000 → model_Features_L1 n d sf m out i = some (out ++ ftL t)
  | [], m + 1, i, out, h, _, _ => by rw [model_Features_L1, if_neg (drop_nil' h)]; simp [ftL]
  | x :: t, m + 1, i, out, h, hm, hb => by
    obtain ⟨h1, h2, h3⟩ := drop_cons h
    have e : ftL (x :: t) = ftD x ++ ftL t := rfl
    rw [e, List.length_append] at hb
    rw [model_Features_L1, if_pos h1, h2, bind_some', hsf x (List.mem_of_getElem? h2), bind_some', chk_pos (by omega), Feat_L1 n d sf hsf t m (i + 1) _ h3 (by simpa using hm) (by rw [List.length_append]; omega), e, List.append_assoc]
theorem Features_p : ∀ (n : Nat) (d : Deriv), szD d < n → szD d ≤ 1048576 → model_Features n d = some (ftD d)
  | 0, d, h, _ => by omega
  | n + 1, d, h, hb => by
    have h0 := szD_eq d
    have h1 := szL_len d.Kids
    have h2 := ftL_len d.Kids
    have h3 := jo_len d.Kids
    have hsf : ∀ x ∈ d.Kids, model_Features n x = some (ftD x) := fun x hx => by
      have := szL_mem hx
      exact Features_p n x (by omega) (by omega)
    rw [model_Features, jn_def, ftD_eq]
    cases hk : d.Kids with
    | nil =>
      rw [hk] at h2
      rw [if_neg (by simp)]
      dsimp only
      rw [Feat_L1 n d _ hsf [] n 0 [d.Name] (by rw [hk]; rfl) (by simp; omega) (by simp [ftL])]
      rfl
    | cons x t =>
      have e0 : d.Kids.drop 0 = d.Kids := rfl
      rw [if_pos (by simp), jn_def, Feat_L0 n d _ d.Kids n 0 [] rfl (by omega) (by simp; omega), List.nil_append]
      have hj : strings_Join n (d.Kids.map (·.Name)) [32] = some (jo (d.Kids.map (·.Name))) := by
        unfold strings_Join
        rw [join_jo, chk_pos ⟨by rw [List.length_map]; omega, by omega⟩]
      have e1 : (d.Name ++ [62] ++ jo (d.Kids.map (·.Name))) = d.Name ++ 62 :: jo (d.Kids.map (·.Name)) := by simp
      rw [chk_pos (by rw [List.length_singleton]; omega), hj, bind_some', chk_pos (by rw [List.length_append, List.length_singleton]; omega), chk_pos (by simp), e1]
      dsimp only
      rw [Feat_L1 n d _ hsf d.Kids n 0 _ rfl (by omega) (by simp; omega), ← hk]
      have e2 : tr d.Name d.Kids = [d.Name ++ 62 :: jo (d.Kids.map (·.Name))] := by rw [hk]; rfl
      rw [e2]
      simp
theorem rFeat_L0 (n : Nat) (d : Deriv) (k : List UInt8 → Option (List (List UInt8))) : ∀ (t : List Deriv) (m i : Nat) (s : List UInt8), d.Kids.drop i = t → t.length < m → s.length + szL t ≤ 100000000 → r37_Features_L0 n d k m s i = k (s ++ if i = 0 then jo (t.map (·.Name)) else js (t.map (·.Name)))
  | [], m + 1, i, s, h, _, _ => by
    rw [r37_Features_L0, if_neg (drop_nil' h)]
    simp [jo, js]
  | x :: t, m + 1, i, s, h, hm, hb => by
    obtain ⟨h1, h2, h3⟩ := drop_cons h
    have h0 := szD_eq x
    rw [szL_cons] at hb
    rw [r37_Features_L0, if_pos h1, jn_def]
    by_cases i0 : 0 < i
    · rw [if_pos i0, chk_pos (by rw [List.length_singleton]; omega)]
      dsimp only
      rw [h2, bind_some', chk_pos (by rw [List.length_append, List.length_singleton]; omega), rFeat_L0 n d k t m (i + 1) _ h3 (by simpa using hm) (by rw [List.length_append, List.length_append, List.length_singleton]; omega), if_neg (by omega), if_neg (by omega)]
      simp [js]
    · rw [if_neg i0]
      dsimp only
      rw [h2, bind_some', chk_pos (by omega), rFeat_L0 n d k t m (i + 1) _ h3 (by simpa using hm) (by rw [List.length_append]; omega), if_neg (by omega), if_pos (by omega)]
      simp [jo]
theorem rFeat_L2 (n : Nat) (k : List (List UInt8) → Option (List (List UInt8))) (l : List (List UInt8)) : ∀ (t : List (List UInt8)) (m i : Nat) (out : List (List UInt8)), l.drop i = t → t.length < m → out.length + t.length ≤ 100000000 → r37_Features_L2 n k l m out i = k (out ++ t)
  | [], m + 1, i, out, h, _, _ => by rw [r37_Features_L2, if_neg (drop_nil' h)]; simp
  | x :: t, m + 1, i, out, h, hm, hb => by
    obtain ⟨h1, h2, h3⟩ := drop_cons h
    rw [List.length_cons] at hb
    rw [r37_Features_L2, if_pos h1, h2, bind_some', chk_pos (by rw [List.length_singleton]; omega), rFeat_L2 n k l t m (i + 1) _ h3 (by simpa using hm) (by rw [List.length_append, List.length_singleton]; omega)]
    simp
theorem rFeat_L1 (n : Nat) (hn : 5000000 ≤ n) (d : Deriv) (sf : Deriv → Option (List (List UInt8))) (hsf : ∀ x ∈ d.Kids, sf x = some (ftD x)) : ∀ (t : List Deriv) (m i : Nat) (out : List (List UInt8)), d.Kids.drop i = t → t.length < m → out.length + (ftL t).length ≤ 4000000 → r37_Features_L1 n d sf m out i = some (out ++ ftL t)
  | [], m + 1, i, out, h, _, _ => by rw [r37_Features_L1, if_neg (drop_nil' h)]; simp [ftL]
  | x :: t, m + 1, i, out, h, hm, hb => by
    obtain ⟨h1, h2, h3⟩ := drop_cons h
    have e : ftL (x :: t) = ftD x ++ ftL t := rfl
    rw [e, List.length_append] at hb
    rw [r37_Features_L1, if_pos h1, jn_def, h2, bind_some', hsf x (List.mem_of_getElem? h2), bind_some', rFeat_L2 n _ (ftD x) (ftD x) n 0 out rfl (by omega) (by omega), rFeat_L1 n hn d sf hsf t m (i + 1) _ h3 (by simpa using hm) (by rw [List.length_append]; omega), e, List.append_assoc]
theorem Features_r : ∀ (n : Nat) (d : Deriv), 5000000 + szD d < n → szD d ≤ 1048576 → r37_Features n d = some (ftD d)
  | 0, d, h, _ => by omega
  | n + 1, d, h, hb => by
    have h0 := szD_eq d
    have h1 := szL_len d.Kids
    have h2 := ftL_len d.Kids
    have h3 := jo_len d.Kids
    have hsf : ∀ x ∈ d.Kids, r37_Features n x = some (ftD x) := fun x hx => by
      have := szL_mem hx
      exact Features_r n x (by omega) (by omega)
    rw [r37_Features, jn_def, ftD_eq]
    cases hk : d.Kids with
    | nil =>
      rw [if_neg (by simp)]
      dsimp only
      rw [rFeat_L1 n (by omega) d _ hsf [] n 0 [d.Name] (by rw [hk]; rfl) (by simp; omega) (by simp [ftL])]
      rfl
    | cons x t =>
      rw [if_pos (by simp), chk_pos (by rw [List.length_singleton]; omega), jn_def, rFeat_L0 n d _ d.Kids n 0 _ rfl (by omega) (by rw [List.length_append, List.length_singleton]; omega), if_pos rfl]
      have e1 : (d.Name ++ [62] ++ jo (d.Kids.map (·.Name))) = d.Name ++ 62 :: jo (d.Kids.map (·.Name)) := by simp
      dsimp only
      rw [chk_pos (by simp), e1, rFeat_L1 n (by omega) d _ hsf d.Kids n 0 _ rfl (by omega) (by simp; omega), ← hk]
      have e2 : tr d.Name d.Kids = [d.Name ++ 62 :: jo (d.Kids.map (·.Name))] := by rw [hk]; rfl
      rw [e2]
      simp
theorem Nodes_L0 (n : Nat) (d : Deriv) (most : Int) (hm0 : most ≤ 1000000000) (sf : Deriv → Int → Option Int) (hsf : ∀ x ∈ d.Kids, ∀ z : Int, z ≤ 1000000000 → ∃ v, sf x z = some v ∧ 1 ≤ v ∧ v ≤ (szD x : Int)) : ∀ (t : List Deriv) (m i : Nat) (a : Int), d.Kids.drop i = t → t.length < m → 1 ≤ a → a + (szL t : Int) ≤ 100000000 → i + t.length ≤ 100000000 → ∃ v, r37_Nodes_L0 n d most sf m a i = some v ∧ a ≤ v ∧ v ≤ a + (szL t : Int)
  | [], m + 1, i, a, h, _, ha, _, _ => by
    rw [r37_Nodes_L0, jn_def, if_neg (drop_nil' h)]
    exact ⟨a, rfl, Int.le_refl _, by omega⟩
  | x :: t, m + 1, i, a, h, hm, ha, hb, hi => by
    obtain ⟨h1, h2, h3⟩ := drop_cons h
    rw [szL_cons] at hb ⊢
    rw [List.length_cons] at hi
    rw [r37_Nodes_L0, jn_def, if_pos h1]
    by_cases q : a < most
    · obtain ⟨v, v1, v2, v3⟩ := hsf x (List.mem_of_getElem? h2) (most - a) (by omega)
      obtain ⟨w, w1, w2, w3⟩ := Nodes_L0 n d most hm0 sf hsf t m (i + 1) (a + v) h3 (by simpa using hm) (by omega) (by omega) (by omega)
      simp only [q, decide_true, if_true, h2, bind_some', v1]
      rw [chk_pos (by omega), chk_pos (by omega), chk_pos (by omega), w1]
      exact ⟨w, rfl, by omega, by omega⟩
    · simp only [q, decide_false, Bool.false_eq_true, if_false]
      exact ⟨a, rfl, Int.le_refl _, by omega⟩
theorem Nodes_some : ∀ (n : Nat) (d : Deriv) (most : Int), szD d < n → szD d ≤ 1048576 → most ≤ 1000000000 → ∃ v, r37_Nodes n d most = some v ∧ 1 ≤ v ∧ v ≤ (szD d : Int)
  | 0, d, _, h, _, _ => by omega
  | n + 1, d, most, h, hb, hm => by
    have h0 := szD_eq d
    have h1 := szL_len d.Kids
    obtain ⟨v, v1, v2, v3⟩ := Nodes_L0 n d most hm (r37_Nodes n) (fun x hx z hz => by
      have := szL_mem hx
      exact Nodes_some n x z (by omega) (by omega) hz) d.Kids n 0 1 rfl (by omega) (Int.le_refl _) (by omega) (by omega)
    rw [r37_Nodes]
    exact ⟨v, v1, v2, by omega⟩
/-! weights and scores -/
structure okV (l : List Weight) : Prop where
  nz : ∀ w ∈ l, w.Value ≠ 0
  lo : ∀ w ∈ l, -1048576 ≤ w.Value
  hi : ∀ w ∈ l, w.Value ≤ 1048576
  asc : l.Pairwise (fun a b => a.Feature < b.Feature)
theorem okM.v {l : List Weight} (h : okM l) : okV l := ⟨fun w hw => (h.good w hw).nz, fun w hw => (h.good w hw).lo, fun w hw => (h.good w hw).hi, h.asc⟩
def wt : List Weight → List UInt8 → Int
  | [], _ => 0
  | w :: t, s => if w.Feature = s then w.Value else wt t s
theorem wt_out {s : List UInt8} : ∀ {l : List Weight}, (∀ w ∈ l, w.Feature ≠ s) → wt l s = 0
  | [], _ => rfl
  | w :: t, h => by
    unfold wt
    rw [if_neg (h w (by simp)), wt_out (fun x hx => h x (by simp [hx]))]
theorem wt_in : ∀ {l : List Weight} {w : Weight}, l.Pairwise (fun a b => a.Feature < b.Feature) → w ∈ l → wt l w.Feature = w.Value
  | x :: t, w, hp, hw => by
    obtain ⟨h1, h2⟩ := List.pairwise_cons.1 hp
    unfold wt
    rcases List.mem_cons.1 hw with rfl | hw
    · rw [if_pos rfl]
    · rw [if_neg (fun e => by have := h1 w hw; rw [e] at this; exact List.lt_irrefl _ this), wt_in h2 hw]
theorem wt_cases {l : List Weight} (s : List UInt8) : (wt l s = 0 ∧ ∀ w ∈ l, w.Feature ≠ s) ∨ ∃ w ∈ l, w.Feature = s ∧ wt l s = w.Value := by
  induction l with
  | nil => exact .inl ⟨rfl, by simp⟩
  | cons x t ih =>
    unfold wt
    by_cases h : x.Feature = s
    · rw [if_pos h]; exact .inr ⟨x, by simp, h, rfl⟩
    · rw [if_neg h]
      rcases ih with ⟨h1, h2⟩ | ⟨w, h1, h2, h3⟩
      · refine .inl ⟨h1, fun w hw => ?_⟩
        rcases List.mem_cons.1 hw with rfl | hw
        · exact h
        · exact h2 w hw
      · exact .inr ⟨w, by simp [h1], h2, h3⟩
theorem wt_bound {l : List Weight} (h : okV l) (s : List UInt8) : -1048576 ≤ wt l s ∧ wt l s ≤ 1048576 := by
  rcases wt_cases (l := l) s with ⟨h1, _⟩ | ⟨w, h1, _, h3⟩
  · rw [h1]; omega
  · rw [h3]; exact ⟨h.lo w h1, h.hi w h1⟩
theorem rweight_L0 (n : Nat) (m : Model) (s : List UInt8) : ∀ (t : List Weight) (k i : Nat), m.Weights.drop i = t → t.length < k → r37_weight_L0 n m s k i = some (wt t s)
  | [], k + 1, i, h, _ => by rw [r37_weight_L0, if_neg (drop_nil' h)]; rfl
  | x :: t, k + 1, i, h, hk => by
    obtain ⟨h1, h2, h3⟩ := drop_cons h
    rw [r37_weight_L0, if_pos h1, h2, bind_some', rweight_L0 n m s t k (i + 1) h3 (by simpa using hk), wt]
    split <;> rfl
theorem weight_r (n : Nat) (m : Model) (s : List UInt8) (hn : m.Weights.length < n) : r37_weight n m s = some (wt m.Weights s) := rweight_L0 n m s m.Weights n 0 rfl hn
def cs (a b : List UInt8) : Int := if a < b then -1 else if b < a then 1 else 0
theorem cs_zero {a b : List UInt8} : cs a b = 0 ↔ a = b := by
  unfold cs
  by_cases h1 : a < b
  · rw [if_pos h1]
    exact ⟨fun q => absurd q (by omega), fun e => by rw [e] at h1; exact absurd h1 (List.lt_irrefl _)⟩
  · rw [if_neg h1]
    by_cases h2 : b < a
    · rw [if_pos h2]
      exact ⟨fun q => absurd q (by omega), fun e => by rw [e] at h2; exact absurd h2 (List.lt_irrefl _)⟩
    · rw [if_neg h2]
      exact ⟨fun _ => List.le_antisymm h2 h1, fun _ => rfl⟩
theorem cs_neg {a b : List UInt8} : cs a b < 0 ↔ a < b := by
  unfold cs
  by_cases h1 : a < b
  · rw [if_pos h1]; exact ⟨fun _ => h1, fun _ => by omega⟩
  · rw [if_neg h1]
    constructor
    · intro q; split at q <;> omega
    · intro q; exact absurd q h1
theorem CmpS_eq (n : Nat) (a b : List UInt8) : cmp_Compare_string n a b = some (cs a b) := by
  unfold cmp_Compare_string cmp_isNaN_string cs
  simp only [bind_some', ne_eq, not_true, decide_false, Bool.false_eq_true, if_false, bytesLess_eq]
  by_cases h1 : a < b
  · simp [h1]
  · by_cases h2 : b < a
    · have h3 : ¬ a = b := fun e => by rw [e] at h2; exact List.lt_irrefl _ h2
      simp [h1, h2, h3]
    · have h3 : a = b := List.le_antisymm h2 h1
      have h4 : ¬ b < b := List.lt_irrefl b
      simp [h3, h4]
theorem bs_L0 (n : Nat) (l : List Weight) (s : List UInt8) (hp : l.Pairwise (fun a b => a.Feature < b.Feature)) (hl : l.length ≤ 100000000) (k : Nat → Option (Int × Bool)) : ∀ (m i j : Nat), i ≤ j → j ≤ l.length → j - i < m → (∀ q w, q < i → l[q]? = some w → w.Feature < s) → (∀ q w, j ≤ q → l[q]? = some w → ¬ w.Feature < s) → ∃ i', slices_BinarySearchFunc_string_L0 n l s (fun p => model_weight_1 n p.1 p.2) k m i j = k i' ∧ i' ≤ l.length ∧ (∀ q w, q < i' → l[q]? = some w → w.Feature < s) ∧ (∀ q w, i' ≤ q → l[q]? = some w → ¬ w.Feature < s)
  | 0, i, j, _, _, h, _, _ => by omega
  | m + 1, i, j, hij, hj, hm, h1, h2 => by
    rw [slices_BinarySearchFunc_string_L0]
    by_cases q : i < j
    · have hmid : (i + j) / 2 ^ 1 < j ∧ i ≤ (i + j) / 2 ^ 1 := by omega
      obtain ⟨x, hx⟩ : ∃ x, l[(i + j) / 2 ^ 1]? = some x := ⟨_, List.getElem?_eq_getElem (by omega)⟩
      have hc : model_weight_1 n x s = some (cs x.Feature s) := by
        unfold model_weight_1
        rw [CmpS_eq]; rfl
      rw [if_pos q, chk_pos (by omega), chk_pos (by omega), chk_pos (by omega), hx, bind_some', hc, bind_some']
      by_cases c : cs x.Feature s < 0
      · have hlt := cs_neg.1 c
        rw [if_pos c, chk_pos (by omega)]
        refine bs_L0 n l s hp hl k m _ j (by omega) hj (by omega) (fun p w hpq hw => ?_) h2
        by_cases e : p = (i + j) / 2 ^ 1
        · rw [e, hx] at hw; cases hw; exact hlt
        · have : p < (i + j) / 2 ^ 1 := by omega
          obtain ⟨a1, a2⟩ := List.getElem?_eq_some_iff.1 hw
          obtain ⟨b1, b2⟩ := List.getElem?_eq_some_iff.1 hx
          have := List.pairwise_iff_getElem.1 hp p ((i + j) / 2 ^ 1) a1 b1 this
          rw [a2, b2] at this
          exact List.lt_trans this hlt
      · have hge : ¬ x.Feature < s := fun e => c (cs_neg.2 e)
        rw [if_neg c]
        refine bs_L0 n l s hp hl k m i _ (by omega) (by omega) (by omega) h1 (fun p w hpq hw => ?_)
        by_cases e : p = (i + j) / 2 ^ 1
        · rw [e, hx] at hw; cases hw; exact hge
        · have : (i + j) / 2 ^ 1 < p := by omega
          obtain ⟨a1, a2⟩ := List.getElem?_eq_some_iff.1 hw
          obtain ⟨b1, b2⟩ := List.getElem?_eq_some_iff.1 hx
          have := List.pairwise_iff_getElem.1 hp ((i + j) / 2 ^ 1) p b1 a1 this
          rw [a2, b2] at this
          exact fun z => hge (List.lt_trans this z)
    · rw [if_neg q]
      have e : i = j := by omega
      exact ⟨i, rfl, by omega, h1, fun p w hpq hw => h2 p w (by omega) hw⟩
theorem weight_p (n : Nat) (m : Model) (s : List UInt8) (hp : m.Weights.Pairwise (fun a b => a.Feature < b.Feature)) (hl : m.Weights.length ≤ 100000000) (hn : m.Weights.length < n) : model_weight n m s = some (wt m.Weights s) := by
  unfold model_weight slices_BinarySearchFunc_string
  rw [jn_def]
  obtain ⟨i, r1, r2, r3, r4⟩ := bs_L0 n m.Weights s hp hl (fun (i_2 : Nat) =>
  if i_2 < ((m.Weights).length) then
   (m.Weights[i_2]?).bind fun x24 =>
   (model_weight_1 n x24 s).bind fun r26 =>
   some (((i_2 : Nat) : Int), decide (r26 = 0))
  else
   some (((i_2 : Nat) : Int), false)) n 0 m.Weights.length (Nat.zero_le _) (Nat.le_refl _) (by omega) (fun q w h => absurd h (Nat.not_lt_zero _)) (fun q w h hw => by have := (List.getElem?_eq_some_iff.1 hw).1; omega)
  rw [r1]
  by_cases q : i < m.Weights.length
  · obtain ⟨x, hx⟩ : ∃ x, m.Weights[i]? = some x := ⟨_, List.getElem?_eq_getElem q⟩
    have hc : model_weight_1 n x s = some (cs x.Feature s) := by
      unfold model_weight_1
      rw [CmpS_eq]; rfl
    rw [if_pos q, hx, bind_some', hc, bind_some', bind_some']
    dsimp only
    by_cases e : x.Feature = s
    · have e0 := cs_zero.2 e
      rw [if_neg (by simp [e0]), ix_nat, hx, bind_some', ← e, wt_in hp (List.mem_of_getElem? hx)]
    · have e0 : ¬ cs x.Feature s = 0 := fun z => e (cs_zero.1 z)
      rw [if_pos (by simp [e0])]
      refine congrArg some (wt_out fun w hw => ?_).symm
      obtain ⟨j, hj⟩ := List.getElem?_of_mem hw
      by_cases hji : j < i
      · have := r3 j w hji hj
        exact fun z => by rw [z] at this; exact List.lt_irrefl _ this
      · by_cases hje : j = i
        · rw [hje, hx] at hj; cases hj; exact e
        · obtain ⟨a1, a2⟩ := List.getElem?_eq_some_iff.1 hj
          obtain ⟨b1, b2⟩ := List.getElem?_eq_some_iff.1 hx
          have h5 := List.pairwise_iff_getElem.1 hp i j b1 a1 (by omega)
          rw [a2, b2] at h5
          exact fun z => by rw [z] at h5; exact r4 i x (Nat.le_refl _) hx h5
  · rw [if_neg q, bind_some']
    dsimp only
    rw [if_pos (by simp)]
    refine congrArg some (wt_out fun w hw => ?_).symm
    obtain ⟨j, hj⟩ := List.getElem?_of_mem hw
    have := (List.getElem?_eq_some_iff.1 hj).1
    have := r3 j w (by omega) hj
    exact fun z => by rw [z] at this; exact List.lt_irrefl _ this
/-- the score of features -/
def sc (l : List Weight) (fs : List (List UInt8)) : Int := (fs.map (wt l)).sum
theorem sc_cons (l : List Weight) (x : List UInt8) (t : List (List UInt8)) : sc l (x :: t) = wt l x + sc l t := by simp [sc]
theorem Score_L0 (n : Nat) (m : Model) (hv : okV m.Weights) (hl : m.Weights.length ≤ 100000000) (hn : m.Weights.length < n) (l : List (List UInt8)) : ∀ (t : List (List UInt8)) (k i : Nat) (a A : Int), l.drop i = t → t.length < k → -A ≤ a → a ≤ A → A + 1048576 * (t.length : Int) ≤ 1000000000000000 → model_Score_L0 n m l k a i = some (a + sc m.Weights t) ∧ r37_Score_L0 n m l k a i = some (a + sc m.Weights t)
  | [], k + 1, i, a, A, h, _, _, _, _ => by
    rw [model_Score_L0, r37_Score_L0, if_neg (drop_nil' h)]
    have e : a + sc m.Weights [] = a := by show a + 0 = a; omega
    rw [e, if_neg (drop_nil' h)]
    exact ⟨rfl, rfl⟩
  | x :: t, k + 1, i, a, A, h, hk, h1', h2', h3' => by
    obtain ⟨h1, h2, h3⟩ := drop_cons h
    rw [List.length_cons] at h3'
    obtain ⟨b1, b2⟩ := wt_bound hv x
    obtain ⟨r1, r2⟩ := Score_L0 n m hv hl hn l t k (i + 1) (a + wt m.Weights x) (A + 1048576) h3 (by simpa using hk) (by omega) (by omega) (by omega)
    rw [model_Score_L0, r37_Score_L0, if_pos h1, if_pos h1, h2, bind_some', bind_some', weight_p n m x hv.asc hl hn, weight_r n m x hn, bind_some', bind_some', chk_pos (by omega), chk_pos (by omega), r1, r2, sc_cons, Int.add_assoc]
    exact ⟨rfl, rfl⟩
/-- the score of a derivation -/
def scD (l : List Weight) (d : Deriv) : Int := sc l (ftD d)
theorem Score_eq (n : Nat) (m : Model) (d : Deriv) (hv : okV m.Weights) (hl : m.Weights.length ≤ 4000000) (hs : szD d ≤ 1048576) (hn : 7000000 ≤ n) : model_Score n m d = some (scD m.Weights d) ∧ r37_Score n m d = some (scD m.Weights d) := by
  have h1 := ftD_len d
  unfold model_Score r37_Score
  rw [Features_p n d (by omega) hs, Features_r n d (by omega) hs, bind_some', bind_some']
  obtain ⟨r1, r2⟩ := Score_L0 n m hv (by omega) (by omega) (ftD d) (ftD d) n 0 0 0 rfl (by omega) (by omega) (by omega) (by omega)
  rw [r1, r2]
  simp [scD]
/-! derivations compared; the best one -/
def ci (a b : Int) : Int := if a < b then -1 else if b < a then 1 else 0
mutual
def cmD : Deriv → Deriv → Int
  | ⟨k, nm, f, t, ks⟩, b => if ci f b.From ≠ 0 then ci f b.From else if ci t b.To ≠ 0 then ci t b.To else if ci k b.Kind ≠ 0 then ci k b.Kind else if cs nm b.Name ≠ 0 then cs nm b.Name else cmL ks b.Kids
def cmL : List Deriv → List Deriv → Int
  | [], [] => 0
  | [], _ :: _ => -1
  | _ :: _, [] => 1
  | a :: s, b :: t => if cmD a b ≠ 0 then cmD a b else cmL s t
end
theorem cmD_eq (a b : Deriv) : cmD a b = if ci a.From b.From ≠ 0 then ci a.From b.From else if ci a.To b.To ≠ 0 then ci a.To b.To else if ci a.Kind b.Kind ≠ 0 then ci a.Kind b.Kind else if cs a.Name b.Name ≠ 0 then cs a.Name b.Name else cmL a.Kids b.Kids := by cases a; rfl
theorem cmL_cons (a b : Deriv) (s t : List Deriv) : cmL (a :: s) (b :: t) = if cmD a b ≠ 0 then cmD a b else cmL s t := rfl
theorem CmpI_eq (n : Nat) (a b : Int) : cmp_Compare_int n a b = some (ci a b) := by
  unfold cmp_Compare_int cmp_isNaN_int ci
  simp only [bind_some', ne_eq, not_true, decide_false, Bool.false_eq_true, if_false]
  split
  · rfl
  · split <;> rfl
theorem ints_eq (n : Nat) (a b : Int) : r28_ints n a b = some (ci a b) := by
  unfold r28_ints ci
  split
  · rfl
  · split <;> rfl
theorem Or_eq (n : Nat) (hn : 10 ≤ n) (a b c d : Int) : cmp_Or_int n [a, b, c, d] = some (if a ≠ 0 then a else if b ≠ 0 then b else if c ≠ 0 then c else d) := by
  obtain ⟨m, rfl⟩ : ∃ m, n = m + 5 := ⟨n - 5, by omega⟩
  unfold cmp_Or_int
  rw [cmp_Or_int_L0, if_pos (by simp), cmp_Or_int_L0, if_pos (by simp), cmp_Or_int_L0, if_pos (by simp), cmp_Or_int_L0, if_pos (by simp), cmp_Or_int_L0, if_neg (by simp)]
  simp only [List.getElem?_cons_zero, List.getElem?_cons_succ, Nat.zero_add, bind_some']
  by_cases h1 : a = 0
  · by_cases h2 : b = 0
    · by_cases h3 : c = 0
      · by_cases h4 : d = 0 <;> simp [h1, h2, h3, h4]
      · simp [h1, h2, h3]
    · simp [h1, h2]
  · simp [h1]
theorem CmpF_L0 (n : Nat) (s1 s2 : List Deriv) (f : Deriv × Deriv → Option Int) (hf : ∀ x ∈ s1, ∀ y, f (x, y) = some (cmD x y)) : ∀ (t : List Deriv) (m i : Nat), s1.drop i = t → t.length < m → i ≤ s1.length → i ≤ s2.length → slices_CompareFunc_Deriv_L0 n s1 s2 f (if s1.length < s2.length then some (-1) else some 0) m i = some (cmL t (s2.drop i))
  | [], m + 1, i, h, _, hi, hj => by
    have h1 := drop_nil' h
    rw [slices_CompareFunc_Deriv_L0, if_neg h1]
    by_cases q : s1.length < s2.length
    · rw [if_pos q]
      have : i < s2.length := by omega
      rw [List.drop_eq_getElem_cons this]
      rfl
    · rw [if_neg q, List.drop_of_length_le (by omega)]
      rfl
  | x :: t, m + 1, i, h, hm, hi, hj => by
    obtain ⟨h1, h2, h3⟩ := drop_cons h
    rw [slices_CompareFunc_Deriv_L0, if_pos h1, h2, bind_some']
    by_cases q : s2.length ≤ i
    · rw [if_pos q, List.drop_of_length_le q]
      rfl
    · have hq : i < s2.length := by omega
      obtain ⟨y, hy⟩ : ∃ y, s2[i]? = some y := ⟨_, List.getElem?_eq_getElem hq⟩
      have ed : s2.drop i = y :: s2.drop (i + 1) := by
        rw [List.drop_eq_getElem_cons hq]
        congr 1
        exact Option.some.inj ((List.getElem?_eq_getElem hq).symm.trans hy)
      rw [if_neg q, hy, bind_some', hf x (List.mem_of_getElem? h2), bind_some', CmpF_L0 n s1 s2 f hf t m (i + 1) h3 (by simpa using hm) (by omega) (by omega), ed, cmL_cons]
      split <;> rfl
theorem Cmp_p : ∀ (n : Nat) (a b : Deriv), szD a + 20 < n → deriv_Compare n a b = some (cmD a b)
  | 0, _, _, h => by omega
  | n + 1, a, b, h => by
    have h0 := szD_eq a
    have h1 := szL_len a.Kids
    have e : slices_CompareFunc_Deriv n a.Kids b.Kids (fun p => deriv_Compare n p.1 p.2) = some (cmL a.Kids b.Kids) := by
      unfold slices_CompareFunc_Deriv
      rw [jn_def, CmpF_L0 n a.Kids b.Kids (fun p => deriv_Compare n p.1 p.2) (fun x hx y => by
        have := szL_mem hx
        exact Cmp_p n x y (by omega)) a.Kids n 0 rfl (by omega) (Nat.zero_le _) (Nat.zero_le _)]
      rfl
    rw [deriv_Compare, CmpI_eq, CmpI_eq, CmpI_eq, CmpS_eq, bind_some', bind_some', bind_some', bind_some', Or_eq n (by omega), bind_some', e, bind_some', cmD_eq]
    by_cases q1 : ci a.From b.From = 0
    · by_cases q2 : ci a.To b.To = 0
      · by_cases q3 : ci a.Kind b.Kind = 0
        · by_cases q4 : cs a.Name b.Name = 0 <;> simp [q1, q2, q3, q4]
        · simp [q1, q2, q3]
      · simp [q1, q2]
    · simp [q1]
theorem rCmp_L0 (n : Nat) (a b : Deriv) (hl : a.Kids.length ≤ 100000000) (sf : Deriv → Deriv → Option Int) (hf : ∀ x ∈ a.Kids, ∀ y, sf x y = some (cmD x y)) : ∀ (t : List Deriv) (m i : Nat), a.Kids.drop i = t → t.length < m → i ≤ a.Kids.length → i ≤ b.Kids.length → r28_Compare_L0 n a b sf (some (ci (((a.Kids).length : Nat) : Int) (((b.Kids).length : Nat) : Int))) m i = some (cmL t (b.Kids.drop i))
  | [], m + 1, i, h, _, hi, hj => by
    have h1 := drop_nil' h
    rw [r28_Compare_L0, jn_def, if_neg h1]
    simp only [Bool.false_eq_true, if_false]
    by_cases q : i < b.Kids.length
    · rw [List.drop_eq_getElem_cons q]
      have : ci (((a.Kids).length : Nat) : Int) (((b.Kids).length : Nat) : Int) = -1 := by unfold ci; rw [if_pos (by omega)]
      rw [this]; rfl
    · rw [List.drop_of_length_le (by omega)]
      have : ci (((a.Kids).length : Nat) : Int) (((b.Kids).length : Nat) : Int) = 0 := by unfold ci; rw [if_neg (by omega), if_neg (by omega)]
      rw [this]; rfl
  | x :: t, m + 1, i, h, hm, hi, hj => by
    obtain ⟨h1, h2, h3⟩ := drop_cons h
    rw [r28_Compare_L0, jn_def, if_pos h1]
    by_cases q : i < b.Kids.length
    · obtain ⟨y, hy⟩ : ∃ y, b.Kids[i]? = some y := ⟨_, List.getElem?_eq_getElem q⟩
      have ed : b.Kids.drop i = y :: b.Kids.drop (i + 1) := by
        rw [List.drop_eq_getElem_cons q]
        congr 1
        exact Option.some.inj ((List.getElem?_eq_getElem q).symm.trans hy)
      simp only [q, decide_true, if_true, h2, bind_some', hy, hf x (List.mem_of_getElem? h2)]
      rw [chk_pos (by omega), rCmp_L0 n a b hl sf hf t m (i + 1) h3 (by simpa using hm) (by omega) (by omega), ed, cmL_cons]
      split <;> rfl
    · simp only [q, decide_false, Bool.false_eq_true, if_false]
      rw [List.drop_of_length_le (by omega)]
      have : ci (((a.Kids).length : Nat) : Int) (((b.Kids).length : Nat) : Int) = 1 := by unfold ci; rw [if_neg (by omega), if_pos (by omega)]
      rw [this]; rfl
theorem ci_zero {a b : Int} : ci a b = 0 ↔ a = b := by
  unfold ci
  constructor
  · intro h; split at h
    · omega
    · split at h <;> omega
  · intro h; rw [if_neg (by omega), if_neg (by omega)]
theorem Cmp_r : ∀ (n : Nat) (a b : Deriv), szD a + 20 < n → szD a ≤ 10000000 → r28_Compare n a b = some (cmD a b)
  | 0, _, _, h, _ => by omega
  | n + 1, a, b, h, hb => by
    have h0 := szD_eq a
    have h1 := szL_len a.Kids
    have e := rCmp_L0 n a b (by omega) (r28_Compare n) (fun x hx y => by
      have := szL_mem hx
      exact Cmp_r n x y (by omega) (by omega)) a.Kids n 0 rfl (by omega) (Nat.zero_le _) (Nat.zero_le _)
    rw [r28_Compare, ints_eq, ints_eq, ints_eq, ints_eq, bind_some', bind_some', bind_some', bind_some', jn_def, e, cmD_eq]
    by_cases q1 : a.From = b.From
    · by_cases q2 : a.To = b.To
      · by_cases q3 : a.Kind = b.Kind
        · by_cases q4 : a.Name = b.Name
          · simp [q1, q2, q3, q4, ci_zero.2, cs_zero.2]
          · have q5 : ¬ cs a.Name b.Name = 0 := fun z => q4 (cs_zero.1 z)
            simp only [q1, q2, q3, ci_zero.2, ne_eq, not_true, if_false, q4, not_false_eq_true, if_true, q5, bytesLess_eq, decide_eq_true_eq]
            unfold cs
            by_cases q6 : a.Name < b.Name
            · simp [q6]
            · have q7 : b.Name < a.Name := lt_of_le_ne q6 (fun z => q4 z.symm)
              simp [q6, q7]
        · have q5 : ¬ ci a.Kind b.Kind = 0 := fun z => q3 (ci_zero.1 z)
          simp [q1, q2, q3, ci_zero.2, q5]
      · have q5 : ¬ ci a.To b.To = 0 := fun z => q2 (ci_zero.1 z)
        simp [q1, q2, ci_zero.2, q5]
    · have q5 : ¬ ci a.From b.From = 0 := fun z => q1 (ci_zero.1 z)
      simp [q1, q5]
/-- the best one of some derivations, by their scores -/
def better (S : Deriv → Int) (d c : Deriv) : Prop := S c < S d ∨ (S d = S c ∧ cmD d c < 0)
instance (S : Deriv → Int) (d c : Deriv) : Decidable (better S d c) := inferInstanceAs (Decidable (_ ∨ _))
def bst (S : Deriv → Int) : List Deriv → Nat → Option (Nat × Deriv) → Option (Nat × Deriv)
  | [], _, c => c
  | d :: t, i, none => bst S t (i + 1) (some (i, d))
  | d :: t, i, some (j, c) => bst S t (i + 1) (if better S d c then some (i, d) else some (j, c))
def outI : Option (Nat × Deriv) → Int
  | none => -1
  | some (j, _) => (j : Int)
theorem Best_L0 (n : Nat) (m : Model) (l : List Deriv) (hv : okV m.Weights) (hl : m.Weights.length ≤ 4000000) (hs : ∀ d ∈ l, szD d ≤ 1048576) (hn : 7000000 ≤ n) : ∀ (t : List Deriv) (k i : Nat) (c : Option (Nat × Deriv)) (most : Int), l.drop i = t → t.length < k → (∀ j d, c = some (j, d) → l[j]? = some d ∧ most = scD m.Weights d) → model_Best_L0 n m l k (outI c) most i = some (outI (bst (scD m.Weights) t i c)) ∧ r37_Best_L0 n m l k (outI c) i = some (outI (bst (scD m.Weights) t i c))
  | [], k + 1, i, c, most, h, _, _ => by rw [model_Best_L0, if_neg (drop_nil' h), r37_Best_L0, if_neg (drop_nil' h)]; exact ⟨rfl, rfl⟩
  | x :: t, k + 1, i, c, most, h, hk, hc => by
    obtain ⟨h1, h2, h3⟩ := drop_cons h
    have hxs := hs x (List.mem_of_getElem? h2)
    obtain ⟨s1, s2⟩ := Score_eq n m x hv hl hxs hn
    rw [model_Best_L0, r37_Best_L0, if_pos h1, if_pos h1, h2, bind_some', s1, bind_some', jn_def]
    cases c with
    | none =>
      obtain ⟨r1, r2⟩ := Best_L0 n m l hv hl hs hn t k (i + 1) (some (i, x)) (scD m.Weights x) h3 (by simpa using hk) (fun j d e => by cases e; exact ⟨h2, rfl⟩)
      rw [if_pos (by show (-1 : Int) < 0; omega), if_pos (by show (-1 : Int) < 0; omega)]
      exact ⟨r1, r2⟩
    | some p =>
      obtain ⟨j, c⟩ := p
      obtain ⟨hj, rfl⟩ := hc j c rfl
      have hcs := hs c (List.mem_of_getElem? hj)
      obtain ⟨_, s4⟩ := Score_eq n m c hv hl hcs hn
      have e1 : outI (some (j, c)) = (j : Int) := rfl
      have hix : ix l (outI (some (j, c))) = some c := by rw [e1, ix_nat]; exact hj
      have hneg : ¬ outI (some (j, c)) < 0 := by rw [e1]; omega
      rw [if_neg hneg, if_neg hneg]
      simp only [bind_some', jn_def, s2, hix, s4, Cmp_p n x c (by omega), Cmp_r n x c (by omega) (by omega)]
      have eb : bst (scD m.Weights) (x :: t) i (some (j, c)) = bst (scD m.Weights) t (i + 1) (if better (scD m.Weights) x c then some (i, x) else some (j, c)) := rfl
      rw [eb]
      obtain ⟨r1, r2⟩ := Best_L0 n m l hv hl hs hn t k (i + 1) (some (i, x)) (scD m.Weights x) h3 (by simpa using hk) (fun j d e => by cases e; exact ⟨h2, rfl⟩)
      obtain ⟨r3, r4⟩ := Best_L0 n m l hv hl hs hn t k (i + 1) (some (j, c)) (scD m.Weights c) h3 (by simpa using hk) (fun j d e => by cases e; exact ⟨hj, rfl⟩)
      by_cases q1 : scD m.Weights c < scD m.Weights x
      · rw [if_pos q1, if_pos q1, if_pos (show better (scD m.Weights) x c from .inl q1)]
        exact ⟨r1, r2⟩
      · rw [if_neg q1, if_neg q1]
        by_cases q2 : scD m.Weights x = scD m.Weights c
        · rw [if_pos q2, if_pos q2]
          by_cases q3 : cmD x c < 0
          · rw [if_pos (show better (scD m.Weights) x c from .inr ⟨q2, q3⟩)]
            simp only [q3, decide_true, if_true]
            exact ⟨r1, r2⟩
          · rw [if_neg (show ¬ better (scD m.Weights) x c from fun z => by rcases z with z | z; exact q1 z; exact q3 z.2)]
            simp only [q3, decide_false, Bool.false_eq_true, if_false]
            exact ⟨r3, r4⟩
        · rw [if_neg q2, if_neg q2, if_neg (show ¬ better (scD m.Weights) x c from fun z => by rcases z with z | z; exact q1 z; exact q2 z.1)]
          simp only [Bool.false_eq_true, if_false]
          exact ⟨r3, r4⟩
theorem Best_eq (n : Nat) (m : Model) (l : List Deriv) (hv : okV m.Weights) (hl : m.Weights.length ≤ 4000000) (hs : szL l ≤ 1048576) (hn : 7000000 ≤ n) : model_Best n m l = some (outI (bst (scD m.Weights) l 0 none)) ∧ r37_Best n m l = some (outI (bst (scD m.Weights) l 0 none)) := by
  have := szL_len l
  exact Best_L0 n m l hv hl (fun d hd => by have := szL_mem hd; omega) hn l n 0 none 0 rfl (by omega) (fun j d e => by cases e)
theorem Light_L0 (n : Nat) (hn : 7000000 ≤ n) (l : List Deriv) (most : Int) (hm : most ≤ 1000 ∧ 0 ≤ most) : ∀ (t : List Deriv) (k i : Nat) (a : Int), l.drop i = t → t.length < k → 0 ≤ a → a + (szL t : Int) ≤ 100000000 → szL t ≤ 1048576 → i + t.length ≤ 100000000 → ∃ b, r37_Light_L0 n l most k a i = some b
  | [], k + 1, i, a, h, _, _, _, _, _ => by
    rw [r37_Light_L0, jn_def, if_neg (drop_nil' h)]
    exact ⟨_, rfl⟩
  | x :: t, k + 1, i, a, h, hk, ha, hb, hs, hi => by
    obtain ⟨h1, h2, h3⟩ := drop_cons h
    rw [szL_cons] at hb hs
    rw [List.length_cons] at hi
    rw [r37_Light_L0, jn_def, if_pos h1]
    by_cases q : a ≤ most
    · obtain ⟨v, v1, v2, v3⟩ := Nodes_some n x (most + 1) (by omega) (by omega) (by omega)
      obtain ⟨b, b1⟩ := Light_L0 n hn l most hm t k (i + 1) (a + v) h3 (by simpa using hk) (by omega) (by omega) (by omega) (by omega)
      simp only [q, decide_true, if_true, h2, bind_some', v1]
      rw [chk_pos (by omega), chk_pos (by omega), chk_pos (by omega)]
      exact ⟨b, b1⟩
    · simp only [q, decide_false, Bool.false_eq_true, if_false]
      exact ⟨_, rfl⟩
theorem Light_some (n : Nat) (hn : 7000000 ≤ n) (l : List Deriv) (most : Int) (hm : most ≤ 1000 ∧ 0 ≤ most) (hs : szL l ≤ 1048576) : ∃ b, r37_Light n l most = some b := by
  have := szL_len l
  exact Light_L0 n hn l most hm l n 0 0 rfl (by omega) (by omega) (by omega) hs (by omega)
/-! the order of derivations -/
def or2 (x y : Int) : Int := if x ≠ 0 then x else y
def TT (x y z : Int) : Prop := (x ≤ 0 → y ≤ 0 → z ≤ 0) ∧ (x ≤ 0 → y ≤ 0 → z = 0 → x = 0 ∧ y = 0) ∧ (x = 0 → y = 0 → z = 0)
theorem or2_TT {x y z x' y' z' : Int} (h : TT x y z) (h' : TT x' y' z') : TT (or2 x x') (or2 y y') (or2 z z') := by
  obtain ⟨a1, a2, a3⟩ := h
  obtain ⟨b1, b2, b3⟩ := h'
  unfold TT or2
  by_cases hx : x = 0
  · by_cases hy : y = 0
    · have hz := a3 hx hy
      simp only [hx, hy, hz, ne_eq, not_true, if_false]
      exact ⟨b1, b2, b3⟩
    · simp only [hx, hy, ne_eq, not_true, if_false, not_false_eq_true, if_true]
      by_cases hz : z = 0
      · refine ⟨fun p q => ?_, fun p q r => ?_, fun p q => q.elim⟩
        · exact absurd (a2 (by omega) q hz).2 hy
        · exact absurd (a2 (by omega) q hz).2 hy
      · simp only [hz, not_false_eq_true, if_true]
        exact ⟨fun p q => a1 (by omega) q, fun p q r => r.elim, fun p q => q.elim⟩
  · simp only [hx, ne_eq, not_false_eq_true, if_true]
    by_cases hz : z = 0
    · by_cases hy : y = 0
      · refine ⟨fun p q => ?_, fun p q r => ?_, fun p q => p.elim⟩
        · exact absurd (a2 p (by omega) hz).1 hx
        · exact absurd (a2 p (by omega) hz).1 hx
      · simp only [hy, not_false_eq_true, if_true]
        refine ⟨fun p q => ?_, fun p q r => ?_, fun p q => p.elim⟩
        · exact absurd (a2 p q hz).1 hx
        · exact absurd (a2 p q hz).1 hx
    · simp only [hz, not_false_eq_true, if_true]
      refine ⟨fun p q => ?_, fun p q r => r.elim, fun p q => p.elim⟩
      by_cases hy : y = 0
      · exact a1 p (by omega)
      · simp only [hy, not_false_eq_true, if_true] at q
        exact a1 p q
theorem or2_neg (x y : Int) : or2 (-x) (-y) = -or2 x y := by
  unfold or2
  by_cases h : x = 0
  · simp [h]
  · have : -x ≠ 0 := by omega
    simp [h, this]
theorem ci_TT (a b c : Int) : TT (ci a b) (ci b c) (ci a c) := by
  unfold TT ci
  refine ⟨?_, ?_, ?_⟩ <;> (repeat' split) <;> omega
theorem ci_neg (a b : Int) : ci b a = -ci a b := by
  unfold ci
  (repeat' split) <;> omega
theorem cs_le {a b : List UInt8} : cs a b ≤ 0 ↔ a ≤ b := by
  unfold cs
  by_cases h1 : a < b
  · rw [if_pos h1]; exact ⟨fun _ => List.le_of_lt h1, fun _ => by omega⟩
  · rw [if_neg h1]
    by_cases h2 : b < a
    · rw [if_pos h2]; exact ⟨fun q => absurd q (by omega), fun q => absurd h2 q⟩
    · rw [if_neg h2]; exact ⟨fun _ => h2, fun _ => by omega⟩
theorem cs_TT (a b c : List UInt8) : TT (cs a b) (cs b c) (cs a c) := by
  unfold TT
  rw [cs_le, cs_le, cs_le, cs_zero, cs_zero, cs_zero]
  refine ⟨fun p q => List.le_trans p q, fun p q r => ?_, fun p q => p.trans q⟩
  subst r
  have := List.le_antisymm p q
  exact ⟨this, this.symm⟩
theorem cs_anti (a b : List UInt8) : cs b a = -cs a b := by
  unfold cs
  by_cases h1 : a < b
  · have h2 : ¬ b < a := List.lt_asymm h1
    simp [h1, h2]
  · by_cases h2 : b < a <;> simp [h1, h2]
theorem cmD_or (a b : Deriv) : cmD a b = or2 (ci a.From b.From) (or2 (ci a.To b.To) (or2 (ci a.Kind b.Kind) (or2 (cs a.Name b.Name) (cmL a.Kids b.Kids)))) := cmD_eq a b
theorem cmL_or (a b : Deriv) (s t : List Deriv) : cmL (a :: s) (b :: t) = or2 (cmD a b) (cmL s t) := rfl
theorem TT_of {x y z : Int} (h : x = 0 ∧ y = z ∨ y = 0 ∧ x = z) : TT x y z := by
  unfold TT
  omega
mutual
theorem cmD_TT : ∀ (a b c : Deriv), TT (cmD a b) (cmD b c) (cmD a c)
  | ⟨k, nm, f, t, ks⟩, b, c => by
    rw [cmD_or, cmD_or b c, cmD_or ⟨k, nm, f, t, ks⟩ c]
    exact or2_TT (ci_TT _ _ _) (or2_TT (ci_TT _ _ _) (or2_TT (ci_TT _ _ _) (or2_TT (cs_TT _ _ _) (cmL_TT ks b.Kids c.Kids))))
theorem cmL_TT : ∀ (s t u : List Deriv), TT (cmL s t) (cmL t u) (cmL s u)
  | [], [], u => TT_of (.inl ⟨rfl, rfl⟩)
  | [], b :: t, [] => by show TT (-1) 1 0; unfold TT; omega
  | [], b :: t, c :: u => by
    show TT (-1) (cmL (b :: t) (c :: u)) (-1)
    unfold TT
    omega
  | a :: s, [], [] => by show TT 1 0 1; unfold TT; omega
  | a :: s, [], c :: u => by
    show TT 1 (-1) (cmL (a :: s) (c :: u))
    unfold TT
    omega
  | a :: s, b :: t, [] => by
    show TT (cmL (a :: s) (b :: t)) 1 1
    unfold TT
    omega
  | a :: s, b :: t, c :: u => by
    rw [cmL_or, cmL_or, cmL_or]
    exact or2_TT (cmD_TT a b c) (cmL_TT s t u)
end
mutual
theorem cmD_anti : ∀ (a b : Deriv), cmD b a = -cmD a b
  | ⟨k, nm, f, t, ks⟩, b => by
    rw [cmD_or, cmD_or ⟨k, nm, f, t, ks⟩ b, ← or2_neg, ← or2_neg, ← or2_neg, ← or2_neg]
    rw [ci_neg f b.From, ci_neg t b.To, ci_neg k b.Kind, cs_anti nm b.Name, cmL_anti ks b.Kids]
theorem cmL_anti : ∀ (s t : List Deriv), cmL t s = -cmL s t
  | [], [] => rfl
  | [], b :: t => rfl
  | a :: s, [] => rfl
  | a :: s, b :: t => by rw [cmL_or, cmL_or, ← or2_neg, cmD_anti a b, cmL_anti s t]
end
theorem cmD_self (a : Deriv) : cmD a a = 0 := by have := cmD_anti a a; omega
theorem better_neg {S : Deriv → Int} {c c0 d : Deriv} (h : better S c c0) (k : ¬ better S d c0) : S d < S c ∨ (S d = S c ∧ cmD c d < 0) := by
  have a1 := cmD_anti d c0
  obtain ⟨t1, t2, _⟩ := cmD_TT c c0 d
  unfold better at h k
  by_cases e : S d = S c
  · right
    refine ⟨e, ?_⟩
    have q1 : S c = S c0 ∧ cmD c c0 < 0 := by omega
    have q2 : 0 ≤ cmD d c0 := by omega
    have q3 := t1 (by omega) (by omega)
    by_cases q4 : cmD c d = 0
    · have := (t2 (by omega) (by omega) q4).1; omega
    · omega
  · left; omega
structure Bp (S : Deriv → Int) (l : List Deriv) (i j : Nat) (c : Deriv) : Prop where
  at_ : l[j]? = some c
  lt : j < i
  top : ∀ (q : Nat) (d : Deriv), q < i → l[q]? = some d → ¬ better S d c
  fst : ∀ (q : Nat) (d : Deriv), q < j → l[q]? = some d → S d = S c → cmD d c ≠ 0
theorem better_self (S : Deriv → Int) (c : Deriv) : ¬ better S c c := by
  have := cmD_self c
  unfold better
  omega
theorem bst_some (S : Deriv → Int) (l : List Deriv) : ∀ (t : List Deriv) (i j : Nat) (c : Deriv), l.drop i = t → i ≤ l.length → Bp S l i j c → ∃ j' c', bst S t i (some (j, c)) = some (j', c') ∧ Bp S l l.length j' c'
  | [], i, j, c, h, hi, hb => by
    have := drop_nil' h
    have e : i = l.length := by omega
    exact ⟨j, c, rfl, e ▸ hb⟩
  | x :: t, i, j, c, h, hi, hb => by
    obtain ⟨h1, h2, h3⟩ := drop_cons h
    unfold bst
    by_cases q : better S x c
    · rw [if_pos q]
      refine bst_some S l t (i + 1) i x h3 (by omega) ⟨h2, by omega, fun r d hr hd => ?_, fun r d hr hd he => ?_⟩
      · by_cases e : r = i
        · rw [e, h2] at hd; cases hd; exact better_self S _
        · have := better_neg q (hb.top r d (by omega) hd)
          have a1 := cmD_anti x d
          unfold better
          omega
      · have := better_neg q (hb.top r d hr hd)
        have a1 := cmD_anti x d
        omega
    · rw [if_neg q]
      refine bst_some S l t (i + 1) j c h3 (by omega) ⟨hb.at_, by have := hb.lt; omega, fun r d hr hd => ?_, hb.fst⟩
      by_cases e : r = i
      · rw [e, h2] at hd; cases hd; exact q
      · exact hb.top r d (by omega) hd
theorem bst_top (S : Deriv → Int) {l : List Deriv} (hl : l ≠ []) : ∃ j c, bst S l 0 none = some (j, c) ∧ Bp S l l.length j c := by
  cases l with
  | nil => exact absurd rfl hl
  | cons x t =>
    unfold bst
    exact bst_some S (x :: t) t 1 0 x rfl (by simp) ⟨rfl, by omega, fun q d hq hd => by
      have e : q = 0 := by omega
      rw [e] at hd; simp at hd; rw [← hd]; exact better_self S x, fun q d hq => by omega⟩
/-! the score is that of the parts -/
theorem sc_append (l : List Weight) (a b : List (List UInt8)) : sc l (a ++ b) = sc l a + sc l b := by simp [sc]
theorem sc_bound {l : List Weight} (h : okV l) : ∀ fs : List (List UInt8), -(1048576 * (fs.length : Int)) ≤ sc l fs ∧ sc l fs ≤ 1048576 * (fs.length : Int)
  | [] => by show -(1048576 * (0 : Int)) ≤ 0 ∧ (0 : Int) ≤ 1048576 * 0; omega
  | x :: t => by
    obtain ⟨a1, a2⟩ := sc_bound h t
    obtain ⟨b1, b2⟩ := wt_bound h x
    rw [sc_cons, List.length_cons]
    omega
theorem wt_cons {x : Weight} {t : List Weight} (hp : (x :: t).Pairwise (fun a b => a.Feature < b.Feature)) (s : List UInt8) : wt (x :: t) s = (if x.Feature = s then x.Value else 0) + wt t s := by
  obtain ⟨h1, h2⟩ := List.pairwise_cons.1 hp
  show (if x.Feature = s then x.Value else wt t s) = _
  by_cases e : x.Feature = s
  · rw [if_pos e, if_pos e, wt_out (fun w hw q => by have := h1 w hw; rw [q, e] at this; exact List.lt_irrefl _ this)]
    omega
  · rw [if_neg e, if_neg e]; omega
end Go.Proofs.YthgdajiipojnoaaGreatDoor
