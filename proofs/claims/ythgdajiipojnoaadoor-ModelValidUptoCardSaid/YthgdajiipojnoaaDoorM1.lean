/- Chapter 37: plain laws of features' forms -/
import Derived.Test.YthgdajiipojnoaaDoorB0
import Derived.Test.YthgdajiipojnoaaDoorA0
import Derived.Test.YthgdajiipojnoaaDoorGl15
import Derived.Test.YthgdajiipojnoaaDoorGl16
namespace Go.Proofs.YthgdajiipojnoaaDoor
open Go.Gl Go.Sort
set_option linter.unusedVariables false
set_option linter.unusedSimpArgs false
/-! names -/
def isLo (x : UInt8) : Prop := 97 ≤ x.toNat ∧ x.toNat ≤ 122
instance (x : UInt8) : Decidable (isLo x) := inferInstanceAs (Decidable (_ ∧ _))
def isDg (x : UInt8) : Prop := 48 ≤ x.toNat ∧ x.toNat ≤ 57
instance (x : UInt8) : Decidable (isDg x) := inferInstanceAs (Decidable (_ ∧ _))
def nmc (x : UInt8) : Prop := isLo x ∨ isDg x ∨ x.toNat = 45
instance (x : UInt8) : Decidable (nmc x) := inferInstanceAs (Decidable (_ ∨ _))
def namy (s : List UInt8) : Prop := ∀ x ∈ s, nmc x
instance (s : List UInt8) : Decidable (namy s) := inferInstanceAs (Decidable (∀ x ∈ s, nmc x))
def isName : List UInt8 → Prop
  | [] => False
  | x :: t => t.length ≤ 31 ∧ isLo x ∧ namy t
instance (s : List UInt8) : Decidable (isName s) := match s with
  | [] => inferInstanceAs (Decidable False)
  | x :: t => inferInstanceAs (Decidable (_ ∧ _))
theorem namy_cons (x : UInt8) (t : List UInt8) : namy (x :: t) ↔ nmc x ∧ namy t := by simp [namy]
theorem text_lower_eq (n : Nat) (c : Int) : text_lower n c = some (decide (97 ≤ c ∧ c ≤ 122)) := by
  unfold text_lower
  by_cases h1 : (97 : Int) ≤ c <;> by_cases h2 : c ≤ 122 <;> simp [h1, h2]
theorem text_digit_eq (n : Nat) (c : Int) : text_digit n c = some (decide (48 ≤ c ∧ c ≤ 57)) := by
  unfold text_digit
  by_cases h1 : (48 : Int) ≤ c <;> by_cases h2 : c ≤ 57 <;> simp [h1, h2]
theorem text_follows_L0_eq (n : Nat) (s : List UInt8) (f : Int → Option Bool) (hf : ∀ c, f c = some (decide (97 ≤ c ∧ c ≤ 122))) : ∀ (t : List UInt8) (m i : Nat), s.drop i = t → t.length < m → 0 < i → text_follows_L0 n s f m i = some (decide (namy t))
  | [], m + 1, i, h, _, _ => by
    rw [text_follows_L0, if_neg (drop_nil' h)]
    simp [namy]
  | x :: t, m + 1, i, h, hm, hi => by
    obtain ⟨h1, h2, h3⟩ := drop_cons h
    rw [text_follows_L0, if_pos h1]
    simp only [jn_def, hf, text_digit_eq, bind_some']
    have key := namy_cons x t
    have hi0 : ¬ i = 0 := by omega
    by_cases hx : x.toNat < 128
    · obtain ⟨e1, e2⟩ := rune_ascii h2 hx
      rw [e1, e2, text_follows_L0_eq n s f hf t m (i + 1) h3 (by simpa using hm) (by omega)]
      by_cases a1 : isLo x
      · have : (97 : Int) ≤ (x.toNat : Int) ∧ (x.toNat : Int) ≤ 122 := by unfold isLo at a1; omega
        simp [this, key, nmc, a1]
      · have q1 : ¬ ((97 : Int) ≤ (x.toNat : Int) ∧ (x.toNat : Int) ≤ 122) := by unfold isLo at a1; omega
        by_cases a2 : isDg x
        · have q2 : (48 : Int) ≤ (x.toNat : Int) ∧ (x.toNat : Int) ≤ 57 := by unfold isDg at a2; omega
          simp [q1, q2, hi0, key, nmc, a2]
        · have q2 : ¬ ((48 : Int) ≤ (x.toNat : Int) ∧ (x.toNat : Int) ≤ 57) := by unfold isDg at a2; omega
          by_cases a3 : x.toNat = 45
          · have q3 : ((x.toNat : Nat) : Int) = 45 := by omega
            simp [q1, q2, q3, hi0, key, nmc, a3]
          · have q3 : ((x.toNat : Nat) : Int) ≠ 45 := by omega
            simp [q1, q2, q3, hi0, key, nmc, a1, a2, a3]
    · obtain ⟨e1, e2⟩ := rune_other h2 (by omega)
      have q1 : ¬ ((97 : Int) ≤ runeAt s i ∧ runeAt s i ≤ 122) := by omega
      have q2 : ¬ ((48 : Int) ≤ runeAt s i ∧ runeAt s i ≤ 57) := by omega
      have q3 : runeAt s i ≠ 45 := by omega
      have : ¬ nmc x := by unfold nmc isLo isDg; omega
      simp [q1, q2, q3, hi0, key, this]
theorem text_Name_eq (n : Nat) (s : List UInt8) (hn : 40 ≤ n) : text_Name n s = some (decide (isName s)) := by
  unfold text_Name text_follows
  simp only [jn_def]
  cases s with
  | nil => simp; decide
  | cons x t =>
    rw [if_neg (by simp)]
    by_cases h2 : 32 < (x :: t).length
    · have : ¬ isName (x :: t) := fun h => by have := h.1; simp at h2; omega
      simp only [h2, decide_true, if_true, bind_some', this, decide_false]
    · rw [if_neg (by simpa using h2)]
      simp only [List.length_cons] at h2
      obtain ⟨m, rfl⟩ : ∃ m, n = m + 1 := ⟨n - 1, by omega⟩
      have hf : ∀ c, (fun p => text_lower (m + 1) p) c = some (decide (97 ≤ c ∧ c ≤ 122)) := fun c => text_lower_eq (m + 1) c
      generalize (fun p => text_lower (m + 1) p) = f at *
      rw [text_follows_L0, if_pos (by simp)]
      simp only [jn_def, hf, bind_some']
      have h0 : (x :: t)[0]? = some x := rfl
      by_cases hx : x.toNat < 128
      · obtain ⟨e1, e2⟩ := rune_ascii h0 hx
        rw [e1, e2, text_follows_L0_eq (m + 1) (x :: t) f hf t m (0 + 1) rfl (by omega) (by omega)]
        by_cases a1 : isLo x
        · have : (97 : Int) ≤ (x.toNat : Int) ∧ (x.toNat : Int) ≤ 122 := by unfold isLo at a1; omega
          have e : isName (x :: t) ↔ namy t := ⟨fun h => h.2.2, fun h => ⟨by omega, a1, h⟩⟩
          simp [this, e]
        · have q1 : ¬ ((97 : Int) ≤ (x.toNat : Int) ∧ (x.toNat : Int) ≤ 122) := by unfold isLo at a1; omega
          have e : ¬ isName (x :: t) := fun h => a1 h.2.1
          simp [q1, e]
      · obtain ⟨e1, e2⟩ := rune_other h0 (by omega)
        have q1 : ¬ ((97 : Int) ≤ runeAt (x :: t) 0 ∧ runeAt (x :: t) 0 ≤ 122) := by omega
        have e : ¬ isName (x :: t) := fun h => by have := h.2.1; unfold isLo at this; omega
        simp [q1, e]
theorem r01_digit_eq (n : Nat) (x : UInt8) : r01_digit n x = some (decide (isDg x)) := by
  unfold r01_digit isDg
  by_cases h1 : 48 ≤ x.toNat <;> by_cases h2 : x.toNat ≤ 57 <;> simp [h1, h2]
theorem r01_lower_eq (n : Nat) (x : UInt8) : r01_lower n x = some (decide (isLo x)) := by
  unfold r01_lower isLo
  by_cases h1 : 97 ≤ x.toNat <;> by_cases h2 : x.toNat ≤ 122 <;> simp [h1, h2]
theorem r01_part_eq (n : Nat) (x : UInt8) : r01_part n x false = some (decide (nmc x)) := by
  unfold r01_part nmc
  rw [r01_digit_eq, r01_lower_eq]
  by_cases h1 : isDg x <;> by_cases h2 : x.toNat = 45 <;> by_cases h3 : isLo x <;> simp [h1, h2, h3]
theorem r01_named_L0_eq (n : Nat) (s : List UInt8) : ∀ (t : List UInt8) (m i : Nat), s.drop i = t → t.length < m → r01_named_L0 n s false m i = some (decide (namy t))
  | [], m + 1, i, h, _ => by
    rw [r01_named_L0, if_neg (drop_nil' h)]
    simp [namy]
  | x :: t, m + 1, i, h, hm => by
    obtain ⟨h1, h2, h3⟩ := drop_cons h
    rw [r01_named_L0, if_pos h1, h2]
    simp only [bind_some', r01_part_eq]
    rw [r01_named_L0_eq n s t m (i + 1) h3 (by simpa using hm)]
    have key := namy_cons x t
    by_cases a : nmc x <;> simp [a, key]
theorem r01_Name_eq (n : Nat) (s : List UInt8) (hn : 40 ≤ n) : r01_Name n s = some (decide (isName s)) := by
  unfold r01_Name r01_named
  simp only [jn_def]
  cases s with
  | nil => simp; decide
  | cons x t =>
    rw [if_neg (by simp)]
    by_cases h2 : 32 < (x :: t).length
    · have : ¬ isName (x :: t) := fun h => by have := h.1; simp at h2; omega
      rw [if_pos h2]
      simp [this]
    · rw [if_neg h2]
      simp only [List.length_cons] at h2
      simp only [List.getElem?_cons_zero, bind_some', r01_digit_eq]
      rw [r01_named_L0_eq n (x :: t) (x :: t) n 0 rfl (by simp; omega)]
      have key := namy_cons x t
      by_cases a1 : isDg x
      · have : ¬ isName (x :: t) := fun h => by have := h.2.1; unfold isLo at this; unfold isDg at a1; omega
        simp [a1, this]
      by_cases a2 : x.toNat = 45
      · have : ¬ isName (x :: t) := fun h => by have := h.2.1; unfold isLo at this; omega
        simp [a1, a2, this]
      · have e : isName (x :: t) ↔ namy (x :: t) := by
          rw [key]
          constructor
          · rintro ⟨_, h1, h2⟩; exact ⟨.inl h1, h2⟩
          · rintro ⟨h1 | h1 | h1, h2⟩
            · exact ⟨by omega, h1, h2⟩
            · exact absurd h1 a1
            · exact absurd h1 a2
        simp [a1, a2, e]
/-! features: strings cut and split -/
def spl (c : UInt8) : List UInt8 → List (List UInt8)
  | [] => [[]]
  | x :: t => if x = c then [] :: spl c t else match spl c t with
    | [] => [[x]]
    | h :: r => (x :: h) :: r
theorem spl_len (c : UInt8) : ∀ t, (spl c t).length = t.count c + 1
  | [] => by simp [spl]
  | x :: t => by
    have ih := spl_len c t
    unfold spl
    by_cases h : x = c
    · simp [h, ih]
    · rw [if_neg h, List.count_cons_of_ne h]
      cases e : spl c t with
      | nil => rw [e] at ih; simp at ih
      | cons a r => rw [e] at ih; simpa using ih
theorem spl_none {c : UInt8} : ∀ {t : List UInt8}, c ∉ t → spl c t = [t]
  | [], _ => rfl
  | x :: t, h => by
    simp only [List.mem_cons, not_or] at h
    unfold spl
    rw [if_neg (fun e => h.1 e.symm), spl_none h.2]
theorem spl_pre {c : UInt8} : ∀ {p q : List UInt8}, c ∉ p → spl c (p ++ c :: q) = p :: spl c q
  | [], q, _ => by simp [spl]
  | x :: p, q, h => by
    simp only [List.mem_cons, not_or] at h
    show (if x = c then [] :: spl c (p ++ c :: q) else match spl c (p ++ c :: q) with
      | [] => [[x]]
      | h :: r => (x :: h) :: r) = (x :: p) :: spl c q
    rw [if_neg (fun e => h.1 e.symm), spl_pre h.2]
theorem index_cases (c : UInt8) : ∀ t : List UInt8, (c ∉ t ∧ Lib.indexByte t c = -1) ∨ ∃ p q, t = p ++ c :: q ∧ c ∉ p ∧ Lib.indexByte t c = (p.length : Int)
  | [] => .inl ⟨by simp, rfl⟩
  | x :: t => by
    unfold Lib.indexByte
    by_cases h : x = c
    · exact .inr ⟨[], t, by simp [h], by simp, by simp [h]⟩
    · rcases index_cases c t with ⟨h1, h2⟩ | ⟨p, q, h1, h2, h3⟩
      · refine .inl ⟨by simp only [List.mem_cons, not_or]; exact ⟨fun e => h e.symm, h1⟩, ?_⟩
        rw [h2]
        simp [h]
      · refine .inr ⟨x :: p, q, by rw [h1]; rfl, by simp only [List.mem_cons, not_or]; exact ⟨fun e => h e.symm, h2⟩, ?_⟩
        rw [h3]
        have : ¬ ((p.length : Int) = -1) := by omega
        simp [h, this]
theorem split_L0 (n : Nat) (c : UInt8) (s : List UInt8) (K : Nat) (z : Int) (hz : (if (((s).length + 1 : Nat) : Int) < z then (((s).length + 1 : Nat) : Int) else z) = (K : Int)) (k : List UInt8 → List (List UInt8) → Nat → Option (List (List UInt8))) : ∀ (m : Nat) (t : List UInt8) (arr : List (List UInt8)) (i : Nat), arr.length = K → t.count c + i + 1 = K → t.count c < m → t.length ≤ 1048576 → K ≤ 1048577 → ∃ t' arr', strings_genSplit_L0 n s [c] 0 z k m t arr i = k t' arr' (K - 1) ∧ arr'.length = K ∧ arr'.take (K - 1) ++ [t'] = arr.take i ++ spl c t
  | 0, _, _, _, _, _, h, _, _ => by omega
  | m + 1, t, arr, i, ha, hc, hm, hl, hK => by
    rcases index_cases c t with ⟨h1, h2⟩ | ⟨p, q, h1, h2, h3⟩
    · have h0 : t.count c = 0 := List.count_eq_zero.2 h1
      rw [strings_genSplit_L0, hz, if_neg (by omega)]
      refine ⟨t, arr, by rw [show K - 1 = i by omega], ha, ?_⟩
      rw [spl_none h1, show K - 1 = i by omega]
    · have hcq : t.count c = q.count c + 1 := by
        rw [h1, List.count_append, List.count_eq_zero.2 h2, List.count_cons_self]
        omega
      have hlen : t.length = p.length + q.length + 1 := by rw [h1, List.length_append, List.length_cons]; omega
      have hai : i < arr.length := by omega
      obtain ⟨y, hy⟩ : ∃ y, arr[i]? = some y := ⟨_, List.getElem?_eq_getElem hai⟩
      have e0 : strings_Index n t [c] = some (p.length : Int) := by show some (Lib.indexByte t c) = _; rw [h3]
      have e1 : ((p.length : Int) + 0).toNat = p.length := by omega
      have e2 : ((p.length : Int) + (([c].length : Nat) : Int)).toNat = p.length + 1 := by rw [List.length_singleton]; omega
      have e3 : t.drop (p.length + 1) = q := by rw [h1, List.drop_append, List.drop_of_length_le (by omega), show p.length + 1 - p.length = 1 by omega]; rfl
      have e4 : t.take p.length = p := by rw [h1, List.take_append_of_le_length (Nat.le_refl _), List.take_length]
      have step : strings_genSplit_L0 n s [c] 0 z k (m + 1) t arr i = strings_genSplit_L0 n s [c] 0 z k m q (arr.set i p) (i + 1) := by
        rw [strings_genSplit_L0, hz, if_pos (by omega), e0, bind_some', if_neg (by omega), chk_pos (by omega), chk_pos (by omega), e1, chk_pos (by omega), hy, bind_some', e2, chk_pos (by rw [List.length_singleton]; omega), chk_pos (by rw [List.length_singleton]; omega), chk_pos (by omega), chk_pos (by omega), e3, e4]
      rw [step]
      obtain ⟨t', arr', r1, r2, r3⟩ := split_L0 n c s K z hz k m q (arr.set i p) (i + 1) (by rw [List.length_set]; exact ha) (by omega) (by omega) (by omega) hK
      refine ⟨t', arr', r1, r2, ?_⟩
      rw [r3, h1, spl_pre h2, List.take_add_one, List.getElem?_set_self hai, List.take_set_of_le (Nat.le_refl _)]
      simp
theorem count_le (c : UInt8) (t : List UInt8) : t.count c ≤ t.length := List.count_le_length
theorem Split_eq (n : Nat) (c : UInt8) (s : List UInt8) (hs : s.length ≤ 1048576) (hn : 2000000 ≤ n) : strings_Split n s [c] = some (spl c s) := by
  have hc := count_le c s
  unfold strings_Split strings_genSplit
  have e0 : strings_Count n s [c] = some ((s.count c : Nat) : Int) := rfl
  rw [if_neg (by omega), if_neg (by simp), jn_def, if_pos (by omega), e0, bind_some', chk_pos (by omega)]
  have hz : (if (((s).length + 1 : Nat) : Int) < ((s.count c : Nat) : Int) + 1 then (((s).length + 1 : Nat) : Int) else ((s.count c : Nat) : Int) + 1) = ((s.count c + 1 : Nat) : Int) := by
    rw [if_neg (by omega)]; omega
  dsimp only
  rw [hz, chk_pos (by omega), chk_pos (by omega), Int.toNat_natCast, chk_pos (by omega), chk_pos (by omega), jn_def]
  obtain ⟨t', arr', r1, r2, r3⟩ := split_L0 n c s (s.count c + 1) (((s.count c : Nat) : Int) + 1) hz (fun (t_24 : (List UInt8)) (t_25 : (List (List UInt8))) (t_29 : Nat) =>
     (t_25[t_29]?).bind fun x54 =>
     chk (t_29 + 1 ≤ 9223372036854775807) (
     chk (t_29 + 1 ≤ ((t_25).set t_29 t_24).length) (
     some (((t_25).set t_29 t_24).take (t_29 + 1))))) n s (List.replicate (s.count c + 1) []) 0 (by simp) (by omega) (by omega) hs (by omega)
  rw [r1]
  rw [Nat.add_sub_cancel] at r3 ⊢
  have hlt : s.count c < arr'.length := by omega
  obtain ⟨y, hy⟩ : ∃ y, arr'[s.count c]? = some y := ⟨_, List.getElem?_eq_getElem hlt⟩
  simp only [hy, bind_some']
  rw [chk_pos (by omega), chk_pos (by rw [List.length_set]; omega), bind_some', List.take_add_one, List.getElem?_set_self hlt, List.take_set_of_le (Nat.le_refl _)]
  simpa using r3
theorem rsplit_L0 (n : Nat) (s : List UInt8) (hs : s.length ≤ 1048576) (k : List (List UInt8) → Nat → Option (List (List UInt8))) : ∀ (t : List UInt8) (m : Nat) (out : List (List UInt8)) (fr i : Nat), s.drop i = t → t.length < m → fr ≤ i → i ≤ s.length → out.length ≤ i → (32 : UInt8) ∉ (s.drop fr).take (i - fr) → ∃ out' fr', r37_Split_L0 n s k m out fr i = k out' fr' ∧ fr' ≤ s.length ∧ out'.length ≤ s.length ∧ out' ++ [s.drop fr'] = out ++ spl 32 (s.drop fr)
  | [], m + 1, out, fr, i, h, _, hf, hi, ho, hno => by
    have h1 := drop_nil' h
    rw [r37_Split_L0, if_neg h1]
    refine ⟨out, fr, rfl, by omega, by omega, ?_⟩
    rw [List.take_of_length_le (by rw [List.length_drop]; omega)] at hno
    rw [spl_none hno]
  | x :: t, m + 1, out, fr, i, h, hm, hf, hi, ho, hno => by
    obtain ⟨h1, h2, h3⟩ := drop_cons h
    rw [r37_Split_L0, if_pos h1, h2, bind_some']
    have hsp : (s.drop fr).take (i - fr) ++ x :: t = s.drop fr := by
      have h4 : (s.drop fr).drop (i - fr) = x :: t := by rw [List.drop_drop, show fr + (i - fr) = i by omega]; exact h
      rw [← h4, List.take_append_drop]
    by_cases e : x.toNat = 32
    · have ex : x = 32 := UInt8.toNat_inj.1 e
      rw [if_pos e, chk_pos ⟨hf, by omega⟩, chk_pos (by rw [List.length_singleton]; omega)]
      obtain ⟨out', fr', r1, r2, r3, r4⟩ := rsplit_L0 n s hs k t m (out ++ [(s.drop fr).take (i - fr)]) (i + 1) (i + 1) h3 (by simpa using hm) (by omega) (by omega) (by rw [List.length_append, List.length_singleton]; omega) (by simp)
      refine ⟨out', fr', r1, r2, r3, ?_⟩
      have e5 : spl 32 (s.drop fr) = (s.drop fr).take (i - fr) :: spl 32 t := by
        conv => lhs; rw [← hsp]
        rw [ex]
        exact spl_pre hno
      rw [r4, e5, h3]
      simp
    · have ex : x ≠ 32 := fun q => e (by rw [q]; rfl)
      rw [if_neg e]
      obtain ⟨out', fr', r1, r2, r3, r4⟩ := rsplit_L0 n s hs k t m out fr (i + 1) h3 (by simpa using hm) (by omega) (by omega) (by omega) (by
        rw [show i + 1 - fr = (i - fr) + 1 by omega, List.take_add_one, List.getElem?_drop, show fr + (i - fr) = i by omega, h2]
        simp only [Option.toList_some, List.mem_append, List.mem_singleton, not_or]
        exact ⟨hno, fun q => ex q.symm⟩)
      exact ⟨out', fr', r1, r2, r3, r4⟩
theorem rSplit_eq (n : Nat) (s : List UInt8) (hs : s.length ≤ 1048576) (hn : 2000000 ≤ n) : r37_Split n s = some (spl 32 s) := by
  unfold r37_Split
  rw [jn_def]
  obtain ⟨out', fr', r1, r2, r3, r4⟩ := rsplit_L0 n s hs (fun (out_4 : (List (List UInt8))) (from_8 : Nat) =>
  chk (from_8 ≤ (s).length) (
  chk ((out_4).length + ([(s).drop from_8]).length ≤ 137438953472) (
  some (out_4 ++ [(s).drop from_8])))) s n [] 0 0 rfl (by omega) (Nat.le_refl _) (Nat.zero_le _) (by simp) (by simp)
  rw [r1, chk_pos r2, chk_pos (by rw [List.length_singleton]; omega), r4]
  simp
theorem isName_nmc {s : List UInt8} (h : isName s) : ∀ x ∈ s, nmc x := by
  cases s with
  | nil => exact h.elim
  | cons a t =>
    obtain ⟨_, h1, h2⟩ := h
    intro x hx
    rcases List.mem_cons.1 hx with rfl | hx
    · exact .inl h1
    · exact h2 x hx
theorem isName_no {s : List UInt8} (h : isName s) {c : UInt8} (hc : ¬ nmc c) : c ∉ s := fun q => hc (isName_nmc h c q)
theorem no62 : ¬ nmc 62 := by decide
theorem no32 : ¬ nmc 32 := by decide
/-- the form of a feature -/
def isFeat (s : List UInt8) : Prop := isName s ∨ ∃ p q, s = p ++ 62 :: q ∧ isName p ∧ (spl 32 q).length ≤ 2 ∧ ∀ x ∈ spl 32 q, isName x
theorem feat_cut {p q : List UInt8} (hp : (62 : UInt8) ∉ p) : isFeat (p ++ 62 :: q) ↔ isName p ∧ (spl 32 q).length ≤ 2 ∧ ∀ x ∈ spl 32 q, isName x := by
  constructor
  · rintro (h | ⟨p', q', h1, h2, h3, h4⟩)
    · exact absurd (by simp) (isName_no h no62)
    · have hp' := isName_no h2 no62
      have key : ∀ (a b c d : List UInt8), (62 : UInt8) ∉ a → (62 : UInt8) ∉ c → a ++ 62 :: b = c ++ 62 :: d → a = c ∧ b = d := by
        intro a
        induction a with
        | nil =>
          intro b c d _ hc h
          cases c with
          | nil => simpa using h
          | cons y c => simp at h; simp [← h.1] at hc
        | cons x a ih =>
          intro b c d ha hc h
          cases c with
          | nil => simp at h; simp [h.1] at ha
          | cons y c =>
            simp at h ha hc
            obtain ⟨e1, e2⟩ := ih b c d ha.2 hc.2 h.2
            exact ⟨by rw [h.1, e1], e2⟩
      obtain ⟨rfl, rfl⟩ := key p q p' q' hp hp' h1
      exact ⟨h2, h3, h4⟩
  · rintro ⟨h1, h2, h3⟩
    exact .inr ⟨p, q, rfl, h1, h2, h3⟩
theorem feat_plain {s : List UInt8} (h : (62 : UInt8) ∉ s) : isFeat s ↔ isName s := by
  constructor
  · rintro (h1 | ⟨p, q, rfl, _⟩)
    · exact h1
    · exact absurd (by simp) h
  · exact .inl
theorem IndexS_L0 (n : Nat) (l : List (List UInt8)) (f : List UInt8 → Option Bool) (p : List UInt8 → Bool) (hf : ∀ x ∈ l, f x = some (p x)) : ∀ (t : List (List UInt8)) (m i : Nat), l.drop i = t → t.length < m → ∃ z, slices_IndexFunc_string_L0 n l f m i = some z ∧ (decide (0 ≤ z) = t.any p)
  | [], m + 1, i, h, _ => ⟨-1, by rw [slices_IndexFunc_string_L0, if_neg (drop_nil' h)], by simp⟩
  | x :: t, m + 1, i, h, hm => by
    obtain ⟨h1, h2, h3⟩ := drop_cons h
    rw [slices_IndexFunc_string_L0, if_pos h1, h2, bind_some', hf x (List.mem_of_getElem? h2), bind_some']
    by_cases e : p x = true
    · rw [if_pos e]
      exact ⟨_, rfl, by simp [e]⟩
    · rw [if_neg e]
      obtain ⟨z, r1, r2⟩ := IndexS_L0 n l f p hf t m (i + 1) h3 (by simpa using hm)
      exact ⟨z, r1, by rw [r2]; simp [e]⟩
theorem Cut_no (n : Nat) {s : List UInt8} (h : (62 : UInt8) ∉ s) : strings_Cut n s [62] = some (s, [], false) := by
  unfold strings_Cut stringslite_Cut
  have e0 : stringslite_Index n s [62] = some (Lib.indexByte s 62) := rfl
  rcases index_cases 62 s with ⟨h1, h2⟩ | ⟨p, q, h1, h2, h3⟩
  · rw [e0, bind_some', h2, if_neg (by omega)]
    rfl
  · exact absurd (by rw [h1]; simp) h
theorem Cut_yes (n : Nat) {p q : List UInt8} (h : (62 : UInt8) ∉ p) (hl : (p ++ 62 :: q).length ≤ 1048576) : strings_Cut n (p ++ 62 :: q) [62] = some (p, q, true) := by
  unfold strings_Cut stringslite_Cut
  have e0 : stringslite_Index n (p ++ 62 :: q) [62] = some (p.length : Int) := by
    show some (Lib.indexByte (p ++ 62 :: q) 62) = _
    rcases index_cases 62 (p ++ 62 :: q) with ⟨h1, h2⟩ | ⟨p', q', h1, h2, h3⟩
    · exact absurd (by simp) h1
    · rw [h3]
      have key : ∀ (a b c d : List UInt8), (62 : UInt8) ∉ a → (62 : UInt8) ∉ c → a ++ 62 :: b = c ++ 62 :: d → a.length = c.length := by
        intro a
        induction a with
        | nil =>
          intro b c d _ hc h
          cases c with
          | nil => rfl
          | cons y c => simp at h; simp [← h.1] at hc
        | cons x a ih =>
          intro b c d ha hc h
          cases c with
          | nil => simp at h; simp [h.1] at ha
          | cons y c =>
            simp at h ha hc
            simp [ih b c d ha.2 hc.2 h.2]
      rw [key p q p' q' h h2 h1]
  have hlen : (p ++ 62 :: q).length = p.length + q.length + 1 := by rw [List.length_append, List.length_cons]; omega
  have e2 : ((p.length : Int) + ((([62] : List UInt8).length : Nat) : Int)).toNat = p.length + 1 := by rw [List.length_singleton]; omega
  have e3 : (p ++ 62 :: q).drop (p.length + 1) = q := by rw [List.drop_append, List.drop_of_length_le (by omega), show p.length + 1 - p.length = 1 by omega]; rfl
  have e4 : (p ++ 62 :: q).take p.length = p := by rw [List.take_append_of_le_length (Nat.le_refl _), List.take_length]
  rw [e0, bind_some', if_pos (by omega), chk_pos (by omega), Int.toNat_natCast, chk_pos (by omega), chk_pos (by rw [List.length_singleton]; omega), e2, chk_pos (by rw [List.length_singleton]; omega), chk_pos (by omega), e3, e4]
  rfl
theorem ContainsS_eq (n : Nat) (l : List (List UInt8)) (f : List UInt8 → Option Bool) (p : List UInt8 → Bool) (hf : ∀ x ∈ l, f x = some (p x)) (hn : l.length < n) : slices_ContainsFunc_string n l f = some (l.any p) := by
  obtain ⟨z, z1, z2⟩ := IndexS_L0 n l f p hf l n 0 rfl hn
  unfold slices_ContainsFunc_string slices_IndexFunc_string
  rw [z1, bind_some', z2]
theorem feature_1 (n : Nat) (x : List UInt8) (hn : 40 ≤ n) : model_feature_1 n x = some (!decide (isName x)) := by
  unfold model_feature_1
  rw [text_Name_eq n x hn]
  rfl
theorem feature_p (n : Nat) (s : List UInt8) (hs : s.length ≤ 1048576) (hn : 2000000 ≤ n) : ∃ b, model_feature n s = some b ∧ (b = true ↔ isFeat s) := by
  by_cases h : (62 : UInt8) ∈ s
  · obtain ⟨p, q, rfl, hp⟩ : ∃ p q, s = p ++ 62 :: q ∧ (62 : UInt8) ∉ p := by
      rcases index_cases 62 s with ⟨h1, h2⟩ | ⟨p, q, h1, h2, h3⟩
      · exact absurd h h1
      · exact ⟨p, q, h1, h2⟩
    have hl := spl_len 32 q
    have hc := count_le 32 q
    have hq : q.length ≤ 1048576 := by rw [List.length_append, List.length_cons] at hs; omega
    have e1 := Split_eq n 32 q hq hn
    have e2 := text_Name_eq n p (by omega)
    have e3 := ContainsS_eq n (spl 32 q) (fun p => model_feature_1 n p) (fun x => !decide (isName x)) (fun x _ => feature_1 n x (by omega)) (by omega)
    rw [feat_cut hp]
    unfold model_feature
    rw [Cut_yes n hp hs, bind_some']
    dsimp only
    rw [e1, bind_some', e2, bind_some', e3, bind_some', if_neg (by simp)]
    by_cases a1 : isName p
    · rw [if_pos (by simpa using a1)]
      by_cases a2 : (spl 32 q).length ≤ 2
      · rw [if_pos a2]
        refine ⟨_, rfl, ?_⟩
        simp [a1, a2]
      · rw [if_neg a2]
        exact ⟨false, rfl, by simp [a2]⟩
    · rw [if_neg (by simpa using a1)]
      exact ⟨false, rfl, by simp [a1]⟩
  · unfold model_feature
    rw [Cut_no n h, bind_some']
    dsimp only
    rw [if_pos (by rfl), text_Name_eq n s (by omega), bind_some']
    exact ⟨_, rfl, by rw [decide_eq_true_eq, feat_plain h]⟩
theorem rfeat_L1 (n : Nat) (l : List (List UInt8)) (hn : 2000000 ≤ n) : ∀ (t : List (List UInt8)) (m i : Nat), l.drop i = t → t.length < m → r37_feature_L1 n l m i = some (decide (∀ x ∈ t, isName x))
  | [], m + 1, i, h, _ => by rw [r37_feature_L1, if_neg (drop_nil' h)]; simp
  | x :: t, m + 1, i, h, hm => by
    obtain ⟨h1, h2, h3⟩ := drop_cons h
    rw [r37_feature_L1, if_pos h1, h2, bind_some', r01_Name_eq n x (by omega), bind_some', rfeat_L1 n l hn t m (i + 1) h3 (by simpa using hm)]
    by_cases e : isName x <;> simp [e]
theorem rfeat_L0 (n : Nat) (s : List UInt8) (hs : s.length ≤ 1048576) (hn : 2000000 ≤ n) : ∀ (t : List UInt8) (m i : Nat), s.drop i = t → t.length < m → (62 : UInt8) ∉ s.take i → ∃ b, r37_feature_L0 n s m i = some b ∧ (b = true ↔ 62 ∈ s ∧ isFeat s)
  | [], m + 1, i, h, _, hno => by
    have h1 := drop_nil' h
    rw [r37_feature_L0, if_neg h1]
    rw [List.take_of_length_le (by omega)] at hno
    exact ⟨false, rfl, by simp [hno]⟩
  | x :: t, m + 1, i, h, hm, hno => by
    obtain ⟨h1, h2, h3⟩ := drop_cons h
    rw [r37_feature_L0, if_pos h1, h2, bind_some']
    by_cases e : x.toNat ≠ 62
    · rw [if_pos e]
      refine rfeat_L0 n s hs hn t m (i + 1) h3 (by simpa using hm) ?_
      rw [List.take_add_one, h2]
      simp only [Option.toList_some, List.mem_append, List.mem_singleton, not_or]
      exact ⟨hno, fun q => e (by rw [← q]; rfl)⟩
    · have ex : x = 62 := UInt8.toNat_inj.1 (by simpa using e)
      have hsp : s = s.take i ++ 62 :: t := by rw [← ex, ← h, List.take_append_drop]
      have hm62 : (62 : UInt8) ∈ s := by rw [hsp]; simp
      rw [if_neg e, chk_pos (by omega), h3, rSplit_eq n t (by have := congrArg List.length h3; rw [List.length_drop] at this; omega) hn, bind_some', jn_def, chk_pos (by omega), r01_Name_eq n _ (by omega), bind_some']
      have hl := spl_len 32 t
      have hc := count_le 32 t
      have ht : t.length ≤ 1048576 := by have := congrArg List.length h3; rw [List.length_drop] at this; omega
      have hF : isFeat s ↔ isName (s.take i) ∧ (spl 32 t).length ≤ 2 ∧ ∀ x ∈ spl 32 t, isName x := by
        conv => lhs; rw [hsp]
        exact feat_cut hno
      rw [rfeat_L1 n (spl 32 t) hn (spl 32 t) n 0 rfl (by omega), hF]
      simp only [hm62, true_and]
      by_cases a1 : isName (s.take i)
      · by_cases a2 : 2 < (spl 32 t).length
        · simp only [a1, a2, decide_true, Bool.not_true, Bool.false_eq_true, if_false, if_true, true_and]
          exact ⟨false, rfl, by simp; omega⟩
        · simp only [a1, a2, decide_true, decide_false, Bool.not_true, Bool.false_eq_true, if_false, true_and]
          exact ⟨_, rfl, by rw [decide_eq_true_eq]; exact ⟨fun q => ⟨by omega, q⟩, fun q => q.2⟩⟩
      · simp only [a1, decide_false, Bool.not_false, if_true, false_and]
        exact ⟨false, rfl, by simp⟩
theorem feature_r (n : Nat) (s : List UInt8) (hs : s.length ≤ 1048576) (hn : 2000000 ≤ n) : ∃ b, r37_feature n s = some b ∧ (b = true ↔ isFeat s) := by
  unfold r37_feature
  rw [r01_Name_eq n s (by omega), bind_some']
  by_cases h : isName s
  · simp only [h, decide_true, if_true]
    exact ⟨true, rfl, by simp [isFeat, h]⟩
  · simp only [h, decide_false, Bool.false_eq_true, if_false]
    obtain ⟨b, b1, b2⟩ := rfeat_L0 n s hs hn s n 0 rfl (by omega) (by simp)
    refine ⟨b, b1, b2.trans ⟨fun q => q.2, fun q => ⟨?_, q⟩⟩⟩
    rcases q with q | ⟨p, q', rfl, _⟩
    · exact absurd q h
    · simp
end Go.Proofs.YthgdajiipojnoaaDoor
