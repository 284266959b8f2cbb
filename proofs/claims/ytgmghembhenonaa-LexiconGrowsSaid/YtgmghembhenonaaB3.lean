/- Chapter 24: forms -/
import Derived.Test.YtgmghembhenonaaB2
namespace Go.Proofs.Ytgmghembhenonaa
open Go.Gl
set_option linter.unusedVariables false
set_option linter.unusedSimpArgs false
/-! lexicon: the form that an analysis names -/
def formR (r : List LexRule) : List Int → List (List UInt8) → Option (List (List UInt8))
  | [], l => some l
  | i :: t, l => (ix r i).bind fun x => (wordsA x.Affix l).bind fun l' => formR r t l'
def formS (e : List Entry) (r : List LexRule) (a : Analysis) : Option (List (List UInt8)) := if 2 < a.Rules.length then none else (ix e a.Entry).bind fun x => formR r a.Rules x.Words
theorem replS_len (k : Int) (w a b : List UInt8) : (replS k w a b).length ≤ w.length + b.length := by
  unfold replS
  split <;> simp <;> omega
theorem applyP_len (k : Int) (w v : List UInt8) : ∀ (ps : List Change), (∀ p ∈ ps, p.New.length ≤ 100) → applyP k w ps = some v → v.length ≤ w.length + 100
  | [], _, h => by simp [applyP] at h
  | p :: t, hp, h => by
    unfold applyP at h
    split at h
    · split at h
      · injection h with h
        have := replS_len k w p.Old p.New
        have := hp p (by simp)
        rw [← h]; omega
      · cases h
    · exact applyP_len k w v t (fun q hq => hp q (by simp [hq])) h
theorem applyS_len (a : Affix) (w v : List UInt8) (ha : lightA a) (h : applyS a w = some v) : v.length ≤ w.length + 100 := by
  unfold applyS at h
  split at h
  · injection h with h; rw [← h]; omega
  · exact applyP_len a.Kind w v a.Pairs (fun p hp => (ha.2 p hp).2) h
theorem wordsA_inv (a : Affix) (l l' : List (List UInt8)) (B : Nat) (ha : lightA a) (hl : ∀ w ∈ l, w.length ≤ B) (h : wordsA a l = some l') : l'.length = l.length ∧ ∀ w ∈ l', w.length ≤ B + 100 := by
  unfold wordsA at h
  split at h
  · injection h with h
    subst h
    exact ⟨rfl, fun w hw => by have := hl w hw; omega⟩
  · split at h
    · rename_i x hx
      cases hA : applyS a x with
      | none => simp [hA] at h
      | some v =>
        simp only [hA, Option.map_some, Option.some.injEq] at h
        subst h
        refine ⟨by simp, fun w hw => ?_⟩
        rcases List.mem_or_eq_of_mem_set hw with hw | rfl
        · have := hl w hw; omega
        · have := applyS_len a x w ha hA
          have := hl x (List.mem_of_getElem? hx)
          omega
    · cases h
theorem lightR_ix {r : List LexRule} {i : Int} {x : LexRule} (h : lightR r) (hx : ix r i = some x) : lightA x.Affix ∧ kindOk x.Affix := h x (List.mem_of_getElem? (ix_some hx).1)
theorem ix_in {α : Type} (r : List α) (i : Int) (h0 : ¬ i < 0) (h1 : ¬ ((r.length : Nat) : Int) ≤ i) : ∃ x, ix r i = some x := by
  refine ⟨r[i.toNat]'(by omega), ?_⟩
  unfold ix
  rw [if_pos (by omega), List.getElem?_eq_getElem]
theorem ix_neg {α : Type} (r : List α) (i : Int) (h0 : i < 0) : ix r i = none := by
  unfold ix
  rw [if_neg (by omega)]
theorem ix_big {α : Type} (r : List α) (i : Int) (h0 : ((r.length : Nat) : Int) ≤ i) : ix r i = none := by
  unfold ix
  split
  · exact List.getElem?_eq_none (by omega)
  · rfl
theorem lexicon_Form_L0_eq (n : Nat) (r : List LexRule) (a : Analysis) (hn : 1000 ≤ n) (hr : lightR r) : ∀ (t : List Int) (m i : Nat) (l : List (List UInt8)) (B : Nat), a.Rules.drop i = t → t.length < m → l ≠ [] → l.length ≤ 1000000 → (∀ w ∈ l, w.length ≤ B) → B + 100 * t.length ≤ 1000000 → lexicon_Form_L0 n r a m l i = some (enc [] (formR r t l))
  | [], m + 1, i, l, B, h, _, _, _, _, _ => by
    rw [lexicon_Form_L0, if_neg (drop_nil' h)]
    rfl
  | x :: t, m + 1, i, l, B, h, hm, l0, l1, l2, hB => by
    obtain ⟨h1, h2, h3⟩ := drop_cons h
    simp only [List.length_cons] at hB
    rw [lexicon_Form_L0, if_pos h1, h2]
    simp only [bind_some', jn_def, formR]
    by_cases a1 : x < 0
    · rw [if_pos a1, if_pos trivial, ix_neg r x a1]
      rfl
    rw [if_neg a1]
    by_cases a2 : ((r.length : Nat) : Int) ≤ x
    · rw [if_pos (by simpa using a2), ix_big r x a2]
      rfl
    rw [if_neg (by simpa using a2)]
    obtain ⟨y, hy⟩ := ix_in r x a1 a2
    obtain ⟨y1, y2⟩ := lightR_ix hr hy
    simp only [hy, bind_some']
    rw [affix_Words_eq n y.Affix l hn l0 l1 (fun w hw => by have := l2 w hw; omega) y1]
    cases hW : wordsA y.Affix l with
    | none => simp [enc]
    | some l' =>
      obtain ⟨g1, g2⟩ := wordsA_inv y.Affix l l' B y1 l2 hW
      simp only [bind_some', enc, Bool.not_true, Bool.false_eq_true, if_false, Option.bind_some]
      exact lexicon_Form_L0_eq n r a hn hr t m (i + 1) l' (B + 100) h3 (by simpa using hm) (fun e => l0 (List.length_eq_zero_iff.1 (by rw [← g1, e]; rfl))) (by omega) g2 (by omega)
theorem okE_len {x : Entry} (h : okE x) : x.Words.length ≤ 1000000 ∧ ∀ w ∈ x.Words, w.length ≤ 32 := ⟨by have := h.2.1; omega, fun w hw => (h.2.2 w hw).2.1⟩
theorem lexicon_Form_eq (n : Nat) (e : List Entry) (r : List LexRule) (a : Analysis) (hn : 1000 ≤ n) (he : ∀ x ∈ e, okE x) (hr : lightR r) : lexicon_Form n e r a = some (enc [] (formS e r a)) := by
  unfold lexicon_Form formS
  simp only [jn_def]
  by_cases a1 : a.Entry < 0
  · rw [if_pos a1, if_pos trivial, ix_neg e _ a1]
    simp [enc]
  rw [if_neg a1]
  by_cases a2 : ((e.length : Nat) : Int) ≤ a.Entry
  · rw [if_pos a2, if_pos trivial, ix_big e _ a2]
    simp [enc]
  rw [if_neg a2]
  by_cases a3 : 2 < a.Rules.length
  · rw [if_pos (by simpa using a3), if_pos a3]
    rfl
  rw [if_neg (by simpa using a3), if_neg a3]
  obtain ⟨y, hy⟩ := ix_in e _ a1 a2
  have hk := he y (List.mem_of_getElem? (ix_some hy).1)
  simp only [hy, bind_some', Option.bind_some]
  exact lexicon_Form_L0_eq n r a hn hr a.Rules n 0 y.Words 32 rfl (by omega) hk.1 (okE_len hk).1 (okE_len hk).2 (by omega)
theorem r24_Form_L1_eq (n : Nat) (r : List LexRule) (a : Analysis) (hn : 1000 ≤ n) (hr : lightR r) : ∀ (t : List Int) (m i : Nat) (l : List (List UInt8)) (B : Nat), (∀ x ∈ t, (ix r x).isSome) → a.Rules.drop i = t → t.length < m → l ≠ [] → l.length ≤ 1000000 → (∀ w ∈ l, w.length ≤ B) → B + 100 * t.length ≤ 1000000 → r24_Form_L1 n r a m l i = some (enc [] (formR r t l))
  | [], m + 1, i, l, B, _, h, _, _, _, _, _ => by
    rw [r24_Form_L1, if_neg (drop_nil' h)]
    rfl
  | x :: t, m + 1, i, l, B, hs, h, hm, l0, l1, l2, hB => by
    obtain ⟨h1, h2, h3⟩ := drop_cons h
    simp only [List.length_cons] at hB
    obtain ⟨y, hy⟩ := Option.isSome_iff_exists.1 (hs x (by simp))
    obtain ⟨y1, y2⟩ := lightR_ix hr hy
    rw [r24_Form_L1, if_pos h1, h2]
    simp only [bind_some', formR, hy, Option.bind_some]
    rw [r23_Words_eq n y.Affix l hn l0 l1 (fun w hw => by have := l2 w hw; omega) y1 y2]
    cases hW : wordsA y.Affix l with
    | none => simp [enc]
    | some l' =>
      obtain ⟨g1, g2⟩ := wordsA_inv y.Affix l l' B y1 l2 hW
      simp only [bind_some', enc, Bool.not_true, Bool.false_eq_true, if_false, Option.bind_some]
      exact r24_Form_L1_eq n r a hn hr t m (i + 1) l' (B + 100) (fun z hz => hs z (by simp [hz])) h3 (by simpa using hm) (fun e => l0 (List.length_eq_zero_iff.1 (by rw [← g1, e]; rfl))) (by omega) g2 (by omega)
theorem r24_Form_L0_eq (n : Nat) (r : List LexRule) (a : Analysis) (k : Option ((List (List UInt8)) × Bool)) : ∀ (t : List Int) (m i : Nat), a.Rules.drop i = t → t.length < m → r24_Form_L0 n r a k m i = if ∀ x ∈ t, (ix r x).isSome then k else some ([], false)
  | [], m + 1, i, h, _ => by
    rw [r24_Form_L0, if_neg (drop_nil' h)]
    simp
  | x :: t, m + 1, i, h, hm => by
    obtain ⟨h1, h2, h3⟩ := drop_cons h
    rw [r24_Form_L0, if_pos h1]
    simp only [jn_def, h2, bind_some']
    rw [r24_Form_L0_eq n r a k t m (i + 1) h3 (by simpa using hm)]
    by_cases a1 : x < 0
    · rw [if_pos a1, if_pos trivial, if_neg (fun h => by have := h x (by simp); rw [ix_neg r x a1] at this; cases this)]
    rw [if_neg a1]
    by_cases a2 : ((r.length : Nat) : Int) ≤ x
    · rw [if_pos (by simpa using a2), if_neg (fun h => by have := h x (by simp); rw [ix_big r x a2] at this; cases this)]
    rw [if_neg (by simpa using a2)]
    obtain ⟨y, hy⟩ := ix_in r x a1 a2
    simp [hy]
theorem formR_bad (r : List LexRule) : ∀ (t : List Int) (l : List (List UInt8)), (¬ ∀ x ∈ t, (ix r x).isSome) → formR r t l = none
  | [], l, h => absurd (by simp) h
  | x :: t, l, h => by
    unfold formR
    cases hx : ix r x with
    | none => rfl
    | some y =>
      simp only [Option.bind_some]
      cases wordsA y.Affix l with
      | none => rfl
      | some l' =>
        exact formR_bad r t l' (fun h' => h (fun z hz => by
          rcases List.mem_cons.1 hz with rfl | hz
          · rw [hx]; rfl
          · exact h' z hz))
theorem r24_Form_eq (n : Nat) (e : List Entry) (r : List LexRule) (a : Analysis) (hn : 1000 ≤ n) (he : ∀ x ∈ e, okE x) (hr : lightR r) : r24_Form n e r a = some (enc [] (formS e r a)) := by
  unfold r24_Form formS
  simp only [jn_def]
  by_cases a1 : a.Entry < 0
  · rw [if_pos a1, if_pos trivial, ix_neg e _ a1]
    simp [enc]
  rw [if_neg a1]
  by_cases a2 : ((e.length : Nat) : Int) ≤ a.Entry
  · rw [if_pos a2, if_pos trivial, ix_big e _ a2]
    simp [enc]
  rw [if_neg a2]
  by_cases a3 : 2 < a.Rules.length
  · rw [if_pos (by simpa using a3), if_pos a3]
    rfl
  rw [if_neg (by simpa using a3), if_neg a3]
  obtain ⟨y, hy⟩ := ix_in e _ a1 a2
  have hk := he y (List.mem_of_getElem? (ix_some hy).1)
  rw [r24_Form_L0_eq n r a _ a.Rules n 0 rfl (by omega)]
  simp only [hy, bind_some', Option.bind_some]
  by_cases a4 : ∀ x ∈ a.Rules, (ix r x).isSome
  · rw [if_pos a4, chk_true (by have := (okE_len hk).1; omega), r24_Form_L1_eq n r a hn hr a.Rules n 0 y.Words 32 a4 rfl (by omega) hk.1 (okE_len hk).1 (okE_len hk).2 (by omega)]
  · rw [if_neg a4, formR_bad r _ _ a4]
    rfl
theorem formR_inv (r : List LexRule) (hr : lightR r) : ∀ (t : List Int) (l l' : List (List UInt8)) (B : Nat), (∀ w ∈ l, w.length ≤ B) → formR r t l = some l' → l'.length = l.length ∧ ∀ w ∈ l', w.length ≤ B + 100 * t.length
  | [], l, l', B, hl, h => by
    unfold formR at h
    injection h with h
    subst h
    exact ⟨rfl, fun w hw => by have := hl w hw; omega⟩
  | x :: t, l, l', B, hl, h => by
    unfold formR at h
    cases hx : ix r x with
    | none => simp [hx] at h
    | some y =>
      cases hW : wordsA y.Affix l with
      | none => simp [hx, hW] at h
      | some l1 =>
        simp only [hx, hW, Option.bind_some] at h
        obtain ⟨g1, g2⟩ := wordsA_inv y.Affix l l1 B (lightR_ix hr hx).1 hl hW
        obtain ⟨k1, k2⟩ := formR_inv r hr t l1 l' (B + 100) g2 h
        refine ⟨by omega, fun w hw => ?_⟩
        have := k2 w hw
        simp only [List.length_cons]
        omega
theorem formS_inv (e : List Entry) (r : List LexRule) (a : Analysis) (l : List (List UInt8)) (he : ∀ x ∈ e, okE x) (hr : lightR r) (h : formS e r a = some l) : a.Rules.length ≤ 2 ∧ (∀ x ∈ a.Rules, (ix r x).isSome) ∧ ∃ y, ix e a.Entry = some y ∧ l.length = y.Words.length ∧ l.length ≤ 4 ∧ ∀ w ∈ l, w.length ≤ 300 := by
  unfold formS at h
  split at h
  · cases h
  cases hy : ix e a.Entry with
  | none => simp [hy] at h
  | some y =>
    simp only [hy, Option.bind_some] at h
    have hk := he y (List.mem_of_getElem? (ix_some hy).1)
    obtain ⟨g1, g2⟩ := formR_inv r hr a.Rules y.Words l 32 (okE_len hk).2 h
    refine ⟨by omega, ?_, y, rfl, g1, by have := hk.2.1; omega, fun w hw => by have := g2 w hw; omega⟩
    by_cases a4 : ∀ x ∈ a.Rules, (ix r x).isSome
    · exact a4
    · rw [formR_bad r _ _ a4] at h
      cases h
theorem law24_LexiconForms_true (e : List Entry) (r : List LexRule) (a : Analysis) : law24_LexiconForms 100000 e r a = some true := by
  unfold law24_LexiconForms
  obtain ⟨b, hb, hb'⟩ := r24_Light_tot 100000 e r [] (by omega)
  simp only [jn_def, hb, bind_some', ex24, if_true]
  cases b with
  | false => rfl
  | true =>
    obtain ⟨_, _, _, he, hr, _⟩ := hb' rfl
    simp only [Bool.not_true, Bool.false_eq_true, if_false]
    by_cases h : 6 < a.Rules.length
    · rw [if_pos (by simpa using h)]
    · rw [if_neg (by simpa using h), lexicon_Form_eq _ e r a (by omega) he hr, r24_Form_eq _ e r a (by omega) he hr]
      simp only [bind_some', beq_self_eq_true, if_true]
      have hl : (enc [] (formS e r a)).1.length ≤ 4 := by
        cases hf : formS e r a with
        | none => simp [enc]
        | some l => obtain ⟨_, _, _, _, _, h4, _⟩ := formS_inv e r a l he hr hf; exact h4
      rw [r01_Same_eq _ _ _ (.inl (by omega))]
      simp
end Go.Proofs.Ytgmghembhenonaa
