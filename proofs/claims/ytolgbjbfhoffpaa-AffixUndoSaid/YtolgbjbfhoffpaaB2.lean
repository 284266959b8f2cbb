/- Chapter 23: checks, applying, several words -/
import Derived.Test.YtolgbjbfhoffpaaB1
import Derived.Test.YtolgbjbfhoffpaaB0
namespace Go.Proofs.Ytolgbjbfhoffpaa
open Go.Gl
set_option linter.unusedVariables false
set_option linter.unusedSimpArgs false
/-! affix: checks, applying, several words -/
theorem IndexFunc_Change_eq (n : Nat) (s : List Change) (f : Change → Option Bool) (p : Change → Prop) [DecidablePred p] (hf : ∀ w, f w = some (decide (p w))) : ∀ (t : List Change) (m i : Nat), s.drop i = t → t.length < m → ∃ k : Int, slices_IndexFunc_Change_L0 n s f m i = some k ∧ (0 ≤ k ↔ ∃ w ∈ t, p w)
  | [], m + 1, i, h, _ => by
    rw [slices_IndexFunc_Change_L0, if_neg (drop_nil' h)]
    exact ⟨-1, rfl, by simp⟩
  | x :: t, m + 1, i, h, hm => by
    obtain ⟨h1, h2, h3⟩ := drop_cons h
    rw [slices_IndexFunc_Change_L0, if_pos h1, h2]
    simp only [bind_some', hf]
    obtain ⟨k, hk, hk'⟩ := IndexFunc_Change_eq n s f p hf t m (i + 1) h3 (by simpa using hm)
    by_cases hx : p x
    · exact ⟨i, by simp [hx], by simp [hx]⟩
    · exact ⟨k, by simp [hx, hk], by simp [hx, hk']⟩
theorem ContainsFunc_Change_eq (n : Nat) (s : List Change) (f : Change → Option Bool) (p : Change → Prop) [DecidablePred p] (hf : ∀ w, f w = some (decide (p w))) (hn : s.length < n) : slices_ContainsFunc_Change n s f = some (decide (∃ w ∈ s, p w)) := by
  unfold slices_ContainsFunc_Change slices_IndexFunc_Change
  obtain ⟨k, hk, hk'⟩ := IndexFunc_Change_eq n s f p hf s n 0 rfl hn
  rw [hk]
  simp [hk']
theorem affix_bytes_L0_eq (n : Nat) (s : List UInt8) (hn : 40 ≤ n) : ∀ (t : List UInt8) (m i : Nat), s.drop i = t → t.length < m → affix_bytes_L0 n s m i = some (decide (wordy t))
  | [], m + 1, i, h, _ => by
    rw [affix_bytes_L0, if_neg (drop_nil' h)]
    simp [wordy]
  | x :: t, m + 1, i, h, hm => by
    obtain ⟨h1, h2, h3⟩ := drop_cons h
    have e : (s.drop i).take (i + 1 - i) = [x] := by rw [h, show i + 1 - i = 1 by omega]; rfl
    rw [affix_bytes_L0, if_pos h1, chk_true (by omega), e, text_Word_eq n _ hn, affix_bytes_L0_eq n s hn t m (i + 1) h3 (by simpa using hm)]
    have hw : isWord [x] ↔ isPt x := by simp [isWord, wordy]
    simp only [bind_some', wordy_cons, hw]
    by_cases hx : isPt x <;> simp [hx]
theorem affix_bytes_eq (n : Nat) (s : List UInt8) (hn : 40 ≤ n) (hs : s.length < n) : affix_bytes n s = some (decide (wordy s)) := affix_bytes_L0_eq n s hn s n 0 rfl hs
theorem r23_Check_L1_eq (n : Nat) (a : Affix) (i : Nat) (hi : i ≤ a.Pairs.length) (hl : a.Pairs.length ≤ 40) (k : Option Int) (x : Change) : ∀ (t : List Change) (m j : Nat), (a.Pairs.take i).drop j = t → t.length < m → r23_Check_L1 n a i k x m j = if ∃ q ∈ t, q.Old = x.Old then some 4 else k
  | [], m + 1, j, h, _ => by
    have := drop_nil' h
    rw [List.length_take] at this
    rw [r23_Check_L1, if_neg (by omega)]
    simp
  | y :: t, m + 1, j, h, hm => by
    obtain ⟨h1, h2, h3⟩ := drop_cons h
    rw [List.length_take] at h1
    rw [List.getElem?_take_of_lt (by omega)] at h2
    rw [r23_Check_L1, if_pos (by omega), h2]
    simp only [bind_some']
    rw [chk_true (by omega), r23_Check_L1_eq n a i hi hl k x t m (j + 1) h3 (by simpa using hm)]
    by_cases hy : y.Old = x.Old <;> simp [hy]
theorem Check_L0_same (n : Nat) (a : Affix) (hn : 1000 ≤ n) (hl : lightA a) : ∀ (m i : Nat), affix_Check_L0 n a m i = r23_Check_L0 n a m i
  | 0, i => rfl
  | m + 1, i => by
    rw [affix_Check_L0, r23_Check_L0]
    simp only [jn_def, Check_L0_same n a hn hl m (i + 1)]
    by_cases h : i < a.Pairs.length
    · have hx : a.Pairs[i]? = some a.Pairs[i] := List.getElem?_eq_getElem h
      have hb := hl.2 _ (List.getElem_mem h)
      have hl1 := hl.1
      simp only [h, if_true, hx, bind_some', affix_bytes_eq n a.Pairs[i].Old (by omega) (by omega), affix_bytes_eq n a.Pairs[i].New (by omega) (by omega), r23_plain_eq n a.Pairs[i].Old (by omega), r23_plain_eq n a.Pairs[i].New (by omega)]
      rw [chk_true (by omega), ContainsFunc_Change_eq n (a.Pairs.take i) (fun p => affix_Check_1 n p a.Pairs[i]) (fun q => q.Old = a.Pairs[i].Old) (fun q => rfl) (by rw [List.length_take]; omega), r23_Check_L1_eq n a i (by omega) hl1 _ a.Pairs[i] (a.Pairs.take i) n 0 rfl (by rw [List.length_take]; omega)]
      by_cases hw : ∃ w ∈ a.Pairs.take i, w.Old = a.Pairs[i].Old <;> simp only [hw, bind_some', decide_true, decide_false, if_true, if_false, Bool.false_eq_true]
    · simp only [h, if_false]
theorem Check_same (n : Nat) (a : Affix) (hn : 1000 ≤ n) (hl : lightA a) : affix_Check n a = r23_Check n a := by
  unfold affix_Check r23_Check
  rw [Check_L0_same n a hn hl]
theorem law23_AffixChecks_true (a : Affix) : law23_AffixChecks 100000 a = some true := by
  unfold law23_AffixChecks
  simp only [r23_Light_eq 100000 a (by omega), bind_some', ex23]
  by_cases h : lightA a
  · obtain ⟨c, hc, _⟩ := r23_Check_tot 100000 a (by omega) h
    simp [h, Check_same 100000 a (by omega) h, hc]
  · simp [h]
/-- what the laws ask of their arguments ahead -/
theorem ahead_eq (a : Affix) (b : Option Bool) (K : Bool → Option Bool) (hK : K true = some true) (hb : ∃ c, b = some c) (hgo : lightA a → kindOk a → b = some true → K false = some true) : jn K (fun k3 => (r23_Light 100000 a).bind fun r5 => if (!r5) = true then k3 true else (r23_Check 100000 a).bind fun r11 => if r11 ≠ 0 then k3 true else b.bind fun r19 => k3 (!r19)) = some true := by
  simp only [jn_def, r23_Light_eq 100000 a (by omega), bind_some']
  by_cases h : lightA a
  · obtain ⟨c, hc, hc'⟩ := r23_Check_tot 100000 a (by omega) h
    obtain ⟨d, hd⟩ := hb
    simp only [h, hc, hd, bind_some', decide_true, Bool.not_true, Bool.false_eq_true, if_false]
    by_cases h0 : c = 0
    · rw [if_neg (by simpa using h0)]
      cases d with
      | true => exact hgo h (hc' h0) hd
      | false => exact hK
    · rw [if_pos h0]; exact hK
  · simp [h, hK]
theorem law23_AffixApplies_true (a : Affix) (w : List UInt8) : law23_AffixApplies 100000 a w = some true := by
  unfold law23_AffixApplies
  refine ahead_eq a (r01_Word 100000 w) _ (by simp [ex23]) ⟨_, r01_Word_eq 100000 w (by omega)⟩ (fun h _ hw => ?_)
  rw [r01_Word_eq 100000 w (by omega)] at hw
  have hw' : isWord w := by simpa using hw
  have := hw'.2.1
  simp [affix_Apply_eq 100000 a w (by omega) (by omega) h, r23_Apply_eq 100000 a w (by omega) (by omega) h, ex23]
theorem r23_LightWords_L0_eq (n : Nat) (ws : List (List UInt8)) (hn : 40 ≤ n) : ∀ (t : List (List UInt8)) (m i : Nat), ws.drop i = t → t.length < m → r23_LightWords_L0 n ws m i = some (decide (∀ w ∈ t, isWord w))
  | [], m + 1, i, h, _ => by
    rw [r23_LightWords_L0, if_neg (drop_nil' h)]
    simp
  | x :: t, m + 1, i, h, hm => by
    obtain ⟨h1, h2, h3⟩ := drop_cons h
    rw [r23_LightWords_L0, if_pos h1, h2]
    simp only [bind_some', r01_Word_eq n _ hn]
    rw [r23_LightWords_L0_eq n ws hn t m (i + 1) h3 (by simpa using hm)]
    by_cases hx : isWord x <;> simp [hx]
theorem r23_LightWords_eq (n : Nat) (ws : List (List UInt8)) (hn : 1000 ≤ n) : r23_LightWords n ws = some (decide (1 ≤ ws.length ∧ ws.length ≤ 8 ∧ ∀ w ∈ ws, isWord w)) := by
  unfold r23_LightWords
  simp only [jn_def]
  by_cases h1 : ws.length < 1
  · have : ¬ 1 ≤ ws.length := by omega
    simp only [h1, if_true, this, false_and, decide_false]
  by_cases h2 : 8 < ws.length
  · have : ¬ ws.length ≤ 8 := by omega
    simp only [h1, h2, if_false, if_true, decide_true, this, false_and, and_false, decide_false]
  rw [if_neg h1, if_neg (by simpa using h2), r23_LightWords_L0_eq n ws (by omega) ws n 0 rfl (by omega)]
  have a1 : 1 ≤ ws.length := by omega
  have a2 : ws.length ≤ 8 := by omega
  simp only [a1, a2, true_and]
theorem wordsA_len (a : Affix) (l l' : List (List UInt8)) (h : wordsA a l = some l') : l'.length = l.length := by
  unfold wordsA at h
  split at h
  · injection h with h; rw [h]
  · split at h
    · rename_i x hx
      cases hA : applyS a x with
      | none => simp [hA] at h
      | some v =>
        simp only [hA, Option.map_some, Option.some.injEq] at h
        rw [← h]; simp
    · cases h
theorem law23_AffixWords_true (a : Affix) (ws : List (List UInt8)) : law23_AffixWords 100000 a ws = some true := by
  unfold law23_AffixWords
  refine ahead_eq a (r23_LightWords 100000 ws) _ (by simp [ex23]) ⟨_, r23_LightWords_eq 100000 ws (by omega)⟩ (fun h hk hw => ?_)
  rw [r23_LightWords_eq 100000 ws (by omega)] at hw
  have hw' : 1 ≤ ws.length ∧ ws.length ≤ 8 ∧ ∀ w ∈ ws, isWord w := by simpa using hw
  obtain ⟨h1, h2, h3⟩ := hw'
  have h0 : ws ≠ [] := fun e => by rw [e] at h1; simp at h1
  have hb : ∀ w ∈ ws, w.length ≤ 1000000 := fun w hw => by have := (h3 w hw).2.1; omega
  rw [affix_Words_eq 100000 a ws (by omega) h0 (by omega) hb h, r23_Words_eq 100000 a ws (by omega) h0 (by omega) hb h hk]
  simp only [bind_some']
  have hl : (enc [] (wordsA a ws)).1.length ≤ 8 := by
    cases hf : wordsA a ws with
    | none => simp [enc]
    | some l => have := wordsA_len a ws l hf; simp [enc]; omega
  rw [r01_Same_eq _ _ _ (.inl (by omega))]
  simp [ex23]
end Go.Proofs.Ytolgbjbfhoffpaa
