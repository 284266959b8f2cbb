/- Chapter 24: checking and finding, reckoned -/
import Derived.Test.YtgmghembhenonaaB1
import Derived.Test.YtgmghembhenonaaB0
namespace Go.Proofs.Ytgmghembhenonaa
open Go.Gl
set_option linter.unusedVariables false
set_option linter.unusedSimpArgs false
/-! lexicon: checking, finding, light arguments -/
theorem IndexFunc_string_eq (n : Nat) (s : List (List UInt8)) (f : List UInt8 → Option Bool) (p : List UInt8 → Prop) [DecidablePred p] (hf : ∀ w, f w = some (decide (p w))) : ∀ (t : List (List UInt8)) (m i : Nat), s.drop i = t → t.length < m → ∃ k : Int, slices_IndexFunc_string_L0 n s f m i = some k ∧ (0 ≤ k ↔ ∃ w ∈ t, p w)
  | [], m + 1, i, h, _ => by
    rw [slices_IndexFunc_string_L0, if_neg (drop_nil' h)]
    exact ⟨-1, rfl, by simp⟩
  | x :: t, m + 1, i, h, hm => by
    obtain ⟨h1, h2, h3⟩ := drop_cons h
    rw [slices_IndexFunc_string_L0, if_pos h1, h2]
    simp only [bind_some', hf]
    obtain ⟨k, hk, hk'⟩ := IndexFunc_string_eq n s f p hf t m (i + 1) h3 (by simpa using hm)
    by_cases hx : p x
    · exact ⟨i, by simp [hx], by simp [hx]⟩
    · exact ⟨k, by simp [hx, hk], by simp [hx, hk']⟩
theorem ContainsFunc_string_eq (n : Nat) (s : List (List UInt8)) (f : List UInt8 → Option Bool) (p : List UInt8 → Prop) [DecidablePred p] (hf : ∀ w, f w = some (decide (p w))) (hn : s.length < n) : slices_ContainsFunc_string n s f = some (decide (∃ w ∈ s, p w)) := by
  unfold slices_ContainsFunc_string slices_IndexFunc_string
  obtain ⟨k, hk, hk'⟩ := IndexFunc_string_eq n s f p hf s n 0 rfl hn
  rw [hk]
  simp [hk']
theorem r24_Check_L1_eq (n : Nat) (k : Option Int) (x : Entry) (hn : 40 ≤ n) : ∀ (t : List (List UInt8)) (m i : Nat), x.Words.drop i = t → t.length < m → r24_Check_L1 n k x m i = if ∃ w ∈ t, ¬ isWord w then some 1 else k
  | [], m + 1, i, h, _ => by
    rw [r24_Check_L1, if_neg (drop_nil' h)]
    simp
  | y :: t, m + 1, i, h, hm => by
    obtain ⟨h1, h2, h3⟩ := drop_cons h
    rw [r24_Check_L1, if_pos h1, h2]
    simp only [bind_some', r01_Word_eq n _ hn]
    rw [r24_Check_L1_eq n k x hn t m (i + 1) h3 (by simpa using hm)]
    by_cases hy : isWord y <;> simp [hy]
theorem lexicon_Check_1_eq (n : Nat) (w : List UInt8) (hn : 40 ≤ n) : lexicon_Check_1 n w = some (decide (¬ isWord w)) := by
  unfold lexicon_Check_1
  rw [text_Word_eq n _ hn]
  by_cases h : isWord w <;> simp [h]
theorem Check_L0_same (n : Nat) (e : List Entry) (hn : 40 ≤ n) : ∀ (m i : Nat), lexicon_Check_L0 n e m i = r24_Check_L0 n e m i
  | 0, i => rfl
  | m + 1, i => by
    rw [lexicon_Check_L0, r24_Check_L0]
    simp only [jn_def, Check_L0_same n e hn m (i + 1)]
    split
    · cases e[i]? with
      | none => rfl
      | some x =>
        simp only [bind_some', text_Name_eq n _ hn, r01_Name_eq n _ hn]
        have hC : 4 < x.Words.length ∨ ((slices_ContainsFunc_string n x.Words fun p => lexicon_Check_1 n p).bind fun r31 => if r31 = true then some 1 else r24_Check_L0 n e m (i + 1)) = r24_Check_L1 n (r24_Check_L0 n e m (i + 1)) x n 0 := by
          rcases Nat.lt_or_ge 4 x.Words.length with h | h
          · exact .inl h
          · right
            rw [ContainsFunc_string_eq n x.Words _ (fun w => ¬ isWord w) (fun w => lexicon_Check_1_eq n w hn) (by omega), r24_Check_L1_eq n _ x hn x.Words n 0 rfl (by omega)]
            by_cases hw : ∃ w ∈ x.Words, ¬ isWord w <;> simp [hw]
        rcases hC with h | h
        · simp only [h, if_true]
        · simp only [h]
    · rfl
theorem Check_same (n : Nat) (e : List Entry) (hn : 40 ≤ n) : lexicon_Check n e = r24_Check n e := by
  unfold lexicon_Check r24_Check
  rw [Check_L0_same n e hn]
/-! what accepted entries are -/
def okE (x : Entry) : Prop := x.Words ≠ [] ∧ x.Words.length ≤ 4 ∧ ∀ w ∈ x.Words, isWord w
theorem r24_Check_L0_tot (n : Nat) (e : List Entry) (hn : 40 ≤ n) : ∀ (t : List Entry) (m i : Nat), e.drop i = t → t.length < m → ∃ c, r24_Check_L0 n e m i = some c ∧ (c = 0 → ∀ x ∈ t, okE x)
  | [], m + 1, i, h, _ => by
    rw [r24_Check_L0, if_neg (drop_nil' h)]
    exact ⟨0, rfl, fun _ => by simp⟩
  | x :: t, m + 1, i, h, hm => by
    obtain ⟨h1, h2, h3⟩ := drop_cons h
    obtain ⟨c, hc, hc'⟩ := r24_Check_L0_tot n e hn t m (i + 1) h3 (by simpa using hm)
    rw [r24_Check_L0, if_pos h1]
    simp only [jn_def, h2, bind_some', r01_Name_eq n _ hn, hc]
    rcases Decidable.em (isName x.Name) with a1 | a1
    case inr => exact ⟨1, by simp [a1], fun h => by simp at h⟩
    have hrest : ∃ d, (if x.Words.length = 0 then some 1 else if 4 < x.Words.length then some 7 else r24_Check_L1 n (some c) x n 0) = some d ∧ (d = 0 → ∀ y ∈ x :: t, okE y) := by
      by_cases b1 : x.Words.length = 0
      · exact ⟨1, by simp [b1], fun h => by simp at h⟩
      by_cases b2 : 4 < x.Words.length
      · exact ⟨7, by simp [b1, b2], fun h => by simp at h⟩
      rw [if_neg b1, if_neg b2, r24_Check_L1_eq n _ x hn x.Words n 0 rfl (by omega)]
      by_cases b3 : ∃ w ∈ x.Words, ¬ isWord w
      · exact ⟨1, by simp only [b3, if_true], fun h => by simp at h⟩
      · refine ⟨c, by simp only [b3, if_false], fun h y hy => ?_⟩
        rcases List.mem_cons.1 hy with rfl | hy
        · refine ⟨fun e => b1 (by rw [e]; rfl), by omega, fun w hw => ?_⟩
          by_cases hw' : isWord w
          · exact hw'
          · exact absurd ⟨w, hw, hw'⟩ b3
        · exact hc' h y hy
    obtain ⟨d, hd, hd'⟩ := hrest
    simp only [hd]
    simp only [a1, decide_true, Bool.not_true, Bool.false_eq_true, if_false]
    by_cases b0 : 0 < i
    · have hi : ix e ((i : Int) - 1) = some e[i - 1] := by
        have : ((i : Int) - 1) = ((i - 1 : Nat) : Int) := by omega
        rw [this, ix_nat, List.getElem?_eq_getElem (by omega)]
      rw [if_pos b0, hi]
      simp only [bind_some']
      split
      · exact ⟨3, rfl, fun h => by simp at h⟩
      · exact ⟨d, rfl, hd'⟩
    · rw [if_neg b0]
      exact ⟨d, rfl, hd'⟩
theorem r24_Check_tot (n : Nat) (e : List Entry) (hn : 1000 ≤ n) : ∃ c, r24_Check n e = some c ∧ (c = 0 → ∀ x ∈ e, okE x) := by
  unfold r24_Check
  by_cases h : 256 < e.length
  · exact ⟨7, by simp [h], fun h => by simp at h⟩
  · rw [if_neg h]
    exact r24_Check_L0_tot n e (by omega) e n 0 rfl (by omega)
theorem r24_LightEntries_L1_tot (n : Nat) (e : List Entry) (i : Nat) (x : Entry) (hx : e[i]? = some x) (b : Bool) : ∀ (t : List (List UInt8)) (m j : Nat), x.Words.drop j = t → t.length < m → ∃ c, r24_LightEntries_L1 n e i (some b) m j = some c
  | [], m + 1, j, h, _ => by
    rw [r24_LightEntries_L1, hx]
    simp only [bind_some']
    rw [if_neg (drop_nil' h)]
    exact ⟨b, rfl⟩
  | y :: t, m + 1, j, h, hm => by
    obtain ⟨h1, h2, h3⟩ := drop_cons h
    rw [r24_LightEntries_L1, hx]
    simp only [bind_some']
    rw [if_pos h1, h2]
    simp only [bind_some']
    split
    · exact ⟨_, rfl⟩
    · exact r24_LightEntries_L1_tot n e i x hx b t m (j + 1) h3 (by simpa using hm)
theorem r24_LightEntries_L0_tot (n : Nat) (e : List Entry) (hn : 1000 ≤ n) : ∀ (t : List Entry) (m i : Nat), e.drop i = t → t.length < m → ∃ c, r24_LightEntries_L0 n e m i = some c
  | [], m + 1, i, h, _ => by
    rw [r24_LightEntries_L0, if_neg (drop_nil' h)]
    exact ⟨_, rfl⟩
  | x :: t, m + 1, i, h, hm => by
    obtain ⟨h1, h2, h3⟩ := drop_cons h
    obtain ⟨c, hc⟩ := r24_LightEntries_L0_tot n e hn t m (i + 1) h3 (by simpa using hm)
    rw [r24_LightEntries_L0, if_pos h1]
    simp only [jn_def, h2, bind_some', hc]
    by_cases b1 : 8 < x.Words.length
    · rw [if_pos b1]; exact ⟨_, rfl⟩
    · rw [if_neg b1]
      split
      · exact ⟨_, rfl⟩
      · exact r24_LightEntries_L1_tot n e i x h2 c x.Words n 0 rfl (by omega)
theorem law24_LexiconChecks_true (e : List Entry) : law24_LexiconChecks 100000 e = some true := by
  unfold law24_LexiconChecks
  have hL : ∃ c, r24_LightEntries 100000 e = some c := by
    unfold r24_LightEntries
    by_cases h : 300 < e.length
    · exact ⟨_, if_pos h⟩
    · rw [if_neg h]
      exact r24_LightEntries_L0_tot 100000 e (by omega) e 100000 0 rfl (by omega)
  obtain ⟨c, hc⟩ := hL
  obtain ⟨d, hd, _⟩ := r24_Check_tot 100000 e (by omega)
  simp only [hc, bind_some', ex24, Check_same 100000 e (by omega), hd, if_true]
  cases c <;> simp
/-! finding -/
def idxs (p : Entry → Bool) : List Entry → Nat → List Int
  | [], _ => []
  | x :: t, i => if p x then ((i : Nat) : Int) :: idxs p t (i + 1) else idxs p t (i + 1)
theorem idxs_len (p : Entry → Bool) : ∀ (t : List Entry) (i : Nat), (idxs p t i).length ≤ t.length
  | [], i => by simp [idxs]
  | x :: t, i => by
    have := idxs_len p t (i + 1)
    unfold idxs
    split <;> simp <;> omega
theorem indices_eq (n : Nat) (l : List Entry) (f : Entry → Option Bool) (p : Entry → Bool) : ∀ (t : List Entry) (m i : Nat) (out : List Int), (∀ x ∈ t, f x = some (p x)) → l.drop i = t → t.length < m → out.length + t.length ≤ 1000000 → lexicon_indices_Entry_L0 n l f m out i = some (out ++ idxs p t i)
  | [], m + 1, i, out, _, h, _, _ => by
    rw [lexicon_indices_Entry_L0, if_neg (drop_nil' h)]
    simp [idxs]
  | x :: t, m + 1, i, out, hf, h, hm, hb => by
    obtain ⟨h1, h2, h3⟩ := drop_cons h
    simp only [List.length_cons] at hb
    rw [lexicon_indices_Entry_L0, if_pos h1, h2]
    simp only [bind_some', hf x (by simp)]
    have ih := fun out hb => indices_eq n l f p t m (i + 1) out (fun y hy => hf y (by simp [hy])) h3 (by simpa using hm) hb
    by_cases hx : p x = true
    · rw [if_pos hx, chk_true (by simp; omega), ih _ (by simp; omega)]
      simp [idxs, hx]
    · rw [if_neg hx, ih _ (by omega)]
      simp [idxs, hx]
theorem Equal_L0_eq (n : Nat) (a b : List (List UInt8)) (hab : a.length = b.length) : ∀ (t : List (List UInt8)) (m i : Nat), a.drop i = t → t.length < m → slices_Equal_string_L0 n a b m i = some (decide (t = b.drop i))
  | [], m + 1, i, h, _ => by
    have := drop_nil' h
    rw [slices_Equal_string_L0, if_neg this, List.drop_of_length_le (by omega)]
    simp
  | x :: t, m + 1, i, h, hm => by
    obtain ⟨h1, h2, h3⟩ := drop_cons h
    rcases hbd : b.drop i with _ | ⟨y, u⟩
    · exact absurd (drop_nil' hbd) (by omega)
    obtain ⟨k1, k2, k3⟩ := drop_cons hbd
    rw [slices_Equal_string_L0, if_pos h1, h2, k2]
    simp only [bind_some']
    rw [Equal_L0_eq n a b hab t m (i + 1) h3 (by simpa using hm), k3]
    by_cases hx : x = y
    · simp [hx]
    · simp [hx]
theorem slices_Equal_eq (n : Nat) (a b : List (List UInt8)) (hn : a.length < n ∨ b.length < n) : slices_Equal_string n a b = some (decide (a = b)) := by
  unfold slices_Equal_string
  by_cases h : a.length = b.length
  · rw [if_neg (by simp [h]), Equal_L0_eq n a b h a n 0 rfl (by omega)]
    rfl
  · have : a ≠ b := fun e => h (by rw [e])
    simp [h, this]
def findS (e : List Entry) (ws : List (List UInt8)) : List Int := idxs (fun x => decide (x.Words = ws)) e 0
theorem lexicon_Find_eq (n : Nat) (e : List Entry) (ws : List (List UInt8)) (hn : 1000 ≤ n) (he : e.length ≤ 100) (hw : ws.length ≤ 100) : lexicon_Find n e ws = some (findS e ws) := by
  unfold lexicon_Find lexicon_indices_Entry findS
  rw [indices_eq n e _ (fun x => decide (x.Words = ws)) e n 0 [] (fun x _ => by
    show lexicon_Find_1 n x ws = _
    unfold lexicon_Find_1
    rw [slices_Equal_eq n _ _ (.inr (by omega))]
    rfl) rfl (by omega) (by simp; omega)]
  simp
theorem r24_Find_L0_eq (n : Nat) (e : List Entry) (ws : List (List UInt8)) (hw : ws.length < n) : ∀ (t : List Entry) (m i : Nat) (out : List Int), e.drop i = t → t.length < m → out.length + t.length ≤ 1000000 → r24_Find_L0 n e ws m out i = some (out ++ idxs (fun x => decide (x.Words = ws)) t i)
  | [], m + 1, i, out, h, _, _ => by
    rw [r24_Find_L0, if_neg (drop_nil' h)]
    simp [idxs]
  | x :: t, m + 1, i, out, h, hm, hb => by
    obtain ⟨h1, h2, h3⟩ := drop_cons h
    simp only [List.length_cons] at hb
    rw [r24_Find_L0, if_pos h1, h2]
    simp only [bind_some', r01_Same_eq n _ _ (.inr hw)]
    have ih := fun out hb => r24_Find_L0_eq n e ws hw t m (i + 1) out h3 (by simpa using hm) hb
    by_cases hx : x.Words = ws
    · rw [if_pos (by simp [hx]), chk_true (by simp; omega), ih _ (by simp; omega)]
      simp [idxs, hx]
    · rw [if_neg (by simp [hx]), ih _ (by omega)]
      simp [idxs, hx]
theorem r24_Find_eq (n : Nat) (e : List Entry) (ws : List (List UInt8)) (hn : 1000 ≤ n) (he : e.length ≤ 100) (hw : ws.length ≤ 100) : r24_Find n e ws = some (findS e ws) := by
  unfold r24_Find findS
  rw [r24_Find_L0_eq n e ws (by omega) e n 0 [] rfl (by omega) (by simp; omega)]
  simp
theorem SameInts_L0_eq (n : Nat) (a b : List Int) (hab : a.length = b.length) : ∀ (t : List Int) (m i : Nat), a.drop i = t → t.length < m → r24_SameInts_L0 n a b m i = some (decide (t = b.drop i))
  | [], m + 1, i, h, _ => by
    have := drop_nil' h
    rw [r24_SameInts_L0, if_neg this, List.drop_of_length_le (by omega)]
    simp
  | x :: t, m + 1, i, h, hm => by
    obtain ⟨h1, h2, h3⟩ := drop_cons h
    rcases hbd : b.drop i with _ | ⟨y, u⟩
    · exact absurd (drop_nil' hbd) (by omega)
    obtain ⟨k1, k2, k3⟩ := drop_cons hbd
    rw [r24_SameInts_L0, if_pos h1, h2, k2]
    simp only [bind_some']
    rw [SameInts_L0_eq n a b hab t m (i + 1) h3 (by simpa using hm), k3]
    by_cases hx : x = y
    · simp [hx]
    · simp [hx]
theorem SameInts_eq (n : Nat) (a b : List Int) (hn : a.length < n ∨ b.length < n) : r24_SameInts n a b = some (decide (a = b)) := by
  unfold r24_SameInts
  by_cases h : a.length = b.length
  · rw [if_neg (by simp [h]), SameInts_L0_eq n a b h a n 0 rfl (by omega)]
    rfl
  · have : a ≠ b := fun e => h (by rw [e])
    simp [h, this]
/-! light arguments -/
theorem r23_Light_L0_eq (n : Nat) (a : Affix) : ∀ (t : List Change) (m i : Nat), a.Pairs.drop i = t → t.length < m → r23_Light_L0 n a m i = some (decide (∀ p ∈ t, p.Old.length ≤ 100 ∧ p.New.length ≤ 100))
  | [], m + 1, i, h, _ => by
    rw [r23_Light_L0, if_neg (drop_nil' h)]
    simp
  | x :: t, m + 1, i, h, hm => by
    obtain ⟨h1, h2, h3⟩ := drop_cons h
    rw [r23_Light_L0, if_pos h1]
    simp only [jn_def, h2, bind_some']
    rw [r23_Light_L0_eq n a t m (i + 1) h3 (by simpa using hm)]
    by_cases b1 : 100 < x.Old.length
    · have : ¬ ∀ p ∈ x :: t, p.Old.length ≤ 100 ∧ p.New.length ≤ 100 := fun h => by have := (h x (by simp)).1; omega
      simp only [b1, if_true, this, decide_false]
    by_cases b2 : 100 < x.New.length
    · have : ¬ ∀ p ∈ x :: t, p.Old.length ≤ 100 ∧ p.New.length ≤ 100 := fun h => by have := (h x (by simp)).2; omega
      simp only [b1, b2, if_false, if_true, this, decide_false, decide_true]
    · have : (∀ p ∈ x :: t, p.Old.length ≤ 100 ∧ p.New.length ≤ 100) ↔ ∀ p ∈ t, p.Old.length ≤ 100 ∧ p.New.length ≤ 100 := by
        simp only [List.mem_cons, forall_eq_or_imp]
        exact ⟨fun h => h.2, fun h => ⟨by omega, h⟩⟩
      simp only [b1, b2, if_false, decide_false, Bool.false_eq_true, this]
theorem r23_Light_eq (n : Nat) (a : Affix) (hn : 1000 ≤ n) : r23_Light n a = some (decide (lightA a)) := by
  unfold r23_Light lightA
  by_cases h : 40 < a.Pairs.length
  · have : ¬ a.Pairs.length ≤ 40 := by omega
    simp [h, this]
  · rw [if_neg h, r23_Light_L0_eq n a a.Pairs n 0 rfl (by omega)]
    have : a.Pairs.length ≤ 40 := by omega
    simp [this]
theorem r23_plain_L0_eq (n : Nat) (s : List UInt8) : ∀ (t : List UInt8) (m i : Nat), s.drop i = t → t.length < m → r23_plain_L0 n s m i = some (decide (wordy t))
  | [], m + 1, i, h, _ => by
    rw [r23_plain_L0, if_neg (drop_nil' h)]
    simp [wordy]
  | x :: t, m + 1, i, h, hm => by
    obtain ⟨h1, h2, h3⟩ := drop_cons h
    rw [r23_plain_L0, if_pos h1, h2]
    simp only [jn_def, bind_some']
    rw [r23_plain_L0_eq n s t m (i + 1) h3 (by simpa using hm)]
    have key := wordy_cons x t
    by_cases a1 : x.toNat < 33
    · simp [a1, key, isPt]; omega
    by_cases a2 : 126 < x.toNat
    · simp [a1, a2, key, isPt]; omega
    by_cases a3 : 65 ≤ x.toNat
    · by_cases a4 : x.toNat ≤ 90
      · simp [a1, a2, a3, a4, key, isPt, isUp]
      · by_cases a5 : x.toNat = 34
        · omega
        by_cases a6 : x.toNat = 92
        · simp [a1, a2, a3, a4, a5, a6, key, isPt, isUp]
        · have hp : isPt x := ⟨by omega, by omega, by unfold isUp; omega, a5, a6⟩
          simp [a1, a2, a3, a4, a5, a6, key, hp]
    · by_cases a5 : x.toNat = 34
      · simp [a1, a2, a3, a5, key, isPt]
      by_cases a6 : x.toNat = 92
      · omega
      · have hp : isPt x := ⟨by omega, by omega, by unfold isUp; omega, a5, a6⟩
        simp [a1, a2, a3, a5, a6, key, hp]
theorem r23_plain_eq (n : Nat) (s : List UInt8) (hn : s.length < n) : r23_plain n s = some (decide (wordy s)) := r23_plain_L0_eq n s s n 0 rfl hn
theorem r23_Check_L1_tot (n : Nat) (a : Affix) (i : Nat) (hi : i ≤ a.Pairs.length) (hl : a.Pairs.length ≤ 40) (c : Int) (x : Change) : ∀ (d m j : Nat), i - j = d → d < m → j ≤ i → ∃ r, r23_Check_L1 n a i (some c) x m j = some r ∧ (r = c ∨ r = 4)
  | 0, m + 1, j, h, _, hj => by
    rw [r23_Check_L1, if_neg (by omega)]
    exact ⟨c, rfl, .inl rfl⟩
  | d + 1, m + 1, j, h, hm, hj => by
    rw [r23_Check_L1, if_pos (by omega), List.getElem?_eq_getElem (by omega)]
    simp only [bind_some']
    split
    · exact ⟨4, rfl, .inr rfl⟩
    · rw [chk_true (by omega)]
      exact r23_Check_L1_tot n a i hi hl c x d m (j + 1) (by omega) (by omega) (by omega)
theorem r23_Check_L0_tot (n : Nat) (a : Affix) (hn : 1000 ≤ n) (hl : lightA a) : ∀ (t : List Change) (m i : Nat), a.Pairs.drop i = t → t.length < m → ∃ r, r23_Check_L0 n a m i = some r
  | [], m + 1, i, h, _ => by
    rw [r23_Check_L0, if_neg (drop_nil' h)]
    exact ⟨_, rfl⟩
  | x :: t, m + 1, i, h, hm => by
    obtain ⟨h1, h2, h3⟩ := drop_cons h
    obtain ⟨c, hc⟩ := r23_Check_L0_tot n a hn hl t m (i + 1) h3 (by simpa using hm)
    have hx := hl.2 x (List.mem_of_getElem? h2)
    rw [r23_Check_L0, if_pos h1]
    simp only [jn_def, h2, bind_some', hc, r23_plain_eq n x.Old (by omega), r23_plain_eq n x.New (by omega)]
    obtain ⟨r, hr, _⟩ := r23_Check_L1_tot n a i (by omega) hl.1 c x i n 0 (by omega) (by have := hl.1; omega) (by omega)
    simp only [hr]
    repeat' split
    all_goals exact ⟨_, rfl⟩
theorem r23_Check_tot (n : Nat) (a : Affix) (hn : 1000 ≤ n) (hl : lightA a) : ∃ r, r23_Check n a = some r ∧ (r = 0 → kindOk a) := by
  unfold r23_Check
  simp only [jn_def]
  obtain ⟨c, hc⟩ := r23_Check_L0_tot n a hn hl a.Pairs n 0 rfl (by have := hl.1; omega)
  simp only [hc]
  by_cases k0 : a.Kind = 0
  · rw [if_neg (by simpa using k0), if_neg (by simp)]
    repeat' split
    all_goals exact ⟨_, rfl, fun _ => .inl k0⟩
  rw [if_pos k0]
  by_cases k1 : a.Kind = 1
  · rw [if_neg (by simpa using k1), if_neg (by simp)]
    repeat' split
    all_goals exact ⟨_, rfl, fun _ => .inr (.inl k1)⟩
  rw [if_pos k1]
  by_cases k2 : a.Kind = 2
  · rw [if_neg (by simp [k2])]
    repeat' split
    all_goals exact ⟨_, rfl, fun _ => .inr (.inr k2)⟩
  · rw [if_pos (by simp [k2])]
    exact ⟨14, rfl, fun h => by simp at h⟩
def lightR (r : List LexRule) : Prop := ∀ x ∈ r, lightA x.Affix ∧ kindOk x.Affix
theorem r24_Light_L1_tot (n : Nat) (ws : List (List UInt8)) : ∀ (t : List (List UInt8)) (m i : Nat), ws.drop i = t → t.length < m → ∃ b, r24_Light_L1 n ws m i = some b ∧ (b = true → ∀ w ∈ t, w.length ≤ 40)
  | [], m + 1, i, h, _ => by
    rw [r24_Light_L1, if_neg (drop_nil' h)]
    exact ⟨_, rfl, by simp⟩
  | x :: t, m + 1, i, h, hm => by
    obtain ⟨h1, h2, h3⟩ := drop_cons h
    rw [r24_Light_L1, if_pos h1, h2]
    simp only [bind_some']
    obtain ⟨b, hb, hb'⟩ := r24_Light_L1_tot n ws t m (i + 1) h3 (by simpa using hm)
    split
    · exact ⟨_, rfl, by simp⟩
    · refine ⟨b, hb, fun h w hw => ?_⟩
      rcases List.mem_cons.1 hw with rfl | hw
      · omega
      · exact hb' h w hw
theorem r24_Light_L0_tot (n : Nat) (r : List LexRule) (hn : 1000 ≤ n) (b : Bool) : ∀ (t : List LexRule) (m i : Nat), r.drop i = t → t.length < m → ∃ c, r24_Light_L0 n r (some b) m i = some c ∧ (c = true → b = true ∧ lightR t)
  | [], m + 1, i, h, _ => by
    rw [r24_Light_L0, if_neg (drop_nil' h)]
    exact ⟨b, rfl, fun h => ⟨h, by simp [lightR]⟩⟩
  | x :: t, m + 1, i, h, hm => by
    obtain ⟨h1, h2, h3⟩ := drop_cons h
    rw [r24_Light_L0, if_pos h1]
    simp only [jn_def, h2, bind_some', r23_Light_eq n _ hn]
    obtain ⟨c, hc, hc'⟩ := r24_Light_L0_tot n r hn b t m (i + 1) h3 (by simpa using hm)
    simp only [hc]
    by_cases a1 : lightA x.Affix
    · obtain ⟨q, hq, hq'⟩ := r23_Check_tot n x.Affix hn a1
      simp only [hq, bind_some', a1, decide_true, Bool.not_true, Bool.false_eq_true, if_false]
      by_cases a2 : q = 0
      · refine ⟨c, by simp [a2], fun h => ⟨(hc' h).1, fun y hy => ?_⟩⟩
        rcases List.mem_cons.1 hy with rfl | hy
        · exact ⟨a1, hq' a2⟩
        · exact (hc' h).2 y hy
      · exact ⟨false, by simp [a2], by simp⟩
    · exact ⟨false, by simp [a1], by simp⟩
theorem r24_Light_tot (n : Nat) (e : List Entry) (r : List LexRule) (ws : List (List UInt8)) (hn : 1000 ≤ n) : ∃ b, r24_Light n e r ws = some b ∧ (b = true → e.length ≤ 6 ∧ r.length ≤ 4 ∧ ws.length ≤ 6 ∧ (∀ x ∈ e, okE x) ∧ lightR r ∧ ∀ w ∈ ws, w.length ≤ 40) := by
  unfold r24_Light
  simp only [jn_def]
  by_cases h1 : 6 < e.length
  · exact ⟨false, by simp [h1], by simp⟩
  by_cases h2 : 4 < r.length
  · exact ⟨false, by simp [h1, h2], by simp⟩
  by_cases h3 : 6 < ws.length
  · exact ⟨false, by simp [h1, h2, h3], by simp⟩
  obtain ⟨c, hc, hc'⟩ := r24_Check_tot n e hn
  obtain ⟨b, hb, hb'⟩ := r24_Light_L1_tot n ws ws n 0 rfl (by omega)
  obtain ⟨d, hd, hd'⟩ := r24_Light_L0_tot n r hn b r n 0 rfl (by omega)
  rw [if_neg h1, if_neg h2, if_neg h3, hc, bind_some', hb, hd]
  by_cases h4 : c = 0
  · rw [if_neg (by simp [h4])]
    exact ⟨d, rfl, fun h => ⟨by omega, by omega, by omega, hc' h4, (hd' h).2, hb' (hd' h).1⟩⟩
  · rw [if_pos (by simp [h4])]
    exact ⟨false, rfl, by simp⟩
theorem law24_LexiconFinds_true (e : List Entry) (ws : List (List UInt8)) : law24_LexiconFinds 100000 e ws = some true := by
  unfold law24_LexiconFinds
  obtain ⟨b, hb, hb'⟩ := r24_Light_tot 100000 e [] ws (by omega)
  simp only [hb, bind_some', ex24]
  cases b with
  | false => simp
  | true =>
    obtain ⟨h1, _, h3, _⟩ := hb' rfl
    rw [if_neg (by simp), lexicon_Find_eq 100000 e ws (by omega) (by omega) (by omega), r24_Find_eq 100000 e ws (by omega) (by omega) (by omega)]
    have hl := idxs_len (fun x => decide (x.Words = ws)) e 0
    simp only [bind_some']
    rw [SameInts_eq 100000 _ _ (.inl (by unfold findS; omega))]
    simp
end Go.Proofs.Ytgmghembhenonaa
