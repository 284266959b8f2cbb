/- Chapter 27: splitting, reckoned -/
import Derived.Test.YthblmjbmnfebdaaB1
import Derived.Test.YthblmjbmnfebdaaB0
namespace Go.Proofs.Ythblmjbmnfebdaa
open Go.Gl
set_option linter.unusedVariables false
set_option linter.unusedSimpArgs false
/-! tokens: splitting -/
def isSp (x : UInt8) : Prop := x.toNat = 32 ∨ x.toNat = 9 ∨ x.toNat = 13 ∨ x.toNat = 10
instance (x : UInt8) : Decidable (isSp x) := inferInstanceAs (Decidable (_ ∨ _))
def isMk (x : UInt8) : Prop := x.toNat = 46 ∨ x.toNat = 44 ∨ x.toNat = 63 ∨ x.toNat = 33 ∨ x.toNat = 59 ∨ x.toNat = 58
instance (x : UInt8) : Decidable (isMk x) := inferInstanceAs (Decidable (_ ∨ _))
def okc (x : UInt8) : Prop := isSp x ∨ (33 ≤ x.toNat ∧ x.toNat ≤ 126 ∧ x.toNat ≠ 34 ∧ x.toNat ≠ 92)
instance (x : UInt8) : Decidable (okc x) := inferInstanceAs (Decidable (_ ∨ _))
def okAll (s : List UInt8) : Prop := ∀ x ∈ s, okc x
instance (s : List UInt8) : Decidable (okAll s) := inferInstanceAs (Decidable (∀ x ∈ s, okc x))
def low (x : UInt8) : UInt8 := if isUp x then x + 32 else x
def fl (ws : List (List UInt8)) (w : List UInt8) : List (List UInt8) := if w = [] then ws else ws ++ [w]
def runS : List UInt8 → List (List UInt8) → List UInt8 → List (List UInt8) × List UInt8
  | [], ws, w => (ws, w)
  | x :: t, ws, w => if isSp x then runS t (fl ws w) [] else if isMk x then runS t (fl ws w ++ [[x]]) [] else runS t ws (w ++ [low x])
def words (s : List UInt8) : List (List UInt8) := fl (runS s [] []).1 (runS s [] []).2
def short (ws : List (List UInt8)) : Prop := ∀ w ∈ ws, w.length ≤ 32
instance (ws : List (List UInt8)) : Decidable (short ws) := inferInstanceAs (Decidable (∀ w ∈ ws, w.length ≤ 32))
def splitR (ws : List (List UInt8)) : List (List UInt8) × Int := if ws = [] then ([], 1) else if 32 < ws.length then ([], 7) else if short ws then (ws, 0) else ([], 7)
def splitS (s : List UInt8) : List (List UInt8) × Int := if 65536 < s.length then ([], 7) else if okAll s then splitR (words s) else ([], 8)

theorem okAll_cons (x : UInt8) (t : List UInt8) : okAll (x :: t) ↔ okc x ∧ okAll t := by simp [okAll]
theorem okAll_append (s t : List UInt8) : okAll (s ++ t) ↔ okAll s ∧ okAll t := by simp [okAll, or_imp, forall_and]
theorem fl_len (ws : List (List UInt8)) (w : List UInt8) : (fl ws w).length ≤ ws.length + 1 := by unfold fl; split <;> simp
theorem runS_len : ∀ (t : List UInt8) (ws : List (List UInt8)) (w : List UInt8), (runS t ws w).1.length + (runS t ws w).2.length ≤ ws.length + w.length + 2 * t.length
  | [], ws, w => by simp [runS]
  | x :: t, ws, w => by
    unfold runS
    have h0 := fl_len ws w
    have hw : w ≠ [] → 1 ≤ w.length := fun h => by cases w; exact absurd rfl h; simp
    have hf : (fl ws w).length ≤ ws.length + w.length := by
      unfold fl; split
      · omega
      · rename_i h; have := hw h; simp; omega
    split
    · have := runS_len t (fl ws w) []; simp at this ⊢; omega
    split
    · have := runS_len t (fl ws w ++ [[x]]) []; simp at this ⊢; omega
    · have := runS_len t ws (w ++ [low x]); simp at this ⊢; omega

theorem token_Split_1_eq (n : Nat) (w : List UInt8) (ws : List (List UInt8)) (h : ws.length ≤ 1000000) : token_Split_1 n w ws = some ([], fl ws w) := by
  unfold token_Split_1 fl
  by_cases hw : w = []
  · simp [hw]
  · have : 0 < w.length := List.length_pos_iff.2 hw
    rw [if_pos this, chk_true (by simp; omega), chk_true (by omega), if_neg hw]
    simp
theorem token_space_eq (n : Nat) (x : UInt8) : token_space n (x.toNat : Int) = some (decide (isSp x)) := by
  unfold token_space isSp
  by_cases h1 : x.toNat = 32
  · simp [h1]
  by_cases h2 : x.toNat = 9
  · simp [h2]
  by_cases h3 : x.toNat = 13
  · simp [h3]
  · rw [if_neg (by omega), if_neg (by omega), if_neg (by omega)]
    simp [h1, h2, h3]; omega
theorem token_mark_eq (n : Nat) (x : UInt8) : token_mark n (x.toNat : Int) = some (decide (isMk x)) := by
  unfold token_mark isMk
  simp only [jn_def]
  by_cases h1 : x.toNat = 46
  · simp [h1]
  by_cases h2 : x.toNat = 44
  · simp [h2]
  by_cases h3 : x.toNat = 63
  · simp [h3]
  by_cases h4 : x.toNat = 33
  · simp [h4]
  by_cases h5 : x.toNat = 59
  · simp [h5]
  · rw [if_neg (by omega), if_neg (by omega), if_neg (by omega), if_neg (by omega), if_neg (by omega)]
    by_cases h6 : x.toNat = 58
    · simp [h6]
    · rw [if_neg (by simp; omega)]; simp [h1, h2, h3, h4, h5, h6]
theorem low_tok (x : UInt8) : (toU8 ((x.toNat : Nat) : Int) - 65) + 97 = x + 32 := by
  rw [toU8_small x.toNat_lt, UInt8.ofNat_toNat]
  apply UInt8.toNat_inj.1
  simp [UInt8.toNat_add, UInt8.toNat_sub]
  omega
theorem low2 (x : UInt8) : (x - 65) + 97 = x + 32 := by
  apply UInt8.toNat_inj.1
  simp [UInt8.toNat_add, UInt8.toNat_sub]
  omega
theorem toU8_self (x : UInt8) : toU8 ((x.toNat : Nat) : Int) = x := by rw [toU8_small x.toNat_lt, UInt8.ofNat_toNat]

theorem token_Split_L0_eq (n : Nat) (s : List UInt8) (k : List (List UInt8) → List UInt8 → Option (List (List UInt8) × Int)) : ∀ (t : List UInt8) (m i : Nat) (ws : List (List UInt8)) (w : List UInt8), s.drop i = t → t.length < m → ws.length + w.length + 2 * t.length ≤ 900000 →
    token_Split_L0 n s k m ws w i = if okAll t then k (runS t ws w).1 (runS t ws w).2 else some ([], 8)
  | [], m + 1, i, ws, w, h, _, _ => by
    rw [token_Split_L0, if_neg (drop_nil' h)]
    simp [okAll, runS]
  | x :: t, m + 1, i, ws, w, h, hm, hb => by
    obtain ⟨h1, h2, h3⟩ := drop_cons h
    have hm' : t.length < m := by simpa using hm
    simp only [List.length_cons] at hb
    rw [token_Split_L0, if_pos h1]
    have hfl := fl_len ws w
    have hw : w ≠ [] → 1 ≤ w.length := fun h => by cases w; exact absurd rfl h; simp
    have hfw : (fl ws w).length ≤ ws.length + w.length := by
      unfold fl; split
      · omega
      · rename_i h; have := hw h; simp; omega
    by_cases hx : x.toNat < 128
    · obtain ⟨e1, e2⟩ := rune_ascii h2 hx
      simp only [e1, e2, token_space_eq, token_mark_eq, bind_some', jn_def, token_Split_1_eq n w ws (by omega), toU8_self, low2]
      by_cases a1 : isSp x
      · have ho : okc x := .inl a1
        rw [if_pos (by simpa using a1), token_Split_L0_eq n s k t m (i + 1) _ _ h3 hm' (by simp; omega)]
        simp [okAll_cons, ho, runS, a1]
      rw [if_neg (by simpa using a1)]
      have hmk : isMk x → 33 ≤ x.toNat ∧ x.toNat ≤ 126 ∧ x.toNat ≠ 34 ∧ x.toNat ≠ 92 := fun h => by rcases h with h | h | h | h | h | h <;> omega
      by_cases a2 : x.toNat < 33
      · have ho : ¬ okc x := fun h => by rcases h with h | h; exact a1 h; omega
        rw [if_pos (by omega)]; simp [okAll_cons, ho]
      rw [if_neg (by omega)]
      by_cases a3 : 126 < x.toNat
      · have ho : ¬ okc x := fun h => by rcases h with h | h; exact a1 h; omega
        rw [if_pos (by omega)]; simp [okAll_cons, ho]
      rw [if_neg (by omega)]
      by_cases a4 : x.toNat = 34
      · have ho : ¬ okc x := fun h => by rcases h with h | h; exact a1 h; omega
        rw [if_pos (by omega)]; simp [okAll_cons, ho]
      rw [if_neg (by omega)]
      by_cases a5 : x.toNat = 92
      · have ho : ¬ okc x := fun h => by rcases h with h | h; exact a1 h; omega
        rw [if_pos (by simp; omega)]; simp [okAll_cons, ho]
      rw [if_neg (by simp; omega)]
      have ho : okc x := .inr ⟨by omega, by omega, a4, a5⟩
      by_cases a6 : isMk x
      · rw [if_pos (by simpa using a6), chk_true (by simp; omega), token_Split_L0_eq n s k t m (i + 1) _ _ h3 hm' (by simp; omega)]
        simp [okAll_cons, ho, runS, a1, a6]
      rw [if_neg (by simpa using a6)]
      by_cases a7 : isUp x
      · have := a7
        simp only [isUp] at this
        rw [if_pos (by omega), if_pos (by simp; omega), chk_true (by simp; omega), token_Split_L0_eq n s k t m (i + 1) _ _ h3 hm' (by simp; omega)]
        simp [okAll_cons, ho, runS, a1, a6, low, a7]
      · have hlow : low x = x := by simp [low, a7]
        have := a7
        simp only [isUp] at this
        have e3 : runS (x :: t) ws w = runS t ws (w ++ [x]) := by simp [runS, a1, a6, hlow]
        by_cases a8 : 65 ≤ x.toNat
        · rw [if_pos (by omega), if_neg (by simp; omega), chk_true (by simp; omega), token_Split_L0_eq n s k t m (i + 1) _ _ h3 hm' (by simp; omega), e3]
          simp [okAll_cons, ho]
        · rw [if_neg (by omega), if_neg (by simp), chk_true (by simp; omega), token_Split_L0_eq n s k t m (i + 1) _ _ h3 hm' (by simp; omega), e3]
          simp [okAll_cons, ho]
    · obtain ⟨e1, e2⟩ := rune_other h2 (by omega)
      have hsp : token_space n (runeAt s i) = some false := by
        unfold token_space
        rw [if_neg (by omega), if_neg (by omega), if_neg (by omega)]
        simp; omega
      have ho : ¬ okc x := fun h => by rcases h with h | h; (rcases h with h | h | h | h <;> omega); omega
      simp only [hsp, bind_some', jn_def]
      rw [if_neg (by simp), if_neg (by omega), if_pos (by omega)]
      simp [okAll_cons, ho]
theorem token_Split_L1_eq (n : Nat) (w : List UInt8) (ws : List (List UInt8)) (k : Option (List (List UInt8) × Int)) : ∀ (t : List (List UInt8)) (m i : Nat), ws.drop i = t → t.length < m → token_Split_L1 n (w, ws) k m i = if short t then k else some ([], 7)
  | [], m + 1, i, h, _ => by
    rw [token_Split_L1, if_neg (drop_nil' h)]
    simp [short]
  | x :: t, m + 1, i, h, hm => by
    obtain ⟨h1, h2, h3⟩ := drop_cons h
    rw [token_Split_L1, if_pos h1, h2]
    simp only [bind_some']
    rw [token_Split_L1_eq n w ws k t m (i + 1) h3 (by simpa using hm)]
    by_cases hx : 32 < x.length
    · have : ¬ short (x :: t) := fun h => by have := h x (by simp); omega
      simp [hx, this]
    · have : short (x :: t) ↔ short t := by simp [short]; omega
      simp [hx, this]
theorem token_Split_eq (n : Nat) (s : List UInt8) (hn : 100000 ≤ n) : token_Split n s = some (splitS s) := by
  unfold token_Split splitS
  by_cases h : 65536 < s.length
  · simp [h]
  rw [if_neg h, if_neg h]
  simp only [jn_def]
  rw [token_Split_L0_eq n s _ s n 0 [] [] rfl (by omega) (by simp; omega)]
  have hl := runS_len s [] []
  have hfl := fl_len (runS s [] []).1 (runS s [] []).2
  simp only [List.length_nil, Nat.zero_add] at hl
  by_cases hok : okAll s
  · rw [if_pos hok, if_pos hok, token_Split_1_eq n _ _ (by omega)]
    simp only [bind_some']
    unfold splitR words
    generalize fl (runS s [] []).1 (runS s [] []).2 = ws at *
    by_cases h0 : ws = []
    · simp [h0]
    have h0' : ws.length ≠ 0 := fun h => h0 (List.eq_nil_of_length_eq_zero h)
    rw [if_neg h0', if_neg h0]
    by_cases h1 : 32 < ws.length
    · simp [h1]
    rw [if_neg h1, if_neg h1, token_Split_L1_eq n [] ws _ ws n 0 rfl (by omega)]
    by_cases h2 : short ws <;> simp [h2]
  · rw [if_neg hok, if_neg hok]
/-! the reference -/
theorem r27_white_eq (n : Nat) (x : UInt8) : r27_white n x = some (decide (isSp x)) := by
  unfold r27_white isSp
  by_cases h1 : x.toNat = 32 <;> by_cases h2 : x.toNat = 9 <;> by_cases h3 : x.toNat = 13 <;> simp [h1, h2, h3]
theorem r27_upper_eq (n : Nat) (c : UInt8) : r27_upper n c = some (decide (isUp c)) := by
  unfold r27_upper isUp
  by_cases h1 : 65 ≤ c.toNat <;> by_cases h2 : c.toNat ≤ 90 <;> simp [h1, h2]
theorem r27_part_eq (n : Nat) (x : UInt8) : r27_part n x = some (decide (isPt x)) := by
  unfold r27_part isPt
  rw [r27_upper_eq]
  by_cases h1 : 33 ≤ x.toNat <;> by_cases h2 : x.toNat ≤ 126 <;> by_cases h3 : isUp x <;> by_cases h4 : x.toNat = 34 <;> simp [h1, h2, h3, h4]
theorem r27_marked_eq (n : Nat) (x : UInt8) : r27_marked n x = some (decide (isMk x)) := by
  unfold r27_marked isMk
  by_cases h1 : x.toNat = 46
  · simp [h1]
  by_cases h2 : x.toNat = 44
  · simp [h2]
  by_cases h3 : x.toNat = 63
  · simp [h3]
  by_cases h4 : x.toNat = 33
  · simp [h4]
  by_cases h5 : x.toNat = 59
  · simp [h5]
  · simp [h1, h2, h3, h4, h5]
theorem r27_small_eq (n : Nat) (x : UInt8) : r27_small n x = some [low x] := by
  unfold r27_small low
  rw [r27_upper_eq]
  by_cases h : isUp x
  · simp only [bind_some', h, decide_true, if_true]
    congr 2
    apply UInt8.toNat_inj.1
    simp [UInt8.toNat_add, UInt8.toNat_sub]
    omega
  · simp [h]
theorem take1_drop {s : List UInt8} {i : Nat} {x : UInt8} {t : List UInt8} (h : s.drop i = x :: t) : (s.drop i).take (i + 1 - i) = [x] := by
  rw [h, show i + 1 - i = 1 by omega]; rfl
theorem r27_divided_L0_eq (n : Nat) (s : List UInt8) (k : List (List UInt8) → List UInt8 → Option (List (List UInt8))) : ∀ (t : List UInt8) (m i : Nat) (ws : List (List UInt8)) (w : List UInt8), s.drop i = t → t.length < m → ws.length + w.length + 2 * t.length ≤ 900000 →
    r27_divided_L0 n s k m ws w i = k (runS t ws w).1 (runS t ws w).2
  | [], m + 1, i, ws, w, h, _, _ => by
    rw [r27_divided_L0, if_neg (drop_nil' h)]
    simp [runS]
  | x :: t, m + 1, i, ws, w, h, hm, hb => by
    obtain ⟨h1, h2, h3⟩ := drop_cons h
    have hm' : t.length < m := by simpa using hm
    simp only [List.length_cons] at hb
    have hfl := fl_len ws w
    have hw : w ≠ [] → 1 ≤ w.length := fun h => by cases w; exact absurd rfl h; simp
    rw [r27_divided_L0, if_pos h1, h2]
    simp only [jn_def, bind_some', r27_white_eq, r27_marked_eq, r27_small_eq, take1_drop h]
    have ih := fun ws w hb => r27_divided_L0_eq n s k t m (i + 1) ws w h3 hm' hb
    have flush : ∀ (K : List (List UInt8) → List UInt8 → Option (List (List UInt8))), (if w ≠ [] then chk (ws.length + [w].length ≤ 137438953472) (K (ws ++ [w]) []) else K ws w) = K (fl ws w) [] := fun K => by
      unfold fl
      by_cases h : w = []
      · simp [h]
      · rw [if_pos h, chk_true (by simp; omega), if_neg h]
    have hfw : (fl ws w).length ≤ ws.length + w.length := by
      unfold fl; split
      · omega
      · rename_i h; have := hw h; simp; omega
    by_cases a1 : isSp x
    · have a2 : ¬ isMk x := fun h => by rcases a1 with h1 | h1 | h1 | h1 <;> rcases h with h | h | h | h | h | h <;> omega
      simp only [a1, a2, decide_true, decide_false, Bool.not_true, Bool.false_eq_true, if_false]
      rw [flush (fun ws' w' => r27_divided_L0 n s k m ws' w' (i + 1)), ih _ _ (by simp; omega)]
      simp [runS, a1]
    by_cases a2 : isMk x
    · simp only [a1, a2, decide_true, decide_false, Bool.not_true, Bool.not_false, Bool.false_eq_true, if_false, if_true]
      rw [flush (fun ws' w' => chk (i ≤ i + 1 ∧ i + 1 ≤ s.length) (chk (ws'.length + [[x]].length ≤ 137438953472) (r27_divided_L0 n s k m (ws' ++ [[x]]) w' (i + 1)))), chk_true (by omega), chk_true (by simp; omega), ih _ _ (by simp; omega)]
      simp [runS, a1, a2]
    · simp only [a1, a2, decide_false, Bool.not_false, if_true]
      rw [chk_true (by simp; omega), ih _ _ (by simp; omega)]
      simp [runS, a1, a2]
theorem r27_divided_eq (n : Nat) (s : List UInt8) (hn : 100000 ≤ n) (hs : s.length ≤ 70000) : r27_divided n s = some (words s) := by
  unfold r27_divided words fl
  simp only [jn_def]
  rw [r27_divided_L0_eq n s _ s n 0 [] [] rfl (by omega) (by simp; omega)]
  have hl := runS_len s [] []
  simp only [List.length_nil, Nat.zero_add] at hl
  by_cases h : (runS s [] []).2 = []
  · simp [h]
  · rw [if_pos h, chk_true (by simp; omega), if_neg h]
theorem r27_Split_L0_eq (n : Nat) (s : List UInt8) (k : Option (List (List UInt8) × Int)) : ∀ (t : List UInt8) (m i : Nat), s.drop i = t → t.length < m → r27_Split_L0 n s k m i = if okAll t then k else some ([], 8)
  | [], m + 1, i, h, _ => by
    rw [r27_Split_L0, if_neg (drop_nil' h)]
    simp [okAll]
  | x :: t, m + 1, i, h, hm => by
    obtain ⟨h1, h2, h3⟩ := drop_cons h
    rw [r27_Split_L0, if_pos h1, h2]
    simp only [jn_def, bind_some', r27_white_eq, r27_upper_eq, r27_part_eq]
    rw [r27_Split_L0_eq n s k t m (i + 1) h3 (by simpa using hm)]
    have hk : okc x ↔ (isSp x ∨ isUp x ∨ isPt x) := by
      unfold okc isPt isUp
      constructor
      · rintro (h | h)
        · exact .inl h
        · by_cases h' : 65 ≤ x.toNat ∧ x.toNat ≤ 90
          · exact .inr (.inl h')
          · exact .inr (.inr ⟨h.1, h.2.1, h', h.2.2⟩)
      · rintro (h | h | h)
        · exact .inl h
        · exact .inr (by omega)
        · exact .inr ⟨h.1, h.2.1, h.2.2.2⟩
    by_cases a1 : isSp x <;> by_cases a2 : isUp x <;> by_cases a3 : isPt x <;> simp [a1, a2, a3, okAll_cons, hk]
theorem r27_Split_L1_eq (n : Nat) (ws : List (List UInt8)) : ∀ (t : List (List UInt8)) (m i : Nat), ws.drop i = t → t.length < m → r27_Split_L1 n ws m i = if short t then some (ws, 0) else some ([], 7)
  | [], m + 1, i, h, _ => by
    rw [r27_Split_L1, if_neg (drop_nil' h)]
    simp [short]
  | x :: t, m + 1, i, h, hm => by
    obtain ⟨h1, h2, h3⟩ := drop_cons h
    rw [r27_Split_L1, if_pos h1, h2]
    simp only [bind_some']
    rw [r27_Split_L1_eq n ws t m (i + 1) h3 (by simpa using hm)]
    by_cases hx : 32 < x.length
    · have : ¬ short (x :: t) := fun h => by have := h x (by simp); omega
      simp [hx, this]
    · have : short (x :: t) ↔ short t := by simp [short]; omega
      simp [hx, this]
theorem r27_Split_eq (n : Nat) (s : List UInt8) (hn : 100000 ≤ n) : r27_Split n s = some (splitS s) := by
  unfold r27_Split splitS
  by_cases h : 65536 < s.length
  · simp [h]
  rw [if_neg h, if_neg h]
  simp only [jn_def]
  rw [r27_Split_L0_eq n s _ s n 0 rfl (by omega), r27_divided_eq n s hn (by omega)]
  by_cases hok : okAll s
  · rw [if_pos hok, if_pos hok]
    simp only [bind_some']
    unfold splitR
    generalize words s = ws at *
    by_cases h0 : ws = []
    · simp [h0]
    have h0' : ws.length ≠ 0 := fun h => h0 (List.eq_nil_of_length_eq_zero h)
    rw [if_neg h0', if_neg h0]
    by_cases h1 : 32 < ws.length
    · simp [h1]
    rw [if_neg h1, if_neg h1, r27_Split_L1_eq n ws ws n 0 rfl (by omega)]
    by_cases h2 : short ws <;> simp [h2]
  · rw [if_neg hok, if_neg hok]
/-! the laws -/
theorem law27_TokenSplits_true (s : List UInt8) : law27_TokenSplits 100000 s = some true := by
  unfold law27_TokenSplits
  simp only [ex27, token_Split_eq 100000 s (by omega), r27_Split_eq 100000 s (by omega), bind_some', jn_def]
  have hl : (splitS s).1.length < 100000 := by
    unfold splitS splitR
    repeat' split
    all_goals simp
    omega
  simp only [r01_Same_eq 100000 _ _ (.inl hl), bind_some', decide_true, if_true]
  repeat' split
  all_goals simp_all
end Go.Proofs.Ythblmjbmnfebdaa
