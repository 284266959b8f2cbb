/- Chapter 27: joining, checking, the laws, reckoned -/
import Derived.Test.YthblmjbmnfebdaaB2
namespace Go.Proofs.Ythblmjbmnfebdaa
open Go.Gl
set_option linter.unusedVariables false
set_option linter.unusedSimpArgs false
/-! joining, checking; what the laws say -/
theorem runS_append : ∀ (s t : List UInt8) (ws : List (List UInt8)) (w : List UInt8), runS (s ++ t) ws w = runS t (runS s ws w).1 (runS s ws w).2
  | [], t, ws, w => rfl
  | x :: s, t, ws, w => by
    rw [List.cons_append, runS, runS]
    split
    · exact runS_append s t _ _
    split
    · exact runS_append s t _ _
    · exact runS_append s t _ _
theorem fl_app (w0 ws : List (List UInt8)) (w : List UInt8) : fl (w0 ++ ws) w = w0 ++ fl ws w := by unfold fl; split <;> simp
theorem runS_pre : ∀ (t : List UInt8) (w0 ws : List (List UInt8)) (w : List UInt8), runS t (w0 ++ ws) w = (w0 ++ (runS t ws w).1, (runS t ws w).2)
  | [], w0, ws, w => rfl
  | x :: t, w0, ws, w => by
    rw [runS, runS, fl_app]
    split
    · exact runS_pre t w0 _ _
    split
    · rw [List.append_assoc]; exact runS_pre t w0 _ _
    · exact runS_pre t w0 _ _
def F (p : List (List UInt8) × List UInt8) : List (List UInt8) := fl p.1 p.2
theorem fl_nil (ws : List (List UInt8)) : fl ws [] = ws := by simp [fl]
theorem sp32 : isSp 32 := .inl rfl
theorem words_sp (s t : List UInt8) : words (s ++ 32 :: t) = words s ++ words t := by
  unfold words
  rw [runS_append, runS, if_pos sp32]
  have := runS_pre t (fl (runS s [] []).1 (runS s [] []).2) [] []
  rw [List.append_nil] at this
  rw [this, fl_app]
theorem words_outer (s : List UInt8) : words (([10, 32] ++ s) ++ [9, 13]) = words s := by
  have h1 : isSp 10 := .inr (.inr (.inr rfl))
  have h2 : isSp 9 := .inr (.inl rfl)
  have h3 : isSp 13 := .inr (.inr (.inl rfl))
  have e1 : runS ([10, 32] ++ s) [] [] = runS s [] [] := by
    rw [List.cons_append, List.cons_append, List.nil_append, runS, if_pos h1, runS, if_pos sp32, fl_nil, fl_nil]
  have e2 : ∀ ws v, runS [9, 13] ws v = (fl ws v, []) := fun ws v => by rw [runS, if_pos h2, runS, if_pos h3, runS, fl_nil]
  unfold words
  rw [runS_append, e1, e2]
  exact fl_nil _
/-! raised -/
def raise (x : UInt8) : UInt8 := if 97 ≤ x.toNat ∧ x.toNat ≤ 122 then (x - 97) + 65 else x
theorem raise_nat (x : UInt8) (h : 97 ≤ x.toNat ∧ x.toNat ≤ 122) : (raise x).toNat = x.toNat - 32 := by
  unfold raise
  rw [if_pos h]
  simp [UInt8.toNat_add, UInt8.toNat_sub]
  omega
theorem raise_sp (x : UInt8) : isSp (raise x) ↔ isSp x := by
  by_cases h : 97 ≤ x.toNat ∧ x.toNat ≤ 122
  · have := raise_nat x h; unfold isSp; omega
  · simp [raise, h]
theorem raise_mk (x : UInt8) : isMk (raise x) ↔ isMk x := by
  by_cases h : 97 ≤ x.toNat ∧ x.toNat ≤ 122
  · have := raise_nat x h; unfold isMk; omega
  · simp [raise, h]
theorem raise_ok (x : UInt8) : okc (raise x) ↔ okc x := by
  by_cases h : 97 ≤ x.toNat ∧ x.toNat ≤ 122
  · have := raise_nat x h; unfold okc isSp; omega
  · simp [raise, h]
theorem raise_low (x : UInt8) : low (raise x) = low x := by
  by_cases h : 97 ≤ x.toNat ∧ x.toNat ≤ 122
  · have h1 := raise_nat x h
    have h2 : isUp (raise x) := by unfold isUp; omega
    have h3 : ¬ isUp x := by unfold isUp; omega
    unfold low
    rw [if_pos h2, if_neg h3]
    apply UInt8.toNat_inj.1
    simp [UInt8.toNat_add, h1]
    omega
  · simp [raise, h]
theorem runS_raise : ∀ (s : List UInt8) (ws : List (List UInt8)) (w : List UInt8), runS (s.map raise) ws w = runS s ws w
  | [], ws, w => rfl
  | x :: s, ws, w => by
    rw [List.map_cons, runS, runS]
    simp only [raise_sp, raise_mk, raise_low]
    by_cases h1 : isSp x
    · rw [if_pos h1, if_pos h1]; exact runS_raise s _ _
    rw [if_neg h1, if_neg h1]
    by_cases h2 : isMk x
    · rw [if_pos h2, if_pos h2]
      have : raise x = x := by
        unfold raise
        rw [if_neg]
        unfold isMk at h2; omega
      rw [this]; exact runS_raise s _ _
    · rw [if_neg h2, if_neg h2]; exact runS_raise s _ _
theorem splitS_raise (s : List UInt8) : splitS (s.map raise) = splitS s := by
  unfold splitS words
  rw [runS_raise, List.length_map]
  have : okAll (s.map raise) ↔ okAll s := by simp [okAll, raise_ok]
  simp only [this]
theorem raised_L0_eq (n : Nat) (s : List UInt8) : ∀ (t : List UInt8) (m i : Nat) (out : List UInt8), s.drop i = t → t.length < m → out.length + t.length ≤ 900000 → law27_raised_L0 n s m out i = some (out ++ t.map raise)
  | [], m + 1, i, out, h, _, _ => by
    rw [law27_raised_L0, if_neg (drop_nil' h)]
    simp
  | x :: t, m + 1, i, out, h, hm, hb => by
    obtain ⟨h1, h2, h3⟩ := drop_cons h
    simp only [List.length_cons] at hb
    rw [law27_raised_L0, if_pos h1, h2]
    simp only [jn_def, bind_some', take1_drop h]
    have ih := fun out hb => raised_L0_eq n s t m (i + 1) out h3 (by simpa using hm) hb
    by_cases a1 : 97 ≤ x.toNat
    · by_cases a2 : x.toNat ≤ 122
      · rw [if_pos a1, if_pos (by simp [a2]), chk_true (by simp; omega), ih _ (by simp; omega)]
        simp [raise, a1, a2]
      · rw [if_pos a1, if_neg (by simp [a2]), chk_true (by omega), chk_true (by simp; omega), ih _ (by simp; omega)]
        simp [raise, a2]
    · rw [if_neg a1, if_neg (by simp), chk_true (by omega), chk_true (by simp; omega), ih _ (by simp; omega)]
      simp [raise, a1]
theorem raised_eq (n : Nat) (s : List UInt8) (hn : 100000 ≤ n) (hs : s.length ≤ 1000) : law27_raised n s = some (s.map raise) := by
  unfold law27_raised
  rw [raised_L0_eq n s s n 0 [] rfl (by omega) (by simp; omega)]
  simp
theorem splitS_len (s : List UInt8) : (splitS s).1.length ≤ 32 := by
  unfold splitS splitR
  repeat' split
  all_goals simp
  omega
theorem law27_TokenCase_true (s : List UInt8) : law27_TokenCase 100000 s = some true := by
  unfold law27_TokenCase
  by_cases h : 1000 < s.length
  · simp [h, ex27]
  rw [if_neg h, raised_eq 100000 s (by omega) (by omega)]
  simp only [token_Split_eq 100000 _ (Nat.le_refl _), bind_some', splitS_raise, if_true, decide_true, ex27]
  have ho : splitS (([10, 32] ++ s) ++ [9, 13]) = splitS s := by
    unfold splitS
    rw [words_outer]
    have h1 : okAll (([10, 32] ++ s) ++ [9, 13]) ↔ okAll s := by
      rw [okAll_append, okAll_append]
      have a1 : okAll [10, 32] := by decide
      have a2 : okAll [9, 13] := by decide
      simp [a1, a2]
    have h5 : ¬ 65536 < (([10, 32] ++ s) ++ [9, 13]).length := by simp; omega
    have h6 : ¬ 65536 < s.length := by omega
    rw [if_neg h5, if_neg h6]
    simp only [h1]
  have hl := splitS_len s
  rw [chk_true (by simp; omega), chk_true (by simp; omega), ho, r01_Same_eq 100000 _ _ (.inl (by omega))]
  simp
theorem law27_TokenConcat_true (s t : List UInt8) : law27_TokenConcat 100000 s t = some true := by
  unfold law27_TokenConcat
  simp only [token_Split_eq 100000 _ (Nat.le_refl _), bind_some', jn_def, ex27]
  have hl := splitS_len s
  have hl' := splitS_len t
  by_cases h1 : 1000 < s.length
  · simp [h1]
  rw [if_neg h1]
  by_cases h2 : 1000 < t.length
  · simp [h2]
  rw [if_neg (by simp [h2])]
  have hz : ∀ u, (splitS u).2 ≠ 0 → (splitS u).1.length = 0 := fun u => by
    unfold splitS splitR
    repeat' split
    all_goals simp
  by_cases a1 : (splitS s).2 = 0
  · by_cases a2 : (splitS t).2 = 0
    · rw [if_neg (by simpa using a1), if_neg (by simp [a2]), chk_true (by simp; omega), chk_true (by simp; omega), chk_true (by omega)]
      -- both have words
      have hw : ∀ u, (splitS u).2 = 0 → okAll u ∧ words u ≠ [] ∧ (words u).length ≤ 32 ∧ short (words u) ∧ (splitS u).1 = words u := fun u hu => by
        unfold splitS at hu ⊢
        split at hu
        · simp at hu
        split at hu
        · rename_i q1 q2
          unfold splitR at hu
          split at hu
          · simp at hu
          split at hu
          · simp at hu
          split at hu
          · rename_i q3 q4 q5
            rw [if_neg q1, if_pos q2, splitR, if_neg q3, if_neg q4, if_pos q5]
            exact ⟨q2, q3, by omega, q5, rfl⟩
          · simp at hu
        · simp at hu
      obtain ⟨p1, p2, p3, p4, p5⟩ := hw s a1
      obtain ⟨q1, q2, q3, q4, q5⟩ := hw t a2
      have e : s ++ [32] ++ t = s ++ 32 :: t := by simp
      have hok : okAll (s ++ 32 :: t) := by
        rw [okAll_append, okAll_cons]
        exact ⟨p1, .inl sp32, q1⟩
      have hsp : splitS (s ++ [32] ++ t) = splitR (words s ++ words t) := by
        rw [e, splitS, if_neg (by simp; omega), if_pos hok, words_sp]
      have hne : words s ++ words t ≠ [] := by simp [p2]
      have hsh : short (words s ++ words t) := by
        intro w hw
        rcases List.mem_append.1 hw with h | h
        · exact p4 w h
        · exact q4 w h
      rw [p5, q5, hsp]
      by_cases h3 : 32 < (words s).length + (words t).length
      · have h4 : splitR (words s ++ words t) = ([], 7) := by
          rw [splitR, if_neg hne, if_pos (by rw [List.length_append]; omega)]
        rw [if_pos h3, h4]
        simp
      · have h4 : splitR (words s ++ words t) = (words s ++ words t, 0) := by
          rw [splitR, if_neg hne, if_neg (by rw [List.length_append]; omega), if_pos hsh]
        rw [if_neg h3, h4]
        simp only [if_true]
        rw [chk_true (by omega), chk_true (by omega), r01_Same_eq 100000 _ _ (.inl (by simp; omega))]
        simp
    · have := hz t a2
      simp [a1, a2, this]
  · have := hz s a1
    by_cases a2 : (splitS t).2 = 0
    · simp [a1, a2, this]
    · have := hz t a2
      simp_all
/-! joining -/
theorem join_len_le (l : List (List UInt8)) (b : Nat) (h : ∀ w ∈ l, w.length ≤ b) : (Lib.joinTail [32] l).length ≤ l.length * (b + 1) := by
  induction l with
  | nil => simp [Lib.joinTail]
  | cons x r ih =>
    have := ih fun w hw => h w (by simp [hw])
    have hx := h x (by simp)
    simp only [Lib.joinTail, List.map_cons, List.flatten_cons, List.length_append, List.length_cons, List.length_nil, Nat.add_mul, Nat.one_mul] at this ⊢
    simp only [Nat.mul_add, Nat.mul_one] at this ⊢
    omega
theorem join_len (l : List (List UInt8)) (b : Nat) (h : ∀ w ∈ l, w.length ≤ b) : (Lib.join l [32]).length ≤ l.length * (b + 1) := by
  cases l with
  | nil => simp [Lib.join_nil]
  | cons x r =>
    rw [Lib.join_cons, List.length_append]
    have := join_len_le r b fun w hw => h w (by simp [hw])
    have hx := h x (by simp)
    simp only [List.length_cons, Nat.add_mul, Nat.one_mul, Nat.mul_add, Nat.mul_one] at this ⊢
    omega
theorem mul_small {a b c d : Nat} (h1 : a ≤ c) (h2 : b ≤ d) : a * b ≤ c * d := Nat.mul_le_mul h1 h2
theorem token_Join_eq (n : Nat) (l : List (List UInt8)) (hl : l.length ≤ 60) (h : ∀ w ∈ l, w.length ≤ 100) : token_Join n l = some (Lib.join l [32]) := by
  unfold token_Join strings_Join
  have h1 := join_len l 100 h
  have h2 := mul_small hl (Nat.le_refl 101)
  rw [chk_true (by omega)]
  rfl
theorem r27_Join_L0_eq (n : Nat) (l : List (List UInt8)) : ∀ (t : List (List UInt8)) (m i : Nat) (acc : List UInt8), l.drop i = t → t.length < m → 0 < i → acc.length + (Lib.joinTail [32] t).length ≤ 900000 → r27_Join_L0 n l m acc i = some (acc ++ Lib.joinTail [32] t)
  | [], m + 1, i, acc, h, _, _, _ => by
    rw [r27_Join_L0, if_neg (drop_nil' h)]
    simp [Lib.joinTail]
  | x :: t, m + 1, i, acc, h, hm, hi, hb => by
    obtain ⟨h1, h2, h3⟩ := drop_cons h
    have e : Lib.joinTail [32] (x :: t) = [32] ++ x ++ Lib.joinTail [32] t := by simp [Lib.joinTail]
    rw [e] at hb ⊢
    simp only [List.length_append, List.length_cons, List.length_nil] at hb
    rw [r27_Join_L0, if_pos h1]
    simp only [jn_def, h2, bind_some']
    rw [if_pos hi, chk_true (by simp; omega), chk_true (by simp; omega), r27_Join_L0_eq n l t m (i + 1) _ h3 (by simpa using hm) (by omega) (by simp; omega)]
    simp
theorem r27_Join_eq (n : Nat) (l : List (List UInt8)) (hn : 100000 ≤ n) (hl : l.length ≤ 60) (h : ∀ w ∈ l, w.length ≤ 100) : r27_Join n l = some (Lib.join l [32]) := by
  unfold r27_Join
  obtain ⟨m, rfl⟩ : ∃ m, n = m + 1 := ⟨n - 1, by omega⟩
  cases l with
  | nil => simp [r27_Join_L0, Lib.join_nil]
  | cons x r =>
    have h1 := join_len_le r 100 fun w hw => h w (by simp [hw])
    have hx := h x (by simp)
    simp only [List.length_cons] at hl
    have h2 := mul_small (show r.length ≤ 60 by omega) (Nat.le_refl 101)
    rw [r27_Join_L0, if_pos (by simp)]
    simp only [jn_def]
    rw [if_neg (by omega)]
    simp only [List.getElem?_cons_zero, bind_some']
    rw [chk_true (by simp; omega), r27_Join_L0_eq (m + 1) (x :: r) r m 1 _ rfl (by omega) (by omega) (by simp; omega), Lib.join_cons]
    simp
def light (l : List (List UInt8)) : Prop := l.length ≤ 60 ∧ ∀ w ∈ l, w.length ≤ 100
instance (l : List (List UInt8)) : Decidable (light l) := inferInstanceAs (Decidable (_ ∧ _))
theorem r27_Light_L0_eq (n : Nat) (l : List (List UInt8)) : ∀ (t : List (List UInt8)) (m i : Nat), l.drop i = t → t.length < m → r27_Light_L0 n l m i = some (decide (∀ w ∈ t, w.length ≤ 100))
  | [], m + 1, i, h, _ => by
    rw [r27_Light_L0, if_neg (drop_nil' h)]
    simp
  | x :: t, m + 1, i, h, hm => by
    obtain ⟨h1, h2, h3⟩ := drop_cons h
    rw [r27_Light_L0, if_pos h1, h2]
    simp only [bind_some']
    rw [r27_Light_L0_eq n l t m (i + 1) h3 (by simpa using hm)]
    by_cases hx : 100 < x.length
    · have : ¬ ∀ w ∈ x :: t, w.length ≤ 100 := fun h => by have := h x (by simp); omega
      simp only [hx, this, if_true, decide_false]
    · have : (∀ w ∈ x :: t, w.length ≤ 100) ↔ ∀ w ∈ t, w.length ≤ 100 := by simp; omega
      simp only [hx, this, if_false]
theorem r27_Light_eq (n : Nat) (l : List (List UInt8)) (hn : 100000 ≤ n) : r27_Light n l = some (decide (light l)) := by
  unfold r27_Light light
  by_cases h : 60 < l.length
  · have : ¬ l.length ≤ 60 := by omega
    simp [h, this]
  · rw [if_neg h, r27_Light_L0_eq n l l n 0 rfl (by omega)]
    have : l.length ≤ 60 := by omega
    simp [this]
theorem law27_TokenJoins_true (l : List (List UInt8)) : law27_TokenJoins 100000 l = some true := by
  unfold law27_TokenJoins
  simp only [r27_Light_eq 100000 l (Nat.le_refl _), bind_some', ex27]
  by_cases h : light l
  · rw [token_Join_eq 100000 l h.1 h.2, r27_Join_eq 100000 l (Nat.le_refl _) h.1 h.2]
    simp [h]
  · simp [h]
/-! checking -/
def allWords (l : List (List UInt8)) : Prop := ∀ w ∈ l, isWord w
instance (l : List (List UInt8)) : Decidable (allWords l) := inferInstanceAs (Decidable (∀ w ∈ l, isWord w))
def checkS (l : List (List UInt8)) : Int := if l.length = 0 then 1 else if 32 < l.length then 7 else if allWords l then 0 else 1
theorem r27_Check_L0_eq (n : Nat) (l : List (List UInt8)) (hn : 40 ≤ n) : ∀ (t : List (List UInt8)) (m i : Nat), l.drop i = t → t.length < m → r27_Check_L0 n l m i = some (if allWords t then 0 else 1)
  | [], m + 1, i, h, _ => by
    rw [r27_Check_L0, if_neg (drop_nil' h)]
    simp [allWords]
  | x :: t, m + 1, i, h, hm => by
    obtain ⟨h1, h2, h3⟩ := drop_cons h
    rw [r27_Check_L0, if_pos h1, h2]
    simp only [bind_some', r01_Word_eq n _ hn]
    rw [r27_Check_L0_eq n l hn t m (i + 1) h3 (by simpa using hm)]
    have : allWords (x :: t) ↔ isWord x ∧ allWords t := by simp [allWords]
    by_cases hx : isWord x <;> simp [hx, this]
theorem token_Check_L0_eq (n : Nat) (l : List (List UInt8)) (hn : 40 ≤ n) : ∀ (t : List (List UInt8)) (m i : Nat), l.drop i = t → t.length < m → token_Check_L0 n l m i = some (if allWords t then 0 else 1)
  | [], m + 1, i, h, _ => by
    rw [token_Check_L0, if_neg (drop_nil' h)]
    simp [allWords]
  | x :: t, m + 1, i, h, hm => by
    obtain ⟨h1, h2, h3⟩ := drop_cons h
    rw [token_Check_L0, if_pos h1, h2]
    simp only [bind_some', text_Word_eq n _ hn]
    rw [token_Check_L0_eq n l hn t m (i + 1) h3 (by simpa using hm)]
    have : allWords (x :: t) ↔ isWord x ∧ allWords t := by simp [allWords]
    by_cases hx : isWord x <;> simp [hx, this]
theorem r27_Check_eq (n : Nat) (l : List (List UInt8)) (hn : 100000 ≤ n) : r27_Check n l = some (checkS l) := by
  unfold r27_Check checkS
  by_cases h0 : l.length = 0
  · simp [h0]
  by_cases h1 : 32 < l.length
  · simp [h0, h1]
  · rw [if_neg h0, if_neg h1, if_neg h0, if_neg h1, r27_Check_L0_eq n l (by omega) l n 0 rfl (by omega)]
theorem token_Check_eq (n : Nat) (l : List (List UInt8)) (hn : 100000 ≤ n) : token_Check n l = some (checkS l) := by
  unfold token_Check checkS
  by_cases h0 : l.length = 0
  · simp [h0]
  by_cases h1 : 32 < l.length
  · simp [h0, h1]
  · rw [if_neg h0, if_neg h1, if_neg h0, if_neg h1, token_Check_L0_eq n l (by omega) l n 0 rfl (by omega)]
theorem law27_TokenChecks_true (l : List (List UInt8)) : law27_TokenChecks 100000 l = some true := by
  unfold law27_TokenChecks
  simp only [r27_Light_eq 100000 l (Nat.le_refl _), bind_some', ex27, token_Check_eq 100000 l (Nat.le_refl _), r27_Check_eq 100000 l (Nat.le_refl _)]
  by_cases h : light l <;> simp [h]
/-! back -/
def good (w : List UInt8) : Prop := (∃ x, w = [x] ∧ isMk x) ∨ (w ≠ [] ∧ ∀ x ∈ w, isPt x ∧ ¬ isMk x)
theorem mk_pt {x : UInt8} (h : isMk x) : isPt x := by
  unfold isPt isUp
  rcases h with h | h | h | h | h | h <;> omega
theorem good_pt {w : List UInt8} (h : good w) : w ≠ [] ∧ ∀ x ∈ w, isPt x := by
  rcases h with ⟨x, rfl, hx⟩ | ⟨h0, h⟩
  · exact ⟨by simp, fun y hy => by simp at hy; subst hy; exact mk_pt hx⟩
  · exact ⟨h0, fun y hy => (h y hy).1⟩
theorem pt_nosp {x : UInt8} (h : isPt x) : ¬ isSp x := fun hs => by
  have := h.1
  rcases hs with h | h | h | h <;> omega
theorem pt_low {x : UInt8} (h : isPt x) : low x = x := by simp [low, h.2.2.1]
theorem runS_plain : ∀ (w : List UInt8) (ws : List (List UInt8)) (v : List UInt8), (∀ x ∈ w, isPt x ∧ ¬ isMk x) → runS w ws v = (ws, v ++ w)
  | [], ws, v, _ => by simp [runS]
  | x :: w, ws, v, h => by
    have hx := h x (by simp)
    rw [runS, if_neg (pt_nosp hx.1), if_neg hx.2, runS_plain w ws _ (fun y hy => h y (by simp [hy])), pt_low hx.1]
    simp
theorem good_run {w : List UInt8} (h : good w) (ws : List (List UInt8)) : F (runS w ws []) = ws ++ [w] := by
  rcases h with ⟨x, rfl, hx⟩ | ⟨h0, h⟩
  · rw [runS, if_neg (pt_nosp (mk_pt hx)), if_pos hx, runS]
    simp [F, fl]
  · rw [runS_plain w ws [] h]
    simp [F, fl, h0]
theorem tail_run : ∀ (r : List (List UInt8)), (∀ w ∈ r, good w) → ∀ (p : List (List UInt8) × List UInt8), F (runS (Lib.joinTail [32] r) p.1 p.2) = F p ++ r
  | [], _, p => by simp [Lib.joinTail, runS, F]
  | x :: r, h, p => by
    have e : Lib.joinTail [32] (x :: r) = 32 :: (x ++ Lib.joinTail [32] r) := by simp [Lib.joinTail]
    rw [e, runS, if_pos sp32, runS_append, tail_run r (fun w hw => h w (by simp [hw])), good_run (h x (by simp))]
    simp [F]
theorem words_join (l : List (List UInt8)) (h : ∀ w ∈ l, good w) : words (Lib.join l [32]) = l := by
  cases l with
  | nil => simp [Lib.join_nil, words, runS, fl]
  | cons x r =>
    rw [Lib.join_cons, words, runS_append]
    have := tail_run r (fun w hw => h w (by simp [hw])) (runS x [] [])
    rw [good_run (h x (by simp))] at this
    simpa [F] using this
theorem ok_tail (r : List (List UInt8)) (h : ∀ w ∈ r, ∀ x ∈ w, isPt x) : okAll (Lib.joinTail [32] r) := by
  intro x hx
  simp only [Lib.joinTail, List.mem_flatten, List.mem_map] at hx
  obtain ⟨y, ⟨w, hw, rfl⟩, hx⟩ := hx
  rcases List.mem_append.1 hx with h1 | h1
  · simp at h1; subst h1; exact .inl sp32
  · have hp := h w hw x h1
    exact .inr ⟨hp.1, hp.2.1, hp.2.2.2⟩
theorem ok_join (l : List (List UInt8)) (h : ∀ w ∈ l, ∀ x ∈ w, isPt x) : okAll (Lib.join l [32]) := by
  cases l with
  | nil => simp [Lib.join_nil, okAll]
  | cons x r =>
    rw [Lib.join_cons, okAll_append]
    exact ⟨fun y hy => by have hp := h x (by simp) y hy; exact .inr ⟨hp.1, hp.2.1, hp.2.2.2⟩, ok_tail r fun w hw => h w (by simp [hw])⟩
/-- the words of a text that is permitted are good -/
theorem words_good (s : List UInt8) (hok : okAll s) : ∀ w ∈ words s, good w := by
  have key : ∀ (t : List UInt8) (ws : List (List UInt8)) (v : List UInt8), okAll t → (∀ w ∈ ws, good w) → (∀ x ∈ v, isPt x ∧ ¬ isMk x) → ∀ w ∈ F (runS t ws v), good w := by
    have flg : ∀ (ws : List (List UInt8)) (v : List UInt8), (∀ w ∈ ws, good w) → (∀ x ∈ v, isPt x ∧ ¬ isMk x) → ∀ w ∈ fl ws v, good w := by
      intro ws v h1 h2 w hw
      unfold fl at hw
      split at hw
      · exact h1 w hw
      · rename_i h0
        rcases List.mem_append.1 hw with h | h
        · exact h1 w h
        · simp at h; subst h; exact .inr ⟨h0, h2⟩
    intro t
    induction t with
    | nil => intro ws v _ h1 h2; exact flg ws v h1 h2
    | cons x t ih =>
      intro ws v ho h1 h2
      rw [okAll_cons] at ho
      rw [runS]
      split
      · exact ih _ _ ho.2 (flg ws v h1 h2) (by simp)
      split
      · rename_i hm
        refine ih _ _ ho.2 (fun w hw => ?_) (by simp)
        rcases List.mem_append.1 hw with h | h
        · exact flg ws v h1 h2 w h
        · simp at h; subst h; exact .inl ⟨x, rfl, hm⟩
      · rename_i hs hm
        refine ih _ _ ho.2 h1 fun y hy => ?_
        rcases List.mem_append.1 hy with h | h
        · exact h2 y h
        · simp at h
          subst h
          have hx : 33 ≤ x.toNat ∧ x.toNat ≤ 126 ∧ x.toNat ≠ 34 ∧ x.toNat ≠ 92 := ho.1.resolve_left hs
          by_cases hu : isUp x
          · have hu' := hu
            unfold isUp at hu'
            have e : (low x).toNat = x.toNat + 32 := by
              unfold low
              rw [if_pos hu]
              simp [UInt8.toNat_add]
              omega
            unfold isPt isUp isMk
            omega
          · have e : low x = x := by simp [low, hu]
            rw [e]
            exact ⟨⟨hx.1, hx.2.1, hu, hx.2.2⟩, hm⟩
  exact key s [] [] hok (by simp) (by simp)
theorem split_join (l : List (List UInt8)) (h : ∀ w ∈ l, good w) (h0 : l ≠ []) (h1 : l.length ≤ 32) (h2 : short l) : splitS (Lib.join l [32]) = (l, 0) := by
  have h3 := join_len l 32 h2
  have h4 := mul_small h1 (Nat.le_refl 33)
  rw [splitS, if_neg (by omega), if_pos (ok_join l fun w hw => (good_pt (h w hw)).2), words_join l h, splitR, if_neg h0, if_neg (by omega), if_pos h2]
def simple (l : List (List UInt8)) : Prop := ∀ w ∈ l, 1 < w.length → ∀ x ∈ w, ¬ isMk x
instance (l : List (List UInt8)) : Decidable (simple l) := inferInstanceAs (Decidable (∀ w ∈ l, 1 < w.length → ∀ x ∈ w, ¬ isMk x))
theorem r27_Simple_L1_eq (n : Nat) (l : List (List UInt8)) (i : Nat) (w : List UInt8) (hw : l[i]? = some w) (k : Option Bool) : ∀ (t : List UInt8) (m j : Nat), w.drop j = t → t.length < m → r27_Simple_L1 n l i k m j = if 1 < w.length → ∀ x ∈ t, ¬ isMk x then k else some false
  | [], m + 1, j, h, _ => by
    rw [r27_Simple_L1, hw]
    simp only [bind_some']
    rw [if_neg (drop_nil' h)]
    simp
  | x :: t, m + 1, j, h, hm => by
    obtain ⟨h1, h2, h3⟩ := drop_cons h
    rw [r27_Simple_L1, hw]
    simp only [bind_some', jn_def]
    rw [if_pos h1, h2]
    simp only [bind_some', r27_marked_eq]
    rw [r27_Simple_L1_eq n l i w hw k t m (j + 1) h3 (by simpa using hm)]
    by_cases a1 : isMk x
    · by_cases a2 : 1 < w.length
      · simp [a1, a2]
      · simp [a1, a2]
    · simp [a1]
theorem r27_Simple_L0_eq (n : Nat) (l : List (List UInt8)) (hs : ∀ w ∈ l, w.length < n) : ∀ (t : List (List UInt8)) (m i : Nat), l.drop i = t → t.length < m → r27_Simple_L0 n l m i = some (decide (simple t))
  | [], m + 1, i, h, _ => by
    rw [r27_Simple_L0, if_neg (drop_nil' h)]
    simp [simple]
  | x :: t, m + 1, i, h, hm => by
    obtain ⟨h1, h2, h3⟩ := drop_cons h
    rw [r27_Simple_L0, if_pos h1]
    simp only [jn_def]
    rw [r27_Simple_L1_eq n l i x h2 _ x n 0 rfl (hs x (List.mem_of_getElem? h2)), r27_Simple_L0_eq n l hs t m (i + 1) h3 (by simpa using hm)]
    have : simple (x :: t) ↔ (1 < x.length → ∀ y ∈ x, ¬ isMk y) ∧ simple t := by simp [simple]
    by_cases a1 : 1 < x.length → ∀ y ∈ x, ¬ isMk y
    · have h4 : simple (x :: t) ↔ simple t := ⟨fun h => (this.1 h).2, fun h => this.2 ⟨a1, h⟩⟩
      rw [if_pos a1]; simp only [h4]
    · have h4 : ¬ simple (x :: t) := fun h => a1 (this.1 h).1
      rw [if_neg a1]; simp only [h4, decide_false]
theorem r27_Simple_eq (n : Nat) (l : List (List UInt8)) (hn : 100000 ≤ n) (h : light l) : r27_Simple n l = some (decide (simple l)) := by
  unfold r27_Simple
  have h1 := h.1
  exact r27_Simple_L0_eq n l (fun w hw => by have := h.2 w hw; omega) l n 0 rfl (by omega)
theorem law27_TokenBack_true (s : List UInt8) (l : List (List UInt8)) : law27_TokenBack 100000 s l = some true := by
  unfold law27_TokenBack
  simp only [token_Split_eq 100000 _ (Nat.le_refl _), bind_some', jn_def, ex27, r27_Light_eq 100000 l (Nat.le_refl _), token_Check_eq 100000 _ (Nat.le_refl _)]
  by_cases h1 : 2000 < s.length
  · simp [h1]
  rw [if_neg h1]
  rcases Decidable.em (light l) with h2 | h2
  case inr => simp [h2]
  rw [if_neg (by simp [h2])]
  -- the second half
  have half : (if checkS l ≠ 0 then (if true = true then (some true : Option Bool) else
        (token_Join 100000 l).bind fun r71 => if (splitS r71).2 = 0 then (r01_Same 100000 (splitS r71).1 l).bind fun r82 => if r82 = true then some true else some false else some false)
      else (r27_Simple 100000 l).bind fun r58 => if (!r58) = true then some true else
        (token_Join 100000 l).bind fun r71 => if (splitS r71).2 = 0 then (r01_Same 100000 (splitS r71).1 l).bind fun r82 => if r82 = true then some true else some false else some false) = some true := by
    by_cases a1 : checkS l = 0
    · rw [if_neg (by simpa using a1), r27_Simple_eq 100000 l (Nat.le_refl _) h2]
      simp only [bind_some']
      by_cases a2 : simple l
      · have hl0 : l ≠ [] := fun e => by subst e; simp [checkS] at a1
        have hl0' : l.length ≠ 0 := fun h => hl0 (List.eq_nil_of_length_eq_zero h)
        have hl1 : l.length ≤ 32 := by
          rcases Nat.lt_or_ge 32 l.length with h | h
          · simp [checkS, hl0', h] at a1
          · exact h
        have hw : allWords l := by
          by_cases h : allWords l
          · exact h
          · have : ¬ 32 < l.length := by omega
            simp [checkS, hl0', this, h] at a1
        have hg : ∀ w ∈ l, good w := fun w hm => by
          obtain ⟨p1, p2, p3⟩ := hw w hm
          by_cases h1 : 1 < w.length
          · exact .inr ⟨p1, fun x hx => ⟨p3 x hx, a2 w hm h1 x hx⟩⟩
          · match w, p1, p3, h1 with
            | [x], _, p3, _ =>
              by_cases hx : isMk x
              · exact .inl ⟨x, rfl, hx⟩
              · exact .inr ⟨by simp, fun y hy => by simp at hy; subst hy; exact ⟨p3 y (by simp), hx⟩⟩
            | x :: y :: r, _, _, h1 => exact absurd (by simp) h1
        have hsh : short l := fun w hm => (hw w hm).2.1
        rw [if_neg (by simp [a2]), token_Join_eq 100000 l h2.1 h2.2]
        simp only [bind_some', split_join l hg hl0 hl1 hsh, if_true]
        rw [r01_Same_eq 100000 _ _ (.inl (by omega))]
        simp
      · simp [a2]
    · simp [a1]
  rcases Decidable.em ((splitS s).2 = 0) with h3 | h3
  case inr => rw [if_neg h3]; simpa using half
  rw [if_pos h3]
  have hw : okAll s ∧ words s ≠ [] ∧ (words s).length ≤ 32 ∧ short (words s) ∧ (splitS s).1 = words s := by
    have hu := h3
    unfold splitS at hu ⊢
    split at hu
    · simp at hu
    split at hu
    · rename_i q1 q2
      unfold splitR at hu
      split at hu
      · simp at hu
      split at hu
      · simp at hu
      split at hu
      · rename_i q3 q4 q5
        rw [if_neg q1, if_pos q2, splitR, if_neg q3, if_neg q4, if_pos q5]
        exact ⟨q2, q3, by omega, q5, rfl⟩
      · simp at hu
    · simp at hu
  obtain ⟨p1, p2, p3, p4, p5⟩ := hw
  have hg := words_good s p1
  rw [p5, token_Join_eq 100000 _ (by omega) (fun w hw => by have := p4 w hw; omega)]
  simp only [bind_some', split_join _ hg p2 p3 p4]
  rw [r01_Same_eq 100000 _ _ (.inl (by omega))]
  have hc : checkS (words s) = 0 := by
    have h0 : (words s).length ≠ 0 := fun h => p2 (List.eq_nil_of_length_eq_zero h)
    have hall : allWords (words s) := fun w hm => ⟨(good_pt (hg w hm)).1, p4 w hm, (good_pt (hg w hm)).2⟩
    rw [checkS, if_neg h0, if_neg (by omega), if_pos hall]
  simp only [hc, bind_some', ne_eq, not_true_eq_false, if_false, decide_true, Bool.not_true, Bool.false_eq_true, decide_false]
  simpa using half
end Go.Proofs.Ythblmjbmnfebdaa
