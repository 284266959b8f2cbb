/- Chapter 37: plain laws of the best one -/
import Derived.Test.YthgdajiipojnoaaDoorM4
namespace Go.Proofs.YthgdajiipojnoaaDoor
open Go.Gl Go.Sort
set_option linter.unusedVariables false
set_option linter.unusedSimpArgs false
/-! derivations compared; the best one -/
def ci (a b : Int) : Int := if a < b then -1 else if b < a then 1 else 0
mutual
def cmD : Deriv → Deriv → Int
  | ⟨k, nm, f, t, ks⟩, b => if ci f b.From ≠ 0 then ci f b.From else if ci t b.To ≠ 0 then ci t b.To else if ci k b.Kind ≠ 0 then ci k b.Kind else if cs nm b.Name ≠ 0 then cs nm b.Name else cmL ks b.Kids
def cmL : List Deriv → List Deriv → Int
  | [], [] => 0
  | [], _ :: _ => -1
  | _ :: _, [] => 1
  | a :: s, b :: t => if cmD a b ≠ 0 then cmD a b else cmL s t
end
theorem cmD_eq (a b : Deriv) : cmD a b = if ci a.From b.From ≠ 0 then ci a.From b.From else if ci a.To b.To ≠ 0 then ci a.To b.To else if ci a.Kind b.Kind ≠ 0 then ci a.Kind b.Kind else if cs a.Name b.Name ≠ 0 then cs a.Name b.Name else cmL a.Kids b.Kids := by cases a; rfl
theorem cmL_cons (a b : Deriv) (s t : List Deriv) : cmL (a :: s) (b :: t) = if cmD a b ≠ 0 then cmD a b else cmL s t := rfl
theorem CmpI_eq (n : Nat) (a b : Int) : cmp_Compare_int n a b = some (ci a b) := by
  unfold cmp_Compare_int cmp_isNaN_int ci
  simp only [bind_some', ne_eq, not_true, decide_false, Bool.false_eq_true, if_false]
  split
  · rfl
  · split <;> rfl
theorem ints_eq (n : Nat) (a b : Int) : r28_ints n a b = some (ci a b) := by
  unfold r28_ints ci
  split
  · rfl
  · split <;> rfl
theorem Or_eq (n : Nat) (hn : 10 ≤ n) (a b c d : Int) : cmp_Or_int n [a, b, c, d] = some (if a ≠ 0 then a else if b ≠ 0 then b else if c ≠ 0 then c else d) := by
  obtain ⟨m, rfl⟩ : ∃ m, n = m + 5 := ⟨n - 5, by omega⟩
  unfold cmp_Or_int
  rw [cmp_Or_int_L0, if_pos (by simp), cmp_Or_int_L0, if_pos (by simp), cmp_Or_int_L0, if_pos (by simp), cmp_Or_int_L0, if_pos (by simp), cmp_Or_int_L0, if_neg (by simp)]
  simp only [List.getElem?_cons_zero, List.getElem?_cons_succ, Nat.zero_add, bind_some']
  by_cases h1 : a = 0
  · by_cases h2 : b = 0
    · by_cases h3 : c = 0
      · by_cases h4 : d = 0 <;> simp [h1, h2, h3, h4]
      · simp [h1, h2, h3]
    · simp [h1, h2]
  · simp [h1]
theorem CmpF_L0 (n : Nat) (s1 s2 : List Deriv) (f : Deriv × Deriv → Option Int) (hf : ∀ x ∈ s1, ∀ y, f (x, y) = some (cmD x y)) : ∀ (t : List Deriv) (m i : Nat), s1.drop i = t → t.length < m → i ≤ s1.length → i ≤ s2.length → slices_CompareFunc_Deriv_L0 n s1 s2 f (if s1.length < s2.length then some (-1) else some 0) m i = some (cmL t (s2.drop i))
  | [], m + 1, i, h, _, hi, hj => by
    have h1 := drop_nil' h
    rw [slices_CompareFunc_Deriv_L0, if_neg h1]
    by_cases q : s1.length < s2.length
    · rw [if_pos q]
      have : i < s2.length := by omega
      rw [List.drop_eq_getElem_cons this]
      rfl
    · rw [if_neg q, List.drop_of_length_le (by omega)]
      rfl
  | x :: t, m + 1, i, h, hm, hi, hj => by
    obtain ⟨h1, h2, h3⟩ := drop_cons h
    rw [slices_CompareFunc_Deriv_L0, if_pos h1, h2, bind_some']
    by_cases q : s2.length ≤ i
    · rw [if_pos q, List.drop_of_length_le q]
      rfl
    · have hq : i < s2.length := by omega
      obtain ⟨y, hy⟩ : ∃ y, s2[i]? = some y := ⟨_, List.getElem?_eq_getElem hq⟩
      have ed : s2.drop i = y :: s2.drop (i + 1) := by
        rw [List.drop_eq_getElem_cons hq]
        congr 1
        exact Option.some.inj ((List.getElem?_eq_getElem hq).symm.trans hy)
      rw [if_neg q, hy, bind_some', hf x (List.mem_of_getElem? h2), bind_some', CmpF_L0 n s1 s2 f hf t m (i + 1) h3 (by simpa using hm) (by omega) (by omega), ed, cmL_cons]
      split <;> rfl
theorem Cmp_p : ∀ (n : Nat) (a b : Deriv), szD a + 20 < n → deriv_Compare n a b = some (cmD a b)
  | 0, _, _, h => by omega
  | n + 1, a, b, h => by
    have h0 := szD_eq a
    have h1 := szL_len a.Kids
    have e : slices_CompareFunc_Deriv n a.Kids b.Kids (fun p => deriv_Compare n p.1 p.2) = some (cmL a.Kids b.Kids) := by
      unfold slices_CompareFunc_Deriv
      rw [jn_def, CmpF_L0 n a.Kids b.Kids (fun p => deriv_Compare n p.1 p.2) (fun x hx y => by
        have := szL_mem hx
        exact Cmp_p n x y (by omega)) a.Kids n 0 rfl (by omega) (Nat.zero_le _) (Nat.zero_le _)]
      rfl
    rw [deriv_Compare, CmpI_eq, CmpI_eq, CmpI_eq, CmpS_eq, bind_some', bind_some', bind_some', bind_some', Or_eq n (by omega), bind_some', e, bind_some', cmD_eq]
    by_cases q1 : ci a.From b.From = 0
    · by_cases q2 : ci a.To b.To = 0
      · by_cases q3 : ci a.Kind b.Kind = 0
        · by_cases q4 : cs a.Name b.Name = 0 <;> simp [q1, q2, q3, q4]
        · simp [q1, q2, q3]
      · simp [q1, q2]
    · simp [q1]
theorem rCmp_L0 (n : Nat) (a b : Deriv) (hl : a.Kids.length ≤ 100000000) (sf : Deriv → Deriv → Option Int) (hf : ∀ x ∈ a.Kids, ∀ y, sf x y = some (cmD x y)) : ∀ (t : List Deriv) (m i : Nat), a.Kids.drop i = t → t.length < m → i ≤ a.Kids.length → i ≤ b.Kids.length → r28_Compare_L0 n a b sf (some (ci (((a.Kids).length : Nat) : Int) (((b.Kids).length : Nat) : Int))) m i = some (cmL t (b.Kids.drop i))
  | [], m + 1, i, h, _, hi, hj => by
    have h1 := drop_nil' h
    rw [r28_Compare_L0, jn_def, if_neg h1]
    simp only [Bool.false_eq_true, if_false]
    by_cases q : i < b.Kids.length
    · rw [List.drop_eq_getElem_cons q]
      have : ci (((a.Kids).length : Nat) : Int) (((b.Kids).length : Nat) : Int) = -1 := by unfold ci; rw [if_pos (by omega)]
      rw [this]; rfl
    · rw [List.drop_of_length_le (by omega)]
      have : ci (((a.Kids).length : Nat) : Int) (((b.Kids).length : Nat) : Int) = 0 := by unfold ci; rw [if_neg (by omega), if_neg (by omega)]
      rw [this]; rfl
  | x :: t, m + 1, i, h, hm, hi, hj => by
    obtain ⟨h1, h2, h3⟩ := drop_cons h
    rw [r28_Compare_L0, jn_def, if_pos h1]
    by_cases q : i < b.Kids.length
    · obtain ⟨y, hy⟩ : ∃ y, b.Kids[i]? = some y := ⟨_, List.getElem?_eq_getElem q⟩
      have ed : b.Kids.drop i = y :: b.Kids.drop (i + 1) := by
        rw [List.drop_eq_getElem_cons q]
        congr 1
        exact Option.some.inj ((List.getElem?_eq_getElem q).symm.trans hy)
      simp only [q, decide_true, if_true, h2, bind_some', hy, hf x (List.mem_of_getElem? h2)]
      rw [chk_pos (by omega), rCmp_L0 n a b hl sf hf t m (i + 1) h3 (by simpa using hm) (by omega) (by omega), ed, cmL_cons]
      split <;> rfl
    · simp only [q, decide_false, Bool.false_eq_true, if_false]
      rw [List.drop_of_length_le (by omega)]
      have : ci (((a.Kids).length : Nat) : Int) (((b.Kids).length : Nat) : Int) = 1 := by unfold ci; rw [if_neg (by omega), if_pos (by omega)]
      rw [this]; rfl
theorem ci_zero {a b : Int} : ci a b = 0 ↔ a = b := by
  unfold ci
  constructor
  · intro h; split at h
    · omega
    · split at h <;> omega
  · intro h; rw [if_neg (by omega), if_neg (by omega)]
theorem Cmp_r : ∀ (n : Nat) (a b : Deriv), szD a + 20 < n → szD a ≤ 10000000 → r28_Compare n a b = some (cmD a b)
  | 0, _, _, h, _ => by omega
  | n + 1, a, b, h, hb => by
    have h0 := szD_eq a
    have h1 := szL_len a.Kids
    have e := rCmp_L0 n a b (by omega) (r28_Compare n) (fun x hx y => by
      have := szL_mem hx
      exact Cmp_r n x y (by omega) (by omega)) a.Kids n 0 rfl (by omega) (Nat.zero_le _) (Nat.zero_le _)
    rw [r28_Compare, ints_eq, ints_eq, ints_eq, ints_eq, bind_some', bind_some', bind_some', bind_some', jn_def, e, cmD_eq]
    by_cases q1 : a.From = b.From
    · by_cases q2 : a.To = b.To
      · by_cases q3 : a.Kind = b.Kind
        · by_cases q4 : a.Name = b.Name
          · simp [q1, q2, q3, q4, ci_zero.2, cs_zero.2]
          · have q5 : ¬ cs a.Name b.Name = 0 := fun z => q4 (cs_zero.1 z)
            simp only [q1, q2, q3, ci_zero.2, ne_eq, not_true, if_false, q4, not_false_eq_true, if_true, q5, bytesLess_eq, decide_eq_true_eq]
            unfold cs
            by_cases q6 : a.Name < b.Name
            · simp [q6]
            · have q7 : b.Name < a.Name := lt_of_le_ne q6 (fun z => q4 z.symm)
              simp [q6, q7]
        · have q5 : ¬ ci a.Kind b.Kind = 0 := fun z => q3 (ci_zero.1 z)
          simp [q1, q2, q3, ci_zero.2, q5]
      · have q5 : ¬ ci a.To b.To = 0 := fun z => q2 (ci_zero.1 z)
        simp [q1, q2, ci_zero.2, q5]
    · have q5 : ¬ ci a.From b.From = 0 := fun z => q1 (ci_zero.1 z)
      simp [q1, q5]
/-- the best one of some derivations, by their scores -/
def better (S : Deriv → Int) (d c : Deriv) : Prop := S c < S d ∨ (S d = S c ∧ cmD d c < 0)
instance (S : Deriv → Int) (d c : Deriv) : Decidable (better S d c) := inferInstanceAs (Decidable (_ ∨ _))
def bst (S : Deriv → Int) : List Deriv → Nat → Option (Nat × Deriv) → Option (Nat × Deriv)
  | [], _, c => c
  | d :: t, i, none => bst S t (i + 1) (some (i, d))
  | d :: t, i, some (j, c) => bst S t (i + 1) (if better S d c then some (i, d) else some (j, c))
def outI : Option (Nat × Deriv) → Int
  | none => -1
  | some (j, _) => (j : Int)
theorem Best_L0 (n : Nat) (m : Model) (l : List Deriv) (hv : okV m.Weights) (hl : m.Weights.length ≤ 4000000) (hs : ∀ d ∈ l, szD d ≤ 1048576) (hn : 7000000 ≤ n) : ∀ (t : List Deriv) (k i : Nat) (c : Option (Nat × Deriv)) (most : Int), l.drop i = t → t.length < k → (∀ j d, c = some (j, d) → l[j]? = some d ∧ most = scD m.Weights d) → model_Best_L0 n m l k (outI c) most i = some (outI (bst (scD m.Weights) t i c)) ∧ r37_Best_L0 n m l k (outI c) i = some (outI (bst (scD m.Weights) t i c))
  | [], k + 1, i, c, most, h, _, _ => by rw [model_Best_L0, if_neg (drop_nil' h), r37_Best_L0, if_neg (drop_nil' h)]; exact ⟨rfl, rfl⟩
  | x :: t, k + 1, i, c, most, h, hk, hc => by
    obtain ⟨h1, h2, h3⟩ := drop_cons h
    have hxs := hs x (List.mem_of_getElem? h2)
    obtain ⟨s1, s2⟩ := Score_eq n m x hv hl hxs hn
    rw [model_Best_L0, r37_Best_L0, if_pos h1, if_pos h1, h2, bind_some', s1, bind_some', jn_def]
    cases c with
    | none =>
      obtain ⟨r1, r2⟩ := Best_L0 n m l hv hl hs hn t k (i + 1) (some (i, x)) (scD m.Weights x) h3 (by simpa using hk) (fun j d e => by cases e; exact ⟨h2, rfl⟩)
      rw [if_pos (by show (-1 : Int) < 0; omega), if_pos (by show (-1 : Int) < 0; omega)]
      exact ⟨r1, r2⟩
    | some p =>
      obtain ⟨j, c⟩ := p
      obtain ⟨hj, rfl⟩ := hc j c rfl
      have hcs := hs c (List.mem_of_getElem? hj)
      obtain ⟨_, s4⟩ := Score_eq n m c hv hl hcs hn
      have e1 : outI (some (j, c)) = (j : Int) := rfl
      have hix : ix l (outI (some (j, c))) = some c := by rw [e1, ix_nat]; exact hj
      have hneg : ¬ outI (some (j, c)) < 0 := by rw [e1]; omega
      rw [if_neg hneg, if_neg hneg]
      simp only [bind_some', jn_def, s2, hix, s4, Cmp_p n x c (by omega), Cmp_r n x c (by omega) (by omega)]
      have eb : bst (scD m.Weights) (x :: t) i (some (j, c)) = bst (scD m.Weights) t (i + 1) (if better (scD m.Weights) x c then some (i, x) else some (j, c)) := rfl
      rw [eb]
      obtain ⟨r1, r2⟩ := Best_L0 n m l hv hl hs hn t k (i + 1) (some (i, x)) (scD m.Weights x) h3 (by simpa using hk) (fun j d e => by cases e; exact ⟨h2, rfl⟩)
      obtain ⟨r3, r4⟩ := Best_L0 n m l hv hl hs hn t k (i + 1) (some (j, c)) (scD m.Weights c) h3 (by simpa using hk) (fun j d e => by cases e; exact ⟨hj, rfl⟩)
      by_cases q1 : scD m.Weights c < scD m.Weights x
      · rw [if_pos q1, if_pos q1, if_pos (show better (scD m.Weights) x c from .inl q1)]
        exact ⟨r1, r2⟩
      · rw [if_neg q1, if_neg q1]
        by_cases q2 : scD m.Weights x = scD m.Weights c
        · rw [if_pos q2, if_pos q2]
          by_cases q3 : cmD x c < 0
          · rw [if_pos (show better (scD m.Weights) x c from .inr ⟨q2, q3⟩)]
            simp only [q3, decide_true, if_true]
            exact ⟨r1, r2⟩
          · rw [if_neg (show ¬ better (scD m.Weights) x c from fun z => by rcases z with z | z; exact q1 z; exact q3 z.2)]
            simp only [q3, decide_false, Bool.false_eq_true, if_false]
            exact ⟨r3, r4⟩
        · rw [if_neg q2, if_neg q2, if_neg (show ¬ better (scD m.Weights) x c from fun z => by rcases z with z | z; exact q1 z; exact q2 z.1)]
          simp only [Bool.false_eq_true, if_false]
          exact ⟨r3, r4⟩
theorem Best_eq (n : Nat) (m : Model) (l : List Deriv) (hv : okV m.Weights) (hl : m.Weights.length ≤ 4000000) (hs : szL l ≤ 1048576) (hn : 7000000 ≤ n) : model_Best n m l = some (outI (bst (scD m.Weights) l 0 none)) ∧ r37_Best n m l = some (outI (bst (scD m.Weights) l 0 none)) := by
  have := szL_len l
  exact Best_L0 n m l hv hl (fun d hd => by have := szL_mem hd; omega) hn l n 0 none 0 rfl (by omega) (fun j d e => by cases e)
theorem Light_L0 (n : Nat) (hn : 7000000 ≤ n) (l : List Deriv) (most : Int) (hm : most ≤ 1000 ∧ 0 ≤ most) : ∀ (t : List Deriv) (k i : Nat) (a : Int), l.drop i = t → t.length < k → 0 ≤ a → a + (szL t : Int) ≤ 100000000 → szL t ≤ 1048576 → i + t.length ≤ 100000000 → ∃ b, r37_Light_L0 n l most k a i = some b
  | [], k + 1, i, a, h, _, _, _, _, _ => by
    rw [r37_Light_L0, jn_def, if_neg (drop_nil' h)]
    exact ⟨_, rfl⟩
  | x :: t, k + 1, i, a, h, hk, ha, hb, hs, hi => by
    obtain ⟨h1, h2, h3⟩ := drop_cons h
    rw [szL_cons] at hb hs
    rw [List.length_cons] at hi
    rw [r37_Light_L0, jn_def, if_pos h1]
    by_cases q : a ≤ most
    · obtain ⟨v, v1, v2, v3⟩ := Nodes_some n x (most + 1) (by omega) (by omega) (by omega)
      obtain ⟨b, b1⟩ := Light_L0 n hn l most hm t k (i + 1) (a + v) h3 (by simpa using hk) (by omega) (by omega) (by omega) (by omega)
      simp only [q, decide_true, if_true, h2, bind_some', v1]
      rw [chk_pos (by omega), chk_pos (by omega), chk_pos (by omega)]
      exact ⟨b, b1⟩
    · simp only [q, decide_false, Bool.false_eq_true, if_false]
      exact ⟨_, rfl⟩
theorem Light_some (n : Nat) (hn : 7000000 ≤ n) (l : List Deriv) (most : Int) (hm : most ≤ 1000 ∧ 0 ≤ most) (hs : szL l ≤ 1048576) : ∃ b, r37_Light n l most = some b := by
  have := szL_len l
  exact Light_L0 n hn l most hm l n 0 0 rfl (by omega) (by omega) (by omega) hs (by omega)
theorem Scores_main (n : Nat) (hn : 7000000 ≤ n) (hex : law37_exampleHolds n = some true) (m : Model) (d : Deriv) (l : List Deriv) (hs : szM m + szD d + szL l ≤ 1048576) : law37_ModelScores n m d l = some true := by
  unfold law37_ModelScores
  obtain ⟨v, v1, _⟩ := Nodes_some n d 61 (by omega) (by omega) (by omega)
  obtain ⟨b, b1⟩ := Light_some n hn l 120 (by omega) (by omega)
  obtain ⟨c, _, c2, c3⟩ := Check_eq n m (by omega) (by omega)
  rw [hex, v1, b1, c2]
  simp only [jn_def, bind_some']
  by_cases q1 : 60 < m.Weights.length
  · rw [if_pos q1]; rfl
  rw [if_neg q1]
  by_cases q2 : 60 < v
  · rw [if_pos q2]; rfl
  rw [if_neg q2]
  cases b with
  | false => rfl
  | true =>
    by_cases q3 : c = 0
    · have hv := (c3.1 q3).v
      obtain ⟨s1, s2⟩ := Score_eq n m d hv (by omega) (by omega) hn
      obtain ⟨t1, t2⟩ := Best_eq n m l hv (by omega) (by omega) hn
      rw [s1, s2, t1, t2]
      simp [q3]
    · simp [q3]
theorem law37_ModelScores_true (m : Model) (d : Deriv) (l : List Deriv) (hs : szM m + szD d + szL l ≤ 1048576) : law37_ModelScores 10000000 m d l = some true := Scores_main 10000000 (by omega) ex37 m d l hs
end Go.Proofs.YthgdajiipojnoaaDoor
