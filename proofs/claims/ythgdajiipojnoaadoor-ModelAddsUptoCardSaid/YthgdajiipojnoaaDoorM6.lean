/- Chapter 37: plain laws of the order, of the greatest one and of sums -/
import Derived.Test.YthgdajiipojnoaaDoorM5
namespace Go.Proofs.YthgdajiipojnoaaDoor
open Go.Gl Go.Sort
set_option linter.unusedVariables false
set_option linter.unusedSimpArgs false
/-! the order of derivations -/
def or2 (x y : Int) : Int := if x ≠ 0 then x else y
def TT (x y z : Int) : Prop := (x ≤ 0 → y ≤ 0 → z ≤ 0) ∧ (x ≤ 0 → y ≤ 0 → z = 0 → x = 0 ∧ y = 0) ∧ (x = 0 → y = 0 → z = 0)
theorem or2_TT {x y z x' y' z' : Int} (h : TT x y z) (h' : TT x' y' z') : TT (or2 x x') (or2 y y') (or2 z z') := by
  obtain ⟨a1, a2, a3⟩ := h
  obtain ⟨b1, b2, b3⟩ := h'
  unfold TT or2
  by_cases hx : x = 0
  · by_cases hy : y = 0
    · have hz := a3 hx hy
      simp only [hx, hy, hz, ne_eq, not_true, if_false]
      exact ⟨b1, b2, b3⟩
    · simp only [hx, hy, ne_eq, not_true, if_false, not_false_eq_true, if_true]
      by_cases hz : z = 0
      · refine ⟨fun p q => ?_, fun p q r => ?_, fun p q => q.elim⟩
        · exact absurd (a2 (by omega) q hz).2 hy
        · exact absurd (a2 (by omega) q hz).2 hy
      · simp only [hz, not_false_eq_true, if_true]
        exact ⟨fun p q => a1 (by omega) q, fun p q r => r.elim, fun p q => q.elim⟩
  · simp only [hx, ne_eq, not_false_eq_true, if_true]
    by_cases hz : z = 0
    · by_cases hy : y = 0
      · refine ⟨fun p q => ?_, fun p q r => ?_, fun p q => p.elim⟩
        · exact absurd (a2 p (by omega) hz).1 hx
        · exact absurd (a2 p (by omega) hz).1 hx
      · simp only [hy, not_false_eq_true, if_true]
        refine ⟨fun p q => ?_, fun p q r => ?_, fun p q => p.elim⟩
        · exact absurd (a2 p q hz).1 hx
        · exact absurd (a2 p q hz).1 hx
    · simp only [hz, not_false_eq_true, if_true]
      refine ⟨fun p q => ?_, fun p q r => r.elim, fun p q => p.elim⟩
      by_cases hy : y = 0
      · exact a1 p (by omega)
      · simp only [hy, not_false_eq_true, if_true] at q
        exact a1 p q
theorem or2_neg (x y : Int) : or2 (-x) (-y) = -or2 x y := by
  unfold or2
  by_cases h : x = 0
  · simp [h]
  · have : -x ≠ 0 := by omega
    simp [h, this]
theorem ci_TT (a b c : Int) : TT (ci a b) (ci b c) (ci a c) := by
  unfold TT ci
  refine ⟨?_, ?_, ?_⟩ <;> (repeat' split) <;> omega
theorem ci_neg (a b : Int) : ci b a = -ci a b := by
  unfold ci
  (repeat' split) <;> omega
theorem cs_le {a b : List UInt8} : cs a b ≤ 0 ↔ a ≤ b := by
  unfold cs
  by_cases h1 : a < b
  · rw [if_pos h1]; exact ⟨fun _ => List.le_of_lt h1, fun _ => by omega⟩
  · rw [if_neg h1]
    by_cases h2 : b < a
    · rw [if_pos h2]; exact ⟨fun q => absurd q (by omega), fun q => absurd h2 q⟩
    · rw [if_neg h2]; exact ⟨fun _ => h2, fun _ => by omega⟩
theorem cs_TT (a b c : List UInt8) : TT (cs a b) (cs b c) (cs a c) := by
  unfold TT
  rw [cs_le, cs_le, cs_le, cs_zero, cs_zero, cs_zero]
  refine ⟨fun p q => List.le_trans p q, fun p q r => ?_, fun p q => p.trans q⟩
  subst r
  have := List.le_antisymm p q
  exact ⟨this, this.symm⟩
theorem cs_anti (a b : List UInt8) : cs b a = -cs a b := by
  unfold cs
  by_cases h1 : a < b
  · have h2 : ¬ b < a := List.lt_asymm h1
    simp [h1, h2]
  · by_cases h2 : b < a <;> simp [h1, h2]
theorem cmD_or (a b : Deriv) : cmD a b = or2 (ci a.From b.From) (or2 (ci a.To b.To) (or2 (ci a.Kind b.Kind) (or2 (cs a.Name b.Name) (cmL a.Kids b.Kids)))) := cmD_eq a b
theorem cmL_or (a b : Deriv) (s t : List Deriv) : cmL (a :: s) (b :: t) = or2 (cmD a b) (cmL s t) := rfl
theorem TT_of {x y z : Int} (h : x = 0 ∧ y = z ∨ y = 0 ∧ x = z) : TT x y z := by
  unfold TT
  omega
mutual
theorem cmD_TT : ∀ (a b c : Deriv), TT (cmD a b) (cmD b c) (cmD a c)
  | ⟨k, nm, f, t, ks⟩, b, c => by
    rw [cmD_or, cmD_or b c, cmD_or ⟨k, nm, f, t, ks⟩ c]
    exact or2_TT (ci_TT _ _ _) (or2_TT (ci_TT _ _ _) (or2_TT (ci_TT _ _ _) (or2_TT (cs_TT _ _ _) (cmL_TT ks b.Kids c.Kids))))
theorem cmL_TT : ∀ (s t u : List Deriv), TT (cmL s t) (cmL t u) (cmL s u)
  | [], [], u => TT_of (.inl ⟨rfl, rfl⟩)
  | [], b :: t, [] => by show TT (-1) 1 0; unfold TT; omega
  | [], b :: t, c :: u => by
    show TT (-1) (cmL (b :: t) (c :: u)) (-1)
    unfold TT
    omega
  | a :: s, [], [] => by show TT 1 0 1; unfold TT; omega
  | a :: s, [], c :: u => by
    show TT 1 (-1) (cmL (a :: s) (c :: u))
    unfold TT
    omega
  | a :: s, b :: t, [] => by
    show TT (cmL (a :: s) (b :: t)) 1 1
    unfold TT
    omega
  | a :: s, b :: t, c :: u => by
    rw [cmL_or, cmL_or, cmL_or]
    exact or2_TT (cmD_TT a b c) (cmL_TT s t u)
end
mutual
theorem cmD_anti : ∀ (a b : Deriv), cmD b a = -cmD a b
  | ⟨k, nm, f, t, ks⟩, b => by
    rw [cmD_or, cmD_or ⟨k, nm, f, t, ks⟩ b, ← or2_neg, ← or2_neg, ← or2_neg, ← or2_neg]
    rw [ci_neg f b.From, ci_neg t b.To, ci_neg k b.Kind, cs_anti nm b.Name, cmL_anti ks b.Kids]
theorem cmL_anti : ∀ (s t : List Deriv), cmL t s = -cmL s t
  | [], [] => rfl
  | [], b :: t => rfl
  | a :: s, [] => rfl
  | a :: s, b :: t => by rw [cmL_or, cmL_or, ← or2_neg, cmD_anti a b, cmL_anti s t]
end
theorem cmD_self (a : Deriv) : cmD a a = 0 := by have := cmD_anti a a; omega
theorem better_neg {S : Deriv → Int} {c c0 d : Deriv} (h : better S c c0) (k : ¬ better S d c0) : S d < S c ∨ (S d = S c ∧ cmD c d < 0) := by
  have a1 := cmD_anti d c0
  obtain ⟨t1, t2, _⟩ := cmD_TT c c0 d
  unfold better at h k
  by_cases e : S d = S c
  · right
    refine ⟨e, ?_⟩
    have q1 : S c = S c0 ∧ cmD c c0 < 0 := by omega
    have q2 : 0 ≤ cmD d c0 := by omega
    have q3 := t1 (by omega) (by omega)
    by_cases q4 : cmD c d = 0
    · have := (t2 (by omega) (by omega) q4).1; omega
    · omega
  · left; omega
structure Bp (S : Deriv → Int) (l : List Deriv) (i j : Nat) (c : Deriv) : Prop where
  at_ : l[j]? = some c
  lt : j < i
  top : ∀ (q : Nat) (d : Deriv), q < i → l[q]? = some d → ¬ better S d c
  fst : ∀ (q : Nat) (d : Deriv), q < j → l[q]? = some d → S d = S c → cmD d c ≠ 0
theorem better_self (S : Deriv → Int) (c : Deriv) : ¬ better S c c := by
  have := cmD_self c
  unfold better
  omega
theorem bst_some (S : Deriv → Int) (l : List Deriv) : ∀ (t : List Deriv) (i j : Nat) (c : Deriv), l.drop i = t → i ≤ l.length → Bp S l i j c → ∃ j' c', bst S t i (some (j, c)) = some (j', c') ∧ Bp S l l.length j' c'
  | [], i, j, c, h, hi, hb => by
    have := drop_nil' h
    have e : i = l.length := by omega
    exact ⟨j, c, rfl, e ▸ hb⟩
  | x :: t, i, j, c, h, hi, hb => by
    obtain ⟨h1, h2, h3⟩ := drop_cons h
    unfold bst
    by_cases q : better S x c
    · rw [if_pos q]
      refine bst_some S l t (i + 1) i x h3 (by omega) ⟨h2, by omega, fun r d hr hd => ?_, fun r d hr hd he => ?_⟩
      · by_cases e : r = i
        · rw [e, h2] at hd; cases hd; exact better_self S _
        · have := better_neg q (hb.top r d (by omega) hd)
          have a1 := cmD_anti x d
          unfold better
          omega
      · have := better_neg q (hb.top r d hr hd)
        have a1 := cmD_anti x d
        omega
    · rw [if_neg q]
      refine bst_some S l t (i + 1) j c h3 (by omega) ⟨hb.at_, by have := hb.lt; omega, fun r d hr hd => ?_, hb.fst⟩
      by_cases e : r = i
      · rw [e, h2] at hd; cases hd; exact q
      · exact hb.top r d (by omega) hd
theorem bst_top (S : Deriv → Int) {l : List Deriv} (hl : l ≠ []) : ∃ j c, bst S l 0 none = some (j, c) ∧ Bp S l l.length j c := by
  cases l with
  | nil => exact absurd rfl hl
  | cons x t =>
    unfold bst
    exact bst_some S (x :: t) t 1 0 x rfl (by simp) ⟨rfl, by omega, fun q d hq hd => by
      have e : q = 0 := by omega
      rw [e] at hd; simp at hd; rw [← hd]; exact better_self S x, fun q d hq => by omega⟩
theorem Greatest_L0 (n : Nat) (m : Model) (l : List Deriv) (hv : okV m.Weights) (hl : m.Weights.length ≤ 4000000) (hs : ∀ d ∈ l, szD d ≤ 1048576) (hn : 7000000 ≤ n) (j : Nat) (c : Deriv) (hb : Bp (scD m.Weights) l l.length j c) (k : Option Bool) : ∀ (t : List Deriv) (p i : Nat), l.drop i = t → t.length < p → law37_ModelGreatest_L0 n m l (j : Int) c (scD m.Weights c) k p i = k
  | [], p + 1, i, h, _ => by rw [law37_ModelGreatest_L0, if_neg (drop_nil' h)]
  | x :: t, p + 1, i, h, hp => by
    obtain ⟨h1, h2, h3⟩ := drop_cons h
    have hxs := hs x (List.mem_of_getElem? h2)
    obtain ⟨s1, _⟩ := Score_eq n m x hv hl hxs hn
    have ih := Greatest_L0 n m l hv hl hs hn j c hb k t p (i + 1) h3 (by simpa using hp)
    have hnb := hb.top i x h1 h2
    have hf := hb.fst i x
    unfold better at hnb
    rw [law37_ModelGreatest_L0, if_pos h1, h2, bind_some', s1, bind_some', jn_def, if_neg (by omega), Cmp_r n x c (by omega) (by omega), bind_some']
    by_cases q1 : scD m.Weights x = scD m.Weights c
    · rw [if_pos q1, if_neg (by omega)]
      by_cases q2 : (i : Int) < (j : Int)
      · have q3 := hf (by omega) h2 q1
        rw [if_pos q2]
        simp only [q3, decide_false, Bool.false_eq_true, if_false]
        exact ih
      · rw [if_neg q2]
        exact ih
    · rw [if_neg q1]
      exact ih
theorem Greatest_main (n : Nat) (hn : 7000000 ≤ n) (hex : law37_exampleHolds n = some true) (m : Model) (l : List Deriv) (hs : szM m + szL l ≤ 1048576) : law37_ModelGreatest n m l = some true := by
  unfold law37_ModelGreatest
  have hll := szL_len l
  obtain ⟨b, b1⟩ := Light_some n hn l 120 (by omega) (by omega)
  obtain ⟨c, _, c2, c3⟩ := Check_eq n m (by omega) (by omega)
  rw [hex, b1, c2]
  simp only [jn_def, bind_some']
  by_cases q1 : 60 < m.Weights.length
  · rw [if_pos q1]; rfl
  rw [if_neg q1]
  cases b with
  | false => rfl
  | true =>
    by_cases q3 : c = 0
    · have hv := (c3.1 q3).v
      have hsl : ∀ d ∈ l, szD d ≤ 1048576 := fun d hd => by have := szL_mem hd; omega
      obtain ⟨t1, _⟩ := Best_eq n m l hv (by omega) (by omega) hn
      rw [t1]
      simp only [q3, ne_eq, not_true, decide_false, Bool.not_true, Bool.false_eq_true, if_false, bind_some']
      by_cases q4 : l.length = 0
      · have e : l = [] := List.length_eq_zero_iff.1 q4
        subst e
        rfl
      · rw [if_neg q4]
        obtain ⟨j, d, e1, e2⟩ := bst_top (scD m.Weights) (l := l) (fun e => q4 (by rw [e]; rfl))
        have hj := e2.lt
        have hd := hsl d (List.mem_of_getElem? e2.at_)
        obtain ⟨s1, _⟩ := Score_eq n m d hv (by omega) hd hn
        have eo : outI (some (j, d)) = (j : Int) := rfl
        rw [e1, eo, if_neg (by omega)]
        have q5 : ¬ ((l.length : Nat) : Int) ≤ (j : Int) := by omega
        simp only [q5, decide_false, Bool.false_eq_true, if_false]
        rw [ix_nat, e2.at_, bind_some', s1, bind_some']
        exact Greatest_L0 n m l hv (by omega) hsl hn j d e2 _ l n 0 rfl (by omega)
    · simp [q3]
theorem law37_ModelGreatest_true (m : Model) (l : List Deriv) (hs : szM m + szL l ≤ 1048576) : law37_ModelGreatest 10000000 m l = some true := Greatest_main 10000000 (by omega) ex37 m l hs
/-! the score is that of the parts -/
theorem sc_append (l : List Weight) (a b : List (List UInt8)) : sc l (a ++ b) = sc l a + sc l b := by simp [sc]
theorem sc_bound {l : List Weight} (h : okV l) : ∀ fs : List (List UInt8), -(1048576 * (fs.length : Int)) ≤ sc l fs ∧ sc l fs ≤ 1048576 * (fs.length : Int)
  | [] => by show -(1048576 * (0 : Int)) ≤ 0 ∧ (0 : Int) ≤ 1048576 * 0; omega
  | x :: t => by
    obtain ⟨a1, a2⟩ := sc_bound h t
    obtain ⟨b1, b2⟩ := wt_bound h x
    rw [sc_cons, List.length_cons]
    omega
theorem Adds_L0 (n : Nat) (m : Model) (d : Deriv) (hv : okV m.Weights) (hl : m.Weights.length ≤ 4000000) (hs : szD d ≤ 1048576) (hn : 7000000 ≤ n) (k : List UInt8 → Int → Option Bool) : ∀ (t : List Deriv) (p i : Nat) (s : List UInt8) (a A : Int), d.Kids.drop i = t → t.length < p → s.length + szL t ≤ 100000000 → -A ≤ a → a ≤ A → A + 1048576 * ((ftL t).length : Int) ≤ 1000000000000000 → law37_ModelAdds_L0 n m d k p s a i = k (s ++ if i = 0 then jo (t.map (·.Name)) else js (t.map (·.Name))) (a + sc m.Weights (ftL t))
  | [], p + 1, i, s, a, A, h, _, _, _, _, _ => by
    rw [law37_ModelAdds_L0, if_neg (drop_nil' h)]
    have e : a + sc m.Weights (ftL []) = a := by show a + 0 = a; omega
    rw [e]
    simp [jo, js]
  | x :: t, p + 1, i, s, a, A, h, hm, hb, h1', h2', h3' => by
    obtain ⟨h1, h2, h3⟩ := drop_cons h
    have h0 := szD_eq x
    have hxk := szL_mem (List.mem_of_getElem? h2)
    have hd0 := szD_eq d
    have e : ftL (x :: t) = ftD x ++ ftL t := rfl
    rw [szL_cons] at hb
    rw [e, List.length_append] at h3'
    obtain ⟨s1, _⟩ := Score_eq n m x hv hl (by omega) hn
    obtain ⟨c1, c2⟩ := sc_bound hv (ftD x)
    have hS : scD m.Weights x = sc m.Weights (ftD x) := rfl
    have hfl := ftD_len x
    rw [law37_ModelAdds_L0, if_pos h1, jn_def]
    by_cases i0 : 0 < i
    · rw [if_pos i0, chk_pos (by rw [List.length_singleton]; omega)]
      dsimp only
      rw [h2, bind_some', chk_pos (by rw [List.length_append, List.length_singleton]; omega), s1, bind_some', chk_pos (by omega), Adds_L0 n m d hv hl hs hn k t p (i + 1) _ _ (A + 1048576 * ((ftD x).length : Int)) h3 (by simpa using hm) (by rw [List.length_append, List.length_append, List.length_singleton]; omega) (by omega) (by omega) (by omega), if_neg (by omega), if_neg (by omega), e, sc_append, hS, Int.add_assoc]
      simp [js]
    · rw [if_neg i0]
      dsimp only
      rw [h2, bind_some', chk_pos (by omega), s1, bind_some', chk_pos (by omega), Adds_L0 n m d hv hl hs hn k t p (i + 1) _ _ (A + 1048576 * ((ftD x).length : Int)) h3 (by simpa using hm) (by rw [List.length_append]; omega) (by omega) (by omega) (by omega), if_neg (by omega), if_pos (by omega), e, sc_append, hS, Int.add_assoc]
      simp [jo]
theorem wt_cons {x : Weight} {t : List Weight} (hp : (x :: t).Pairwise (fun a b => a.Feature < b.Feature)) (s : List UInt8) : wt (x :: t) s = (if x.Feature = s then x.Value else 0) + wt t s := by
  obtain ⟨h1, h2⟩ := List.pairwise_cons.1 hp
  show (if x.Feature = s then x.Value else wt t s) = _
  by_cases e : x.Feature = s
  · rw [if_pos e, if_pos e, wt_out (fun w hw q => by have := h1 w hw; rw [q, e] at this; exact List.lt_irrefl _ this)]
    omega
  · rw [if_neg e, if_neg e]; omega
theorem Adds_L1 (n : Nat) (m : Model) (d : Deriv) (tree : List UInt8) (k : Int → Option Bool) : ∀ (t : List Weight) (p i : Nat) (a A : Int), m.Weights.drop i = t → t.length < p → t.Pairwise (fun a b => a.Feature < b.Feature) → (∀ w ∈ t, -1048576 ≤ w.Value ∧ w.Value ≤ 1048576) → -A ≤ a → a ≤ A → A + 2097152 * (t.length : Int) ≤ 1000000000000000 → law37_ModelAdds_L1 n m d tree k p a i = k (a + wt t d.Name + if 0 < d.Kids.length then wt t tree else 0)
  | [], p + 1, i, a, A, h, _, _, _, _, _, _ => by
    rw [law37_ModelAdds_L1, if_neg (drop_nil' h)]
    congr 1
    show a = a + 0 + _
    split
    · show a = a + 0 + 0; omega
    · omega
  | x :: t, p + 1, i, a, A, h, hp', hpw, hv, h1', h2', h3' => by
    obtain ⟨h1, h2, h3⟩ := drop_cons h
    obtain ⟨_, hpt⟩ := List.pairwise_cons.1 hpw
    obtain ⟨v1, v2⟩ := hv x (by simp)
    rw [List.length_cons] at h3'
    have ih := fun (b : Int) (hb1 : -(A + 2097152) ≤ b) (hb2 : b ≤ A + 2097152) => Adds_L1 n m d tree k t p (i + 1) b (A + 2097152) h3 (by simpa using hp') hpt (fun w hw => hv w (by simp [hw])) hb1 hb2 (by omega)
    rw [law37_ModelAdds_L1, if_pos h1, h2, bind_some']
    simp only [jn_def]
    rw [wt_cons hpw d.Name, wt_cons hpw tree]
    by_cases q1 : x.Feature = d.Name
    · rw [if_pos q1, if_pos q1, chk_pos (by omega)]
      by_cases q2 : x.Feature = tree
      · rw [if_pos q2, if_pos q2]
        by_cases q3 : 0 < d.Kids.length
        · simp only [q3, decide_true, if_true]
          rw [chk_pos (by omega), ih _ (by omega) (by omega), if_pos q3]
          congr 1; omega
        · simp only [q3, decide_false, Bool.false_eq_true, if_false]
          rw [ih _ (by omega) (by omega), if_neg q3]
          congr 1; omega
      · rw [if_neg q2, if_neg q2]
        simp only [Bool.false_eq_true, if_false]
        rw [ih _ (by omega) (by omega)]
        congr 1
        split <;> omega
    · rw [if_neg q1, if_neg q1]
      by_cases q2 : x.Feature = tree
      · rw [if_pos q2, if_pos q2]
        by_cases q3 : 0 < d.Kids.length
        · simp only [q3, decide_true, if_true]
          rw [chk_pos (by omega), ih _ (by omega) (by omega), if_pos q3]
          congr 1; omega
        · simp only [q3, decide_false, Bool.false_eq_true, if_false]
          rw [ih _ (by omega) (by omega), if_neg q3]
          congr 1; omega
      · rw [if_neg q2, if_neg q2]
        simp only [Bool.false_eq_true, if_false]
        rw [ih _ (by omega) (by omega)]
        congr 1
        split <;> omega
theorem Adds_main (n : Nat) (hn : 7000000 ≤ n) (hex : law37_exampleHolds n = some true) (m : Model) (d : Deriv) (hs : szM m + szD d ≤ 1048576) : law37_ModelAdds n m d = some true := by
  unfold law37_ModelAdds
  obtain ⟨v, v1, _⟩ := Nodes_some n d 61 (by omega) (by omega) (by omega)
  obtain ⟨c, _, c2, c3⟩ := Check_eq n m (by omega) (by omega)
  have hd0 := szD_eq d
  rw [hex, v1, c2]
  simp only [jn_def, bind_some']
  by_cases q1 : 60 < m.Weights.length
  · rw [if_pos q1]; rfl
  rw [if_neg q1]
  by_cases q2 : 60 < v
  · rw [if_pos q2]; rfl
  rw [if_neg q2]
  by_cases q3 : c = 0
  · have hv := (c3.1 q3).v
    have hml := szM_len m
    have hkl := szL_len d.Kids
    have hfl := ftL_len d.Kids
    obtain ⟨s1, _⟩ := Score_eq n m d hv (by omega) (by omega) hn
    obtain ⟨b1, b2⟩ := sc_bound hv (ftL d.Kids)
    simp only [q3, ne_eq, not_true, decide_false, Bool.false_eq_true, if_false, s1, bind_some']
    rw [chk_pos (by rw [List.length_singleton]; omega), Adds_L0 n m d hv (by omega) (by omega) hn _ d.Kids n 0 _ 0 0 rfl (by omega) (by rw [List.length_append, List.length_singleton]; omega) (by omega) (by omega) (by omega), if_pos rfl, Adds_L1 n m d _ _ m.Weights n 0 _ (1048576 * ((ftL d.Kids).length : Int)) rfl (by omega) hv.asc (fun w hw => ⟨hv.lo w hw, hv.hi w hw⟩) (by omega) (by omega) (by omega)]
    have e1 : (d.Name ++ [62] ++ jo (d.Kids.map (·.Name))) = d.Name ++ 62 :: jo (d.Kids.map (·.Name)) := by simp
    have key : scD m.Weights d = 0 + sc m.Weights (ftL d.Kids) + wt m.Weights d.Name + if 0 < d.Kids.length then wt m.Weights (d.Name ++ [62] ++ jo (d.Kids.map (·.Name))) else 0 := by
      unfold scD
      rw [ftD_eq, sc_cons, sc_append, e1]
      cases hk : d.Kids with
      | nil =>
        have e2 : sc m.Weights (tr d.Name []) = 0 := rfl
        rw [e2, if_neg (by simp)]
        omega
      | cons x t =>
        have e2 : sc m.Weights (tr d.Name (x :: t)) = wt m.Weights (d.Name ++ 62 :: jo ((x :: t).map (·.Name))) + 0 := rfl
        rw [e2, if_pos (by simp)]
        omega
    rw [if_pos key]
  · simp [q3]
theorem law37_ModelAdds_true (m : Model) (d : Deriv) (hs : szM m + szD d ≤ 1048576) : law37_ModelAdds 10000000 m d = some true := Adds_main 10000000 (by omega) ex37 m d hs
end Go.Proofs.YthgdajiipojnoaaDoor
