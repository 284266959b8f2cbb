/- Chapter 37: plain laws of scores -/
import Derived.Test.YthgdajiipojnoaaDoorM3
namespace Go.Proofs.YthgdajiipojnoaaDoor
open Go.Gl Go.Sort
set_option linter.unusedVariables false
set_option linter.unusedSimpArgs false
/-! weights and scores -/
structure okV (l : List Weight) : Prop where
  nz : ∀ w ∈ l, w.Value ≠ 0
  lo : ∀ w ∈ l, -1048576 ≤ w.Value
  hi : ∀ w ∈ l, w.Value ≤ 1048576
  asc : l.Pairwise (fun a b => a.Feature < b.Feature)
theorem okM.v {l : List Weight} (h : okM l) : okV l := ⟨fun w hw => (h.good w hw).nz, fun w hw => (h.good w hw).lo, fun w hw => (h.good w hw).hi, h.asc⟩
def wt : List Weight → List UInt8 → Int
  | [], _ => 0
  | w :: t, s => if w.Feature = s then w.Value else wt t s
theorem wt_out {s : List UInt8} : ∀ {l : List Weight}, (∀ w ∈ l, w.Feature ≠ s) → wt l s = 0
  | [], _ => rfl
  | w :: t, h => by
    unfold wt
    rw [if_neg (h w (by simp)), wt_out (fun x hx => h x (by simp [hx]))]
theorem wt_in : ∀ {l : List Weight} {w : Weight}, l.Pairwise (fun a b => a.Feature < b.Feature) → w ∈ l → wt l w.Feature = w.Value
  | x :: t, w, hp, hw => by
    obtain ⟨h1, h2⟩ := List.pairwise_cons.1 hp
    unfold wt
    rcases List.mem_cons.1 hw with rfl | hw
    · rw [if_pos rfl]
    · rw [if_neg (fun e => by have := h1 w hw; rw [e] at this; exact List.lt_irrefl _ this), wt_in h2 hw]
theorem wt_cases {l : List Weight} (s : List UInt8) : (wt l s = 0 ∧ ∀ w ∈ l, w.Feature ≠ s) ∨ ∃ w ∈ l, w.Feature = s ∧ wt l s = w.Value := by
  induction l with
  | nil => exact .inl ⟨rfl, by simp⟩
  | cons x t ih =>
    unfold wt
    by_cases h : x.Feature = s
    · rw [if_pos h]; exact .inr ⟨x, by simp, h, rfl⟩
    · rw [if_neg h]
      rcases ih with ⟨h1, h2⟩ | ⟨w, h1, h2, h3⟩
      · refine .inl ⟨h1, fun w hw => ?_⟩
        rcases List.mem_cons.1 hw with rfl | hw
        · exact h
        · exact h2 w hw
      · exact .inr ⟨w, by simp [h1], h2, h3⟩
theorem wt_bound {l : List Weight} (h : okV l) (s : List UInt8) : -1048576 ≤ wt l s ∧ wt l s ≤ 1048576 := by
  rcases wt_cases (l := l) s with ⟨h1, _⟩ | ⟨w, h1, _, h3⟩
  · rw [h1]; omega
  · rw [h3]; exact ⟨h.lo w h1, h.hi w h1⟩
theorem rweight_L0 (n : Nat) (m : Model) (s : List UInt8) : ∀ (t : List Weight) (k i : Nat), m.Weights.drop i = t → t.length < k → r37_weight_L0 n m s k i = some (wt t s)
  | [], k + 1, i, h, _ => by rw [r37_weight_L0, if_neg (drop_nil' h)]; rfl
  | x :: t, k + 1, i, h, hk => by
    obtain ⟨h1, h2, h3⟩ := drop_cons h
    rw [r37_weight_L0, if_pos h1, h2, bind_some', rweight_L0 n m s t k (i + 1) h3 (by simpa using hk), wt]
    split <;> rfl
theorem weight_r (n : Nat) (m : Model) (s : List UInt8) (hn : m.Weights.length < n) : r37_weight n m s = some (wt m.Weights s) := rweight_L0 n m s m.Weights n 0 rfl hn
def cs (a b : List UInt8) : Int := if a < b then -1 else if b < a then 1 else 0
theorem cs_zero {a b : List UInt8} : cs a b = 0 ↔ a = b := by
  unfold cs
  by_cases h1 : a < b
  · rw [if_pos h1]
    exact ⟨fun q => absurd q (by omega), fun e => by rw [e] at h1; exact absurd h1 (List.lt_irrefl _)⟩
  · rw [if_neg h1]
    by_cases h2 : b < a
    · rw [if_pos h2]
      exact ⟨fun q => absurd q (by omega), fun e => by rw [e] at h2; exact absurd h2 (List.lt_irrefl _)⟩
    · rw [if_neg h2]
      exact ⟨fun _ => List.le_antisymm h2 h1, fun _ => rfl⟩
theorem cs_neg {a b : List UInt8} : cs a b < 0 ↔ a < b := by
  unfold cs
  by_cases h1 : a < b
  · rw [if_pos h1]; exact ⟨fun _ => h1, fun _ => by omega⟩
  · rw [if_neg h1]
    constructor
    · intro q; split at q <;> omega
    · intro q; exact absurd q h1
theorem CmpS_eq (n : Nat) (a b : List UInt8) : cmp_Compare_string n a b = some (cs a b) := by
  unfold cmp_Compare_string cmp_isNaN_string cs
  simp only [bind_some', ne_eq, not_true, decide_false, Bool.false_eq_true, if_false, bytesLess_eq]
  by_cases h1 : a < b
  · simp [h1]
  · by_cases h2 : b < a
    · have h3 : ¬ a = b := fun e => by rw [e] at h2; exact List.lt_irrefl _ h2
      simp [h1, h2, h3]
    · have h3 : a = b := List.le_antisymm h2 h1
      have h4 : ¬ b < b := List.lt_irrefl b
      simp [h3, h4]
theorem bs_L0 (n : Nat) (l : List Weight) (s : List UInt8) (hp : l.Pairwise (fun a b => a.Feature < b.Feature)) (hl : l.length ≤ 100000000) (k : Nat → Option (Int × Bool)) : ∀ (m i j : Nat), i ≤ j → j ≤ l.length → j - i < m → (∀ q w, q < i → l[q]? = some w → w.Feature < s) → (∀ q w, j ≤ q → l[q]? = some w → ¬ w.Feature < s) → ∃ i', slices_BinarySearchFunc_string_L0 n l s (fun p => model_weight_1 n p.1 p.2) k m i j = k i' ∧ i' ≤ l.length ∧ (∀ q w, q < i' → l[q]? = some w → w.Feature < s) ∧ (∀ q w, i' ≤ q → l[q]? = some w → ¬ w.Feature < s)
  | 0, i, j, _, _, h, _, _ => by omega
  | m + 1, i, j, hij, hj, hm, h1, h2 => by
    rw [slices_BinarySearchFunc_string_L0]
    by_cases q : i < j
    · have hmid : (i + j) / 2 ^ 1 < j ∧ i ≤ (i + j) / 2 ^ 1 := by omega
      obtain ⟨x, hx⟩ : ∃ x, l[(i + j) / 2 ^ 1]? = some x := ⟨_, List.getElem?_eq_getElem (by omega)⟩
      have hc : model_weight_1 n x s = some (cs x.Feature s) := by
        unfold model_weight_1
        rw [CmpS_eq]; rfl
      rw [if_pos q, chk_pos (by omega), chk_pos (by omega), chk_pos (by omega), hx, bind_some', hc, bind_some']
      by_cases c : cs x.Feature s < 0
      · have hlt := cs_neg.1 c
        rw [if_pos c, chk_pos (by omega)]
        refine bs_L0 n l s hp hl k m _ j (by omega) hj (by omega) (fun p w hpq hw => ?_) h2
        by_cases e : p = (i + j) / 2 ^ 1
        · rw [e, hx] at hw; cases hw; exact hlt
        · have : p < (i + j) / 2 ^ 1 := by omega
          obtain ⟨a1, a2⟩ := List.getElem?_eq_some_iff.1 hw
          obtain ⟨b1, b2⟩ := List.getElem?_eq_some_iff.1 hx
          have := List.pairwise_iff_getElem.1 hp p ((i + j) / 2 ^ 1) a1 b1 this
          rw [a2, b2] at this
          exact List.lt_trans this hlt
      · have hge : ¬ x.Feature < s := fun e => c (cs_neg.2 e)
        rw [if_neg c]
        refine bs_L0 n l s hp hl k m i _ (by omega) (by omega) (by omega) h1 (fun p w hpq hw => ?_)
        by_cases e : p = (i + j) / 2 ^ 1
        · rw [e, hx] at hw; cases hw; exact hge
        · have : (i + j) / 2 ^ 1 < p := by omega
          obtain ⟨a1, a2⟩ := List.getElem?_eq_some_iff.1 hw
          obtain ⟨b1, b2⟩ := List.getElem?_eq_some_iff.1 hx
          have := List.pairwise_iff_getElem.1 hp ((i + j) / 2 ^ 1) p b1 a1 this
          rw [a2, b2] at this
          exact fun z => hge (List.lt_trans this z)
    · rw [if_neg q]
      have e : i = j := by omega
      exact ⟨i, rfl, by omega, h1, fun p w hpq hw => h2 p w (by omega) hw⟩
theorem weight_p (n : Nat) (m : Model) (s : List UInt8) (hp : m.Weights.Pairwise (fun a b => a.Feature < b.Feature)) (hl : m.Weights.length ≤ 100000000) (hn : m.Weights.length < n) : model_weight n m s = some (wt m.Weights s) := by
  unfold model_weight slices_BinarySearchFunc_string
  rw [jn_def]
  obtain ⟨i, r1, r2, r3, r4⟩ := bs_L0 n m.Weights s hp hl (fun (i_2 : Nat) =>
  if i_2 < ((m.Weights).length) then
   (m.Weights[i_2]?).bind fun x24 =>
   (model_weight_1 n x24 s).bind fun r26 =>
   some (((i_2 : Nat) : Int), decide (r26 = 0))
  else
   some (((i_2 : Nat) : Int), false)) n 0 m.Weights.length (Nat.zero_le _) (Nat.le_refl _) (by omega) (fun q w h => absurd h (Nat.not_lt_zero _)) (fun q w h hw => by have := (List.getElem?_eq_some_iff.1 hw).1; omega)
  rw [r1]
  by_cases q : i < m.Weights.length
  · obtain ⟨x, hx⟩ : ∃ x, m.Weights[i]? = some x := ⟨_, List.getElem?_eq_getElem q⟩
    have hc : model_weight_1 n x s = some (cs x.Feature s) := by
      unfold model_weight_1
      rw [CmpS_eq]; rfl
    rw [if_pos q, hx, bind_some', hc, bind_some', bind_some']
    dsimp only
    by_cases e : x.Feature = s
    · have e0 := cs_zero.2 e
      rw [if_neg (by simp [e0]), ix_nat, hx, bind_some', ← e, wt_in hp (List.mem_of_getElem? hx)]
    · have e0 : ¬ cs x.Feature s = 0 := fun z => e (cs_zero.1 z)
      rw [if_pos (by simp [e0])]
      refine congrArg some (wt_out fun w hw => ?_).symm
      obtain ⟨j, hj⟩ := List.getElem?_of_mem hw
      by_cases hji : j < i
      · have := r3 j w hji hj
        exact fun z => by rw [z] at this; exact List.lt_irrefl _ this
      · by_cases hje : j = i
        · rw [hje, hx] at hj; cases hj; exact e
        · obtain ⟨a1, a2⟩ := List.getElem?_eq_some_iff.1 hj
          obtain ⟨b1, b2⟩ := List.getElem?_eq_some_iff.1 hx
          have h5 := List.pairwise_iff_getElem.1 hp i j b1 a1 (by omega)
          rw [a2, b2] at h5
          exact fun z => by rw [z] at h5; exact r4 i x (Nat.le_refl _) hx h5
  · rw [if_neg q, bind_some']
    dsimp only
    rw [if_pos (by simp)]
    refine congrArg some (wt_out fun w hw => ?_).symm
    obtain ⟨j, hj⟩ := List.getElem?_of_mem hw
    have := (List.getElem?_eq_some_iff.1 hj).1
    have := r3 j w (by omega) hj
    exact fun z => by rw [z] at this; exact List.lt_irrefl _ this
/-- the score of features -/
def sc (l : List Weight) (fs : List (List UInt8)) : Int := (fs.map (wt l)).sum
theorem sc_cons (l : List Weight) (x : List UInt8) (t : List (List UInt8)) : sc l (x :: t) = wt l x + sc l t := by simp [sc]
theorem Score_L0 (n : Nat) (m : Model) (hv : okV m.Weights) (hl : m.Weights.length ≤ 100000000) (hn : m.Weights.length < n) (l : List (List UInt8)) : ∀ (t : List (List UInt8)) (k i : Nat) (a A : Int), l.drop i = t → t.length < k → -A ≤ a → a ≤ A → A + 1048576 * (t.length : Int) ≤ 1000000000000000 → model_Score_L0 n m l k a i = some (a + sc m.Weights t) ∧ r37_Score_L0 n m l k a i = some (a + sc m.Weights t)
  | [], k + 1, i, a, A, h, _, _, _, _ => by
    rw [model_Score_L0, r37_Score_L0, if_neg (drop_nil' h)]
    have e : a + sc m.Weights [] = a := by show a + 0 = a; omega
    rw [e, if_neg (drop_nil' h)]
    exact ⟨rfl, rfl⟩
  | x :: t, k + 1, i, a, A, h, hk, h1', h2', h3' => by
    obtain ⟨h1, h2, h3⟩ := drop_cons h
    rw [List.length_cons] at h3'
    obtain ⟨b1, b2⟩ := wt_bound hv x
    obtain ⟨r1, r2⟩ := Score_L0 n m hv hl hn l t k (i + 1) (a + wt m.Weights x) (A + 1048576) h3 (by simpa using hk) (by omega) (by omega) (by omega)
    rw [model_Score_L0, r37_Score_L0, if_pos h1, if_pos h1, h2, bind_some', bind_some', weight_p n m x hv.asc hl hn, weight_r n m x hn, bind_some', bind_some', chk_pos (by omega), chk_pos (by omega), r1, r2, sc_cons, Int.add_assoc]
    exact ⟨rfl, rfl⟩
/-- the score of a derivation -/
def scD (l : List Weight) (d : Deriv) : Int := sc l (ftD d)
theorem Score_eq (n : Nat) (m : Model) (d : Deriv) (hv : okV m.Weights) (hl : m.Weights.length ≤ 4000000) (hs : szD d ≤ 1048576) (hn : 7000000 ≤ n) : model_Score n m d = some (scD m.Weights d) ∧ r37_Score n m d = some (scD m.Weights d) := by
  have h1 := ftD_len d
  unfold model_Score r37_Score
  rw [Features_p n d (by omega) hs, Features_r n d (by omega) hs, bind_some', bind_some']
  obtain ⟨r1, r2⟩ := Score_L0 n m hv (by omega) (by omega) (ftD d) (ftD d) n 0 0 0 rfl (by omega) (by omega) (by omega) (by omega)
  rw [r1, r2]
  simp [scD]
end Go.Proofs.YthgdajiipojnoaaDoor
