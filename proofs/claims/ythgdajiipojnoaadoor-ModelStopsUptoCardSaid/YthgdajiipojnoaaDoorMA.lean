/- Chapter 37: plain laws of derivations, scores and training -/
import Derived.Test.YthgdajiipojnoaaDoorM2
namespace Go.Proofs.YthgdajiipojnoaaDoor
open Go.Gl Go.Sort
set_option linter.unusedVariables false
set_option linter.unusedSimpArgs false
/-! features of derivations -/
def js (l : List (List UInt8)) : List UInt8 := (l.map fun x => 32 :: x).flatten
def jo : List (List UInt8) → List UInt8
  | [] => []
  | x :: t => x ++ js t
def tr (nm : List UInt8) : List Deriv → List (List UInt8)
  | [] => []
  | d :: t => [nm ++ 62 :: jo ((d :: t).map (·.Name))]
mutual
def ftD : Deriv → List (List UInt8)
  | ⟨_, nm, _, _, ks⟩ => nm :: (tr nm ks ++ ftL ks)
def ftL : List Deriv → List (List UInt8)
  | [] => []
  | d :: r => ftD d ++ ftL r
end
theorem ftD_eq (d : Deriv) : ftD d = d.Name :: (tr d.Name d.Kids ++ ftL d.Kids) := by cases d; rfl
theorem szD_eq (d : Deriv) : szD d = d.Name.length + szL d.Kids + 1 := by cases d; rfl
theorem szL_cons (d : Deriv) (r : List Deriv) : szL (d :: r) = szD d + szL r := rfl
theorem szD_pos (d : Deriv) : 1 ≤ szD d := by rw [szD_eq]; omega
theorem szL_mem : ∀ {l : List Deriv} {d : Deriv}, d ∈ l → szD d ≤ szL l
  | x :: l, d, h => by
    rw [szL_cons]
    rcases List.mem_cons.1 h with rfl | h
    · omega
    · have := szL_mem h; omega
theorem szL_len : ∀ l : List Deriv, l.length ≤ szL l
  | [] => Nat.zero_le _
  | d :: r => by
    have := szL_len r
    have := szD_pos d
    rw [szL_cons, List.length_cons]; omega
theorem tr_len (nm : List UInt8) (ks : List Deriv) : (tr nm ks).length ≤ ks.length := by
  cases ks <;> simp [tr]
mutual
theorem ftD_len : ∀ d : Deriv, (ftD d).length ≤ 2 * szD d
  | ⟨a, nm, b, c, ks⟩ => by
    have h1 := ftL_len ks
    have h2 := tr_len nm ks
    have h3 := szL_len ks
    show (nm :: (tr nm ks ++ ftL ks)).length ≤ 2 * (nm.length + szL ks + 1)
    cases ks with
    | nil => simp [tr, ftL]; omega
    | cons x t =>
      rw [List.length_cons, List.length_append]
      have : (tr nm (x :: t)).length = 1 := rfl
      omega
theorem ftL_len : ∀ l : List Deriv, (ftL l).length ≤ 2 * szL l
  | [] => by simp [ftL]
  | d :: r => by
    have h1 := ftD_len d
    have h2 := ftL_len r
    show (ftD d ++ ftL r).length ≤ 2 * (szD d + szL r)
    rw [List.length_append]; omega
end
theorem join_jo : ∀ l : List (List UInt8), Lib.join l [32] = jo l
  | [] => rfl
  | x :: t => (Lib.join_cons x t [32]).trans rfl
theorem js_len : ∀ l : List Deriv, (js (l.map (·.Name))).length ≤ szL l
  | [] => by simp [js]
  | d :: r => by
    have := js_len r
    have h2 := szD_eq d
    unfold js at *
    rw [List.map_cons, List.map_cons, List.flatten_cons, List.length_append, szL_cons, List.length_cons]
    omega
theorem jo_len (l : List Deriv) : (jo (l.map (·.Name))).length ≤ szL l := by
  cases l with
  | nil => simp [jo]
  | cons d r =>
    have := js_len r
    have h2 := szD_eq d
    rw [List.map_cons, jo, List.length_append, szL_cons]
    omega
theorem Feat_L0 (n : Nat) (d : Deriv) (k : List (List UInt8) → Option (List (List UInt8))) : ∀ (t : List Deriv) (m i : Nat) (nms : List (List UInt8)), d.Kids.drop i = t → t.length < m → nms.length + t.length ≤ 100000000 → model_Features_L0 n d k m nms i = k (nms ++ t.map (·.Name))
  | [], m + 1, i, nms, h, _, _ => by rw [model_Features_L0, if_neg (drop_nil' h)]; simp
  | x :: t, m + 1, i, nms, h, hm, hb => by
    obtain ⟨h1, h2, h3⟩ := drop_cons h
    rw [List.length_cons] at hb
    rw [model_Features_L0, if_pos h1, h2, bind_some', chk_pos (by rw [List.length_singleton]; omega), Feat_L0 n d k t m (i + 1) _ h3 (by simpa using hm) (by rw [List.length_append, List.length_singleton]; omega)]
    simp
theorem Feat_L1 (n : Nat) (d : Deriv) (sf : Deriv → Option (List (List UInt8))) (hsf : ∀ x ∈ d.Kids, sf x = some (ftD x)) : ∀ (t : List Deriv) (m i : Nat) (out : List (List UInt8)), d.Kids.drop i = t → t.length < m → out.length + (ftL t).length ≤ 100000000 → model_Features_L1 n d sf m out i = some (out ++ ftL t)
  | [], m + 1, i, out, h, _, _ => by rw [model_Features_L1, if_neg (drop_nil' h)]; simp [ftL]
  | x :: t, m + 1, i, out, h, hm, hb => by
    obtain ⟨h1, h2, h3⟩ := drop_cons h
    have e : ftL (x :: t) = ftD x ++ ftL t := rfl
    rw [e, List.length_append] at hb
    rw [model_Features_L1, if_pos h1, h2, bind_some', hsf x (List.mem_of_getElem? h2), bind_some', chk_pos (by omega), Feat_L1 n d sf hsf t m (i + 1) _ h3 (by simpa using hm) (by rw [List.length_append]; omega), e, List.append_assoc]
theorem Features_p : ∀ (n : Nat) (d : Deriv), szD d < n → szD d ≤ 1048576 → model_Features n d = some (ftD d)
  | 0, d, h, _ => by omega
  | n + 1, d, h, hb => by
    have h0 := szD_eq d
    have h1 := szL_len d.Kids
    have h2 := ftL_len d.Kids
    have h3 := jo_len d.Kids
    have hsf : ∀ x ∈ d.Kids, model_Features n x = some (ftD x) := fun x hx => by
      have := szL_mem hx
      exact Features_p n x (by omega) (by omega)
    rw [model_Features, jn_def, ftD_eq]
    cases hk : d.Kids with
    | nil =>
      rw [hk] at h2
      rw [if_neg (by simp)]
      dsimp only
      rw [Feat_L1 n d _ hsf [] n 0 [d.Name] (by rw [hk]; rfl) (by simp; omega) (by simp [ftL])]
      rfl
    | cons x t =>
      have e0 : d.Kids.drop 0 = d.Kids := rfl
      rw [if_pos (by simp), jn_def, Feat_L0 n d _ d.Kids n 0 [] rfl (by omega) (by simp; omega), List.nil_append]
      have hj : strings_Join n (d.Kids.map (·.Name)) [32] = some (jo (d.Kids.map (·.Name))) := by
        unfold strings_Join
        rw [join_jo, chk_pos ⟨by rw [List.length_map]; omega, by omega⟩]
      have e1 : (d.Name ++ [62] ++ jo (d.Kids.map (·.Name))) = d.Name ++ 62 :: jo (d.Kids.map (·.Name)) := by simp
      rw [chk_pos (by rw [List.length_singleton]; omega), hj, bind_some', chk_pos (by rw [List.length_append, List.length_singleton]; omega), chk_pos (by simp), e1]
      dsimp only
      rw [Feat_L1 n d _ hsf d.Kids n 0 _ rfl (by omega) (by simp; omega), ← hk]
      have e2 : tr d.Name d.Kids = [d.Name ++ 62 :: jo (d.Kids.map (·.Name))] := by rw [hk]; rfl
      rw [e2]
      simp
theorem rFeat_L0 (n : Nat) (d : Deriv) (k : List UInt8 → Option (List (List UInt8))) : ∀ (t : List Deriv) (m i : Nat) (s : List UInt8), d.Kids.drop i = t → t.length < m → s.length + szL t ≤ 100000000 → r37_Features_L0 n d k m s i = k (s ++ if i = 0 then jo (t.map (·.Name)) else js (t.map (·.Name)))
  | [], m + 1, i, s, h, _, _ => by
    rw [r37_Features_L0, if_neg (drop_nil' h)]
    simp [jo, js]
  | x :: t, m + 1, i, s, h, hm, hb => by
    obtain ⟨h1, h2, h3⟩ := drop_cons h
    have h0 := szD_eq x
    rw [szL_cons] at hb
    rw [r37_Features_L0, if_pos h1, jn_def]
    by_cases i0 : 0 < i
    · rw [if_pos i0, chk_pos (by rw [List.length_singleton]; omega)]
      dsimp only
      rw [h2, bind_some', chk_pos (by rw [List.length_append, List.length_singleton]; omega), rFeat_L0 n d k t m (i + 1) _ h3 (by simpa using hm) (by rw [List.length_append, List.length_append, List.length_singleton]; omega), if_neg (by omega), if_neg (by omega)]
      simp [js]
    · rw [if_neg i0]
      dsimp only
      rw [h2, bind_some', chk_pos (by omega), rFeat_L0 n d k t m (i + 1) _ h3 (by simpa using hm) (by rw [List.length_append]; omega), if_neg (by omega), if_pos (by omega)]
      simp [jo]
theorem rFeat_L2 (n : Nat) (k : List (List UInt8) → Option (List (List UInt8))) (l : List (List UInt8)) : ∀ (t : List (List UInt8)) (m i : Nat) (out : List (List UInt8)), l.drop i = t → t.length < m → out.length + t.length ≤ 100000000 → r37_Features_L2 n k l m out i = k (out ++ t)
  | [], m + 1, i, out, h, _, _ => by rw [r37_Features_L2, if_neg (drop_nil' h)]; simp
  | x :: t, m + 1, i, out, h, hm, hb => by
    obtain ⟨h1, h2, h3⟩ := drop_cons h
    rw [List.length_cons] at hb
    rw [r37_Features_L2, if_pos h1, h2, bind_some', chk_pos (by rw [List.length_singleton]; omega), rFeat_L2 n k l t m (i + 1) _ h3 (by simpa using hm) (by rw [List.length_append, List.length_singleton]; omega)]
    simp
theorem rFeat_L1 (n : Nat) (hn : 5000000 ≤ n) (d : Deriv) (sf : Deriv → Option (List (List UInt8))) (hsf : ∀ x ∈ d.Kids, sf x = some (ftD x)) : ∀ (t : List Deriv) (m i : Nat) (out : List (List UInt8)), d.Kids.drop i = t → t.length < m → out.length + (ftL t).length ≤ 4000000 → r37_Features_L1 n d sf m out i = some (out ++ ftL t)
  | [], m + 1, i, out, h, _, _ => by rw [r37_Features_L1, if_neg (drop_nil' h)]; simp [ftL]
  | x :: t, m + 1, i, out, h, hm, hb => by
    obtain ⟨h1, h2, h3⟩ := drop_cons h
    have e : ftL (x :: t) = ftD x ++ ftL t := rfl
    rw [e, List.length_append] at hb
    rw [r37_Features_L1, if_pos h1, jn_def, h2, bind_some', hsf x (List.mem_of_getElem? h2), bind_some', rFeat_L2 n _ (ftD x) (ftD x) n 0 out rfl (by omega) (by omega), rFeat_L1 n hn d sf hsf t m (i + 1) _ h3 (by simpa using hm) (by rw [List.length_append]; omega), e, List.append_assoc]
theorem Features_r : ∀ (n : Nat) (d : Deriv), 5000000 + szD d < n → szD d ≤ 1048576 → r37_Features n d = some (ftD d)
  | 0, d, h, _ => by omega
  | n + 1, d, h, hb => by
    have h0 := szD_eq d
    have h1 := szL_len d.Kids
    have h2 := ftL_len d.Kids
    have h3 := jo_len d.Kids
    have hsf : ∀ x ∈ d.Kids, r37_Features n x = some (ftD x) := fun x hx => by
      have := szL_mem hx
      exact Features_r n x (by omega) (by omega)
    rw [r37_Features, jn_def, ftD_eq]
    cases hk : d.Kids with
    | nil =>
      rw [if_neg (by simp)]
      dsimp only
      rw [rFeat_L1 n (by omega) d _ hsf [] n 0 [d.Name] (by rw [hk]; rfl) (by simp; omega) (by simp [ftL])]
      rfl
    | cons x t =>
      rw [if_pos (by simp), chk_pos (by rw [List.length_singleton]; omega), jn_def, rFeat_L0 n d _ d.Kids n 0 _ rfl (by omega) (by rw [List.length_append, List.length_singleton]; omega), if_pos rfl]
      have e1 : (d.Name ++ [62] ++ jo (d.Kids.map (·.Name))) = d.Name ++ 62 :: jo (d.Kids.map (·.Name)) := by simp
      dsimp only
      rw [chk_pos (by simp), e1, rFeat_L1 n (by omega) d _ hsf d.Kids n 0 _ rfl (by omega) (by simp; omega), ← hk]
      have e2 : tr d.Name d.Kids = [d.Name ++ 62 :: jo (d.Kids.map (·.Name))] := by rw [hk]; rfl
      rw [e2]
      simp
theorem Nodes_L0 (n : Nat) (d : Deriv) (most : Int) (hm0 : most ≤ 1000000000) (sf : Deriv → Int → Option Int) (hsf : ∀ x ∈ d.Kids, ∀ z : Int, z ≤ 1000000000 → ∃ v, sf x z = some v ∧ 1 ≤ v ∧ v ≤ (szD x : Int)) : ∀ (t : List Deriv) (m i : Nat) (a : Int), d.Kids.drop i = t → t.length < m → 1 ≤ a → a + (szL t : Int) ≤ 100000000 → i + t.length ≤ 100000000 → ∃ v, r37_Nodes_L0 n d most sf m a i = some v ∧ a ≤ v ∧ v ≤ a + (szL t : Int)
  | [], m + 1, i, a, h, _, ha, _, _ => by
    rw [r37_Nodes_L0, jn_def, if_neg (drop_nil' h)]
    exact ⟨a, rfl, Int.le_refl _, by omega⟩
  | x :: t, m + 1, i, a, h, hm, ha, hb, hi => by
    obtain ⟨h1, h2, h3⟩ := drop_cons h
    rw [szL_cons] at hb ⊢
    rw [List.length_cons] at hi
    rw [r37_Nodes_L0, jn_def, if_pos h1]
    by_cases q : a < most
    · obtain ⟨v, v1, v2, v3⟩ := hsf x (List.mem_of_getElem? h2) (most - a) (by omega)
      obtain ⟨w, w1, w2, w3⟩ := Nodes_L0 n d most hm0 sf hsf t m (i + 1) (a + v) h3 (by simpa using hm) (by omega) (by omega) (by omega)
      simp only [q, decide_true, if_true, h2, bind_some', v1]
      rw [chk_pos (by omega), chk_pos (by omega), chk_pos (by omega), w1]
      exact ⟨w, rfl, by omega, by omega⟩
    · simp only [q, decide_false, Bool.false_eq_true, if_false]
      exact ⟨a, rfl, Int.le_refl _, by omega⟩
theorem Nodes_some : ∀ (n : Nat) (d : Deriv) (most : Int), szD d < n → szD d ≤ 1048576 → most ≤ 1000000000 → ∃ v, r37_Nodes n d most = some v ∧ 1 ≤ v ∧ v ≤ (szD d : Int)
  | 0, d, _, h, _, _ => by omega
  | n + 1, d, most, h, hb, hm => by
    have h0 := szD_eq d
    have h1 := szL_len d.Kids
    obtain ⟨v, v1, v2, v3⟩ := Nodes_L0 n d most hm (r37_Nodes n) (fun x hx z hz => by
      have := szL_mem hx
      exact Nodes_some n x z (by omega) (by omega) hz) d.Kids n 0 1 rfl (by omega) (Int.le_refl _) (by omega) (by omega)
    rw [r37_Nodes]
    exact ⟨v, v1, v2, by omega⟩
theorem FeatLaw_L0 (n : Nat) (l : List (List UInt8)) (k : Option Bool) : ∀ (t : List (List UInt8)) (m i : Nat), l.drop i = t → t.length < m → law37_ModelFeatures_L0 n l l k m i = k
  | [], m + 1, i, h, _ => by rw [law37_ModelFeatures_L0, if_neg (drop_nil' h)]
  | x :: t, m + 1, i, h, hm => by
    obtain ⟨h1, h2, h3⟩ := drop_cons h
    rw [law37_ModelFeatures_L0, if_pos h1, h2, bind_some', bind_some', if_neg (by simp), FeatLaw_L0 n l k t m (i + 1) h3 (by simpa using hm)]
theorem Features_main (n : Nat) (hn : 7000000 ≤ n) (hex : law37_exampleHolds n = some true) (d : Deriv) (hs : szD d ≤ 1048576) : law37_ModelFeatures n d = some true := by
  have hl := ftD_len d
  obtain ⟨v, v1, _⟩ := Nodes_some n d 61 (by omega) hs (by omega)
  unfold law37_ModelFeatures
  rw [v1, hex, Features_p n d (by omega) hs, Features_r n d (by omega) hs]
  simp only [bind_some', ne_eq, not_true, if_false, jn_def]
  rw [FeatLaw_L0 n (ftD d) _ (ftD d) n 0 rfl (by omega)]
  split <;> rfl
theorem law37_ModelFeatures_true (d : Deriv) (hs : szD d ≤ 1048576) : law37_ModelFeatures 10000000 d = some true := Features_main 10000000 (by omega) ex37 d hs
/-! weights and scores -/
structure okV (l : List Weight) : Prop where
  nz : ∀ w ∈ l, w.Value ≠ 0
  lo : ∀ w ∈ l, -1048576 ≤ w.Value
  hi : ∀ w ∈ l, w.Value ≤ 1048576
  asc : l.Pairwise (fun a b => a.Feature < b.Feature)
theorem okM.v {l : List Weight} (h : okM l) : okV l := ⟨fun w hw => (h.good w hw).nz, fun w hw => (h.good w hw).lo, fun w hw => (h.good w hw).hi, h.asc⟩
def wt : List Weight → List UInt8 → Int
  | [], _ => 0
  | w :: t, s => if w.Feature = s then w.Value else wt t s
theorem wt_out {s : List UInt8} : ∀ {l : List Weight}, (∀ w ∈ l, w.Feature ≠ s) → wt l s = 0
  | [], _ => rfl
  | w :: t, h => by
    unfold wt
    rw [if_neg (h w (by simp)), wt_out (fun x hx => h x (by simp [hx]))]
theorem wt_in : ∀ {l : List Weight} {w : Weight}, l.Pairwise (fun a b => a.Feature < b.Feature) → w ∈ l → wt l w.Feature = w.Value
  | x :: t, w, hp, hw => by
    obtain ⟨h1, h2⟩ := List.pairwise_cons.1 hp
    unfold wt
    rcases List.mem_cons.1 hw with rfl | hw
    · rw [if_pos rfl]
    · rw [if_neg (fun e => by have := h1 w hw; rw [e] at this; exact List.lt_irrefl _ this), wt_in h2 hw]
theorem wt_cases {l : List Weight} (s : List UInt8) : (wt l s = 0 ∧ ∀ w ∈ l, w.Feature ≠ s) ∨ ∃ w ∈ l, w.Feature = s ∧ wt l s = w.Value := by
  induction l with
  | nil => exact .inl ⟨rfl, by simp⟩
  | cons x t ih =>
    unfold wt
    by_cases h : x.Feature = s
    · rw [if_pos h]; exact .inr ⟨x, by simp, h, rfl⟩
    · rw [if_neg h]
      rcases ih with ⟨h1, h2⟩ | ⟨w, h1, h2, h3⟩
      · refine .inl ⟨h1, fun w hw => ?_⟩
        rcases List.mem_cons.1 hw with rfl | hw
        · exact h
        · exact h2 w hw
      · exact .inr ⟨w, by simp [h1], h2, h3⟩
theorem wt_bound {l : List Weight} (h : okV l) (s : List UInt8) : -1048576 ≤ wt l s ∧ wt l s ≤ 1048576 := by
  rcases wt_cases (l := l) s with ⟨h1, _⟩ | ⟨w, h1, _, h3⟩
  · rw [h1]; omega
  · rw [h3]; exact ⟨h.lo w h1, h.hi w h1⟩
theorem rweight_L0 (n : Nat) (m : Model) (s : List UInt8) : ∀ (t : List Weight) (k i : Nat), m.Weights.drop i = t → t.length < k → r37_weight_L0 n m s k i = some (wt t s)
  | [], k + 1, i, h, _ => by rw [r37_weight_L0, if_neg (drop_nil' h)]; rfl
  | x :: t, k + 1, i, h, hk => by
    obtain ⟨h1, h2, h3⟩ := drop_cons h
    rw [r37_weight_L0, if_pos h1, h2, bind_some', rweight_L0 n m s t k (i + 1) h3 (by simpa using hk), wt]
    split <;> rfl
theorem weight_r (n : Nat) (m : Model) (s : List UInt8) (hn : m.Weights.length < n) : r37_weight n m s = some (wt m.Weights s) := rweight_L0 n m s m.Weights n 0 rfl hn
def cs (a b : List UInt8) : Int := if a < b then -1 else if b < a then 1 else 0
theorem cs_zero {a b : List UInt8} : cs a b = 0 ↔ a = b := by
  unfold cs
  by_cases h1 : a < b
  · rw [if_pos h1]
    exact ⟨fun q => absurd q (by omega), fun e => by rw [e] at h1; exact absurd h1 (List.lt_irrefl _)⟩
  · rw [if_neg h1]
    by_cases h2 : b < a
    · rw [if_pos h2]
      exact ⟨fun q => absurd q (by omega), fun e => by rw [e] at h2; exact absurd h2 (List.lt_irrefl _)⟩
    · rw [if_neg h2]
      exact ⟨fun _ => List.le_antisymm h2 h1, fun _ => rfl⟩
theorem cs_neg {a b : List UInt8} : cs a b < 0 ↔ a < b := by
  unfold cs
  by_cases h1 : a < b
  · rw [if_pos h1]; exact ⟨fun _ => h1, fun _ => by omega⟩
  · rw [if_neg h1]
    constructor
    · intro q; split at q <;> omega
    · intro q; exact absurd q h1
theorem CmpS_eq (n : Nat) (a b : List UInt8) : cmp_Compare_string n a b = some (cs a b) := by
  unfold cmp_Compare_string cmp_isNaN_string cs
  simp only [bind_some', ne_eq, not_true, decide_false, Bool.false_eq_true, if_false, bytesLess_eq]
  by_cases h1 : a < b
  · simp [h1]
  · by_cases h2 : b < a
    · have h3 : ¬ a = b := fun e => by rw [e] at h2; exact List.lt_irrefl _ h2
      simp [h1, h2, h3]
    · have h3 : a = b := List.le_antisymm h2 h1
      have h4 : ¬ b < b := List.lt_irrefl b
      simp [h3, h4]
theorem bs_L0 (n : Nat) (l : List Weight) (s : List UInt8) (hp : l.Pairwise (fun a b => a.Feature < b.Feature)) (hl : l.length ≤ 100000000) (k : Nat → Option (Int × Bool)) : ∀ (m i j : Nat), i ≤ j → j ≤ l.length → j - i < m → (∀ q w, q < i → l[q]? = some w → w.Feature < s) → (∀ q w, j ≤ q → l[q]? = some w → ¬ w.Feature < s) → ∃ i', slices_BinarySearchFunc_string_L0 n l s (fun p => model_weight_1 n p.1 p.2) k m i j = k i' ∧ i' ≤ l.length ∧ (∀ q w, q < i' → l[q]? = some w → w.Feature < s) ∧ (∀ q w, i' ≤ q → l[q]? = some w → ¬ w.Feature < s)
  | 0, i, j, _, _, h, _, _ => by omega
  | m + 1, i, j, hij, hj, hm, h1, h2 => by
    rw [slices_BinarySearchFunc_string_L0]
    by_cases q : i < j
    · have hmid : (i + j) / 2 ^ 1 < j ∧ i ≤ (i + j) / 2 ^ 1 := by omega
      obtain ⟨x, hx⟩ : ∃ x, l[(i + j) / 2 ^ 1]? = some x := ⟨_, List.getElem?_eq_getElem (by omega)⟩
      have hc : model_weight_1 n x s = some (cs x.Feature s) := by
        unfold model_weight_1
        rw [CmpS_eq]; rfl
      rw [if_pos q, chk_pos (by omega), chk_pos (by omega), chk_pos (by omega), hx, bind_some', hc, bind_some']
      by_cases c : cs x.Feature s < 0
      · have hlt := cs_neg.1 c
        rw [if_pos c, chk_pos (by omega)]
        refine bs_L0 n l s hp hl k m _ j (by omega) hj (by omega) (fun p w hpq hw => ?_) h2
        by_cases e : p = (i + j) / 2 ^ 1
        · rw [e, hx] at hw; cases hw; exact hlt
        · have : p < (i + j) / 2 ^ 1 := by omega
          obtain ⟨a1, a2⟩ := List.getElem?_eq_some_iff.1 hw
          obtain ⟨b1, b2⟩ := List.getElem?_eq_some_iff.1 hx
          have := List.pairwise_iff_getElem.1 hp p ((i + j) / 2 ^ 1) a1 b1 this
          rw [a2, b2] at this
          exact List.lt_trans this hlt
      · have hge : ¬ x.Feature < s := fun e => c (cs_neg.2 e)
        rw [if_neg c]
        refine bs_L0 n l s hp hl k m i _ (by omega) (by omega) (by omega) h1 (fun p w hpq hw => ?_)
        by_cases e : p = (i + j) / 2 ^ 1
        · rw [e, hx] at hw; cases hw; exact hge
        · have : (i + j) / 2 ^ 1 < p := by omega
          obtain ⟨a1, a2⟩ := List.getElem?_eq_some_iff.1 hw
          obtain ⟨b1, b2⟩ := List.getElem?_eq_some_iff.1 hx
          have := List.pairwise_iff_getElem.1 hp ((i + j) / 2 ^ 1) p b1 a1 this
          rw [a2, b2] at this
          exact fun z => hge (List.lt_trans this z)
    · rw [if_neg q]
      have e : i = j := by omega
      exact ⟨i, rfl, by omega, h1, fun p w hpq hw => h2 p w (by omega) hw⟩
theorem weight_p (n : Nat) (m : Model) (s : List UInt8) (hp : m.Weights.Pairwise (fun a b => a.Feature < b.Feature)) (hl : m.Weights.length ≤ 100000000) (hn : m.Weights.length < n) : model_weight n m s = some (wt m.Weights s) := by
  unfold model_weight slices_BinarySearchFunc_string
  rw [jn_def]
  obtain ⟨i, r1, r2, r3, r4⟩ := bs_L0 n m.Weights s hp hl (fun (i_2 : Nat) =>
  if i_2 < ((m.Weights).length) then
   (m.Weights[i_2]?).bind fun x24 =>
   (model_weight_1 n x24 s).bind fun r26 =>
   some (((i_2 : Nat) : Int), decide (r26 = 0))
  else
   some (((i_2 : Nat) : Int), false)) n 0 m.Weights.length (Nat.zero_le _) (Nat.le_refl _) (by omega) (fun q w h => absurd h (Nat.not_lt_zero _)) (fun q w h hw => by have := (List.getElem?_eq_some_iff.1 hw).1; omega)
  rw [r1]
  by_cases q : i < m.Weights.length
  · obtain ⟨x, hx⟩ : ∃ x, m.Weights[i]? = some x := ⟨_, List.getElem?_eq_getElem q⟩
    have hc : model_weight_1 n x s = some (cs x.Feature s) := by
      unfold model_weight_1
      rw [CmpS_eq]; rfl
    rw [if_pos q, hx, bind_some', hc, bind_some', bind_some']
    dsimp only
    by_cases e : x.Feature = s
    · have e0 := cs_zero.2 e
      rw [if_neg (by simp [e0]), ix_nat, hx, bind_some', ← e, wt_in hp (List.mem_of_getElem? hx)]
    · have e0 : ¬ cs x.Feature s = 0 := fun z => e (cs_zero.1 z)
      rw [if_pos (by simp [e0])]
      refine congrArg some (wt_out fun w hw => ?_).symm
      obtain ⟨j, hj⟩ := List.getElem?_of_mem hw
      by_cases hji : j < i
      · have := r3 j w hji hj
        exact fun z => by rw [z] at this; exact List.lt_irrefl _ this
      · by_cases hje : j = i
        · rw [hje, hx] at hj; cases hj; exact e
        · obtain ⟨a1, a2⟩ := List.getElem?_eq_some_iff.1 hj
          obtain ⟨b1, b2⟩ := List.getElem?_eq_some_iff.1 hx
          have h5 := List.pairwise_iff_getElem.1 hp i j b1 a1 (by omega)
          rw [a2, b2] at h5
          exact fun z => by rw [z] at h5; exact r4 i x (Nat.le_refl _) hx h5
  · rw [if_neg q, bind_some']
    dsimp only
    rw [if_pos (by simp)]
    refine congrArg some (wt_out fun w hw => ?_).symm
    obtain ⟨j, hj⟩ := List.getElem?_of_mem hw
    have := (List.getElem?_eq_some_iff.1 hj).1
    have := r3 j w (by omega) hj
    exact fun z => by rw [z] at this; exact List.lt_irrefl _ this
/-- the score of features -/
def sc (l : List Weight) (fs : List (List UInt8)) : Int := (fs.map (wt l)).sum
theorem sc_cons (l : List Weight) (x : List UInt8) (t : List (List UInt8)) : sc l (x :: t) = wt l x + sc l t := by simp [sc]
theorem Score_L0 (n : Nat) (m : Model) (hv : okV m.Weights) (hl : m.Weights.length ≤ 100000000) (hn : m.Weights.length < n) (l : List (List UInt8)) : ∀ (t : List (List UInt8)) (k i : Nat) (a A : Int), l.drop i = t → t.length < k → -A ≤ a → a ≤ A → A + 1048576 * (t.length : Int) ≤ 1000000000000000 → model_Score_L0 n m l k a i = some (a + sc m.Weights t) ∧ r37_Score_L0 n m l k a i = some (a + sc m.Weights t)
  | [], k + 1, i, a, A, h, _, _, _, _ => by
    rw [model_Score_L0, r37_Score_L0, if_neg (drop_nil' h)]
    have e : a + sc m.Weights [] = a := by show a + 0 = a; omega
    rw [e, if_neg (drop_nil' h)]
    exact ⟨rfl, rfl⟩
  | x :: t, k + 1, i, a, A, h, hk, h1', h2', h3' => by
    obtain ⟨h1, h2, h3⟩ := drop_cons h
    rw [List.length_cons] at h3'
    obtain ⟨b1, b2⟩ := wt_bound hv x
    obtain ⟨r1, r2⟩ := Score_L0 n m hv hl hn l t k (i + 1) (a + wt m.Weights x) (A + 1048576) h3 (by simpa using hk) (by omega) (by omega) (by omega)
    rw [model_Score_L0, r37_Score_L0, if_pos h1, if_pos h1, h2, bind_some', bind_some', weight_p n m x hv.asc hl hn, weight_r n m x hn, bind_some', bind_some', chk_pos (by omega), chk_pos (by omega), r1, r2, sc_cons, Int.add_assoc]
    exact ⟨rfl, rfl⟩
/-- the score of a derivation -/
def scD (l : List Weight) (d : Deriv) : Int := sc l (ftD d)
theorem Score_eq (n : Nat) (m : Model) (d : Deriv) (hv : okV m.Weights) (hl : m.Weights.length ≤ 4000000) (hs : szD d ≤ 1048576) (hn : 7000000 ≤ n) : model_Score n m d = some (scD m.Weights d) ∧ r37_Score n m d = some (scD m.Weights d) := by
  have h1 := ftD_len d
  unfold model_Score r37_Score
  rw [Features_p n d (by omega) hs, Features_r n d (by omega) hs, bind_some', bind_some']
  obtain ⟨r1, r2⟩ := Score_L0 n m hv (by omega) (by omega) (ftD d) (ftD d) n 0 0 0 rfl (by omega) (by omega) (by omega) (by omega)
  rw [r1, r2]
  simp [scD]
/-! derivations compared; the best one -/
def ci (a b : Int) : Int := if a < b then -1 else if b < a then 1 else 0
mutual
def cmD : Deriv → Deriv → Int
  | ⟨k, nm, f, t, ks⟩, b => if ci f b.From ≠ 0 then ci f b.From else if ci t b.To ≠ 0 then ci t b.To else if ci k b.Kind ≠ 0 then ci k b.Kind else if cs nm b.Name ≠ 0 then cs nm b.Name else cmL ks b.Kids
def cmL : List Deriv → List Deriv → Int
  | [], [] => 0
  | [], _ :: _ => -1
  | _ :: _, [] => 1
  | a :: s, b :: t => if cmD a b ≠ 0 then cmD a b else cmL s t
end
theorem cmD_eq (a b : Deriv) : cmD a b = if ci a.From b.From ≠ 0 then ci a.From b.From else if ci a.To b.To ≠ 0 then ci a.To b.To else if ci a.Kind b.Kind ≠ 0 then ci a.Kind b.Kind else if cs a.Name b.Name ≠ 0 then cs a.Name b.Name else cmL a.Kids b.Kids := by cases a; rfl
theorem cmL_cons (a b : Deriv) (s t : List Deriv) : cmL (a :: s) (b :: t) = if cmD a b ≠ 0 then cmD a b else cmL s t := rfl
theorem CmpI_eq (n : Nat) (a b : Int) : cmp_Compare_int n a b = some (ci a b) := by
  unfold cmp_Compare_int cmp_isNaN_int ci
  simp only [bind_some', ne_eq, not_true, decide_false, Bool.false_eq_true, if_false]
  split
  · rfl
  · split <;> rfl
theorem ints_eq (n : Nat) (a b : Int) : r28_ints n a b = some (ci a b) := by
  unfold r28_ints ci
  split
  · rfl
  · split <;> rfl
theorem Or_eq (n : Nat) (hn : 10 ≤ n) (a b c d : Int) : cmp_Or_int n [a, b, c, d] = some (if a ≠ 0 then a else if b ≠ 0 then b else if c ≠ 0 then c else d) := by
  obtain ⟨m, rfl⟩ : ∃ m, n = m + 5 := ⟨n - 5, by omega⟩
  unfold cmp_Or_int
  rw [cmp_Or_int_L0, if_pos (by simp), cmp_Or_int_L0, if_pos (by simp), cmp_Or_int_L0, if_pos (by simp), cmp_Or_int_L0, if_pos (by simp), cmp_Or_int_L0, if_neg (by simp)]
  simp only [List.getElem?_cons_zero, List.getElem?_cons_succ, Nat.zero_add, bind_some']
  by_cases h1 : a = 0
  · by_cases h2 : b = 0
    · by_cases h3 : c = 0
      · by_cases h4 : d = 0 <;> simp [h1, h2, h3, h4]
      · simp [h1, h2, h3]
    · simp [h1, h2]
  · simp [h1]
theorem CmpF_L0 (n : Nat) (s1 s2 : List Deriv) (f : Deriv × Deriv → Option Int) (hf : ∀ x ∈ s1, ∀ y, f (x, y) = some (cmD x y)) : ∀ (t : List Deriv) (m i : Nat), s1.drop i = t → t.length < m → i ≤ s1.length → i ≤ s2.length → slices_CompareFunc_Deriv_L0 n s1 s2 f (if s1.length < s2.length then some (-1) else some 0) m i = some (cmL t (s2.drop i))
  | [], m + 1, i, h, _, hi, hj => by
    have h1 := drop_nil' h
    rw [slices_CompareFunc_Deriv_L0, if_neg h1]
    by_cases q : s1.length < s2.length
    · rw [if_pos q]
      have : i < s2.length := by omega
      rw [List.drop_eq_getElem_cons this]
      rfl
    · rw [if_neg q, List.drop_of_length_le (by omega)]
      rfl
  | x :: t, m + 1, i, h, hm, hi, hj => by
    obtain ⟨h1, h2, h3⟩ := drop_cons h
    rw [slices_CompareFunc_Deriv_L0, if_pos h1, h2, bind_some']
    by_cases q : s2.length ≤ i
    · rw [if_pos q, List.drop_of_length_le q]
      rfl
    · have hq : i < s2.length := by omega
      obtain ⟨y, hy⟩ : ∃ y, s2[i]? = some y := ⟨_, List.getElem?_eq_getElem hq⟩
      have ed : s2.drop i = y :: s2.drop (i + 1) := by
        rw [List.drop_eq_getElem_cons hq]
        congr 1
        exact Option.some.inj ((List.getElem?_eq_getElem hq).symm.trans hy)
      rw [if_neg q, hy, bind_some', hf x (List.mem_of_getElem? h2), bind_some', CmpF_L0 n s1 s2 f hf t m (i + 1) h3 (by simpa using hm) (by omega) (by omega), ed, cmL_cons]
      split <;> rfl
theorem Cmp_p : ∀ (n : Nat) (a b : Deriv), szD a + 20 < n → deriv_Compare n a b = some (cmD a b)
  | 0, _, _, h => by omega
  | n + 1, a, b, h => by
    have h0 := szD_eq a
    have h1 := szL_len a.Kids
    have e : slices_CompareFunc_Deriv n a.Kids b.Kids (fun p => deriv_Compare n p.1 p.2) = some (cmL a.Kids b.Kids) := by
      unfold slices_CompareFunc_Deriv
      rw [jn_def, CmpF_L0 n a.Kids b.Kids (fun p => deriv_Compare n p.1 p.2) (fun x hx y => by
        have := szL_mem hx
        exact Cmp_p n x y (by omega)) a.Kids n 0 rfl (by omega) (Nat.zero_le _) (Nat.zero_le _)]
      rfl
    rw [deriv_Compare, CmpI_eq, CmpI_eq, CmpI_eq, CmpS_eq, bind_some', bind_some', bind_some', bind_some', Or_eq n (by omega), bind_some', e, bind_some', cmD_eq]
    by_cases q1 : ci a.From b.From = 0
    · by_cases q2 : ci a.To b.To = 0
      · by_cases q3 : ci a.Kind b.Kind = 0
        · by_cases q4 : cs a.Name b.Name = 0 <;> simp [q1, q2, q3, q4]
        · simp [q1, q2, q3]
      · simp [q1, q2]
    · simp [q1]
theorem rCmp_L0 (n : Nat) (a b : Deriv) (hl : a.Kids.length ≤ 100000000) (sf : Deriv → Deriv → Option Int) (hf : ∀ x ∈ a.Kids, ∀ y, sf x y = some (cmD x y)) : ∀ (t : List Deriv) (m i : Nat), a.Kids.drop i = t → t.length < m → i ≤ a.Kids.length → i ≤ b.Kids.length → r28_Compare_L0 n a b sf (some (ci (((a.Kids).length : Nat) : Int) (((b.Kids).length : Nat) : Int))) m i = some (cmL t (b.Kids.drop i))
  | [], m + 1, i, h, _, hi, hj => by
    have h1 := drop_nil' h
    rw [r28_Compare_L0, jn_def, if_neg h1]
    simp only [Bool.false_eq_true, if_false]
    by_cases q : i < b.Kids.length
    · rw [List.drop_eq_getElem_cons q]
      have : ci (((a.Kids).length : Nat) : Int) (((b.Kids).length : Nat) : Int) = -1 := by unfold ci; rw [if_pos (by omega)]
      rw [this]; rfl
    · rw [List.drop_of_length_le (by omega)]
      have : ci (((a.Kids).length : Nat) : Int) (((b.Kids).length : Nat) : Int) = 0 := by unfold ci; rw [if_neg (by omega), if_neg (by omega)]
      rw [this]; rfl
  | x :: t, m + 1, i, h, hm, hi, hj => by
    obtain ⟨h1, h2, h3⟩ := drop_cons h
    rw [r28_Compare_L0, jn_def, if_pos h1]
    by_cases q : i < b.Kids.length
    · obtain ⟨y, hy⟩ : ∃ y, b.Kids[i]? = some y := ⟨_, List.getElem?_eq_getElem q⟩
      have ed : b.Kids.drop i = y :: b.Kids.drop (i + 1) := by
        rw [List.drop_eq_getElem_cons q]
        congr 1
        exact Option.some.inj ((List.getElem?_eq_getElem q).symm.trans hy)
      simp only [q, decide_true, if_true, h2, bind_some', hy, hf x (List.mem_of_getElem? h2)]
      rw [chk_pos (by omega), rCmp_L0 n a b hl sf hf t m (i + 1) h3 (by simpa using hm) (by omega) (by omega), ed, cmL_cons]
      split <;> rfl
    · simp only [q, decide_false, Bool.false_eq_true, if_false]
      rw [List.drop_of_length_le (by omega)]
      have : ci (((a.Kids).length : Nat) : Int) (((b.Kids).length : Nat) : Int) = 1 := by unfold ci; rw [if_neg (by omega), if_pos (by omega)]
      rw [this]; rfl
theorem ci_zero {a b : Int} : ci a b = 0 ↔ a = b := by
  unfold ci
  constructor
  · intro h; split at h
    · omega
    · split at h <;> omega
  · intro h; rw [if_neg (by omega), if_neg (by omega)]
theorem Cmp_r : ∀ (n : Nat) (a b : Deriv), szD a + 20 < n → szD a ≤ 10000000 → r28_Compare n a b = some (cmD a b)
  | 0, _, _, h, _ => by omega
  | n + 1, a, b, h, hb => by
    have h0 := szD_eq a
    have h1 := szL_len a.Kids
    have e := rCmp_L0 n a b (by omega) (r28_Compare n) (fun x hx y => by
      have := szL_mem hx
      exact Cmp_r n x y (by omega) (by omega)) a.Kids n 0 rfl (by omega) (Nat.zero_le _) (Nat.zero_le _)
    rw [r28_Compare, ints_eq, ints_eq, ints_eq, ints_eq, bind_some', bind_some', bind_some', bind_some', jn_def, e, cmD_eq]
    by_cases q1 : a.From = b.From
    · by_cases q2 : a.To = b.To
      · by_cases q3 : a.Kind = b.Kind
        · by_cases q4 : a.Name = b.Name
          · simp [q1, q2, q3, q4, ci_zero.2, cs_zero.2]
          · have q5 : ¬ cs a.Name b.Name = 0 := fun z => q4 (cs_zero.1 z)
            simp only [q1, q2, q3, ci_zero.2, ne_eq, not_true, if_false, q4, not_false_eq_true, if_true, q5, bytesLess_eq, decide_eq_true_eq]
            unfold cs
            by_cases q6 : a.Name < b.Name
            · simp [q6]
            · have q7 : b.Name < a.Name := lt_of_le_ne q6 (fun z => q4 z.symm)
              simp [q6, q7]
        · have q5 : ¬ ci a.Kind b.Kind = 0 := fun z => q3 (ci_zero.1 z)
          simp [q1, q2, q3, ci_zero.2, q5]
      · have q5 : ¬ ci a.To b.To = 0 := fun z => q2 (ci_zero.1 z)
        simp [q1, q2, ci_zero.2, q5]
    · have q5 : ¬ ci a.From b.From = 0 := fun z => q1 (ci_zero.1 z)
      simp [q1, q5]
/-- the best one of some derivations, by their scores -/
def better (S : Deriv → Int) (d c : Deriv) : Prop := S c < S d ∨ (S d = S c ∧ cmD d c < 0)
instance (S : Deriv → Int) (d c : Deriv) : Decidable (better S d c) := inferInstanceAs (Decidable (_ ∨ _))
def bst (S : Deriv → Int) : List Deriv → Nat → Option (Nat × Deriv) → Option (Nat × Deriv)
  | [], _, c => c
  | d :: t, i, none => bst S t (i + 1) (some (i, d))
  | d :: t, i, some (j, c) => bst S t (i + 1) (if better S d c then some (i, d) else some (j, c))
def outI : Option (Nat × Deriv) → Int
  | none => -1
  | some (j, _) => (j : Int)
theorem Best_L0 (n : Nat) (m : Model) (l : List Deriv) (hv : okV m.Weights) (hl : m.Weights.length ≤ 4000000) (hs : ∀ d ∈ l, szD d ≤ 1048576) (hn : 7000000 ≤ n) : ∀ (t : List Deriv) (k i : Nat) (c : Option (Nat × Deriv)) (most : Int), l.drop i = t → t.length < k → (∀ j d, c = some (j, d) → l[j]? = some d ∧ most = scD m.Weights d) → model_Best_L0 n m l k (outI c) most i = some (outI (bst (scD m.Weights) t i c)) ∧ r37_Best_L0 n m l k (outI c) i = some (outI (bst (scD m.Weights) t i c))
  | [], k + 1, i, c, most, h, _, _ => by rw [model_Best_L0, if_neg (drop_nil' h), r37_Best_L0, if_neg (drop_nil' h)]; exact ⟨rfl, rfl⟩
  | x :: t, k + 1, i, c, most, h, hk, hc => by
    obtain ⟨h1, h2, h3⟩ := drop_cons h
    have hxs := hs x (List.mem_of_getElem? h2)
    obtain ⟨s1, s2⟩ := Score_eq n m x hv hl hxs hn
    rw [model_Best_L0, r37_Best_L0, if_pos h1, if_pos h1, h2, bind_some', s1, bind_some', jn_def]
    cases c with
    | none =>
      obtain ⟨r1, r2⟩ := Best_L0 n m l hv hl hs hn t k (i + 1) (some (i, x)) (scD m.Weights x) h3 (by simpa using hk) (fun j d e => by cases e; exact ⟨h2, rfl⟩)
      rw [if_pos (by show (-1 : Int) < 0; omega), if_pos (by show (-1 : Int) < 0; omega)]
      exact ⟨r1, r2⟩
    | some p =>
      obtain ⟨j, c⟩ := p
      obtain ⟨hj, rfl⟩ := hc j c rfl
      have hcs := hs c (List.mem_of_getElem? hj)
      obtain ⟨_, s4⟩ := Score_eq n m c hv hl hcs hn
      have e1 : outI (some (j, c)) = (j : Int) := rfl
      have hix : ix l (outI (some (j, c))) = some c := by rw [e1, ix_nat]; exact hj
      have hneg : ¬ outI (some (j, c)) < 0 := by rw [e1]; omega
      rw [if_neg hneg, if_neg hneg]
      simp only [bind_some', jn_def, s2, hix, s4, Cmp_p n x c (by omega), Cmp_r n x c (by omega) (by omega)]
      have eb : bst (scD m.Weights) (x :: t) i (some (j, c)) = bst (scD m.Weights) t (i + 1) (if better (scD m.Weights) x c then some (i, x) else some (j, c)) := rfl
      rw [eb]
      obtain ⟨r1, r2⟩ := Best_L0 n m l hv hl hs hn t k (i + 1) (some (i, x)) (scD m.Weights x) h3 (by simpa using hk) (fun j d e => by cases e; exact ⟨h2, rfl⟩)
      obtain ⟨r3, r4⟩ := Best_L0 n m l hv hl hs hn t k (i + 1) (some (j, c)) (scD m.Weights c) h3 (by simpa using hk) (fun j d e => by cases e; exact ⟨hj, rfl⟩)
      by_cases q1 : scD m.Weights c < scD m.Weights x
      · rw [if_pos q1, if_pos q1, if_pos (show better (scD m.Weights) x c from .inl q1)]
        exact ⟨r1, r2⟩
      · rw [if_neg q1, if_neg q1]
        by_cases q2 : scD m.Weights x = scD m.Weights c
        · rw [if_pos q2, if_pos q2]
          by_cases q3 : cmD x c < 0
          · rw [if_pos (show better (scD m.Weights) x c from .inr ⟨q2, q3⟩)]
            simp only [q3, decide_true, if_true]
            exact ⟨r1, r2⟩
          · rw [if_neg (show ¬ better (scD m.Weights) x c from fun z => by rcases z with z | z; exact q1 z; exact q3 z.2)]
            simp only [q3, decide_false, Bool.false_eq_true, if_false]
            exact ⟨r3, r4⟩
        · rw [if_neg q2, if_neg q2, if_neg (show ¬ better (scD m.Weights) x c from fun z => by rcases z with z | z; exact q1 z; exact q2 z.1)]
          simp only [Bool.false_eq_true, if_false]
          exact ⟨r3, r4⟩
theorem Best_eq (n : Nat) (m : Model) (l : List Deriv) (hv : okV m.Weights) (hl : m.Weights.length ≤ 4000000) (hs : szL l ≤ 1048576) (hn : 7000000 ≤ n) : model_Best n m l = some (outI (bst (scD m.Weights) l 0 none)) ∧ r37_Best n m l = some (outI (bst (scD m.Weights) l 0 none)) := by
  have := szL_len l
  exact Best_L0 n m l hv hl (fun d hd => by have := szL_mem hd; omega) hn l n 0 none 0 rfl (by omega) (fun j d e => by cases e)
theorem Light_L0 (n : Nat) (hn : 7000000 ≤ n) (l : List Deriv) (most : Int) (hm : most ≤ 1000 ∧ 0 ≤ most) : ∀ (t : List Deriv) (k i : Nat) (a : Int), l.drop i = t → t.length < k → 0 ≤ a → a + (szL t : Int) ≤ 100000000 → szL t ≤ 1048576 → i + t.length ≤ 100000000 → ∃ b, r37_Light_L0 n l most k a i = some b
  | [], k + 1, i, a, h, _, _, _, _, _ => by
    rw [r37_Light_L0, jn_def, if_neg (drop_nil' h)]
    exact ⟨_, rfl⟩
  | x :: t, k + 1, i, a, h, hk, ha, hb, hs, hi => by
    obtain ⟨h1, h2, h3⟩ := drop_cons h
    rw [szL_cons] at hb hs
    rw [List.length_cons] at hi
    rw [r37_Light_L0, jn_def, if_pos h1]
    by_cases q : a ≤ most
    · obtain ⟨v, v1, v2, v3⟩ := Nodes_some n x (most + 1) (by omega) (by omega) (by omega)
      obtain ⟨b, b1⟩ := Light_L0 n hn l most hm t k (i + 1) (a + v) h3 (by simpa using hk) (by omega) (by omega) (by omega) (by omega)
      simp only [q, decide_true, if_true, h2, bind_some', v1]
      rw [chk_pos (by omega), chk_pos (by omega), chk_pos (by omega)]
      exact ⟨b, b1⟩
    · simp only [q, decide_false, Bool.false_eq_true, if_false]
      exact ⟨_, rfl⟩
theorem Light_some (n : Nat) (hn : 7000000 ≤ n) (l : List Deriv) (most : Int) (hm : most ≤ 1000 ∧ 0 ≤ most) (hs : szL l ≤ 1048576) : ∃ b, r37_Light n l most = some b := by
  have := szL_len l
  exact Light_L0 n hn l most hm l n 0 0 rfl (by omega) (by omega) (by omega) hs (by omega)
theorem Scores_main (n : Nat) (hn : 7000000 ≤ n) (hex : law37_exampleHolds n = some true) (m : Model) (d : Deriv) (l : List Deriv) (hs : szM m + szD d + szL l ≤ 1048576) : law37_ModelScores n m d l = some true := by
  unfold law37_ModelScores
  obtain ⟨v, v1, _⟩ := Nodes_some n d 61 (by omega) (by omega) (by omega)
  obtain ⟨b, b1⟩ := Light_some n hn l 120 (by omega) (by omega)
  obtain ⟨c, _, c2, c3⟩ := Check_eq n m (by omega) (by omega)
  rw [hex, v1, b1, c2]
  simp only [jn_def, bind_some']
  by_cases q1 : 60 < m.Weights.length
  · rw [if_pos q1]; rfl
  rw [if_neg q1]
  by_cases q2 : 60 < v
  · rw [if_pos q2]; rfl
  rw [if_neg q2]
  cases b with
  | false => rfl
  | true =>
    by_cases q3 : c = 0
    · have hv := (c3.1 q3).v
      obtain ⟨s1, s2⟩ := Score_eq n m d hv (by omega) (by omega) hn
      obtain ⟨t1, t2⟩ := Best_eq n m l hv (by omega) (by omega) hn
      rw [s1, s2, t1, t2]
      simp [q3]
    · simp [q3]
theorem law37_ModelScores_true (m : Model) (d : Deriv) (l : List Deriv) (hs : szM m + szD d + szL l ≤ 1048576) : law37_ModelScores 10000000 m d l = some true := Scores_main 10000000 (by omega) ex37 m d l hs
/-! the order of derivations -/
def or2 (x y : Int) : Int := if x ≠ 0 then x else y
def TT (x y z : Int) : Prop := (x ≤ 0 → y ≤ 0 → z ≤ 0) ∧ (x ≤ 0 → y ≤ 0 → z = 0 → x = 0 ∧ y = 0) ∧ (x = 0 → y = 0 → z = 0)
theorem or2_TT {x y z x' y' z' : Int} (h : TT x y z) (h' : TT x' y' z') : TT (or2 x x') (or2 y y') (or2 z z') := by
  obtain ⟨a1, a2, a3⟩ := h
  obtain ⟨b1, b2, b3⟩ := h'
  unfold TT or2
  by_cases hx : x = 0
  · by_cases hy : y = 0
    · have hz := a3 hx hy
      simp only [hx, hy, hz, ne_eq, not_true, if_false]
      exact ⟨b1, b2, b3⟩
    · simp only [hx, hy, ne_eq, not_true, if_false, not_false_eq_true, if_true]
      by_cases hz : z = 0
      · refine ⟨fun p q => ?_, fun p q r => ?_, fun p q => q.elim⟩
        · exact absurd (a2 (by omega) q hz).2 hy
        · exact absurd (a2 (by omega) q hz).2 hy
      · simp only [hz, not_false_eq_true, if_true]
        exact ⟨fun p q => a1 (by omega) q, fun p q r => r.elim, fun p q => q.elim⟩
  · simp only [hx, ne_eq, not_false_eq_true, if_true]
    by_cases hz : z = 0
    · by_cases hy : y = 0
      · refine ⟨fun p q => ?_, fun p q r => ?_, fun p q => p.elim⟩
        · exact absurd (a2 p (by omega) hz).1 hx
        · exact absurd (a2 p (by omega) hz).1 hx
      · simp only [hy, not_false_eq_true, if_true]
        refine ⟨fun p q => ?_, fun p q r => ?_, fun p q => p.elim⟩
        · exact absurd (a2 p q hz).1 hx
        · exact absurd (a2 p q hz).1 hx
    · simp only [hz, not_false_eq_true, if_true]
      refine ⟨fun p q => ?_, fun p q r => r.elim, fun p q => p.elim⟩
      by_cases hy : y = 0
      · exact a1 p (by omega)
      · simp only [hy, not_false_eq_true, if_true] at q
        exact a1 p q
theorem or2_neg (x y : Int) : or2 (-x) (-y) = -or2 x y := by
  unfold or2
  by_cases h : x = 0
  · simp [h]
  · have : -x ≠ 0 := by omega
    simp [h, this]
theorem ci_TT (a b c : Int) : TT (ci a b) (ci b c) (ci a c) := by
  unfold TT ci
  refine ⟨?_, ?_, ?_⟩ <;> (repeat' split) <;> omega
theorem ci_neg (a b : Int) : ci b a = -ci a b := by
  unfold ci
  (repeat' split) <;> omega
theorem cs_le {a b : List UInt8} : cs a b ≤ 0 ↔ a ≤ b := by
  unfold cs
  by_cases h1 : a < b
  · rw [if_pos h1]; exact ⟨fun _ => List.le_of_lt h1, fun _ => by omega⟩
  · rw [if_neg h1]
    by_cases h2 : b < a
    · rw [if_pos h2]; exact ⟨fun q => absurd q (by omega), fun q => absurd h2 q⟩
    · rw [if_neg h2]; exact ⟨fun _ => h2, fun _ => by omega⟩
theorem cs_TT (a b c : List UInt8) : TT (cs a b) (cs b c) (cs a c) := by
  unfold TT
  rw [cs_le, cs_le, cs_le, cs_zero, cs_zero, cs_zero]
  refine ⟨fun p q => List.le_trans p q, fun p q r => ?_, fun p q => p.trans q⟩
  subst r
  have := List.le_antisymm p q
  exact ⟨this, this.symm⟩
theorem cs_anti (a b : List UInt8) : cs b a = -cs a b := by
  unfold cs
  by_cases h1 : a < b
  · have h2 : ¬ b < a := List.lt_asymm h1
    simp [h1, h2]
  · by_cases h2 : b < a <;> simp [h1, h2]
theorem cmD_or (a b : Deriv) : cmD a b = or2 (ci a.From b.From) (or2 (ci a.To b.To) (or2 (ci a.Kind b.Kind) (or2 (cs a.Name b.Name) (cmL a.Kids b.Kids)))) := cmD_eq a b
theorem cmL_or (a b : Deriv) (s t : List Deriv) : cmL (a :: s) (b :: t) = or2 (cmD a b) (cmL s t) := rfl
theorem TT_of {x y z : Int} (h : x = 0 ∧ y = z ∨ y = 0 ∧ x = z) : TT x y z := by
  unfold TT
  omega
mutual
theorem cmD_TT : ∀ (a b c : Deriv), TT (cmD a b) (cmD b c) (cmD a c)
  | ⟨k, nm, f, t, ks⟩, b, c => by
    rw [cmD_or, cmD_or b c, cmD_or ⟨k, nm, f, t, ks⟩ c]
    exact or2_TT (ci_TT _ _ _) (or2_TT (ci_TT _ _ _) (or2_TT (ci_TT _ _ _) (or2_TT (cs_TT _ _ _) (cmL_TT ks b.Kids c.Kids))))
theorem cmL_TT : ∀ (s t u : List Deriv), TT (cmL s t) (cmL t u) (cmL s u)
  | [], [], u => TT_of (.inl ⟨rfl, rfl⟩)
  | [], b :: t, [] => by show TT (-1) 1 0; unfold TT; omega
  | [], b :: t, c :: u => by
    show TT (-1) (cmL (b :: t) (c :: u)) (-1)
    unfold TT
    omega
  | a :: s, [], [] => by show TT 1 0 1; unfold TT; omega
  | a :: s, [], c :: u => by
    show TT 1 (-1) (cmL (a :: s) (c :: u))
    unfold TT
    omega
  | a :: s, b :: t, [] => by
    show TT (cmL (a :: s) (b :: t)) 1 1
    unfold TT
    omega
  | a :: s, b :: t, c :: u => by
    rw [cmL_or, cmL_or, cmL_or]
    exact or2_TT (cmD_TT a b c) (cmL_TT s t u)
end
mutual
theorem cmD_anti : ∀ (a b : Deriv), cmD b a = -cmD a b
  | ⟨k, nm, f, t, ks⟩, b => by
    rw [cmD_or, cmD_or ⟨k, nm, f, t, ks⟩ b, ← or2_neg, ← or2_neg, ← or2_neg, ← or2_neg]
    rw [ci_neg f b.From, ci_neg t b.To, ci_neg k b.Kind, cs_anti nm b.Name, cmL_anti ks b.Kids]
theorem cmL_anti : ∀ (s t : List Deriv), cmL t s = -cmL s t
  | [], [] => rfl
  | [], b :: t => rfl
  | a :: s, [] => rfl
  | a :: s, b :: t => by rw [cmL_or, cmL_or, ← or2_neg, cmD_anti a b, cmL_anti s t]
end
theorem cmD_self (a : Deriv) : cmD a a = 0 := by have := cmD_anti a a; omega
theorem better_neg {S : Deriv → Int} {c c0 d : Deriv} (h : better S c c0) (k : ¬ better S d c0) : S d < S c ∨ (S d = S c ∧ cmD c d < 0) := by
  have a1 := cmD_anti d c0
  obtain ⟨t1, t2, _⟩ := cmD_TT c c0 d
  unfold better at h k
  by_cases e : S d = S c
  · right
    refine ⟨e, ?_⟩
    have q1 : S c = S c0 ∧ cmD c c0 < 0 := by omega
    have q2 : 0 ≤ cmD d c0 := by omega
    have q3 := t1 (by omega) (by omega)
    by_cases q4 : cmD c d = 0
    · have := (t2 (by omega) (by omega) q4).1; omega
    · omega
  · left; omega
structure Bp (S : Deriv → Int) (l : List Deriv) (i j : Nat) (c : Deriv) : Prop where
  at_ : l[j]? = some c
  lt : j < i
  top : ∀ (q : Nat) (d : Deriv), q < i → l[q]? = some d → ¬ better S d c
  fst : ∀ (q : Nat) (d : Deriv), q < j → l[q]? = some d → S d = S c → cmD d c ≠ 0
theorem better_self (S : Deriv → Int) (c : Deriv) : ¬ better S c c := by
  have := cmD_self c
  unfold better
  omega
theorem bst_some (S : Deriv → Int) (l : List Deriv) : ∀ (t : List Deriv) (i j : Nat) (c : Deriv), l.drop i = t → i ≤ l.length → Bp S l i j c → ∃ j' c', bst S t i (some (j, c)) = some (j', c') ∧ Bp S l l.length j' c'
  | [], i, j, c, h, hi, hb => by
    have := drop_nil' h
    have e : i = l.length := by omega
    exact ⟨j, c, rfl, e ▸ hb⟩
  | x :: t, i, j, c, h, hi, hb => by
    obtain ⟨h1, h2, h3⟩ := drop_cons h
    unfold bst
    by_cases q : better S x c
    · rw [if_pos q]
      refine bst_some S l t (i + 1) i x h3 (by omega) ⟨h2, by omega, fun r d hr hd => ?_, fun r d hr hd he => ?_⟩
      · by_cases e : r = i
        · rw [e, h2] at hd; cases hd; exact better_self S _
        · have := better_neg q (hb.top r d (by omega) hd)
          have a1 := cmD_anti x d
          unfold better
          omega
      · have := better_neg q (hb.top r d hr hd)
        have a1 := cmD_anti x d
        omega
    · rw [if_neg q]
      refine bst_some S l t (i + 1) j c h3 (by omega) ⟨hb.at_, by have := hb.lt; omega, fun r d hr hd => ?_, hb.fst⟩
      by_cases e : r = i
      · rw [e, h2] at hd; cases hd; exact q
      · exact hb.top r d (by omega) hd
theorem bst_top (S : Deriv → Int) {l : List Deriv} (hl : l ≠ []) : ∃ j c, bst S l 0 none = some (j, c) ∧ Bp S l l.length j c := by
  cases l with
  | nil => exact absurd rfl hl
  | cons x t =>
    unfold bst
    exact bst_some S (x :: t) t 1 0 x rfl (by simp) ⟨rfl, by omega, fun q d hq hd => by
      have e : q = 0 := by omega
      rw [e] at hd; simp at hd; rw [← hd]; exact better_self S x, fun q d hq => by omega⟩
theorem Greatest_L0 (n : Nat) (m : Model) (l : List Deriv) (hv : okV m.Weights) (hl : m.Weights.length ≤ 4000000) (hs : ∀ d ∈ l, szD d ≤ 1048576) (hn : 7000000 ≤ n) (j : Nat) (c : Deriv) (hb : Bp (scD m.Weights) l l.length j c) (k : Option Bool) : ∀ (t : List Deriv) (p i : Nat), l.drop i = t → t.length < p → law37_ModelGreatest_L0 n m l (j : Int) c (scD m.Weights c) k p i = k
  | [], p + 1, i, h, _ => by rw [law37_ModelGreatest_L0, if_neg (drop_nil' h)]
  | x :: t, p + 1, i, h, hp => by
    obtain ⟨h1, h2, h3⟩ := drop_cons h
    have hxs := hs x (List.mem_of_getElem? h2)
    obtain ⟨s1, _⟩ := Score_eq n m x hv hl hxs hn
    have ih := Greatest_L0 n m l hv hl hs hn j c hb k t p (i + 1) h3 (by simpa using hp)
    have hnb := hb.top i x h1 h2
    have hf := hb.fst i x
    unfold better at hnb
    rw [law37_ModelGreatest_L0, if_pos h1, h2, bind_some', s1, bind_some', jn_def, if_neg (by omega), Cmp_r n x c (by omega) (by omega), bind_some']
    by_cases q1 : scD m.Weights x = scD m.Weights c
    · rw [if_pos q1, if_neg (by omega)]
      by_cases q2 : (i : Int) < (j : Int)
      · have q3 := hf (by omega) h2 q1
        rw [if_pos q2]
        simp only [q3, decide_false, Bool.false_eq_true, if_false]
        exact ih
      · rw [if_neg q2]
        exact ih
    · rw [if_neg q1]
      exact ih
theorem Greatest_main (n : Nat) (hn : 7000000 ≤ n) (hex : law37_exampleHolds n = some true) (m : Model) (l : List Deriv) (hs : szM m + szL l ≤ 1048576) : law37_ModelGreatest n m l = some true := by
  unfold law37_ModelGreatest
  have hll := szL_len l
  obtain ⟨b, b1⟩ := Light_some n hn l 120 (by omega) (by omega)
  obtain ⟨c, _, c2, c3⟩ := Check_eq n m (by omega) (by omega)
  rw [hex, b1, c2]
  simp only [jn_def, bind_some']
  by_cases q1 : 60 < m.Weights.length
  · rw [if_pos q1]; rfl
  rw [if_neg q1]
  cases b with
  | false => rfl
  | true =>
    by_cases q3 : c = 0
    · have hv := (c3.1 q3).v
      have hsl : ∀ d ∈ l, szD d ≤ 1048576 := fun d hd => by have := szL_mem hd; omega
      obtain ⟨t1, _⟩ := Best_eq n m l hv (by omega) (by omega) hn
      rw [t1]
      simp only [q3, ne_eq, not_true, decide_false, Bool.not_true, Bool.false_eq_true, if_false, bind_some']
      by_cases q4 : l.length = 0
      · have e : l = [] := List.length_eq_zero_iff.1 q4
        subst e
        rfl
      · rw [if_neg q4]
        obtain ⟨j, d, e1, e2⟩ := bst_top (scD m.Weights) (l := l) (fun e => q4 (by rw [e]; rfl))
        have hj := e2.lt
        have hd := hsl d (List.mem_of_getElem? e2.at_)
        obtain ⟨s1, _⟩ := Score_eq n m d hv (by omega) hd hn
        have eo : outI (some (j, d)) = (j : Int) := rfl
        rw [e1, eo, if_neg (by omega)]
        have q5 : ¬ ((l.length : Nat) : Int) ≤ (j : Int) := by omega
        simp only [q5, decide_false, Bool.false_eq_true, if_false]
        rw [ix_nat, e2.at_, bind_some', s1, bind_some']
        exact Greatest_L0 n m l hv (by omega) hsl hn j d e2 _ l n 0 rfl (by omega)
    · simp [q3]
theorem law37_ModelGreatest_true (m : Model) (l : List Deriv) (hs : szM m + szL l ≤ 1048576) : law37_ModelGreatest 10000000 m l = some true := Greatest_main 10000000 (by omega) ex37 m l hs
/-! the score is that of the parts -/
theorem sc_append (l : List Weight) (a b : List (List UInt8)) : sc l (a ++ b) = sc l a + sc l b := by simp [sc]
theorem sc_bound {l : List Weight} (h : okV l) : ∀ fs : List (List UInt8), -(1048576 * (fs.length : Int)) ≤ sc l fs ∧ sc l fs ≤ 1048576 * (fs.length : Int)
  | [] => by show -(1048576 * (0 : Int)) ≤ 0 ∧ (0 : Int) ≤ 1048576 * 0; omega
  | x :: t => by
    obtain ⟨a1, a2⟩ := sc_bound h t
    obtain ⟨b1, b2⟩ := wt_bound h x
    rw [sc_cons, List.length_cons]
    omega
theorem Adds_L0 (n : Nat) (m : Model) (d : Deriv) (hv : okV m.Weights) (hl : m.Weights.length ≤ 4000000) (hs : szD d ≤ 1048576) (hn : 7000000 ≤ n) (k : List UInt8 → Int → Option Bool) : ∀ (t : List Deriv) (p i : Nat) (s : List UInt8) (a A : Int), d.Kids.drop i = t → t.length < p → s.length + szL t ≤ 100000000 → -A ≤ a → a ≤ A → A + 1048576 * ((ftL t).length : Int) ≤ 1000000000000000 → law37_ModelAdds_L0 n m d k p s a i = k (s ++ if i = 0 then jo (t.map (·.Name)) else js (t.map (·.Name))) (a + sc m.Weights (ftL t))
  | [], p + 1, i, s, a, A, h, _, _, _, _, _ => by
    rw [law37_ModelAdds_L0, if_neg (drop_nil' h)]
    have e : a + sc m.Weights (ftL []) = a := by show a + 0 = a; omega
    rw [e]
    simp [jo, js]
  | x :: t, p + 1, i, s, a, A, h, hm, hb, h1', h2', h3' => by
    obtain ⟨h1, h2, h3⟩ := drop_cons h
    have h0 := szD_eq x
    have hxk := szL_mem (List.mem_of_getElem? h2)
    have hd0 := szD_eq d
    have e : ftL (x :: t) = ftD x ++ ftL t := rfl
    rw [szL_cons] at hb
    rw [e, List.length_append] at h3'
    obtain ⟨s1, _⟩ := Score_eq n m x hv hl (by omega) hn
    obtain ⟨c1, c2⟩ := sc_bound hv (ftD x)
    have hS : scD m.Weights x = sc m.Weights (ftD x) := rfl
    have hfl := ftD_len x
    rw [law37_ModelAdds_L0, if_pos h1, jn_def]
    by_cases i0 : 0 < i
    · rw [if_pos i0, chk_pos (by rw [List.length_singleton]; omega)]
      dsimp only
      rw [h2, bind_some', chk_pos (by rw [List.length_append, List.length_singleton]; omega), s1, bind_some', chk_pos (by omega), Adds_L0 n m d hv hl hs hn k t p (i + 1) _ _ (A + 1048576 * ((ftD x).length : Int)) h3 (by simpa using hm) (by rw [List.length_append, List.length_append, List.length_singleton]; omega) (by omega) (by omega) (by omega), if_neg (by omega), if_neg (by omega), e, sc_append, hS, Int.add_assoc]
      simp [js]
    · rw [if_neg i0]
      dsimp only
      rw [h2, bind_some', chk_pos (by omega), s1, bind_some', chk_pos (by omega), Adds_L0 n m d hv hl hs hn k t p (i + 1) _ _ (A + 1048576 * ((ftD x).length : Int)) h3 (by simpa using hm) (by rw [List.length_append]; omega) (by omega) (by omega) (by omega), if_neg (by omega), if_pos (by omega), e, sc_append, hS, Int.add_assoc]
      simp [jo]
theorem wt_cons {x : Weight} {t : List Weight} (hp : (x :: t).Pairwise (fun a b => a.Feature < b.Feature)) (s : List UInt8) : wt (x :: t) s = (if x.Feature = s then x.Value else 0) + wt t s := by
  obtain ⟨h1, h2⟩ := List.pairwise_cons.1 hp
  show (if x.Feature = s then x.Value else wt t s) = _
  by_cases e : x.Feature = s
  · rw [if_pos e, if_pos e, wt_out (fun w hw q => by have := h1 w hw; rw [q, e] at this; exact List.lt_irrefl _ this)]
    omega
  · rw [if_neg e, if_neg e]; omega
theorem Adds_L1 (n : Nat) (m : Model) (d : Deriv) (tree : List UInt8) (k : Int → Option Bool) : ∀ (t : List Weight) (p i : Nat) (a A : Int), m.Weights.drop i = t → t.length < p → t.Pairwise (fun a b => a.Feature < b.Feature) → (∀ w ∈ t, -1048576 ≤ w.Value ∧ w.Value ≤ 1048576) → -A ≤ a → a ≤ A → A + 2097152 * (t.length : Int) ≤ 1000000000000000 → law37_ModelAdds_L1 n m d tree k p a i = k (a + wt t d.Name + if 0 < d.Kids.length then wt t tree else 0)
  | [], p + 1, i, a, A, h, _, _, _, _, _, _ => by
    rw [law37_ModelAdds_L1, if_neg (drop_nil' h)]
    congr 1
    show a = a + 0 + _
    split
    · show a = a + 0 + 0; omega
    · omega
  | x :: t, p + 1, i, a, A, h, hp', hpw, hv, h1', h2', h3' => by
    obtain ⟨h1, h2, h3⟩ := drop_cons h
    obtain ⟨_, hpt⟩ := List.pairwise_cons.1 hpw
    obtain ⟨v1, v2⟩ := hv x (by simp)
    rw [List.length_cons] at h3'
    have ih := fun (b : Int) (hb1 : -(A + 2097152) ≤ b) (hb2 : b ≤ A + 2097152) => Adds_L1 n m d tree k t p (i + 1) b (A + 2097152) h3 (by simpa using hp') hpt (fun w hw => hv w (by simp [hw])) hb1 hb2 (by omega)
    rw [law37_ModelAdds_L1, if_pos h1, h2, bind_some']
    simp only [jn_def]
    rw [wt_cons hpw d.Name, wt_cons hpw tree]
    by_cases q1 : x.Feature = d.Name
    · rw [if_pos q1, if_pos q1, chk_pos (by omega)]
      by_cases q2 : x.Feature = tree
      · rw [if_pos q2, if_pos q2]
        by_cases q3 : 0 < d.Kids.length
        · simp only [q3, decide_true, if_true]
          rw [chk_pos (by omega), ih _ (by omega) (by omega), if_pos q3]
          congr 1; omega
        · simp only [q3, decide_false, Bool.false_eq_true, if_false]
          rw [ih _ (by omega) (by omega), if_neg q3]
          congr 1; omega
      · rw [if_neg q2, if_neg q2]
        simp only [Bool.false_eq_true, if_false]
        rw [ih _ (by omega) (by omega)]
        congr 1
        split <;> omega
    · rw [if_neg q1, if_neg q1]
      by_cases q2 : x.Feature = tree
      · rw [if_pos q2, if_pos q2]
        by_cases q3 : 0 < d.Kids.length
        · simp only [q3, decide_true, if_true]
          rw [chk_pos (by omega), ih _ (by omega) (by omega), if_pos q3]
          congr 1; omega
        · simp only [q3, decide_false, Bool.false_eq_true, if_false]
          rw [ih _ (by omega) (by omega), if_neg q3]
          congr 1; omega
      · rw [if_neg q2, if_neg q2]
        simp only [Bool.false_eq_true, if_false]
        rw [ih _ (by omega) (by omega)]
        congr 1
        split <;> omega
theorem Adds_main (n : Nat) (hn : 7000000 ≤ n) (hex : law37_exampleHolds n = some true) (m : Model) (d : Deriv) (hs : szM m + szD d ≤ 1048576) : law37_ModelAdds n m d = some true := by
  unfold law37_ModelAdds
  obtain ⟨v, v1, _⟩ := Nodes_some n d 61 (by omega) (by omega) (by omega)
  obtain ⟨c, _, c2, c3⟩ := Check_eq n m (by omega) (by omega)
  have hd0 := szD_eq d
  rw [hex, v1, c2]
  simp only [jn_def, bind_some']
  by_cases q1 : 60 < m.Weights.length
  · rw [if_pos q1]; rfl
  rw [if_neg q1]
  by_cases q2 : 60 < v
  · rw [if_pos q2]; rfl
  rw [if_neg q2]
  by_cases q3 : c = 0
  · have hv := (c3.1 q3).v
    have hml := szM_len m
    have hkl := szL_len d.Kids
    have hfl := ftL_len d.Kids
    obtain ⟨s1, _⟩ := Score_eq n m d hv (by omega) (by omega) hn
    obtain ⟨b1, b2⟩ := sc_bound hv (ftL d.Kids)
    simp only [q3, ne_eq, not_true, decide_false, Bool.false_eq_true, if_false, s1, bind_some']
    rw [chk_pos (by rw [List.length_singleton]; omega), Adds_L0 n m d hv (by omega) (by omega) hn _ d.Kids n 0 _ 0 0 rfl (by omega) (by rw [List.length_append, List.length_singleton]; omega) (by omega) (by omega) (by omega), if_pos rfl, Adds_L1 n m d _ _ m.Weights n 0 _ (1048576 * ((ftL d.Kids).length : Int)) rfl (by omega) hv.asc (fun w hw => ⟨hv.lo w hw, hv.hi w hw⟩) (by omega) (by omega) (by omega)]
    have e1 : (d.Name ++ [62] ++ jo (d.Kids.map (·.Name))) = d.Name ++ 62 :: jo (d.Kids.map (·.Name)) := by simp
    have key : scD m.Weights d = 0 + sc m.Weights (ftL d.Kids) + wt m.Weights d.Name + if 0 < d.Kids.length then wt m.Weights (d.Name ++ [62] ++ jo (d.Kids.map (·.Name))) else 0 := by
      unfold scD
      rw [ftD_eq, sc_cons, sc_append, e1]
      cases hk : d.Kids with
      | nil =>
        have e2 : sc m.Weights (tr d.Name []) = 0 := rfl
        rw [e2, if_neg (by simp)]
        omega
      | cons x t =>
        have e2 : sc m.Weights (tr d.Name (x :: t)) = wt m.Weights (d.Name ++ 62 :: jo ((x :: t).map (·.Name))) + 0 := rfl
        rw [e2, if_pos (by simp)]
        omega
    rw [if_pos key]
  · simp [q3]
theorem law37_ModelAdds_true (m : Model) (d : Deriv) (hs : szM m + szD d ≤ 1048576) : law37_ModelAdds 10000000 m d = some true := Adds_main 10000000 (by omega) ex37 m d hs
/-! maps; what is learned -/
theorem mget_mset {α : Type} (k j : List UInt8) (v : α) : ∀ kv : List (List UInt8 × α), mget (mset kv k v) j = if j = k then some v else mget kv j
  | [] => by
    by_cases h : j = k
    · subst h; simp [mset, mget]
    · simp [mset, mget, h]
  | (a, x) :: t => by
    have ih := mget_mset k j v t
    by_cases h : k = a
    · subst h
      by_cases h2 : j = k
      · subst h2; simp [mset, mget]
      · simp [mset, mget, h2]
    · by_cases h2 : j = a
      · subst h2
        have h' : ¬ j = k := fun e => h e.symm
        simp [mset, mget, h, h']
      · simp [mset, mget, h, h2, ih]
theorem nodup_lenS : ∀ (l S : List (List UInt8)), l.Nodup → (∀ x ∈ l, x ∈ S) → l.length ≤ S.length
  | [], S, _, _ => by simp
  | x :: l, S, h, hs => by
    obtain ⟨h1, h2⟩ := List.nodup_cons.1 h
    have hx := hs x (by simp)
    have := nodup_lenS l (S.erase x) h2 (fun y hy => (List.mem_erase_of_ne (fun (e : y = x) => h1 (e ▸ hy))).2 (hs y (by simp [hy])))
    rw [List.length_erase_of_mem hx] at this
    have := List.length_pos_of_mem hx
    simp; omega
abbrev KV := List (List UInt8 × Int)
def ks (W : KV) : List (List UInt8) := W.map (·.1)
theorem mget_of_mem : ∀ {W : KV} {p : List UInt8 × Int}, (ks W).Nodup → p ∈ W → mget W p.1 = some p.2
  | (a, x) :: t, p, hn, hp => by
    obtain ⟨h1, h2⟩ := List.nodup_cons.1 hn
    rcases List.mem_cons.1 hp with rfl | hp
    · simp [mget]
    · have hne : ¬ p.1 = a := fun e => h1 (e ▸ List.mem_map.2 ⟨p, hp, rfl⟩)
      simp only [mget, hne, if_false]
      exact mget_of_mem h2 hp
theorem mget_iff {W : KV} (hn : (ks W).Nodup) {s : List UInt8} {v : Int} : mget W s = some v ↔ (s, v) ∈ W := ⟨mget_mem, fun h => mget_of_mem hn h⟩
theorem mget_ks {W : KV} (hn : (ks W).Nodup) {s : List UInt8} : s ∈ ks W ↔ ∃ v, mget W s = some v := by
  constructor
  · intro h
    obtain ⟨p, hp, rfl⟩ := List.mem_map.1 h
    exact ⟨p.2, mget_of_mem hn hp⟩
  · rintro ⟨v, hv⟩
    exact List.mem_map.2 ⟨(s, v), mget_mem hv, rfl⟩
theorem picks_spec {W R : KV} {p : List UInt8 × Int} (h : Picks W p R) (hn : (ks W).Nodup) : p ∈ W ∧ R.length + 1 = W.length ∧ (ks R).Nodup ∧ ∀ s, mget R s = if s = p.1 then none else mget W s := by
  obtain ⟨q, h1, rfl⟩ := h
  have hq := (List.getElem?_eq_some_iff.1 h1).1
  have hR : (ks (W.eraseIdx q)).Nodup := List.Sublist.nodup (List.Sublist.map _ (List.eraseIdx_sublist W q)) hn
  refine ⟨List.mem_of_getElem? h1, by rw [List.length_eraseIdx, if_pos hq]; omega, hR, fun s => ?_⟩
  have key : ∀ v, mget (W.eraseIdx q) s = some v ↔ (if s = p.1 then none else mget W s) = some v := by
    intro v
    rw [mget_iff hR, List.mem_eraseIdx_iff_getElem?]
    constructor
    · rintro ⟨j, hj, hjs⟩
      have hne : ¬ s = p.1 := fun e => by
        have hjl := (List.getElem?_eq_some_iff.1 hjs).1
        have e1 : (ks W)[j]? = some s := by unfold ks; rw [List.getElem?_map, hjs]; rfl
        have e2 : (ks W)[q]? = some s := by unfold ks; rw [List.getElem?_map, h1, e]; rfl
        obtain ⟨a1, a2⟩ := List.getElem?_eq_some_iff.1 e1
        obtain ⟨b1, b2⟩ := List.getElem?_eq_some_iff.1 e2
        exact hj ((List.getElem_inj hn).1 (a2.trans b2.symm))
      rw [if_neg hne, mget_iff hn]
      exact List.mem_of_getElem? hjs
    · intro hv
      by_cases e : s = p.1
      · rw [if_pos e] at hv; cases hv
      · rw [if_neg e, mget_iff hn] at hv
        obtain ⟨j, hj⟩ := List.getElem?_of_mem hv
        refine ⟨j, fun ej => ?_, hj⟩
        rw [ej, h1] at hj
        cases hj
        exact e rfl
  cases h2 : mget (W.eraseIdx q) s with
  | some v => exact ((key v).1 h2).symm
  | none =>
    cases h3 : (if s = p.1 then none else mget W s) with
    | none => rfl
    | some v => rw [(key v).2 h3] at h2; cases h2
/-- all entries put in, one after the other -/
def ins (l W : KV) : KV := l.foldl (fun W p => mset W p.1 p.2) W
theorem ins_spec : ∀ (l W : KV), (ks l).Nodup → (ks W).Nodup → (ks (ins l W)).Nodup ∧ ∀ s, mget (ins l W) s = match mget l s with
    | some v => some v
    | none => mget W s
  | [], W, _, hW => ⟨hW, fun s => rfl⟩
  | (a, x) :: t, W, hn, hW => by
    obtain ⟨h1, h2⟩ := List.nodup_cons.1 hn
    obtain ⟨r1, r2⟩ := ins_spec t (mset W a x) h2 (mset_nodup hW)
    refine ⟨r1, fun s => (r2 s).trans ?_⟩
    by_cases e : s = a
    · subst e
      have h3 : mget t s = none := by
        cases h4 : mget t s with
        | none => rfl
        | some v => exact absurd (List.mem_map.2 ⟨(s, v), mget_mem h4, rfl⟩) h1
      rw [h3, mget_mset, if_pos rfl]
      simp [mget]
    · have h5 : mget ((a, x) :: t) s = mget t s := by simp [mget, e]
      rw [h5]
      cases mget t s with
      | some v => rfl
      | none => show mget (mset W a x) s = mget W s; rw [mget_mset, if_neg e]
def clip (z : Int) : Int := if 1048576 < if z < -1048576 then -1048576 else z then 1048576 else if z < -1048576 then -1048576 else z
theorem clip_bound (z : Int) : -1048576 ≤ clip z ∧ clip z ≤ 1048576 := by
  unfold clip
  (repeat' split) <;> omega
def ent (W : KV) (s : List UInt8) : Option Weight := if (mget W s).getD 0 ≠ 0 then some (Weight.mk s ((mget W s).getD 0)) else none
def outW (W : KV) : List Weight := (sortS (ks W)).filterMap (ent W)
theorem learned_L2 (n : Nat) (W : KV) (K : List (List UInt8)) (k : List Weight → Option Model) : ∀ (t : List (List UInt8)) (m i : Nat) (out : List Weight), K.drop i = t → t.length < m → out.length + t.length ≤ 100000000 → model_learned_L2 n W K k m i out = k (out ++ t.filterMap (ent W))
  | [], m + 1, i, out, h, _, _ => by rw [model_learned_L2, if_neg (drop_nil' h)]; simp
  | x :: t, m + 1, i, out, h, hm, hb => by
    obtain ⟨h1, h2, h3⟩ := drop_cons h
    rw [List.length_cons] at hb
    rw [model_learned_L2, if_pos h1, h2, bind_some', List.filterMap_cons]
    by_cases e : (mget W x).getD 0 ≠ 0
    · have e1 : ent W x = some (Weight.mk x ((mget W x).getD 0)) := by unfold ent; rw [if_pos e]
      rw [if_pos e, chk_pos (by rw [List.length_singleton]; omega), learned_L2 n W K k t m (i + 1) _ h3 (by simpa using hm) (by rw [List.length_append, List.length_singleton]; omega), e1]
      simp
    · have e1 : ent W x = none := by unfold ent; rw [if_neg e]
      rw [if_neg e, learned_L2 n W K k t m (i + 1) _ h3 (by simpa using hm) (by omega), e1]
theorem tail_eq (n : Nat) (W : KV) (hl : W.length ≤ 9000000) (hn : 9500000 ≤ n) (hk : ∀ p ∈ W, p.1.length ≤ 9223372036854775807) : ((sortedKeys n W).bind fun r55 => jn (fun (b_63 : (List Weight)) => some (Model.mk b_63)) (fun k62 => model_learned_L2 n W r55 k62 n 0 [])) = some (Model.mk (outW W)) := by
  have e : sortedKeys n W = some (sortS (ks W)) := by
    unfold sortedKeys
    rw [chk_pos ⟨by omega, hk⟩]
    rfl
  have hlen : (sortS (ks W)).length = W.length := by rw [sortS_len]; simp [ks]
  rw [e, bind_some', jn_def, learned_L2 n W (sortS (ks W)) _ (sortS (ks W)) n 0 [] rfl (by omega) (by simp; omega)]
  rfl
theorem learned_L1 (n : Nat) (k : KV → Option Model) (b : List Weight) (hv : okV b) (r : Model) (G : List UInt8 → Option Int) (hk : ∀ W : KV, (ks W).Nodup → (∀ s, mget W s = G s) → k W = some r) : ∀ (m : Nat) (W rest : KV), rest.length < m → (ks W).Nodup → (ks rest).Nodup → (∀ p ∈ rest, (mget W p.1).getD 0 = wt b p.1 ∧ -1000000000 ≤ p.2 ∧ p.2 ≤ 1000000000) → (∀ s, G s = match mget rest s with
    | some v => some (clip (wt b s + v))
    | none => mget W s) → model_learned_L1 n k m W rest = some r
  | 0, _, _, h, _, _, _, _ => by omega
  | m + 1, W, rest, hm, hW, hR, hp, hG => by
    rw [model_learned_L1]
    by_cases q : 0 < rest.length
    · rw [if_pos q]
      refine agree_of q (fun p rest' hpk => ?_)
      obtain ⟨p1, p2, p3, p4⟩ := picks_spec hpk hR
      obtain ⟨b1, b2⟩ := wt_bound hv p.1
      obtain ⟨c1, c2, c3⟩ := hp p p1
      have hpR := mget_of_mem hR p1
      rw [c1, chk_pos (by omega)]
      refine learned_L1 n k b hv r G hk m (mset W p.1 (clip (wt b p.1 + p.2))) rest' (by omega) (mset_nodup hW) p3 (fun p' hp' => ?_) (fun s => ?_)
      · have h1 := mget_of_mem p3 hp'
        rw [p4] at h1
        by_cases e : p'.1 = p.1
        · rw [if_pos e] at h1; cases h1
        · rw [if_neg e] at h1
          rw [mget_mset, if_neg e]
          exact hp p' (mget_mem h1)
      · rw [hG s, p4 s, mget_mset]
        by_cases e : s = p.1
        · subst e
          rw [if_pos rfl, if_pos rfl, hpR]
        · rw [if_neg e, if_neg e]
    · rw [if_neg q]
      have e : rest = [] := List.length_eq_zero_iff.1 (by omega)
      subst e
      exact hk W hW (fun s => (hG s).symm)
theorem sortS_asc {l : List (List UInt8)} (h : l.Nodup) : (sortS l).Pairwise (· < ·) := by
  have h1 := sortS_sorted l
  have h2 : (sortS l).Nodup := (sortS_perm l).nodup_iff.2 h
  have key : ∀ (l : List (List UInt8)), l.Pairwise (· ≤ ·) → l.Nodup → l.Pairwise (· < ·) := by
    intro l
    induction l with
    | nil => intro _ _; exact .nil
    | cons x t ih =>
      intro a b
      obtain ⟨a1, a2⟩ := List.pairwise_cons.1 a
      obtain ⟨b1, b2⟩ := List.nodup_cons.1 b
      exact .cons (fun y hy => lt_of_le_ne (a1 y hy) (fun e => b1 (e ▸ hy))) (ih a2 b2)
  exact key _ h1 h2
theorem mem_outW {W : KV} {w : Weight} : w ∈ outW W ↔ w.Feature ∈ ks W ∧ w.Value = (mget W w.Feature).getD 0 ∧ w.Value ≠ 0 := by
  unfold outW
  rw [List.mem_filterMap]
  constructor
  · rintro ⟨s, h1, h2⟩
    unfold ent at h2
    split at h2
    · rename_i h3
      cases h2
      exact ⟨(sortS_perm _).mem_iff.1 h1, rfl, h3⟩
    · cases h2
  · rintro ⟨h1, h2, h3⟩
    refine ⟨w.Feature, (sortS_perm _).mem_iff.2 h1, ?_⟩
    unfold ent
    rw [if_pos (by rw [← h2]; exact h3), ← h2]
theorem outW_asc {W : KV} (hW : (ks W).Nodup) : (outW W).Pairwise (fun a b => a.Feature < b.Feature) := by
  refine List.Pairwise.filterMap (ent W) ?_ (sortS_asc hW)
  intro a a' h b hb b' hb'
  unfold ent at hb hb'
  split at hb
  · split at hb'
    · cases hb; cases hb'; exact h
    · cases hb'
  · cases hb
theorem outW_wt {W : KV} (hW : (ks W).Nodup) (s : List UInt8) : wt (outW W) s = (mget W s).getD 0 := by
  rcases wt_cases (l := outW W) s with ⟨h1, h2⟩ | ⟨w, h1, h2, h3⟩
  · rw [h1]
    cases hs : mget W s with
    | none => rfl
    | some v =>
      by_cases e : v = 0
      · rw [e]; rfl
      · exact absurd rfl (h2 ⟨s, v⟩ (mem_outW.2 ⟨(mget_ks hW).2 ⟨v, hs⟩, by rw [hs]; rfl, e⟩))
  · rw [h3, (mem_outW.1 h1).2.1, h2]
theorem outW_congr {W W' : KV} (hW : (ks W).Nodup) (hW' : (ks W').Nodup) (h : ∀ s, mget W s = mget W' s) : outW W = outW W' := by
  have h1 : sortS (ks W) = sortS (ks W') := by
    refine asc_eq _ _ (sortS_asc hW) (sortS_asc hW') (fun v => ?_)
    rw [(sortS_perm _).mem_iff, (sortS_perm _).mem_iff, mget_ks hW, mget_ks hW', h v]
  unfold outW
  rw [h1]
  congr 1
  funext s
  unfold ent
  rw [h s]
/-- weights are told by what they give each feature -/
theorem wt_unique {A B : List Weight} (hA : okV A) (hB : okV B) (h : ∀ s, wt A s = wt B s) : A = B := by
  have mem : ∀ {L : List Weight}, okV L → ∀ s, s ∈ L.map (·.Feature) ↔ wt L s ≠ 0 := fun {L} hL s => by
    constructor
    · intro q
      obtain ⟨w, hw, rfl⟩ := List.mem_map.1 q
      rw [wt_in hL.asc hw]
      exact hL.nz w hw
    · intro q
      rcases wt_cases (l := L) s with ⟨h1, _⟩ | ⟨w, h1, h2, _⟩
      · exact absurd h1 q
      · exact List.mem_map.2 ⟨w, h1, h2⟩
  have asc : ∀ {L : List Weight}, okV L → (L.map (·.Feature)).Pairwise (· < ·) := fun hL => List.pairwise_map.2 hL.asc
  have e1 : A.map (·.Feature) = B.map (·.Feature) := asc_eq _ _ (asc hA) (asc hB) (fun v => by rw [mem hA, mem hB, h v])
  have re : ∀ {L : List Weight}, okV L → L = (L.map (·.Feature)).map (fun s => Weight.mk s (wt L s)) := fun {L} hL => by
    rw [List.map_map]
    conv => lhs; rw [← List.map_id L]
    refine List.map_congr_left fun w hw => ?_
    show w = Weight.mk w.Feature (wt L w.Feature)
    rw [wt_in hL.asc hw]
  rw [re hA, re hB, e1]
  exact List.map_congr_left fun s _ => by rw [h s]
def kvB (b : List Weight) : KV := b.map fun w => (w.Feature, w.Value)
theorem ks_kvB (b : List Weight) : ks (kvB b) = b.map (·.Feature) := by simp [ks, kvB, List.map_map, Function.comp_def]
theorem kvB_nodup {b : List Weight} (h : b.Pairwise (fun a b => a.Feature < b.Feature)) : (ks (kvB b)).Nodup := by
  rw [ks_kvB]
  exact List.pairwise_map.2 (h.imp fun q e => by rw [e] at q; exact List.lt_irrefl _ q)
theorem kvB_get : ∀ (b : List Weight) (s : List UInt8), (mget (kvB b) s).getD 0 = wt b s
  | [], s => rfl
  | w :: t, s => by
    have ih := kvB_get t s
    show (mget ((w.Feature, w.Value) :: kvB t) s).getD 0 = if w.Feature = s then w.Value else wt t s
    by_cases e : s = w.Feature
    · rw [if_pos e.symm]; simp [mget, e]
    · rw [if_neg (fun q => e q.symm), ← ih]; simp [mget, e]
theorem learned_L0 (n : Nat) (M : Model) (k : KV → Option Model) : ∀ (t : List Weight) (m i : Nat) (W : KV), M.Weights.drop i = t → t.length < m → model_learned_L0 n M k m W i = k (ins (kvB t) W)
  | [], m + 1, i, W, h, _ => by rw [model_learned_L0, if_neg (drop_nil' h)]; rfl
  | x :: t, m + 1, i, W, h, hm => by
    obtain ⟨h1, h2, h3⟩ := drop_cons h
    rw [model_learned_L0, if_pos h1, h2, bind_some', learned_L0 n M k t m (i + 1) _ h3 (by simpa using hm)]
    rfl
theorem learned_spec (n : Nat) (b : List Weight) (C : KV) (hv : okV b) (hbl : b.length ≤ 4000000) (hbk : ∀ w ∈ b, w.Feature.length ≤ 1048576) (hC : (ks C).Nodup) (hCl : C.length ≤ 4500000) (hCk : ∀ p ∈ C, p.1.length ≤ 1048576 ∧ -1000000000 ≤ p.2 ∧ p.2 ≤ 1000000000) (hn : 9500000 ≤ n) :
    ∃ R, model_learned n (Model.mk b) C = some (Model.mk R) ∧ okV R ∧ (∀ s, wt R s = match mget C s with
      | some v => clip (wt b s + v)
      | none => wt b s) ∧ ∀ w ∈ R, w.Feature ∈ b.map (·.Feature) ∨ w.Feature ∈ ks C := by
  have hB := kvB_nodup hv.asc
  obtain ⟨i1, i2⟩ := ins_spec (kvB b) [] hB (by simp [ks])
  have hB0 : ∀ s, mget (ins (kvB b) []) s = mget (kvB b) s := fun s => by
    rw [i2 s]
    cases mget (kvB b) s <;> rfl
  let C' : KV := C.map fun p => (p.1, clip (wt b p.1 + p.2))
  have hC' : (ks C').Nodup := by
    have : ks C' = ks C := by simp [ks, C', List.map_map, Function.comp_def]
    rw [this]; exact hC
  have hC'g : ∀ s, mget C' s = (mget C s).map fun v => clip (wt b s + v) := by
    have key : ∀ (D : KV) (s : List UInt8), mget (D.map fun p => (p.1, clip (wt b p.1 + p.2))) s = (mget D s).map fun v => clip (wt b s + v) := by
      intro D s
      induction D with
      | nil => rfl
      | cons p t ih =>
        obtain ⟨a, x⟩ := p
        rw [List.map_cons]
        by_cases e : s = a
        · subst e; simp [mget]
        · simp [mget, e, ih]
    exact key C
  obtain ⟨w1, w2⟩ := ins_spec C' (ins (kvB b) []) hC' i1
  have hG : ∀ s, mget (ins C' (ins (kvB b) [])) s = match mget C s with
      | some v => some (clip (wt b s + v))
      | none => mget (ins (kvB b) []) s := fun s => by
    rw [w2 s, hC'g s]
    cases mget C s <;> rfl
  have keysOf : ∀ W : KV, (ks W).Nodup → (∀ s, mget W s = mget (ins C' (ins (kvB b) [])) s) → ∀ s ∈ ks W, s ∈ b.map (·.Feature) ∨ s ∈ ks C := by
    intro W hW hWg s hs
    obtain ⟨v, hv'⟩ := (mget_ks hW).1 hs
    rw [hWg, hG] at hv'
    cases hc : mget C s with
    | some x => exact .inr (List.mem_map.2 ⟨(s, x), mget_mem hc, rfl⟩)
    | none =>
      rw [hc] at hv'
      have hv2 : mget (kvB b) s = some v := by rw [← hB0]; exact hv'
      exact .inl (by rw [← ks_kvB]; exact List.mem_map.2 ⟨(s, v), mget_mem hv2, rfl⟩)
  refine ⟨outW (ins C' (ins (kvB b) [])), ?_, ?_, ?_, ?_⟩
  · unfold model_learned
    rw [jn_def, learned_L0 n (Model.mk b) _ b n 0 [] rfl (by omega), jn_def]
    refine learned_L1 n _ b hv _ (fun s => mget (ins C' (ins (kvB b) [])) s) (fun W hW hWg => ?_) n (ins (kvB b) []) C (by omega) i1 hC (fun p hp => ?_) hG
    · have hlen : W.length ≤ 8500000 := by
        have := nodup_lenS (ks W) (b.map (·.Feature) ++ ks C) hW (fun s hs => List.mem_append.2 (keysOf W hW hWg s hs))
        rw [List.length_append, List.length_map] at this
        simp only [ks, List.length_map] at this
        omega
      have := tail_eq n W (by omega) (by omega) (fun p hp => by
        rcases keysOf W hW hWg p.1 (List.mem_map.2 ⟨p, hp, rfl⟩) with q | q
        · obtain ⟨w, hw, e⟩ := List.mem_map.1 q
          have := hbk w hw
          rw [← e]; omega
        · obtain ⟨p', hp', e⟩ := List.mem_map.1 q
          have := (hCk p' hp').1
          have e' : p'.1 = p.1 := e
          rw [← e']; omega)
      rw [outW_congr hW w1 hWg] at this
      exact this
    · refine ⟨?_, (hCk p hp).2⟩
      rw [hB0, kvB_get]
  · have hm : ∀ w ∈ outW (ins C' (ins (kvB b) [])), -1048576 ≤ w.Value ∧ w.Value ≤ 1048576 := fun w hw => by
      obtain ⟨_, q2, _⟩ := mem_outW.1 hw
      rw [hG] at q2
      cases hc : mget C w.Feature with
      | some x =>
        rw [hc] at q2
        have q3 : w.Value = clip (wt b w.Feature + x) := q2
        rw [q3]; exact clip_bound _
      | none =>
        rw [hc] at q2
        have q3 : w.Value = (mget (ins (kvB b) []) w.Feature).getD 0 := q2
        rw [q3, hB0, kvB_get]; exact wt_bound hv _
    exact ⟨fun w hw => (mem_outW.1 hw).2.2, fun w hw => (hm w hw).1, fun w hw => (hm w hw).2, outW_asc w1⟩
  · intro s
    rw [outW_wt w1, hG]
    cases hc : mget C s with
    | some x => rfl
    | none => show (mget (ins (kvB b) []) s).getD 0 = wt b s; rw [hB0, kvB_get]
  · intro w hw
    exact keysOf _ w1 (fun s => rfl) _ (mem_outW.1 hw).1
/-! training -/
theorem eta (d : Deriv) : Deriv.mk d.Kind d.Name d.From d.To d.Kids = d := by cases d; rfl
theorem Train_L3 (n : Nat) (X : List (List UInt8)) (k : KV → Option (Model × Int)) : ∀ (t : List (List UInt8)) (m i : Nat) (W : KV) (A : Int), X.drop i = t → t.length < m → (ks W).Nodup → (∀ s, -A ≤ (mget W s).getD 0 ∧ (mget W s).getD 0 ≤ A) → A + (t.length : Int) ≤ 1000000000 → ∃ W', model_Train_L3 n X k m W i = k W' ∧ (ks W').Nodup ∧ ∀ s, mget W' s = if s ∈ t then some ((mget W s).getD 0 + (t.count s : Int)) else mget W s
  | [], m + 1, i, W, A, h, _, hW, _, _ => ⟨W, by rw [model_Train_L3, if_neg (drop_nil' h)], hW, fun s => by simp⟩
  | x :: t, m + 1, i, W, A, h, hm, hW, hA, hb => by
    obtain ⟨h1, h2, h3⟩ := drop_cons h
    rw [List.length_cons] at hb
    have hx := hA x
    have hA' : ∀ s, -(A + 1) ≤ (mget (mset W x ((mget W x).getD 0 + 1)) s).getD 0 ∧ (mget (mset W x ((mget W x).getD 0 + 1)) s).getD 0 ≤ A + 1 := fun s => by
      rw [mget_mset]
      have := hA s
      split
      · show _ ≤ (mget W x).getD 0 + 1 ∧ (mget W x).getD 0 + 1 ≤ _; omega
      · omega
    obtain ⟨W', r1, r2, r3⟩ := Train_L3 n X k t m (i + 1) (mset W x ((mget W x).getD 0 + 1)) (A + 1) h3 (by simpa using hm) (mset_nodup hW) hA' (by omega)
    refine ⟨W', by rw [model_Train_L3, if_pos h1, h2, bind_some', chk_pos (by omega), r1], r2, fun s => ?_⟩
    rw [r3 s, mget_mset]
    by_cases e : s = x
    · subst e
      rw [if_pos rfl, List.count_cons_self]
      by_cases q : s ∈ t
      · rw [if_pos q, if_pos (by simp)]
        show some ((mget W s).getD 0 + 1 + (t.count s : Int)) = _
        congr 1; omega
      · rw [if_neg q, if_pos (by simp), List.count_eq_zero.2 q]
        congr 1
    · rw [if_neg e, List.count_cons_of_ne (fun q => e q.symm)]
      by_cases q : s ∈ t
      · rw [if_pos q, if_pos (by simp [q])]
      · rw [if_neg q, if_neg (by simp [q, e])]
theorem Train_L4 (n : Nat) (X : List (List UInt8)) (k : KV → Option (Model × Int)) : ∀ (t : List (List UInt8)) (m i : Nat) (W : KV) (A : Int), X.drop i = t → t.length < m → (ks W).Nodup → (∀ s, -A ≤ (mget W s).getD 0 ∧ (mget W s).getD 0 ≤ A) → A + (t.length : Int) ≤ 1000000000 → ∃ W', model_Train_L4 n X k m W i = k W' ∧ (ks W').Nodup ∧ ∀ s, mget W' s = if s ∈ t then some ((mget W s).getD 0 - (t.count s : Int)) else mget W s
  | [], m + 1, i, W, A, h, _, hW, _, _ => ⟨W, by rw [model_Train_L4, if_neg (drop_nil' h)], hW, fun s => by simp⟩
  | x :: t, m + 1, i, W, A, h, hm, hW, hA, hb => by
    obtain ⟨h1, h2, h3⟩ := drop_cons h
    rw [List.length_cons] at hb
    have hx := hA x
    have hA' : ∀ s, -(A + 1) ≤ (mget (mset W x ((mget W x).getD 0 - 1)) s).getD 0 ∧ (mget (mset W x ((mget W x).getD 0 - 1)) s).getD 0 ≤ A + 1 := fun s => by
      rw [mget_mset]
      have := hA s
      split
      · show _ ≤ (mget W x).getD 0 - 1 ∧ (mget W x).getD 0 - 1 ≤ _; omega
      · omega
    obtain ⟨W', r1, r2, r3⟩ := Train_L4 n X k t m (i + 1) (mset W x ((mget W x).getD 0 - 1)) (A + 1) h3 (by simpa using hm) (mset_nodup hW) hA' (by omega)
    refine ⟨W', by rw [model_Train_L4, if_pos h1, h2, bind_some', chk_pos (by omega), r1], r2, fun s => ?_⟩
    rw [r3 s, mget_mset]
    by_cases e : s = x
    · subst e
      rw [if_pos rfl, List.count_cons_self]
      by_cases q : s ∈ t
      · rw [if_pos q, if_pos (by simp)]
        show some ((mget W s).getD 0 - 1 - (t.count s : Int)) = _
        congr 1; omega
      · rw [if_neg q, if_pos (by simp), List.count_eq_zero.2 q]
        congr 1
    · rw [if_neg e, List.count_cons_of_ne (fun q => e q.symm)]
      by_cases q : s ∈ t
      · rw [if_pos q, if_pos (by simp [q])]
      · rw [if_neg q, if_neg (by simp [q, e])]
/-- what a feature weighs after one element -/
def FF (b : List Weight) (X Y : List (List UInt8)) (s : List UInt8) : Int := if s ∈ X ∨ s ∈ Y then clip (wt b s + ((X.count s : Int) - (Y.count s : Int))) else wt b s
def Step (b : List Weight) (j : Judged) (R : List Weight) : Prop := ∃ q bd g, bst (scD b) j.Readings 0 none = some (q, bd) ∧ j.Readings[q]? = some bd ∧ j.Readings[j.Gold.toNat]? = some g ∧ ((cmD bd g = 0 ∧ R = b) ∨ (cmD bd g ≠ 0 ∧ okV R ∧ ∀ s, wt R s = FF b (ftD g) (ftD bd) s))
theorem Step.unique {b R R' : List Weight} {j : Judged} (h : Step b j R) (k : Step b j R') : R = R' := by
  obtain ⟨q, bd, g, h1, _, h3, h4⟩ := h
  obtain ⟨q', bd', g', k1, _, k3, k4⟩ := k
  rw [h1] at k1; cases k1
  rw [h3] at k3; cases k3
  rcases h4 with ⟨a1, a2⟩ | ⟨a1, a2, a3⟩
  · rcases k4 with ⟨b1, b2⟩ | ⟨b1, _⟩
    · rw [a2, b2]
    · exact absurd a1 b1
  · rcases k4 with ⟨b1, _⟩ | ⟨_, b2, b3⟩
    · exact absurd b1 a1
    · exact wt_unique a2 b2 (fun s => by rw [a3, b3])
def Round (b : List Weight) : List Judged → List Weight → Prop
  | [], R => R = b
  | j :: t, R => ∃ c, Step b j c ∧ Round c t R
theorem Round.unique : ∀ {l : List Judged} {b R R' : List Weight}, Round b l R → Round b l R' → R = R'
  | [], b, R, R', h, k => by rw [show R = b from h, show R' = b from k]
  | j :: t, b, R, R', ⟨c, h1, h2⟩, ⟨c', k1, k2⟩ => by
    obtain rfl := h1.unique k1
    exact Round.unique h2 k2
def Rounds (l : List Judged) : Nat → List Weight → List Weight → Prop
  | 0, b, R => R = b
  | k + 1, b, R => ∃ c, Round b l c ∧ Rounds l k c R
theorem Rounds.unique {l : List Judged} : ∀ {k : Nat} {b R R' : List Weight}, Rounds l k b R → Rounds l k b R' → R = R'
  | 0, b, R, R', h, k => by rw [show R = b from h, show R' = b from k]
  | k + 1, b, R, R', ⟨c, h1, h2⟩, ⟨c', k1, k2⟩ => by
    obtain rfl := h1.unique k1
    exact Rounds.unique h2 k2
theorem Rounds.add {l : List Judged} {j : Nat} : ∀ {k : Nat} {b c R : List Weight}, Rounds l k b c → Rounds l j c R → Rounds l (k + j) b R
  | 0, b, c, R, h, k => by rw [show c = b from h] at k; rwa [Nat.zero_add]
  | k + 1, b, c, R, ⟨d, h1, h2⟩, h3 => by
    rw [show k + 1 + j = (k + j) + 1 by omega]
    exact ⟨d, h1, Rounds.add h2 h3⟩
/-- all features that may come -/
structure Uni (l : List Judged) (U : List (List UInt8)) : Prop where
  len : U.length ≤ 3500000
  each : ∀ s ∈ U, s.length ≤ 1048576
  ft : ∀ j ∈ l, ∀ d ∈ j.Readings, ∀ s ∈ ftD d, s ∈ U
  sz : ∀ j ∈ l, szL j.Readings ≤ 1048576
structure GoodB (U : List (List UInt8)) (b : List Weight) : Prop where
  v : okV b
  u : ∀ w ∈ b, w.Feature ∈ U
theorem GoodB.len {U : List (List UInt8)} {b : List Weight} (h : GoodB U b) : b.length ≤ U.length := by
  have := nodup_lenS (b.map (·.Feature)) U (List.pairwise_map.2 (h.v.asc.imp fun q e => by rw [e] at q; exact List.lt_irrefl _ q)) (fun s hs => by
    obtain ⟨w, hw, rfl⟩ := List.mem_map.1 hs
    exact h.u w hw)
  simpa using this
def gold (l : List Judged) : Prop := ∀ j ∈ l, 0 ≤ j.Gold ∧ j.Gold < (j.Readings.length : Int)
theorem Train_L2 (n : Nat) (l : List Judged) (U : List (List UInt8)) (hU : Uni l U) (hn : 9500000 ≤ n) (hg : gold l) (k : List Weight → Option (Model × Int)) : ∀ (t : List Judged) (p i : Nat) (b : List Weight), l.drop i = t → t.length < p → GoodB U b → ∃ R, model_Train_L2 n l k p i b = k R ∧ Round b t R ∧ GoodB U R
  | [], p + 1, i, b, h, _, hb => ⟨b, by rw [model_Train_L2, if_neg (drop_nil' h)], rfl, hb⟩
  | x :: t, p + 1, i, b, h, hp, hb => by
    obtain ⟨h1, h2, h3⟩ := drop_cons h
    have hx := List.mem_of_getElem? h2
    obtain ⟨g1, g2⟩ := hg x hx
    have hsz := hU.sz x hx
    have hbl := hb.len
    have hUl := hU.len
    have hne : x.Readings ≠ [] := fun e => by rw [e] at g2; simp at g2; omega
    obtain ⟨q, bd, e1, e2⟩ := bst_top (scD b) hne
    obtain ⟨gd, hgd⟩ : ∃ gd, x.Readings[x.Gold.toNat]? = some gd := ⟨_, List.getElem?_eq_getElem (by omega)⟩
    obtain ⟨t1, _⟩ := Best_eq n (Model.mk b) x.Readings hb.v (by show b.length ≤ _; omega) hsz (by omega)
    have hix1 : ix x.Readings (outI (some (q, bd))) = some bd := by
      show ix x.Readings (q : Int) = some bd
      rw [ix_nat]; exact e2.at_
    have hix2 : ix x.Readings x.Gold = some gd := by
      rw [show x.Gold = ((x.Gold.toNat : Nat) : Int) by omega, ix_nat]; exact hgd
    have hbm := List.mem_of_getElem? e2.at_
    have hgm := List.mem_of_getElem? hgd
    have hb1 := szL_mem hbm
    have hg1 := szL_mem hgm
    have hbf := ftD_len bd
    have hgf := ftD_len gd
    have et1 : model_Best n (Model.mk b) x.Readings = some (outI (some (q, bd))) := by rw [t1]; show some (outI (bst (scD b) _ 0 none)) = _; rw [e1]
    rw [model_Train_L2, if_pos h1, h2, bind_some', jn_def, et1, bind_some', hix1, bind_some', hix2, bind_some']
    dsimp only
    rw [eta, eta, Cmp_p n bd gd (by omega), bind_some']
    by_cases c : cmD bd gd = 0
    · rw [if_pos c]
      obtain ⟨R, r1, r2, r3⟩ := Train_L2 n l U hU hn hg k t p (i + 1) b h3 (by simpa using hp) hb
      exact ⟨R, r1, ⟨b, ⟨q, bd, gd, e1, e2.at_, hgd, .inl ⟨c, rfl⟩⟩, r2⟩, r3⟩
    · rw [if_neg c, Features_p n gd (by omega) (by omega), bind_some', jn_def]
      obtain ⟨C1, a1, a2, a3⟩ := Train_L3 n (ftD gd) (fun (t_138 : (List (List UInt8 × Int))) =>
      (model_Features n bd).bind fun r153 =>
      jn (fun (t_159 : (List (List UInt8 × Int))) =>
       (model_learned n (Model.mk b) t_159).bind fun r174 =>
       model_Train_L2 n l k p (i + 1) r174.Weights)
        (fun k158 =>
        model_Train_L4 n r153 k158 n t_138 0)) (ftD gd) n 0 [] 0 rfl (by omega) (by simp [ks]) (fun s => by show (-0 : Int) ≤ 0 ∧ (0 : Int) ≤ 0; omega) (by omega)
      rw [a1, Features_p n bd (by omega) (by omega), bind_some', jn_def]
      have hC1 : ∀ s, -((ftD gd).length : Int) ≤ (mget C1 s).getD 0 ∧ (mget C1 s).getD 0 ≤ ((ftD gd).length : Int) := fun s => by
        rw [a3 s]
        have hc : (ftD gd).count s ≤ (ftD gd).length := List.count_le_length
        split
        · show _ ≤ (0 : Int) + _ ∧ (0 : Int) + _ ≤ _; omega
        · show _ ≤ (0 : Int) ∧ (0 : Int) ≤ _; omega
      obtain ⟨C2, d1, d2, d3⟩ := Train_L4 n (ftD bd) (fun (t_159 : (List (List UInt8 × Int))) =>
       (model_learned n (Model.mk b) t_159).bind fun r174 =>
       model_Train_L2 n l k p (i + 1) r174.Weights) (ftD bd) n 0 C1 ((ftD gd).length : Int) rfl (by omega) a2 hC1 (by omega)
      rw [d1]
      have hC2 : ∀ s, mget C2 s = if s ∈ ftD gd ∨ s ∈ ftD bd then some (((ftD gd).count s : Int) - ((ftD bd).count s : Int)) else none := fun s => by
        rw [d3 s, a3 s]
        by_cases q1 : s ∈ ftD gd
        · by_cases q2 : s ∈ ftD bd
          · rw [if_pos q2, if_pos q1, if_pos (.inl q1)]
            show some ((0 : Int) + _ - _) = _
            congr 1; omega
          · rw [if_neg q2, if_pos q1, if_pos (.inl q1), List.count_eq_zero.2 q2]
            show some ((0 : Int) + _) = _
            congr 1; omega
        · by_cases q2 : s ∈ ftD bd
          · rw [if_pos q2, if_neg q1, if_pos (.inr q2), List.count_eq_zero.2 q1]
            show some ((0 : Int) - _) = _
            congr 1
          · rw [if_neg q2, if_neg q1, if_neg (fun z => by rcases z with z | z; exact q1 z; exact q2 z)]
            rfl
      have hkC : ∀ s ∈ ks C2, s ∈ ftD gd ++ ftD bd := fun s hs => by
        obtain ⟨v, hv⟩ := (mget_ks d2).1 hs
        rw [hC2 s] at hv
        split at hv
        · rename_i hz; exact List.mem_append.2 hz
        · cases hv
      have hCl : C2.length ≤ 4500000 := by
        have := nodup_lenS (ks C2) (ftD gd ++ ftD bd) d2 hkC
        rw [List.length_append] at this
        simp only [ks, List.length_map] at this
        omega
      have hfU : ∀ s, s ∈ ftD gd ++ ftD bd → s ∈ U := fun s hs => by
        rcases List.mem_append.1 hs with z | z
        · exact hU.ft x hx gd hgm s z
        · exact hU.ft x hx bd hbm s z
      obtain ⟨R1, m1, m2, m3, m4⟩ := learned_spec n b C2 hb.v (by omega) (fun w hw => hU.each _ (hb.u w hw)) d2 hCl (fun pr hpr => by
        have hk : pr.1 ∈ ks C2 := List.mem_map.2 ⟨pr, hpr, rfl⟩
        refine ⟨hU.each _ (hfU _ (hkC _ hk)), ?_⟩
        have hv := mget_of_mem d2 hpr
        rw [hC2 pr.1] at hv
        have hc1 : (ftD gd).count pr.1 ≤ (ftD gd).length := List.count_le_length
        have hc2 : (ftD bd).count pr.1 ≤ (ftD bd).length := List.count_le_length
        split at hv
        · have := Option.some.inj hv; omega
        · cases hv) hn
      have hR1 : GoodB U R1 := ⟨m2, fun w hw => by
        rcases m4 w hw with z | z
        · obtain ⟨w', hw', e⟩ := List.mem_map.1 z
          have e' : w'.Feature = w.Feature := e
          rw [← e']; exact hb.u w' hw'
        · exact hfU _ (hkC _ z)⟩
      rw [m1, bind_some']
      obtain ⟨R, r1, r2, r3⟩ := Train_L2 n l U hU hn hg k t p (i + 1) R1 h3 (by simpa using hp) hR1
      refine ⟨R, r1, ⟨R1, ⟨q, bd, gd, e1, e2.at_, hgd, .inr ⟨c, m2, fun s => ?_⟩⟩, r2⟩, r3⟩
      rw [m3 s, hC2 s]
      unfold FF
      by_cases z : s ∈ ftD gd ∨ s ∈ ftD bd
      · rw [if_pos z, if_pos z]
      · rw [if_neg z, if_neg z]
theorem Train_L1 (n : Nat) (l : List Judged) (U : List (List UInt8)) (hU : Uni l U) (hn : 9500000 ≤ n) (hg : gold l) (hl : l.length < n) (r : Nat) (hr : r ≤ 16) (k : List Weight → Option (Model × Int)) : ∀ (p i : Nat) (b : List Weight), i ≤ r → r - i < p → GoodB U b → ∃ R, model_Train_L1 n l (r : Int) k p i b = k R ∧ Rounds l (r - i) b R ∧ GoodB U R
  | 0, _, _, _, h, _ => by omega
  | p + 1, i, b, hi, hp, hb => by
    rw [model_Train_L1]
    by_cases q : i < r
    · rw [if_pos (by omega), jn_def]
      obtain ⟨R1, a1, a2, a3⟩ := Train_L2 n l U hU hn hg (fun (b_34 : (List Weight)) =>
    chk (i + 1 ≤ 9223372036854775807) (
    model_Train_L1 n l (r : Int) k p (i + 1) b_34)) l n 0 b rfl hl hb
      rw [a1, chk_pos (by omega)]
      obtain ⟨R, r1, r2, r3⟩ := Train_L1 n l U hU hn hg hl r hr k p (i + 1) R1 (by omega) (by omega) a3
      refine ⟨R, r1, ?_, r3⟩
      rw [show r - i = (r - (i + 1)) + 1 by omega]
      exact ⟨R1, a2, r2⟩
    · rw [if_neg (by omega)]
      refine ⟨b, rfl, ?_, hb⟩
      rw [show r - i = 0 by omega]
      rfl
theorem Train_L0 (n : Nat) (l : List Judged) (k : Option (Model × Int)) : ∀ (t : List Judged) (p i : Nat), l.drop i = t → t.length < p → (gold t ∧ model_Train_L0 n l k p i = k) ∨ (¬ gold t ∧ model_Train_L0 n l k p i = some (Model.mk [], 2))
  | [], p + 1, i, h, _ => .inl ⟨fun j hj => (by cases hj), by rw [model_Train_L0, if_neg (drop_nil' h)]⟩
  | x :: t, p + 1, i, h, hp => by
    obtain ⟨h1, h2, h3⟩ := drop_cons h
    rw [model_Train_L0, if_pos h1, h2, bind_some', jn_def]
    by_cases q1 : x.Gold < 0
    · rw [if_pos q1]
      exact .inr ⟨fun z => by have := (z x (by simp)).1; omega, rfl⟩
    · rw [if_neg q1]
      by_cases q2 : ((x.Readings.length : Nat) : Int) ≤ x.Gold
      · simp only [q2, decide_true, if_true]
        exact .inr ⟨fun z => by have := (z x (by simp)).2; omega, trivial⟩
      · simp only [q2, decide_false, Bool.false_eq_true, if_false]
        rcases Train_L0 n l k t p (i + 1) h3 (by simpa using hp) with ⟨a1, a2⟩ | ⟨a1, a2⟩
        · exact .inl ⟨fun j hj => by
            rcases List.mem_cons.1 hj with rfl | hj
            · omega
            · exact a1 j hj, a2⟩
        · exact .inr ⟨fun z => a1 (fun j hj => z j (by simp [hj])), a2⟩
theorem Train_eq (n : Nat) (m : Model) (l : List Judged) (U : List (List UInt8)) (hU : Uni l U) (hn : 9500000 ≤ n) (hl : l.length < n) (r : Nat) (hr : r ≤ 16) (hb : GoodB U m.Weights) : (gold l ∧ ∃ R, model_Train n m l (r : Int) = some (Model.mk R, 0) ∧ Rounds l r m.Weights R ∧ GoodB U R) ∨ (¬ gold l ∧ model_Train n m l (r : Int) = some (Model.mk [], 2)) := by
  unfold model_Train
  rw [jn_def, if_neg (by omega)]
  have q : ¬ (16 : Int) < (r : Int) := by omega
  simp only [q, decide_false, Bool.false_eq_true, if_false, jn_def]
  rcases Train_L0 n l (model_Train_L1 n l (r : Int) (fun (b_25 : (List Weight)) => some ((Model.mk b_25), 0)) n 0 m.Weights) l n 0 rfl hl with ⟨a1, a2⟩ | ⟨a1, a2⟩
  · left
    refine ⟨a1, ?_⟩
    obtain ⟨R, r1, r2, r3⟩ := Train_L1 n l U hU hn a1 hl r hr (fun (b_25 : (List Weight)) => some ((Model.mk b_25), 0)) n 0 m.Weights (Nat.zero_le _) (by omega) hb
    exact ⟨R, by rw [a2, r1], by simpa using r2, r3⟩
  · exact .inr ⟨a1, a2⟩
/-! training: its laws -/
theorem Check_gen (n : Nat) (m : Model) (hl : m.Weights.length < n) (hs : ∀ w ∈ m.Weights, w.Feature.length ≤ 1048576) (hn : 2000000 ≤ n) : ∃ c, model_Check n m = some c ∧ r37_Check n m = some c ∧ (c = 0 ↔ okM m.Weights) := by
  obtain ⟨c, c1, c2, c3⟩ := Check_L0 n m hs hn m.Weights n 0 rfl hl
  refine ⟨c, c1, c2, c3.trans ⟨fun h => ⟨h.1, ascFrom_pw h.2⟩, fun h => ⟨h.good, pw_ascFrom h.asc (fun q w e _ => by cases e)⟩⟩⟩
theorem Same_L0 (n : Nat) (m : Model) : ∀ (t : List Weight) (p i : Nat), m.Weights.drop i = t → t.length < p → r37_Same_L0 n m m p i = some true
  | [], p + 1, i, h, _ => by rw [r37_Same_L0, if_neg (drop_nil' h)]
  | x :: t, p + 1, i, h, hp => by
    obtain ⟨h1, h2, h3⟩ := drop_cons h
    rw [r37_Same_L0, if_pos h1, h2, bind_some', bind_some', if_pos rfl, Same_L0 n m t p (i + 1) h3 (by simpa using hp)]
theorem Same_self (n : Nat) (m : Model) (hl : m.Weights.length < n) : r37_Same n m m = some true := by
  unfold r37_Same
  rw [if_neg (by simp), Same_L0 n m m.Weights n 0 rfl hl]
theorem tr_len1 (nm : List UInt8) (ks : List Deriv) : ∀ s ∈ tr nm ks, s.length ≤ nm.length + szL ks + 1 := by
  intro s hs
  cases ks with
  | nil => cases hs
  | cons x t =>
    simp only [tr, List.mem_singleton] at hs
    rw [hs, List.length_append, List.length_cons]
    have := jo_len (x :: t)
    omega
mutual
theorem ftD_each : ∀ (d : Deriv), ∀ s ∈ ftD d, s.length ≤ szD d
  | ⟨a, nm, b, c, ks⟩, s, hs => by
    show s.length ≤ nm.length + szL ks + 1
    have hs' : s ∈ nm :: (tr nm ks ++ ftL ks) := hs
    rcases List.mem_cons.1 hs' with rfl | hs'
    · omega
    · rcases List.mem_append.1 hs' with h | h
      · exact tr_len1 nm ks s h
      · have := ftL_each ks s h; omega
theorem ftL_each : ∀ (l : List Deriv), ∀ s ∈ ftL l, s.length ≤ szL l
  | [], s, hs => by cases hs
  | d :: r, s, hs => by
    have hs' : s ∈ ftD d ++ ftL r := hs
    rw [szL_cons]
    rcases List.mem_append.1 hs' with h | h
    · have := ftD_each d s h; omega
    · have := ftL_each r s h; omega
end
theorem ftL_mem : ∀ {l : List Deriv} {d : Deriv}, d ∈ l → ∀ s ∈ ftD d, s ∈ ftL l
  | x :: l, d, h, s, hs => by
    show s ∈ ftD x ++ ftL l
    rcases List.mem_cons.1 h with rfl | h
    · exact List.mem_append.2 (.inl hs)
    · exact List.mem_append.2 (.inr (ftL_mem h s hs))
def ftJ : List Judged → List (List UInt8)
  | [] => []
  | j :: t => ftL j.Readings ++ ftJ t
theorem ftJ_mem : ∀ {l : List Judged} {j : Judged}, j ∈ l → ∀ s ∈ ftL j.Readings, s ∈ ftJ l
  | x :: l, j, h, s, hs => by
    show s ∈ ftL x.Readings ++ ftJ l
    rcases List.mem_cons.1 h with rfl | h
    · exact List.mem_append.2 (.inl hs)
    · exact List.mem_append.2 (.inr (ftJ_mem h s hs))
theorem ftJ_len : ∀ l : List Judged, (ftJ l).length ≤ 2 * (l.map szJ).sum
  | [] => by simp [ftJ]
  | j :: t => by
    have h1 := ftJ_len t
    have h2 := ftL_len j.Readings
    have h3 : szJ j = szL j.Readings + 3 := rfl
    show (ftL j.Readings ++ ftJ t).length ≤ _
    rw [List.length_append, List.map_cons, List.sum_cons]
    omega
theorem ftJ_each : ∀ (l : List Judged), ∀ s ∈ ftJ l, s.length ≤ (l.map szJ).sum
  | [], s, hs => by cases hs
  | j :: t, s, hs => by
    have hs' : s ∈ ftL j.Readings ++ ftJ t := hs
    have h3 : szJ j = szL j.Readings + 3 := rfl
    rw [List.map_cons, List.sum_cons]
    rcases List.mem_append.1 hs' with h | h
    · have := ftL_each _ s h; omega
    · have := ftJ_each t s h; omega
theorem sumJ_len : ∀ l : List Judged, 3 * l.length ≤ (l.map szJ).sum
  | [] => by simp
  | j :: t => by
    have := sumJ_len t
    have h3 : szJ j = szL j.Readings + 3 := rfl
    rw [List.length_cons, List.map_cons, List.sum_cons]
    omega
def uni (m : Model) (l : List Judged) : List (List UInt8) := m.Weights.map (·.Feature) ++ ftJ l
theorem uni_ok {m : Model} {l : List Judged} (hs : szM m + (l.map szJ).sum ≤ 1048576) : Uni l (uni m l) := by
  have h1 := szM_len m
  have h2 := ftJ_len l
  refine ⟨?_, fun s h => ?_, fun j hj d hd s hs' => ?_, fun j hj => ?_⟩
  · unfold uni; rw [List.length_append, List.length_map]; omega
  · rcases List.mem_append.1 h with h | h
    · obtain ⟨w, hw, rfl⟩ := List.mem_map.1 h
      have := szM_feat hw; omega
    · have := ftJ_each l s h; omega
  · exact List.mem_append.2 (.inr (ftJ_mem hj s (ftL_mem hd s hs')))
  · have := sum_mem (List.mem_map.2 ⟨j, hj, rfl⟩ : szJ j ∈ l.map szJ)
    have h3 : szJ j = szL j.Readings + 3 := rfl
    omega
theorem uni_good {m : Model} {l : List Judged} (h : okV m.Weights) : GoodB (uni m l) m.Weights := ⟨h, fun w hw => List.mem_append.2 (.inl (List.mem_map.2 ⟨w, hw, rfl⟩))⟩
theorem lightJ_L0 (n : Nat) (hn : 7000000 ≤ n) (l : List Judged) (hs : ∀ j ∈ l, szL j.Readings ≤ 1048576) (k : Option Bool) (hk : ∃ b, k = some b) : ∀ (t : List Judged) (p i : Nat), l.drop i = t → t.length < p → ∃ b, law37_lightJudged_L0 n l 60 k p i = some b
  | [], p + 1, i, h, _ => by
    rw [law37_lightJudged_L0, jn_def, if_neg (drop_nil' h)]
    exact hk
  | x :: t, p + 1, i, h, hp => by
    obtain ⟨h1, h2, h3⟩ := drop_cons h
    rw [law37_lightJudged_L0, jn_def, if_pos h1]
    by_cases q : i < 9
    · obtain ⟨b, b1⟩ := Light_some n hn x.Readings 60 (by omega) (hs x (List.mem_of_getElem? h2))
      simp only [q, decide_true, if_true, h2, bind_some', b1]
      cases b with
      | false => exact ⟨false, rfl⟩
      | true =>
        simp only [Bool.not_true, Bool.false_eq_true, if_false]
        rw [chk_pos (by omega)]
        exact lightJ_L0 n hn l hs k hk t p (i + 1) h3 (by simpa using hp)
    · simp only [q, decide_false, Bool.false_eq_true, if_false]
      exact hk
theorem lightJ_some (n : Nat) (hn : 7000000 ≤ n) (l : List Judged) (hl : l.length < n) (hs : ∀ j ∈ l, szL j.Readings ≤ 1048576) : ∃ b, law37_lightJudged n l 60 = some b := by
  unfold law37_lightJudged
  rw [jn_def]
  exact lightJ_L0 n hn l hs _ ⟨_, rfl⟩ l n 0 rfl hl
mutual
def nmd : Deriv → Prop
  | ⟨_, nm, _, _, ks⟩ => isName nm ∧ ks.length ≤ 2 ∧ nmdL ks
def nmdL : List Deriv → Prop
  | [] => True
  | d :: r => nmd d ∧ nmdL r
end
theorem nmd_eq (d : Deriv) : nmd d ↔ isName d.Name ∧ d.Kids.length ≤ 2 ∧ nmdL d.Kids := by cases d; exact Iff.rfl
theorem nmdL_mem : ∀ {l : List Deriv} {d : Deriv}, nmdL l → d ∈ l → nmd d
  | x :: l, d, h, hd => by
    rcases List.mem_cons.1 hd with rfl | hd
    · exact h.1
    · exact nmdL_mem h.2 hd
theorem named_L0 (n : Nat) (d : Deriv) (sf : Deriv → Option Bool) (hsf : ∀ x ∈ d.Kids, ∃ b, sf x = some b ∧ (b = true → nmd x)) : ∀ (t : List Deriv) (p i : Nat), d.Kids.drop i = t → t.length < p → ∃ b, law37_named_L0 n d sf p i = some b ∧ (b = true → nmdL t)
  | [], p + 1, i, h, _ => by
    rw [law37_named_L0, if_neg (drop_nil' h)]
    exact ⟨true, rfl, fun _ => trivial⟩
  | x :: t, p + 1, i, h, hp => by
    obtain ⟨h1, h2, h3⟩ := drop_cons h
    obtain ⟨b, b1, b2⟩ := hsf x (List.mem_of_getElem? h2)
    rw [law37_named_L0, if_pos h1, h2, bind_some', b1, bind_some']
    cases b with
    | false => exact ⟨false, rfl, fun e => by cases e⟩
    | true =>
      obtain ⟨c, c1, c2⟩ := named_L0 n d sf hsf t p (i + 1) h3 (by simpa using hp)
      exact ⟨c, c1, fun e => ⟨b2 rfl, c2 e⟩⟩
theorem named_some : ∀ (n : Nat) (d : Deriv), szD d + 100 < n → ∃ b, law37_named n d = some b ∧ (b = true → nmd d)
  | 0, d, h => by omega
  | n + 1, d, h => by
    have h0 := szD_eq d
    have h1 := szL_len d.Kids
    obtain ⟨b, b1, b2⟩ := named_L0 n d (law37_named n) (fun x hx => by
      have := szL_mem hx
      exact named_some n x (by omega)) d.Kids n 0 rfl (by omega)
    rw [law37_named, jn_def, r01_Name_eq n d.Name (by omega), bind_some']
    by_cases q1 : isName d.Name
    · by_cases q2 : 2 < d.Kids.length
      · simp only [q1, q2, decide_true, Bool.not_true, Bool.false_eq_true, if_false, if_true]
        exact ⟨false, rfl, fun e => by cases e⟩
      · simp only [q1, q2, decide_true, decide_false, Bool.not_true, Bool.false_eq_true, if_false]
        exact ⟨b, b1, fun e => (nmd_eq d).2 ⟨q1, by omega, b2 e⟩⟩
    · simp only [q1, decide_false, Bool.not_false, if_true]
      exact ⟨false, rfl, fun e => by cases e⟩
theorem spl_js : ∀ (l : List (List UInt8)) (x : List UInt8), (32 : UInt8) ∉ x → (∀ y ∈ l, (32 : UInt8) ∉ y) → spl 32 (x ++ js l) = x :: l
  | [], x, hx, _ => by
    have : x ++ js [] = x := by simp [js]
    rw [this, spl_none hx]
  | y :: l, x, hx, h => by
    have e : x ++ js (y :: l) = x ++ 32 :: (y ++ js l) := by simp [js]
    rw [e, spl_pre hx, spl_js l y (h y (by simp)) (fun z hz => h z (by simp [hz]))]
theorem nmdL_names : ∀ {l : List Deriv}, nmdL l → ∀ x ∈ l.map (·.Name), isName x
  | d :: r, h, x, hx => by
    rcases List.mem_cons.1 hx with rfl | hx
    · exact ((nmd_eq d).1 h.1).1
    · exact nmdL_names h.2 x hx
theorem tr_feat {nm : List UInt8} {ks : List Deriv} (h1 : isName nm) (h2 : ks.length ≤ 2) (h3 : nmdL ks) : ∀ s ∈ tr nm ks, isFeat s := by
  intro s hs
  cases ks with
  | nil => cases hs
  | cons d t =>
    simp only [tr, List.mem_singleton] at hs
    have hn := nmdL_names h3
    have e : spl 32 (jo ((d :: t).map (·.Name))) = (d :: t).map (·.Name) := by
      show spl 32 (d.Name ++ js (t.map (·.Name))) = d.Name :: t.map (·.Name)
      exact spl_js _ _ (isName_no (hn d.Name (by simp)) no32) (fun y hy => isName_no (hn y (by rw [List.map_cons]; exact List.mem_cons_of_mem _ hy)) no32)
    rw [hs]
    exact .inr ⟨nm, _, rfl, h1, by rw [e, List.length_map]; exact h2, by rw [e]; exact hn⟩
mutual
theorem ftD_feat : ∀ (d : Deriv), nmd d → ∀ s ∈ ftD d, isFeat s
  | ⟨a, nm, b, c, ks⟩, h, s, hs => by
    obtain ⟨h1, h2, h3⟩ := h
    have hs' : s ∈ nm :: (tr nm ks ++ ftL ks) := hs
    rcases List.mem_cons.1 hs' with rfl | hs'
    · exact .inl h1
    · rcases List.mem_append.1 hs' with q | q
      · exact tr_feat h1 h2 h3 s q
      · exact ftL_feat ks h3 s q
theorem ftL_feat : ∀ (l : List Deriv), nmdL l → ∀ s ∈ ftL l, isFeat s
  | [], _, s, hs => by cases hs
  | d :: r, h, s, hs => by
    have hs' : s ∈ ftD d ++ ftL r := hs
    rcases List.mem_append.1 hs' with q | q
    · exact ftD_feat d h.1 s q
    · exact ftL_feat r h.2 s q
end
theorem ftJ_feat : ∀ (l : List Judged), (∀ j ∈ l, nmdL j.Readings) → ∀ s ∈ ftJ l, isFeat s
  | [], _, s, hs => by cases hs
  | j :: t, h, s, hs => by
    have hs' : s ∈ ftL j.Readings ++ ftJ t := hs
    rcases List.mem_append.1 hs' with q | q
    · exact ftL_feat _ (h j (by simp)) s q
    · exact ftJ_feat t (fun j' hj' => h j' (by simp [hj'])) s q
theorem Valid_L1 (n : Nat) (hex : law37_exampleHolds n = some true) (k : Option Bool) (x : Judged) (hs : szL x.Readings ≤ 1048576) (hn : 7000000 ≤ n) : ∀ (t : List Deriv) (p i : Nat), x.Readings.drop i = t → t.length < p → i + t.length ≤ 100000000 → law37_ModelValid_L1 n k x p i = some true ∨ (law37_ModelValid_L1 n k x p i = k ∧ nmdL t)
  | [], p + 1, i, h, _, _ => .inr ⟨by rw [law37_ModelValid_L1, if_neg (drop_nil' h)], trivial⟩
  | d :: t, p + 1, i, h, hp, hi => by
    obtain ⟨h1, h2, h3⟩ := drop_cons h
    rw [List.length_cons] at hi
    have hd := szL_mem (List.mem_of_getElem? h2)
    obtain ⟨b, b1, b2⟩ := named_some n d (by omega)
    rw [law37_ModelValid_L1, if_pos h1, h2, bind_some', b1, bind_some', hex]
    cases b with
    | false => exact .inl rfl
    | true =>
      simp only [Bool.not_true, Bool.false_eq_true, if_false]
      rw [chk_pos (by omega)]
      rcases Valid_L1 n hex k x hs hn t p (i + 1) h3 (by simpa using hp) (by omega) with q | ⟨q1, q2⟩
      · exact .inl q
      · exact .inr ⟨q1, b2 rfl, q2⟩
theorem Valid_L0 (n : Nat) (hex : law37_exampleHolds n = some true) (k : Option Bool) (l : List Judged) (hs : ∀ j ∈ l, szL j.Readings ≤ 1048576) (hn : 7000000 ≤ n) : ∀ (t : List Judged) (p i : Nat), l.drop i = t → t.length < p → law37_ModelValid_L0 n l k p i = some true ∨ (law37_ModelValid_L0 n l k p i = k ∧ ∀ j ∈ t, nmdL j.Readings)
  | [], p + 1, i, h, _ => .inr ⟨by rw [law37_ModelValid_L0, if_neg (drop_nil' h)], fun j hj => by cases hj⟩
  | x :: t, p + 1, i, h, hp => by
    obtain ⟨h1, h2, h3⟩ := drop_cons h
    have hx := hs x (List.mem_of_getElem? h2)
    have hxl := szL_len x.Readings
    rw [law37_ModelValid_L0, if_pos h1, jn_def, h2, bind_some']
    rcases Valid_L1 n hex (law37_ModelValid_L0 n l k p (i + 1)) x hx hn x.Readings n 0 rfl (by omega) (by omega) with q | ⟨q1, q2⟩
    · exact .inl q
    · rw [q1]
      rcases Valid_L0 n hex k l hs hn t p (i + 1) h3 (by simpa using hp) with r | ⟨r1, r2⟩
      · exact .inl r
      · exact .inr ⟨r1, fun j hj => by
          rcases List.mem_cons.1 hj with rfl | hj
          · exact q2
          · exact r2 j hj⟩
theorem Valid_main (n : Nat) (hn : 9500000 ≤ n) (hex : law37_exampleHolds n = some true) (m : Model) (l : List Judged) (u : UInt8) (hs : szM m + (l.map szJ).sum ≤ 1048576) : law37_ModelValid n m l u = some true := by
  unfold law37_ModelValid
  have hJ := sumJ_len l
  have hU := uni_ok hs
  obtain ⟨b, b1⟩ := lightJ_some n (by omega) l (by omega) hU.sz
  obtain ⟨c, _, c2, c3⟩ := Check_eq n m (by omega) (by omega)
  rw [hex, b1, c2]
  simp only [jn_def, bind_some']
  by_cases q1 : 30 < m.Weights.length
  · rw [if_pos q1]; rfl
  rw [if_neg q1]
  cases b with
  | false => rfl
  | true =>
    by_cases q3 : c = 0
    · have hv := (c3.1 q3).v
      simp only [q3, ne_eq, not_true, decide_false, Bool.not_true, Bool.false_eq_true, if_false]
      rcases Valid_L0 n hex _ l hU.sz (by omega) l n 0 rfl (by omega) with r | ⟨r1, r2⟩
      · exact r
      · rw [r1]
        rcases Train_eq n m l (uni m l) hU hn (by omega) (u.toNat % 5) (by omega) (uni_good hv) with ⟨g1, R, t1, t2, t3⟩ | ⟨g1, t1⟩
        · have hlen := t3.len
          have hUl := hU.len
          obtain ⟨c', d1, _, d3⟩ := Check_gen n (Model.mk R) (by show R.length < n; omega) (fun w hw => hU.each _ (t3.u w hw)) (by omega)
          have hok : okM R := ⟨fun w hw => ⟨?_, t3.v.nz w hw, t3.v.lo w hw, t3.v.hi w hw⟩, t3.v.asc⟩
          · have hc0 := d3.2 hok
            rw [t1]
            simp only [bind_some', not_true, if_false, d1, hc0, if_true]
          · rcases List.mem_append.1 (t3.u w hw) with z | z
            · obtain ⟨w', hw', e⟩ := List.mem_map.1 z
              have e' : w'.Feature = w.Feature := e
              rw [← e']; exact ((c3.1 q3).good w' hw').feat
            · exact ftJ_feat l r2 _ z
        · rw [t1]
          rfl
    · simp [q3]
theorem law37_ModelValid_true (m : Model) (l : List Judged) (u : UInt8) (hs : szM m + (l.map szJ).sum ≤ 1048576) : law37_ModelValid 10000000 m l u = some true := Valid_main 10000000 (by omega) ex37 m l u hs
theorem Stops_L0 (n : Nat) (hex : law37_exampleHolds n = some true) (l : List Judged) (U : List (List UInt8)) (hU : Uni l U) (hn : 9500000 ≤ n) (hg : gold l) (R : List Weight) (hR : GoodB U R) (e : Int) (k : Option Bool) : ∀ (t : List Judged) (p i : Nat), l.drop i = t → t.length < p → law37_ModelStops_L0 n l (Model.mk R, e) k p i = some true ∨ (law37_ModelStops_L0 n l (Model.mk R, e) k p i = k ∧ ∀ j ∈ t, Step R j R)
  | [], p + 1, i, h, _ => .inr ⟨by rw [law37_ModelStops_L0, if_neg (drop_nil' h)], fun j hj => by cases hj⟩
  | x :: t, p + 1, i, h, hp => by
    obtain ⟨h1, h2, h3⟩ := drop_cons h
    have hx := List.mem_of_getElem? h2
    obtain ⟨g1, g2⟩ := hg x hx
    have hsz := hU.sz x hx
    have hbl := hR.len
    have hUl := hU.len
    have hne : x.Readings ≠ [] := fun e => by rw [e] at g2; simp at g2; omega
    obtain ⟨q, bd, e1, e2⟩ := bst_top (scD R) hne
    obtain ⟨gd, hgd⟩ : ∃ gd, x.Readings[x.Gold.toNat]? = some gd := ⟨_, List.getElem?_eq_getElem (by omega)⟩
    obtain ⟨t1, _⟩ := Best_eq n (Model.mk R) x.Readings hR.v (by show R.length ≤ _; omega) hsz (by omega)
    have hix1 : ix x.Readings (outI (some (q, bd))) = some bd := by
      show ix x.Readings (q : Int) = some bd
      rw [ix_nat]; exact e2.at_
    have hix2 : ix x.Readings x.Gold = some gd := by
      rw [show x.Gold = ((x.Gold.toNat : Nat) : Int) by omega, ix_nat]; exact hgd
    have hb1 := szL_mem (List.mem_of_getElem? e2.at_)
    have et1 : model_Best n (Model.mk R) x.Readings = some (outI (some (q, bd))) := by rw [t1]; show some (outI (bst (scD R) _ 0 none)) = _; rw [e1]
    have hneg : ¬ outI (some (q, bd)) < 0 := by show ¬ (q : Int) < 0; omega
    rw [law37_ModelStops_L0, if_pos h1, h2, bind_some']
    simp only [et1, bind_some', jn_def, hix1, hix2, Cmp_r n bd gd (by omega) (by omega), hex]
    rw [if_neg hneg]
    by_cases c : cmD bd gd = 0
    · simp only [c, ne_eq, not_true, decide_false, Bool.false_eq_true, if_false]
      rcases Stops_L0 n hex l U hU hn hg R hR e k t p (i + 1) h3 (by simpa using hp) with r | ⟨r1, r2⟩
      · exact .inl r
      · exact .inr ⟨r1, fun j hj => by
          rcases List.mem_cons.1 hj with rfl | hj
          · exact ⟨q, bd, gd, e1, e2.at_, hgd, .inl ⟨c, rfl⟩⟩
          · exact r2 j hj⟩
    · simp only [c, ne_eq, not_false_eq_true, decide_true, if_true]
      exact .inl trivial
theorem Round_same {R : List Weight} : ∀ {t : List Judged}, (∀ j ∈ t, Step R j R) → Round R t R
  | [], _ => rfl
  | j :: t, h => ⟨R, h j (by simp), Round_same (fun j' hj' => h j' (by simp [hj']))⟩
theorem Stops_main (n : Nat) (hn : 9500000 ≤ n) (hex : law37_exampleHolds n = some true) (m : Model) (l : List Judged) (u : UInt8 × UInt8) (hs : szM m + (l.map szJ).sum ≤ 1048576) : law37_ModelStops n m l u = some true := by
  unfold law37_ModelStops
  have hJ := sumJ_len l
  have hU := uni_ok hs
  have hUl := hU.len
  obtain ⟨b, b1⟩ := lightJ_some n (by omega) l (by omega) hU.sz
  obtain ⟨c, _, c2, c3⟩ := Check_eq n m (by omega) (by omega)
  rw [hex, b1, c2]
  simp only [jn_def, bind_some']
  by_cases q1 : 30 < m.Weights.length
  · rw [if_pos q1]; rfl
  rw [if_neg q1]
  cases b with
  | false => rfl
  | true =>
    by_cases q3 : c = 0
    · have hv := (c3.1 q3).v
      simp only [q3, ne_eq, not_true, decide_false, Bool.not_true, Bool.false_eq_true, if_false]
      rcases Train_eq n m l (uni m l) hU hn (by omega) (u.1.toNat % 4) (by omega) (uni_good hv) with ⟨g1, R1, t1, t2, t3⟩ | ⟨g1, t1⟩
      · have hl1 := t3.len
        obtain ⟨c', _, d2, d3⟩ := Check_gen n (Model.mk R1) (by show R1.length < n; omega) (fun w hw => hU.each _ (t3.u w hw)) (by omega)
        rw [t1]
        simp only [bind_some', d2]
        by_cases q4 : c' = 0
        · rw [if_neg (by simp [q4])]
          rcases Train_eq n (Model.mk R1) l (uni m l) hU hn (by omega) (u.2.toNat % 4) (by omega) t3 with ⟨_, R2, s1, s2, s3⟩ | ⟨g2, _⟩
          · rcases Train_eq n m l (uni m l) hU hn (by omega) (u.1.toNat % 4 + u.2.toNat % 4) (by omega) (uni_good hv) with ⟨_, R3, w1, w2, w3⟩ | ⟨g2, _⟩
            · have e : R2 = R3 := (t2.add s2).unique w2
              subst e
              have hl2 := s3.len
              have hsame := Same_self n (Model.mk R2) (by show R2.length < n; omega)
              obtain ⟨c'', _, f2, f3⟩ := Check_gen n (Model.mk R2) (by show R2.length < n; omega) (fun w hw => hU.each _ (s3.u w hw)) (by omega)
              rw [s1, bind_some', chk_pos (by omega), w1]
              simp only [bind_some', not_true, if_false, if_true, hsame, Bool.not_true, Bool.false_eq_true, f2]
              rcases Stops_L0 n hex l (uni m l) hU hn g1 R2 s3 0 _ l n 0 rfl (by omega) with r | ⟨r1, r2⟩
              · exact r
              · rw [r1]
                by_cases q5 : c'' = 0
                · rw [if_neg (by simp [q5])]
                  rcases Train_eq n (Model.mk R2) l (uni m l) hU hn (by omega) 2 (by omega) s3 with ⟨_, R4, x1, x2, x3⟩ | ⟨g2, _⟩
                  · have hr := Round_same r2
                    have e4 : R4 = R2 := x2.unique ⟨R2, hr, R2, hr, rfl⟩
                    subst e4
                    have x1' : model_Train n (Model.mk R4) l 2 = some (Model.mk R4, 0) := x1
                    rw [x1']
                    simp only [bind_some', if_true, hsame]
                  · exact absurd g1 g2
                · rw [if_pos q5]
            · exact absurd g1 g2
          · exact absurd g1 g2
        · rw [if_pos q4]
      · have e0 : okM ([] : List Weight) := ⟨fun w hw => (by cases hw), .nil⟩
        obtain ⟨c', _, d2, d3⟩ := Check_gen n (Model.mk []) (by show 0 < n; omega) (fun w hw => by cases hw) (by omega)
        have q4 := d3.2 e0
        rw [t1]
        simp only [bind_some', d2, q4, not_true, if_false]
        rcases Train_eq n (Model.mk []) l (uni m l) hU hn (by omega) (u.2.toNat % 4) (by omega) ⟨⟨fun w hw => (by cases hw), fun w hw => (by cases hw), fun w hw => (by cases hw), .nil⟩, fun w hw => by cases hw⟩ with ⟨g2, _⟩ | ⟨_, s1⟩
        · exact absurd g2 g1
        · rcases Train_eq n m l (uni m l) hU hn (by omega) (u.1.toNat % 4 + u.2.toNat % 4) (by omega) (uni_good hv) with ⟨g2, _⟩ | ⟨_, w1⟩
          · exact absurd g2 g1
          · rw [s1, bind_some', chk_pos (by omega), w1]
            simp
    · simp [q3]
theorem law37_ModelStops_true (m : Model) (l : List Judged) (u : UInt8 × UInt8) (hs : szM m + (l.map szJ).sum ≤ 1048576) : law37_ModelStops 10000000 m l u = some true := Stops_main 10000000 (by omega) ex37 m l u hs
end Go.Proofs.YthgdajiipojnoaaDoor
