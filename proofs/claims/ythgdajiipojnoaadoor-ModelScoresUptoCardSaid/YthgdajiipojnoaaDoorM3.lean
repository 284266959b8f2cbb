/- Chapter 37: plain laws of derivations' features -/
import Derived.Test.YthgdajiipojnoaaDoorM2
namespace Go.Proofs.YthgdajiipojnoaaDoor
open Go.Gl Go.Sort
set_option linter.unusedVariables false
set_option linter.unusedSimpArgs false
/-! features of derivations -/
def js (l : List (List UInt8)) : List UInt8 := (l.map fun x => 32 :: x).flatten
def jo : List (List UInt8) → List UInt8
  | [] => []
  | x :: t => x ++ js t
def tr (nm : List UInt8) : List Deriv → List (List UInt8)
  | [] => []
  | d :: t => [nm ++ 62 :: jo ((d :: t).map (·.Name))]
mutual
def ftD : Deriv → List (List UInt8)
  | ⟨_, nm, _, _, ks⟩ => nm :: (tr nm ks ++ ftL ks)
def ftL : List Deriv → List (List UInt8)
  | [] => []
  | d :: r => ftD d ++ ftL r
end
theorem ftD_eq (d : Deriv) : ftD d = d.Name :: (tr d.Name d.Kids ++ ftL d.Kids) := by cases d; rfl
theorem szD_eq (d : Deriv) : szD d = d.Name.length + szL d.Kids + 1 := by cases d; rfl
theorem szL_cons (d : Deriv) (r : List Deriv) : szL (d :: r) = szD d + szL r := rfl
theorem szD_pos (d : Deriv) : 1 ≤ szD d := by rw [szD_eq]; omega
theorem szL_mem : ∀ {l : List Deriv} {d : Deriv}, d ∈ l → szD d ≤ szL l
  | x :: l, d, h => by
    rw [szL_cons]
    rcases List.mem_cons.1 h with rfl | h
    · omega
    · have := szL_mem h; omega
theorem szL_len : ∀ l : List Deriv, l.length ≤ szL l
  | [] => Nat.zero_le _
  | d :: r => by
    have := szL_len r
    have := szD_pos d
    rw [szL_cons, List.length_cons]; omega
theorem tr_len (nm : List UInt8) (ks : List Deriv) : (tr nm ks).length ≤ ks.length := by
  cases ks <;> simp [tr]
mutual
theorem ftD_len : ∀ d : Deriv, (ftD d).length ≤ 2 * szD d
  | ⟨a, nm, b, c, ks⟩ => by
    have h1 := ftL_len ks
    have h2 := tr_len nm ks
    have h3 := szL_len ks
    show (nm :: (tr nm ks ++ ftL ks)).length ≤ 2 * (nm.length + szL ks + 1)
    cases ks with
    | nil => simp [tr, ftL]; omega
    | cons x t =>
      rw [List.length_cons, List.length_append]
      have : (tr nm (x :: t)).length = 1 := rfl
      omega
theorem ftL_len : ∀ l : List Deriv, (ftL l).length ≤ 2 * szL l
  | [] => by simp [ftL]
  | d :: r => by
    have h1 := ftD_len d
    have h2 := ftL_len r
    show (ftD d ++ ftL r).length ≤ 2 * (szD d + szL r)
    rw [List.length_append]; omega
end
theorem join_jo : ∀ l : List (List UInt8), Lib.join l [32] = jo l
  | [] => rfl
  | x :: t => (Lib.join_cons x t [32]).trans rfl
theorem js_len : ∀ l : List Deriv, (js (l.map (·.Name))).length ≤ szL l
  | [] => by simp [js]
  | d :: r => by
    have := js_len r
    have h2 := szD_eq d
    unfold js at *
    rw [List.map_cons, List.map_cons, List.flatten_cons, List.length_append, szL_cons, List.length_cons]
    omega
theorem jo_len (l : List Deriv) : (jo (l.map (·.Name))).length ≤ szL l := by
  cases l with
  | nil => simp [jo]
  | cons d r =>
    have := js_len r
    have h2 := szD_eq d
    rw [List.map_cons, jo, List.length_append, szL_cons]
    omega
theorem Feat_L0 (n : Nat) (d : Deriv) (k : List (List UInt8) → Option (List (List UInt8))) : ∀ (t : List Deriv) (m i : Nat) (nms : List (List UInt8)), d.Kids.drop i = t → t.length < m → nms.length + t.length ≤ 100000000 → model_Features_L0 n d k m nms i = k (nms ++ t.map (·.Name))
  | [], m + 1, i, nms, h, _, _ => by rw [model_Features_L0, if_neg (drop_nil' h)]; simp
  | x :: t, m + 1, i, nms, h, hm, hb => by
    obtain ⟨h1, h2, h3⟩ := drop_cons h
    rw [List.length_cons] at hb
    rw [model_Features_L0, if_pos h1, h2, bind_some', chk_pos (by rw [List.length_singleton]; omega), Feat_L0 n d k t m (i + 1) _ h3 (by simpa using hm) (by rw [List.length_append, List.length_singleton]; omega)]
    simp
theorem Feat_L1 (n : Nat) (d : Deriv) (sf : Deriv → Option (List (List UInt8))) (hsf : ∀ x ∈ d.Kids, sf x = some (ftD x)) : ∀ (t : List Deriv) (m i : Nat) (out : List (List UInt8)), d.Kids.drop i = t → t.length < m → out.length + (ftL t).length ≤ 100000000 → model_Features_L1 n d sf m out i = some (out ++ ftL t)
  | [], m + 1, i, out, h, _, _ => by rw [model_Features_L1, if_neg (drop_nil' h)]; simp [ftL]
  | x :: t, m + 1, i, out, h, hm, hb => by
    obtain ⟨h1, h2, h3⟩ := drop_cons h
    have e : ftL (x :: t) = ftD x ++ ftL t := rfl
    rw [e, List.length_append] at hb
    rw [model_Features_L1, if_pos h1, h2, bind_some', hsf x (List.mem_of_getElem? h2), bind_some', chk_pos (by omega), Feat_L1 n d sf hsf t m (i + 1) _ h3 (by simpa using hm) (by rw [List.length_append]; omega), e, List.append_assoc]
theorem Features_p : ∀ (n : Nat) (d : Deriv), szD d < n → szD d ≤ 1048576 → model_Features n d = some (ftD d)
  | 0, d, h, _ => by omega
  | n + 1, d, h, hb => by
    have h0 := szD_eq d
    have h1 := szL_len d.Kids
    have h2 := ftL_len d.Kids
    have h3 := jo_len d.Kids
    have hsf : ∀ x ∈ d.Kids, model_Features n x = some (ftD x) := fun x hx => by
      have := szL_mem hx
      exact Features_p n x (by omega) (by omega)
    rw [model_Features, jn_def, ftD_eq]
    cases hk : d.Kids with
    | nil =>
      rw [hk] at h2
      rw [if_neg (by simp)]
      dsimp only
      rw [Feat_L1 n d _ hsf [] n 0 [d.Name] (by rw [hk]; rfl) (by simp; omega) (by simp [ftL])]
      rfl
    | cons x t =>
      have e0 : d.Kids.drop 0 = d.Kids := rfl
      rw [if_pos (by simp), jn_def, Feat_L0 n d _ d.Kids n 0 [] rfl (by omega) (by simp; omega), List.nil_append]
      have hj : strings_Join n (d.Kids.map (·.Name)) [32] = some (jo (d.Kids.map (·.Name))) := by
        unfold strings_Join
        rw [join_jo, chk_pos ⟨by rw [List.length_map]; omega, by omega⟩]
      have e1 : (d.Name ++ [62] ++ jo (d.Kids.map (·.Name))) = d.Name ++ 62 :: jo (d.Kids.map (·.Name)) := by simp
      rw [chk_pos (by rw [List.length_singleton]; omega), hj, bind_some', chk_pos (by rw [List.length_append, List.length_singleton]; omega), chk_pos (by simp), e1]
      dsimp only
      rw [Feat_L1 n d _ hsf d.Kids n 0 _ rfl (by omega) (by simp; omega), ← hk]
      have e2 : tr d.Name d.Kids = [d.Name ++ 62 :: jo (d.Kids.map (·.Name))] := by rw [hk]; rfl
      rw [e2]
      simp
theorem rFeat_L0 (n : Nat) (d : Deriv) (k : List UInt8 → Option (List (List UInt8))) : ∀ (t : List Deriv) (m i : Nat) (s : List UInt8), d.Kids.drop i = t → t.length < m → s.length + szL t ≤ 100000000 → r37_Features_L0 n d k m s i = k (s ++ if i = 0 then jo (t.map (·.Name)) else js (t.map (·.Name)))
  | [], m + 1, i, s, h, _, _ => by
    rw [r37_Features_L0, if_neg (drop_nil' h)]
    simp [jo, js]
  | x :: t, m + 1, i, s, h, hm, hb => by
    obtain ⟨h1, h2, h3⟩ := drop_cons h
    have h0 := szD_eq x
    rw [szL_cons] at hb
    rw [r37_Features_L0, if_pos h1, jn_def]
    by_cases i0 : 0 < i
    · rw [if_pos i0, chk_pos (by rw [List.length_singleton]; omega)]
      dsimp only
      rw [h2, bind_some', chk_pos (by rw [List.length_append, List.length_singleton]; omega), rFeat_L0 n d k t m (i + 1) _ h3 (by simpa using hm) (by rw [List.length_append, List.length_append, List.length_singleton]; omega), if_neg (by omega), if_neg (by omega)]
      simp [js]
    · rw [if_neg i0]
      dsimp only
      rw [h2, bind_some', chk_pos (by omega), rFeat_L0 n d k t m (i + 1) _ h3 (by simpa using hm) (by rw [List.length_append]; omega), if_neg (by omega), if_pos (by omega)]
      simp [jo]
theorem rFeat_L2 (n : Nat) (k : List (List UInt8) → Option (List (List UInt8))) (l : List (List UInt8)) : ∀ (t : List (List UInt8)) (m i : Nat) (out : List (List UInt8)), l.drop i = t → t.length < m → out.length + t.length ≤ 100000000 → r37_Features_L2 n k l m out i = k (out ++ t)
  | [], m + 1, i, out, h, _, _ => by rw [r37_Features_L2, if_neg (drop_nil' h)]; simp
  | x :: t, m + 1, i, out, h, hm, hb => by
    obtain ⟨h1, h2, h3⟩ := drop_cons h
    rw [List.length_cons] at hb
    rw [r37_Features_L2, if_pos h1, h2, bind_some', chk_pos (by rw [List.length_singleton]; omega), rFeat_L2 n k l t m (i + 1) _ h3 (by simpa using hm) (by rw [List.length_append, List.length_singleton]; omega)]
    simp
theorem rFeat_L1 (n : Nat) (hn : 5000000 ≤ n) (d : Deriv) (sf : Deriv → Option (List (List UInt8))) (hsf : ∀ x ∈ d.Kids, sf x = some (ftD x)) : ∀ (t : List Deriv) (m i : Nat) (out : List (List UInt8)), d.Kids.drop i = t → t.length < m → out.length + (ftL t).length ≤ 4000000 → r37_Features_L1 n d sf m out i = some (out ++ ftL t)
  | [], m + 1, i, out, h, _, _ => by rw [r37_Features_L1, if_neg (drop_nil' h)]; simp [ftL]
  | x :: t, m + 1, i, out, h, hm, hb => by
    obtain ⟨h1, h2, h3⟩ := drop_cons h
    have e : ftL (x :: t) = ftD x ++ ftL t := rfl
    rw [e, List.length_append] at hb
    rw [r37_Features_L1, if_pos h1, jn_def, h2, bind_some', hsf x (List.mem_of_getElem? h2), bind_some', rFeat_L2 n _ (ftD x) (ftD x) n 0 out rfl (by omega) (by omega), rFeat_L1 n hn d sf hsf t m (i + 1) _ h3 (by simpa using hm) (by rw [List.length_append]; omega), e, List.append_assoc]
theorem Features_r : ∀ (n : Nat) (d : Deriv), 5000000 + szD d < n → szD d ≤ 1048576 → r37_Features n d = some (ftD d)
  | 0, d, h, _ => by omega
  | n + 1, d, h, hb => by
    have h0 := szD_eq d
    have h1 := szL_len d.Kids
    have h2 := ftL_len d.Kids
    have h3 := jo_len d.Kids
    have hsf : ∀ x ∈ d.Kids, r37_Features n x = some (ftD x) := fun x hx => by
      have := szL_mem hx
      exact Features_r n x (by omega) (by omega)
    rw [r37_Features, jn_def, ftD_eq]
    cases hk : d.Kids with
    | nil =>
      rw [if_neg (by simp)]
      dsimp only
      rw [rFeat_L1 n (by omega) d _ hsf [] n 0 [d.Name] (by rw [hk]; rfl) (by simp; omega) (by simp [ftL])]
      rfl
    | cons x t =>
      rw [if_pos (by simp), chk_pos (by rw [List.length_singleton]; omega), jn_def, rFeat_L0 n d _ d.Kids n 0 _ rfl (by omega) (by rw [List.length_append, List.length_singleton]; omega), if_pos rfl]
      have e1 : (d.Name ++ [62] ++ jo (d.Kids.map (·.Name))) = d.Name ++ 62 :: jo (d.Kids.map (·.Name)) := by simp
      dsimp only
      rw [chk_pos (by simp), e1, rFeat_L1 n (by omega) d _ hsf d.Kids n 0 _ rfl (by omega) (by simp; omega), ← hk]
      have e2 : tr d.Name d.Kids = [d.Name ++ 62 :: jo (d.Kids.map (·.Name))] := by rw [hk]; rfl
      rw [e2]
      simp
theorem Nodes_L0 (n : Nat) (d : Deriv) (most : Int) (hm0 : most ≤ 1000000000) (sf : Deriv → Int → Option Int) (hsf : ∀ x ∈ d.Kids, ∀ z : Int, z ≤ 1000000000 → ∃ v, sf x z = some v ∧ 1 ≤ v ∧ v ≤ (szD x : Int)) : ∀ (t : List Deriv) (m i : Nat) (a : Int), d.Kids.drop i = t → t.length < m → 1 ≤ a → a + (szL t : Int) ≤ 100000000 → i + t.length ≤ 100000000 → ∃ v, r37_Nodes_L0 n d most sf m a i = some v ∧ a ≤ v ∧ v ≤ a + (szL t : Int)
  | [], m + 1, i, a, h, _, ha, _, _ => by
    rw [r37_Nodes_L0, jn_def, if_neg (drop_nil' h)]
    exact ⟨a, rfl, Int.le_refl _, by omega⟩
  | x :: t, m + 1, i, a, h, hm, ha, hb, hi => by
    obtain ⟨h1, h2, h3⟩ := drop_cons h
    rw [szL_cons] at hb ⊢
    rw [List.length_cons] at hi
    rw [r37_Nodes_L0, jn_def, if_pos h1]
    by_cases q : a < most
    · obtain ⟨v, v1, v2, v3⟩ := hsf x (List.mem_of_getElem? h2) (most - a) (by omega)
      obtain ⟨w, w1, w2, w3⟩ := Nodes_L0 n d most hm0 sf hsf t m (i + 1) (a + v) h3 (by simpa using hm) (by omega) (by omega) (by omega)
      simp only [q, decide_true, if_true, h2, bind_some', v1]
      rw [chk_pos (by omega), chk_pos (by omega), chk_pos (by omega), w1]
      exact ⟨w, rfl, by omega, by omega⟩
    · simp only [q, decide_false, Bool.false_eq_true, if_false]
      exact ⟨a, rfl, Int.le_refl _, by omega⟩
theorem Nodes_some : ∀ (n : Nat) (d : Deriv) (most : Int), szD d < n → szD d ≤ 1048576 → most ≤ 1000000000 → ∃ v, r37_Nodes n d most = some v ∧ 1 ≤ v ∧ v ≤ (szD d : Int)
  | 0, d, _, h, _, _ => by omega
  | n + 1, d, most, h, hb, hm => by
    have h0 := szD_eq d
    have h1 := szL_len d.Kids
    obtain ⟨v, v1, v2, v3⟩ := Nodes_L0 n d most hm (r37_Nodes n) (fun x hx z hz => by
      have := szL_mem hx
      exact Nodes_some n x z (by omega) (by omega) hz) d.Kids n 0 1 rfl (by omega) (Int.le_refl _) (by omega) (by omega)
    rw [r37_Nodes]
    exact ⟨v, v1, v2, by omega⟩
theorem FeatLaw_L0 (n : Nat) (l : List (List UInt8)) (k : Option Bool) : ∀ (t : List (List UInt8)) (m i : Nat), l.drop i = t → t.length < m → law37_ModelFeatures_L0 n l l k m i = k
  | [], m + 1, i, h, _ => by rw [law37_ModelFeatures_L0, if_neg (drop_nil' h)]
  | x :: t, m + 1, i, h, hm => by
    obtain ⟨h1, h2, h3⟩ := drop_cons h
    rw [law37_ModelFeatures_L0, if_pos h1, h2, bind_some', bind_some', if_neg (by simp), FeatLaw_L0 n l k t m (i + 1) h3 (by simpa using hm)]
theorem Features_main (n : Nat) (hn : 7000000 ≤ n) (hex : law37_exampleHolds n = some true) (d : Deriv) (hs : szD d ≤ 1048576) : law37_ModelFeatures n d = some true := by
  have hl := ftD_len d
  obtain ⟨v, v1, _⟩ := Nodes_some n d 61 (by omega) hs (by omega)
  unfold law37_ModelFeatures
  rw [v1, hex, Features_p n d (by omega) hs, Features_r n d (by omega) hs]
  simp only [bind_some', ne_eq, not_true, if_false, jn_def]
  rw [FeatLaw_L0 n (ftD d) _ (ftD d) n 0 rfl (by omega)]
  split <;> rfl
theorem law37_ModelFeatures_true (d : Deriv) (hs : szD d ≤ 1048576) : law37_ModelFeatures 10000000 d = some true := Features_main 10000000 (by omega) ex37 d hs
end Go.Proofs.YthgdajiipojnoaaDoor
