/- The search and its reference -/
import Derived.Test.YtdicfdfncbmmpaaGreatC1
import Derived.Test.YtdicfdfncbmmpaaGreatC2
namespace Go.Proofs.YtdicfdfncbmmpaaGreat
open Go.Gl
set_option linter.unusedVariables false
set_option linter.unusedSimpArgs false
theorem extend_L1_eq (n : Nat) (b : List Int) (k : List Int → Option (List (List Int))) : ∀ (t : List Int) (q i : Nat) (out : List Int), b.drop i = t → t.length < q → out.length + t.length ≤ 100000 → r42_extend_L1 n b k q out i = k (out ++ t)
  | [], q + 1, i, out, h, _, _ => by
    rw [r42_extend_L1, if_neg (drop_nil' h)]
    simp
  | x :: t, q + 1, i, out, h, hq, ho => by
    obtain ⟨h1, h2, h3⟩ := drop_cons h
    simp only [List.length_cons] at hq ho
    rw [r42_extend_L1, if_pos h1, h2, bind_some', chk_true (by simp; omega), extend_L1_eq n b k t q (i + 1) _ h3 (by omega) (by simp; omega)]
    simp
theorem extend_L2_eq (n : Nat) (k : List (List Int) → Option (List (List Int))) (r : List (List Int)) : ∀ (t : List (List Int)) (q i : Nat) (out : List (List Int)), r.drop i = t → t.length < q → out.length + t.length ≤ 10000000 → r42_extend_L2 n k r q out i = k (out ++ t)
  | [], q + 1, i, out, h, _, _ => by
    rw [r42_extend_L2, if_neg (drop_nil' h)]
    simp
  | x :: t, q + 1, i, out, h, hq, ho => by
    obtain ⟨h1, h2, h3⟩ := drop_cons h
    simp only [List.length_cons] at hq ho
    rw [r42_extend_L2, if_pos h1, h2, bind_some', chk_true (by simp; omega), extend_L2_eq n k r t q (i + 1) _ h3 (by omega) (by simp; omega)]
    simp
theorem extend_L0_eq (n : Nat) (m : MRS) (hn : 60000 ≤ n) (L : List Int) (hL : L.length ≤ 5) (b : List Int) (hb : b.length ≤ 100) (k : Nat) (hk : k ≤ 5) (N : Int) (W : List Int → Bool) (self : MRS → List Int → List Int → Int → Option (List (List Int))) (hs : ∀ x ∈ L, self m L (b ++ [x]) N = some ((lls L k (b ++ [x])).filter W)) : ∀ (t : List Int) (q i : Nat) (out : List (List Int)), L.drop i = t → t.length < q → out.length + 4000 * t.length ≤ 100000 →
    r42_extend_L0 n m L b N self q out i = some (out ++ (t.flatMap fun l => if l ∈ b then [] else lls L k (b ++ [l])).filter W)
  | [], q + 1, i, out, h, _, _ => by
    rw [r42_extend_L0, if_neg (drop_nil' h)]
    simp
  | x :: t, q + 1, i, out, h, hq, ho => by
    obtain ⟨h1, h2, h3⟩ := drop_cons h
    simp only [List.length_cons] at hq ho
    have hlen : ((lls L k (b ++ [x])).filter W).length ≤ 3125 := by
      have h4 := lls_len L k (b ++ [x])
      have h5 := List.length_filter_le W (lls L k (b ++ [x]))
      have : L.length ^ k ≤ 3125 := by
        calc L.length ^ k ≤ 5 ^ k := Nat.pow_le_pow_left hL _
          _ ≤ 5 ^ 5 := Nat.pow_le_pow_right (by decide) hk
          _ = 3125 := by decide
      omega
    rw [r42_extend_L0, if_pos h1]
    simp only [jn_def, h2, bind_some', r41_Has_eq n b x (show b.length < n by omega), List.flatMap_cons, List.filter_append]
    have ih := fun out' ho' => extend_L0_eq n m hn L hL b hb k hk N W self hs t q (i + 1) out' h3 (by omega) ho'
    by_cases hx : x ∈ b
    · rw [if_pos (by simp [hx]), if_pos hx, ih out (by omega)]
      simp
    · rw [if_neg (by simp [hx]), if_neg hx, extend_L1_eq n b _ b n 0 [] rfl (by omega) (by simp; omega)]
      simp only [List.nil_append]
      rw [chk_true (by simp; omega), hs x (List.mem_of_getElem? h2), bind_some', extend_L2_eq n _ _ _ n 0 out (List.drop_zero) (by omega) (by omega), ih _ (by rw [List.length_append]; omega)]
      simp
theorem extend_eq (m : MRS) (g : Good m) (L : List Int) (hL : L.length ≤ 5) : ∀ (k n : Nat) (b : List Int), k ≤ 6 → b.length + k ≤ 100 → 61000 + k ≤ n → r42_extend (n + 1) m L b ((b.length + k : Nat) : Int) = some ((lls L k b).filter (V m))
  | 0, n, b, _, _, hn => by
    rw [r42_extend, if_pos (by simp)]
    obtain ⟨e, h1, h2⟩ := r41_Valid_eq n m g (by omega) b
    obtain ⟨e', h1', h2'⟩ := scope_Valid_eq 100000 m g (by decide) b
    obtain rfl := h2.unique h2'
    have hV : V m b = decide (e = 0) := by
      unfold V
      rw [h1']
      simp
    rw [h1, bind_some']
    unfold lls
    rw [List.filter_cons, hV]
    by_cases he : e = 0
    · rw [if_pos he, if_pos (by simp [he]), chk_true (by simp)]
      rfl
    · rw [if_neg he, if_neg (by simp [he])]
      rfl
  | k + 1, n, b, hk, hb, hn => by
    obtain ⟨n, rfl⟩ : ∃ n', n = n' + 1 := ⟨n - 1, by omega⟩
    rw [r42_extend, if_neg (by omega), extend_L0_eq (n + 1) m (by omega) L hL b (by omega) k (by omega) _ (V m) (r42_extend (n + 1)) (fun x _ => by
      have := extend_eq m g L hL k n (b ++ [x]) (by omega) (by simp; omega) (by omega)
      rw [List.length_append, List.length_singleton, show b.length + 1 + k = b.length + (k + 1) by omega] at this
      exact this) L (n + 1) 0 [] rfl (by omega) (by simp; omega), List.nil_append]
    rfl
theorem Every_eq (m : MRS) (g : Good m) (h5 : m.Rels.length ≤ 5) (h6 : (hols m).length ≤ 6) : r42_Every 100000 m = some (Rs m) := by
  have := labs_len g
  unfold r42_Every
  rw [r41_Labels_eq 100000 m g (by decide), bind_some', r41_Holes_eq 100000 m g (by decide), bind_some']
  have := extend_eq m g (labs m) (by omega) (hols m).length 99999 [] h6 (by simp; omega) (by omega)
  rw [List.length_nil, Nat.zero_add] at this
  rw [this]
  rfl
theorem rAll_eq (m : MRS) (g : Good m) (h5 : m.Rels.length ≤ 5) (most : Int) (hm : 0 ≤ most) : r42_All 100000 m most = some (if 6 < (hols m).length then ([], false, 7) else if 0 < most ∧ most < ((Rs m).length : Int) then ((Rs m).take most.toNat, true, 0) else (Rs m, false, 0)) := by
  unfold r42_All
  rw [if_neg (by omega), r41_Holes_eq 100000 m g (by decide), bind_some']
  by_cases h6 : 6 < (hols m).length
  · rw [if_pos h6, if_pos h6]
  · rw [if_neg h6, if_neg h6, Every_eq m g h5 (by omega), bind_some']
    simp only [jn_def]
    by_cases h0 : 0 < most
    · rw [if_pos h0]
      by_cases h1 : most < ((Rs m).length : Int)
      · rw [if_pos (by simp [h1]), if_pos ⟨h0, h1⟩, chk_true hm, chk_true (by omega)]
      · rw [if_neg (by simp [h1]), if_neg (fun h => h1 h.2)]
    · rw [if_neg h0, if_neg (by simp), if_neg (fun h => h0 h.1)]
theorem law42_SolveAll_true (m : MRS) (most : Int) : law42_SolveAll 100000 m most = some true := by
  unfold law42_SolveAll
  obtain ⟨b, h1, h2⟩ := valid42 m
  rw [h1, bind_some', ex42]
  by_cases hb : b = true
  · obtain ⟨g, _, h5⟩ := h2 hb
    rw [if_neg (by simp [hb])]
    by_cases hm : most < 0
    · have e1 : solve_All 100000 m most = some ([], false, 2) := by unfold solve_All; rw [if_pos hm]
      have e2 : r42_All 100000 m most = some ([], false, 2) := by unfold r42_All; rw [if_pos hm]
      rw [e1, e2]
      simp only [bind_some', if_true, BEq.rfl]
      rw [r42_Same_self 100000 [] (by simp) (by simp)]
      rfl
    · rw [All_eq m g most (by omega), rAll_eq m g h5 most (by omega)]
      simp only [bind_some', if_true, BEq.rfl]
      have hlen : 6 < (hols m).length ∨ (Rs m).length ≤ 46656 := by
        rcases Nat.lt_or_ge 6 (hols m).length with h | h
        · exact .inl h
        · exact .inr (Rs_len g h)
      rw [r42_Same_self]
      · rfl
      · intro x hx
        split at hx
        · simp at hx
        · rename_i h6
          have hp := Rs_plen (m := m) (by omega)
          split at hx
          · have := hp x (List.mem_of_mem_take hx); omega
          · have := hp x hx; omega
      · split
        · simp
        · rename_i h6
          have := Rs_len g (by omega)
          split
          · rw [List.length_take]; omega
          · show (Rs m).length < _; omega
  · rw [if_pos (by simp [hb])]
    rfl
theorem rFirst_eq (m : MRS) (g : Good m) (h5 : m.Rels.length ≤ 5) : r42_First 100000 m = some (if 6 < (hols m).length then (([] : List Int), (7 : Int)) else match Rs m with | [] => (([] : List Int), (18 : Int)) | p :: _ => (p, (0 : Int))) := by
  unfold r42_First
  rw [rAll_eq m g h5 0 (by decide), bind_some']
  by_cases h6 : 6 < (hols m).length
  · simp [h6]
  · simp only [h6, if_false]
    have z0 : ¬ ((0 : Int) < 0 ∧ (0 : Int) < ((Rs m).length : Int)) := fun h => by have := h.1; omega
    rw [if_neg z0]
    cases hR : Rs m with
    | nil => simp
    | cons p t => simp
theorem rCount_eq (m : MRS) (g : Good m) (h5 : m.Rels.length ≤ 5) : r42_Count 100000 m = some (if 6 < (hols m).length then (0, 7) else (((Rs m).length : Int), 0)) := by
  unfold r42_Count
  rw [rAll_eq m g h5 0 (by decide), bind_some']
  by_cases h6 : 6 < (hols m).length
  · simp [h6]
  · simp [h6]
theorem law42_SolveFirst_true (m : MRS) : law42_SolveFirst 100000 m = some true := by
  unfold law42_SolveFirst
  obtain ⟨b, h1, h2⟩ := valid42 m
  rw [h1, bind_some', ex42]
  by_cases hb : b = true
  · obtain ⟨g, _, h5⟩ := h2 hb
    rw [if_neg (by simp [hb]), First_eq m g, rFirst_eq m g h5, Count_eq m g, rCount_eq m g h5]
    by_cases h6 : 6 < (hols m).length
    · simp only [h6, if_true, bind_some']
      rw [r41_Same_eq 100000 [] [] (by simp)]
      simp
    · simp only [h6, if_false, bind_some']
      have hp := Rs_plen (m := m) (by omega)
      cases hR : Rs m with
      | nil =>
        simp only [if_true]
        rw [r41_Same_eq 100000 [] [] (by simp)]
        simp
      | cons p t =>
        have := hp p (by rw [hR]; simp)
        simp only [if_true]
        rw [r41_Same_eq 100000 p p (by omega)]
        simp
  · rw [if_pos (by simp [hb])]
    rfl
end Go.Proofs.YtdicfdfncbmmpaaGreat

