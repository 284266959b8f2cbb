/- The search -/
import Derived.Test.YtdicfdfncbmmpaaGreatB5
import Derived.Test.YtdicfdfncbmmpaaGreatB6
namespace Go.Proofs.YtdicfdfncbmmpaaGreat
open Go.Gl
set_option linter.unusedVariables false
set_option linter.unusedSimpArgs false
theorem any_free_eq (n : Nat) (m : MRS) (g : Good m) (hn : 1000 ≤ n) (v : Int) : slices_ContainsFunc_EP n m.Rels (fun p => solve_free_1 n p v) = some (decide (isArg m v)) := by
  have := g.nr
  rw [ContainsFunc_EP_eq n m.Rels (fun p => solve_free_1 n p v) (fun x => ∃ a ∈ x.Args, a.Var = v) (fun x hx => by
    unfold solve_free_1
    have := g.na x hx
    rw [ContainsFunc_Arg_eq n x.Args (fun p => solve_free_1_1 n p v) (fun a => a.Var = v) (fun a => rfl) (by omega)]
    rfl) (by omega)]
  rfl
theorem solve_free_L0_eq (n : Nat) (m : MRS) (g : Good m) (hn : 1000 ≤ n) : ∀ (t : List Int) (q i : Nat) (out : List Int), (labs m).drop i = t → t.length < q → out.length ≤ i → solve_free_L0 n m (labs m) q out i = some (out ++ t.filter fun l => decide (isFree m l))
  | [], q + 1, i, out, h, _, _ => by
    rw [solve_free_L0, if_neg (drop_nil' h)]
    simp
  | x :: t, q + 1, i, out, h, hq, ho => by
    obtain ⟨h1, h2, h3⟩ := drop_cons h
    have := labs_len g; have := g.nr
    simp only [List.length_cons] at hq
    rw [solve_free_L0, if_pos h1]
    simp only [h2, bind_some', any_free_eq n m g hn, jn_def, List.filter_cons]
    have ih1 := solve_free_L0_eq n m g hn t q (i + 1) out h3 (by omega) (by omega)
    have ih2 := solve_free_L0_eq n m g hn t q (i + 1) (out ++ [x]) h3 (by omega) (by simp; omega)
    rw [ih1, ih2, chk_true (by simp; omega)]
    by_cases a1 : isArg m x
    · have : ¬ isFree m x := fun h => h.1 a1
      simp [a1, this]
    · by_cases a2 : x = m.Top
      · have : ¬ isFree m x := fun h => h.2 a2
        rw [if_pos (by simp [a1]), if_neg (by simp [a2]), if_neg (by simp [this])]
      · have : isFree m x := ⟨a1, a2⟩
        simp [a1, a2, this]
theorem solve_free_eq (n : Nat) (m : MRS) (g : Good m) (hn : 1000 ≤ n) : solve_free n m = some (fre m) := by
  have := labs_len g; have := g.nr
  unfold solve_free
  rw [scope_Labels_eq n m g hn, bind_some', solve_free_L0_eq n m g hn (labs m) n 0 [] rfl (by omega) (by simp)]
  rfl
def OKP (m : MRS) (p : List Int) : Prop := ArgP m p ∧ FormP m p ∧ ScopeP m p
def V (m : MRS) (p : List Int) : Bool := decide (scope_Valid 100000 m p = some 0)
theorem V_iff {m : MRS} (g : Good m) (p : List Int) : V m p = true ↔ OKP m p := by
  unfold V
  rw [decide_eq_true_eq]
  obtain ⟨e, h1, h2⟩ := scope_Valid_eq 100000 m g (by decide) p
  rw [h1]
  constructor
  · intro h
    obtain rfl := Option.some.inj h
    rcases h2 with ⟨_, h⟩ | ⟨_, _, h⟩ | ⟨_, _, _, h⟩ | ⟨a, b, c, _⟩
    · cases h
    · cases h
    · cases h
    · exact ⟨a, b, c⟩
  · rintro ⟨a, b, c⟩
    rw [h2.unique (.inr (.inr (.inr ⟨a, b, c, rfl⟩)))]
theorem search_L0_eq (m : MRS) (g : Good m) (most : Int) (k : List (List Int) → Bool → Option (List (List Int) × Bool × Int)) : ∀ (t : List (List Int)) (a : List Int) (q : Nat) (out : List (List Int)), chain 100000 (a :: t) → t.length < q → out.length + t.length ≤ 90000 → (∀ p ∈ a :: t, p.length ≤ 1000) → (0 < most → (out.length : Int) ≤ most) →
    solve_search_L0 100000 m most k q a out = if 0 < most ∧ most < ((out ++ (a :: t).filter (V m)).length : Int) then k ((out ++ (a :: t).filter (V m)).take most.toNat) true else k (out ++ (a :: t).filter (V m)) false
  | t, a, 0, out, _, h, _, _, _ => by omega
  | t, a, q + 1, out, hch, hq, ho, hp, hm => by
    rw [solve_search_L0]
    obtain ⟨e, h1, h2⟩ := scope_Valid_eq 100000 m g (by decide) a
    have hVa : V m a = decide (e = 0) := by
      unfold V
      rw [h1]
      simp
    have hcl : slices_Clone_int 100000 a = some a := by
      unfold slices_Clone_int
      have := hp a (by simp)
      rw [chk_true (by omega)]
    simp only [jn_def]
    rw [h1, bind_some']
    -- what follows a list
    have step : ∀ out' : List (List Int), out'.length ≤ out.length + 1 → (0 < most → (out'.length : Int) ≤ most) → ((solve_next 100000 a).bind fun r57 => if (!(r57.1)) = true then k out' false else solve_search_L0 100000 m most k q r57.2 out') = if 0 < most ∧ most < ((out' ++ t.filter (V m)).length : Int) then k ((out' ++ t.filter (V m)).take most.toNat) true else k (out' ++ t.filter (V m)) false := by
      intro out' hl hm'
      cases t with
      | nil =>
        have hc : solve_next 100000 a = some (false, a) := hch
        rw [hc, bind_some', if_pos (by simp)]
        rw [if_neg (fun h => by have := hm' h.1; have h2 := h.2; simp at h2; omega)]
        simp
      | cons b t =>
        have hc : solve_next 100000 a = some (true, b) := hch.1
        simp only [List.length_cons] at hq ho
        rw [hc, bind_some', if_neg (by simp), search_L0_eq m g most k t b q out' hch.2 (by omega) (by omega) (fun p h => hp p (by simp only [List.mem_cons] at h ⊢; exact .inr h)) hm']
    by_cases he : e = 0
    · have hV : V m a = true := by rw [hVa]; simp [he]
      rw [if_pos he, hcl, bind_some', chk_true (by simp; omega), List.filter_cons, if_pos hV]
      have hs := step (out ++ [a]) (by simp)
      by_cases hmo : 0 < most
      · rw [if_pos hmo]
        by_cases hlen : ((out.length : Nat) : Int) = most
        · rw [if_pos (by simp [hlen]), if_pos ⟨hmo, by simp; omega⟩]
          have : most.toNat = out.length := by omega
          rw [this]
          simp
        · rw [if_neg (by simp [hlen]), hs (fun _ => by have := hm hmo; simp; omega)]
          simp
      · rw [if_neg hmo, if_neg (by simp), hs (fun h => absurd h hmo)]
        simp
    · have hV : ¬ V m a = true := by rw [hVa]; simp [he]
      rw [if_neg he, List.filter_cons, if_neg hV, step out (by omega) hm]
/-- all valid pluggings, in order -/
def Rs (m : MRS) : List (List Int) := (lls (labs m) (hols m).length []).filter (V m)
theorem Rs_fre {m : MRS} (g : Good m) : Rs m = (lls (fre m) (hols m).length []).filter (V m) := by
  unfold Rs
  rw [lls_filter (labs m) (fun l => decide (isFree m l)) (V m) (fun p hp x hx => ?_)]
  · rfl
  · obtain ⟨a, b, _⟩ := (V_iff g p).1 hp
    have := (valid_fre g a b x).1 hx
    exact (List.mem_filter.1 this).2
theorem Rs_nil {m : MRS} (g : Good m) (h : (fre m).length ≠ (hols m).length) : Rs m = [] := by
  unfold Rs
  rw [List.filter_eq_nil_iff]
  intro p _ hp
  obtain ⟨a, b, _⟩ := (V_iff g p).1 hp
  exact h (valid_len g a b)
theorem search_eq (m : MRS) (g : Good m) (most : Int) : solve_search 100000 m most = some (if 6 < (hols m).length then ([], false, 7) else if 0 < most ∧ most < ((Rs m).length : Int) then ((Rs m).take most.toNat, true, 0) else (Rs m, false, 0)) := by
  unfold solve_search
  rw [scope_Holes_eq 100000 m g (by decide), bind_some']
  by_cases h6 : 6 < (hols m).length
  · rw [if_pos h6, if_pos h6]
  · rw [if_neg h6, if_neg h6, solve_free_eq 100000 m g (by decide), bind_some']
    by_cases hl : (fre m).length = (hols m).length
    · rw [if_neg (by simp [hl])]
      simp only [jn_def]
      obtain ⟨hc, hh⟩ := chain_sorted (fre m) (fre_sorted m) (by omega)
      obtain ⟨a, t, hat⟩ : ∃ a t, lls (fre m) (fre m).length [] = a :: t := by
        cases hx : lls (fre m) (fre m).length [] with
        | nil => rw [hx] at hh; cases hh
        | cons a t => exact ⟨a, t, rfl⟩
      rw [hat] at hc hh
      have ha : a = fre m := by simpa using hh
      have hlen := lls_len (fre m) (fre m).length []
      rw [hat, List.length_cons] at hlen
      have hpow : (fre m).length ^ (fre m).length ≤ 46656 := by
        have h1 : (fre m).length ≤ 6 := by omega
        calc (fre m).length ^ (fre m).length ≤ 6 ^ (fre m).length := Nat.pow_le_pow_left h1 _
          _ ≤ 6 ^ 6 := Nat.pow_le_pow_right (by decide) h1
          _ = 46656 := by decide
      rw [ha] at hc hat
      rw [search_L0_eq m g most _ t (fre m) 100000 [] hc (by omega) (by simp; omega) (fun p hp => by
        have := lls_plen (fre m) (fre m).length [] p (by rw [hat]; exact hp)
        simp at this; omega) (fun h => by simp; omega)]
      have e : (fre m :: t).filter (V m) = Rs m := by rw [Rs_fre g, ← hat, hl]
      rw [List.nil_append, e]
      split <;> rfl
    · rw [if_pos (by simp [hl]), Rs_nil g hl]
      have : ¬ (0 < most ∧ most < (([] : List (List Int)).length : Int)) := fun h => by have := h.1; have := h.2; simp at this; omega
      rw [if_neg this]
theorem All_eq (m : MRS) (g : Good m) (most : Int) (hm : 0 ≤ most) : solve_All 100000 m most = some (if 6 < (hols m).length then ([], false, 7) else if 0 < most ∧ most < ((Rs m).length : Int) then ((Rs m).take most.toNat, true, 0) else (Rs m, false, 0)) := by
  unfold solve_All
  rw [if_neg (by omega), search_eq m g most]
  rfl
theorem r41_Same_L0_eq (n : Nat) (a b : List Int) (hab : a.length = b.length) : ∀ (t : List Int) (m i : Nat), a.drop i = t → t.length < m → r41_Same_L0 n a b m i = some (decide (t = b.drop i))
  | [], m + 1, i, h, _ => by
    have := drop_nil' h
    rw [r41_Same_L0, if_neg this, List.drop_of_length_le (by omega)]
    simp
  | x :: t, m + 1, i, h, hm => by
    obtain ⟨h1, h2, h3⟩ := drop_cons h
    rcases hbd : b.drop i with _ | ⟨y, u⟩
    · exact absurd (drop_nil' hbd) (by omega)
    obtain ⟨k1, k2, k3⟩ := drop_cons hbd
    rw [r41_Same_L0, if_pos h1, h2, k2]
    simp only [bind_some']
    rw [r41_Same_L0_eq n a b hab t m (i + 1) h3 (by simpa using hm), k3]
    by_cases hx : x = y
    · simp [hx]
    · simp [hx]
theorem r41_Same_eq (n : Nat) (a b : List Int) (hn : a.length < n) : r41_Same n a b = some (decide (a = b)) := by
  unfold r41_Same
  by_cases h : a.length = b.length
  · rw [if_neg (by simp [h]), r41_Same_L0_eq n a b h a n 0 rfl (by omega)]
    rfl
  · have : a ≠ b := fun e => h (by rw [e])
    simp [h, this]
theorem r42_Same_L0_eq (n : Nat) (a : List (List Int)) (ha : ∀ x ∈ a, x.length < n) : ∀ (t : List (List Int)) (m i : Nat), a.drop i = t → t.length < m → r42_Same_L0 n a a m i = some true
  | [], m + 1, i, h, _ => by
    rw [r42_Same_L0, if_neg (drop_nil' h)]
  | x :: t, m + 1, i, h, hm => by
    obtain ⟨h1, h2, h3⟩ := drop_cons h
    rw [r42_Same_L0, if_pos h1, h2]
    simp only [bind_some', r41_Same_eq n x x (ha x (List.mem_of_getElem? h2))]
    rw [r42_Same_L0_eq n a ha t m (i + 1) h3 (by simpa using hm)]
    simp
theorem r42_Same_self (n : Nat) (a : List (List Int)) (ha : ∀ x ∈ a, x.length < n) (hn : a.length < n) : r42_Same n a a = some true := by
  unfold r42_Same
  rw [if_neg (by simp), r42_Same_L0_eq n a ha a n 0 rfl hn]
theorem Rs_len {m : MRS} (g : Good m) (h6 : (hols m).length ≤ 6) : (Rs m).length ≤ 46656 := by
  by_cases hl : (fre m).length = (hols m).length
  · rw [Rs_fre g]
    have h1 := List.length_filter_le (V m) (lls (fre m) (hols m).length [])
    have h2 := lls_len (fre m) (hols m).length []
    have h3 : (fre m).length ^ (hols m).length ≤ 46656 := by
      rw [hl]
      calc (hols m).length ^ (hols m).length ≤ 6 ^ (hols m).length := Nat.pow_le_pow_left h6 _
        _ ≤ 6 ^ 6 := Nat.pow_le_pow_right (by decide) h6
        _ = 46656 := by decide
    omega
  · rw [Rs_nil g hl]; simp
theorem Rs_plen {m : MRS} (h6 : (hols m).length ≤ 6) : ∀ p ∈ Rs m, p.length ≤ 6 := fun p hp => by
  have := lls_plen _ _ _ _ (List.mem_filter.1 hp).1
  simp at this; omega
end Go.Proofs.YtdicfdfncbmmpaaGreat

