/- Chapter 37: plain laws of models -/
import Derived.Test.YthgdajiipojnoaaDoorM1
import Derived.Test.YthgdajiipojnoaaDoorO1
namespace Go.Proofs.YthgdajiipojnoaaDoor
open Go.Gl Go.Sort
set_option linter.unusedVariables false
set_option linter.unusedSimpArgs false
theorem lt_of_le_ne {x y : List UInt8} (h : x ≤ y) (hne : x ≠ y) : x < y := by
  rcases Decidable.em (x < y) with h1 | h1
  · exact h1
  · exact absurd (List.le_antisymm h h1) hne
theorem asc_eq : ∀ (a b : List (List UInt8)), a.Pairwise (· < ·) → b.Pairwise (· < ·) → (∀ v, v ∈ a ↔ v ∈ b) → a = b
  | [], [], _, _, _ => rfl
  | [], y :: b, _, _, h => by have := (h y).2 (by simp); simp at this
  | x :: a, [], _, _, h => by have := (h x).1 (by simp); simp at this
  | x :: a, y :: b, ha, hb, h => by
    obtain ⟨a1, a2⟩ := List.pairwise_cons.1 ha
    obtain ⟨b1, b2⟩ := List.pairwise_cons.1 hb
    have hxy : x = y := by
      rcases List.mem_cons.1 ((h x).1 (by simp)) with h1 | h1
      · exact h1
      rcases List.mem_cons.1 ((h y).2 (by simp)) with h2 | h2
      · exact h2.symm
      exact absurd (List.lt_trans (a1 y h2) (b1 x h1)) (List.lt_irrefl _)
    subst hxy
    rw [asc_eq a b a2 b2 (fun v => ?_)]
    constructor
    · intro hv
      rcases List.mem_cons.1 ((h v).1 (by simp [hv])) with h1 | h1
      · subst h1; exact absurd (a1 v hv) (List.lt_irrefl _)
      · exact h1
    · intro hv
      rcases List.mem_cons.1 ((h v).2 (by simp [hv])) with h1 | h1
      · subst h1; exact absurd (b1 v hv) (List.lt_irrefl _)
      · exact h1
/-! models: their errors -/
theorem nlt_iff {p c : List UInt8} : (¬ p < c) ↔ (c < p ∨ c = p) := by
  constructor
  · intro h
    by_cases e : c = p
    · exact .inr e
    · exact .inl (lt_of_le_ne h e)
  · rintro (h | rfl)
    · exact List.lt_asymm h
    · exact List.lt_irrefl _
structure GoodW (w : Weight) : Prop where
  feat : isFeat w.Feature
  nz : w.Value ≠ 0
  lo : -1048576 ≤ w.Value
  hi : w.Value ≤ 1048576
def ascFrom : Option (List UInt8) → List Weight → Prop
  | _, [] => True
  | p, w :: t => (∀ q, p = some q → q < w.Feature) ∧ ascFrom (some w.Feature) t
theorem ascFrom_le : ∀ {p : List UInt8} {l : List Weight}, ascFrom (some p) l → ∀ w ∈ l, p < w.Feature
  | _, [], _, w, h => by cases h
  | p, x :: t, h, w, hw => by
    have h1 := h.1 p rfl
    rcases List.mem_cons.1 hw with rfl | hw
    · exact h1
    · exact List.lt_trans h1 (ascFrom_le h.2 w hw)
theorem ascFrom_pw : ∀ {p : Option (List UInt8)} {l : List Weight}, ascFrom p l → l.Pairwise (fun a b => a.Feature < b.Feature)
  | _, [], _ => .nil
  | _, x :: t, h => .cons (fun w hw => ascFrom_le h.2 w hw) (ascFrom_pw h.2)
theorem pw_ascFrom : ∀ {p : Option (List UInt8)} {l : List Weight}, l.Pairwise (fun a b => a.Feature < b.Feature) → (∀ q w, p = some q → w ∈ l → q < w.Feature) → ascFrom p l
  | _, [], _, _ => trivial
  | p, x :: t, h, hq => by
    obtain ⟨h1, h2⟩ := List.pairwise_cons.1 h
    exact ⟨fun q e => hq q x e (by simp), pw_ascFrom h2 (fun q w e hw => by cases e; exact h1 w hw)⟩
structure okM (l : List Weight) : Prop where
  good : ∀ w ∈ l, GoodW w
  asc : l.Pairwise (fun a b => a.Feature < b.Feature)
def prevF (l : List Weight) (i : Nat) : Option (List UInt8) := if i = 0 then none else (l[i - 1]?).map (·.Feature)
theorem Check_L0 (n : Nat) (m : Model) (hs : ∀ w ∈ m.Weights, w.Feature.length ≤ 1048576) (hn : 2000000 ≤ n) : ∀ (t : List Weight) (k i : Nat), m.Weights.drop i = t → t.length < k → ∃ c, model_Check_L0 n m k i = some c ∧ r37_Check_L0 n m k i = some c ∧ (c = 0 ↔ (∀ w ∈ t, GoodW w) ∧ ascFrom (prevF m.Weights i) t)
  | [], k + 1, i, h, _ => ⟨0, by rw [model_Check_L0, if_neg (drop_nil' h)], by rw [r37_Check_L0, if_neg (drop_nil' h)], by simp [ascFrom]⟩
  | x :: t, k + 1, i, h, hk => by
    obtain ⟨h1, h2, h3⟩ := drop_cons h
    obtain ⟨c, c1, c2, c3⟩ := Check_L0 n m hs hn t k (i + 1) h3 (by simpa using hk)
    have hxl := hs x (List.mem_of_getElem? h2)
    obtain ⟨b, b1, b2⟩ := feature_p n x.Feature hxl hn
    obtain ⟨b', b1', b2'⟩ := feature_r n x.Feature hxl hn
    have eb : b' = b := by
      cases b <;> cases b' <;> simp_all
    subst eb
    have hp : prevF m.Weights (i + 1) = some x.Feature := by unfold prevF; rw [if_neg (by omega), Nat.add_sub_cancel, h2]; rfl
    rw [model_Check_L0, r37_Check_L0, if_pos h1, if_pos h1, h2, bind_some', bind_some', b1, b1', bind_some', bind_some', c1, c2]
    simp only [jn_def]
    cases b' with
    | false =>
      simp only [Bool.not_false, if_true]
      exact ⟨1, rfl, rfl, by
        constructor
        · intro q; cases q
        · intro q; exact absurd (b2.2 (q.1 x (by simp)).feat) (by simp)⟩
    | true =>
      simp only [Bool.not_true, Bool.false_eq_true, if_false]
      have hF := b2.1 rfl
      by_cases v0 : x.Value = 0
      · simp only [v0, if_true]
        exact ⟨2, rfl, rfl, by
          constructor
          · intro q; cases q
          · intro q; exact absurd v0 (q.1 x (by simp)).nz⟩
      by_cases v1 : x.Value < -1048576
      · simp only [v0, v1, if_true, if_false]
        exact ⟨2, rfl, rfl, by
          constructor
          · intro q; cases q
          · intro q; have := (q.1 x (by simp)).lo; omega⟩
      by_cases v2 : 1048576 < x.Value
      · simp only [v0, v1, v2, if_true, if_false, decide_true]
        exact ⟨2, rfl, rfl, by
          constructor
          · intro q; cases q
          · intro q; have := (q.1 x (by simp)).hi; omega⟩
      simp only [v0, v1, v2, if_false, decide_false, Bool.false_eq_true]
      have hG : GoodW x := ⟨hF, v0, by omega, by omega⟩
      have hall : (∀ w ∈ x :: t, GoodW w) ↔ ∀ w ∈ t, GoodW w := by simp [hG]
      rw [hall]
      rw [hp] at c3
      by_cases i0 : 0 < i
      · obtain ⟨y, hy⟩ : ∃ y, m.Weights[i - 1]? = some y := ⟨_, List.getElem?_eq_getElem (by omega)⟩
        have hix : ix m.Weights ((i : Int) - 1) = some y := by
          rw [show (i : Int) - 1 = ((i - 1 : Nat) : Int) by omega, ix_nat]; exact hy
        have hpi : prevF m.Weights i = some y.Feature := by unfold prevF; rw [if_neg (by omega), hy]; rfl
        rw [if_pos i0, if_pos i0, hix, bind_some', bind_some', hpi]
        simp only [bytesLess_eq]
        by_cases q : y.Feature < x.Feature
        · have q1 : ¬ (x.Feature < y.Feature) := List.lt_asymm q
          have q2 : ¬ (x.Feature = y.Feature) := fun e => by rw [e] at q; exact List.lt_irrefl _ q
          simp only [q, q1, decide_true, decide_false, Bool.not_true, Bool.false_or, Bool.false_eq_true, if_false, beq_iff_eq, q2]
          refine ⟨c, rfl, rfl, c3.trans ⟨fun z => ⟨z.1, fun q' e => by cases e; exact q, z.2⟩, fun z => ⟨z.1, z.2.2⟩⟩⟩
        · have q3 : (decide (x.Feature < y.Feature) || x.Feature == y.Feature) = true := by
            rcases nlt_iff.1 q with z | z
            · simp [z]
            · simp [z]
          simp only [q, q3, decide_false, Bool.not_false, if_true]
          exact ⟨3, rfl, rfl, by
            constructor
            · intro z; cases z
            · intro z; exact absurd (z.2.1 _ rfl) q⟩
      · have i1 : i = 0 := by omega
        have hpi : prevF m.Weights i = none := by unfold prevF; rw [if_pos i1]
        rw [if_neg i0, if_neg i0, hpi]
        exact ⟨c, rfl, rfl, c3.trans ⟨fun z => ⟨z.1, fun q' e => (by cases e), z.2⟩, fun z => ⟨z.1, z.2.2⟩⟩⟩
theorem sum_mem {l : List Nat} {x : Nat} (h : x ∈ l) : x ≤ l.sum := by
  induction l with
  | nil => cases h
  | cons a l ih =>
    rw [List.sum_cons]
    rcases List.mem_cons.1 h with rfl | h
    · omega
    · have := ih h; omega
theorem szM_feat {m : Model} {w : Weight} (h : w ∈ m.Weights) : w.Feature.length + 3 ≤ szM m := by
  have := sum_mem (List.mem_map.2 ⟨w, h, rfl⟩ : szW w ∈ m.Weights.map szW)
  have e : szW w = w.Feature.length + 3 := rfl
  unfold szM
  omega
theorem sum_len : ∀ (l : List Weight), 3 * l.length ≤ (l.map szW).sum
  | [] => by simp
  | x :: t => by
    have := sum_len t
    rw [List.length_cons, List.map_cons, List.sum_cons]
    unfold szW at *
    omega
theorem szM_len (m : Model) : m.Weights.length ≤ szM m := by
  have := sum_len m.Weights
  unfold szM
  omega
theorem Check_eq (n : Nat) (m : Model) (hs : szM m ≤ 1048576) (hn : 2000000 ≤ n) : ∃ c, model_Check n m = some c ∧ r37_Check n m = some c ∧ (c = 0 ↔ okM m.Weights) := by
  obtain ⟨c, c1, c2, c3⟩ := Check_L0 n m (fun w hw => by have := szM_feat hw; omega) hn m.Weights n 0 rfl (by have := szM_len m; omega)
  refine ⟨c, c1, c2, c3.trans ⟨fun h => ⟨h.1, ascFrom_pw h.2⟩, fun h => ⟨h.good, pw_ascFrom h.asc (fun q w e _ => by cases e)⟩⟩⟩
theorem Checks_main (n : Nat) (hn : 2000000 ≤ n) (hex : law37_exampleHolds n = some true) (m : Model) (hs : szM m ≤ 1048576) : law37_ModelChecks n m = some true := by
  unfold law37_ModelChecks
  obtain ⟨c, c1, c2, _⟩ := Check_eq n m hs hn
  rw [hex, c1, c2]
  by_cases h : 60 < m.Weights.length
  · rw [if_pos h]; rfl
  · rw [if_neg h, bind_some', bind_some', if_pos rfl]; rfl
theorem law37_ModelChecks_true (m : Model) (hs : szM m ≤ 1048576) : law37_ModelChecks 10000000 m = some true := Checks_main 10000000 (by omega) ex37 m hs
end Go.Proofs.YthgdajiipojnoaaDoor
