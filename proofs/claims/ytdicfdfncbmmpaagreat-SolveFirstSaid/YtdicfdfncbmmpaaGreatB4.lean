/- Permutations -/
import Derived.Test.YtdicfdfncbmmpaaGreatB3
namespace Go.Proofs.YtdicfdfncbmmpaaGreat
open Go.Gl
set_option linter.unusedVariables false
set_option linter.unusedSimpArgs false
def lls (L : List Int) : Nat → List Int → List (List Int)
  | 0, b => [b]
  | n + 1, b => L.flatMap fun l => if l ∈ b then [] else lls L n (b ++ [l])
theorem lls_ext (L : List Int) : ∀ (n : Nat) (b p : List Int), p ∈ lls L n b → ∃ r, p = b ++ r
  | 0, b, p, h => ⟨[], by simpa [lls] using h⟩
  | n + 1, b, p, h => by
    unfold lls at h
    obtain ⟨l, _, h⟩ := List.mem_flatMap.1 h
    split at h
    · simp at h
    · obtain ⟨r, rfl⟩ := lls_ext L n _ _ h
      exact ⟨[l] ++ r, by simp⟩
theorem lls_len (L : List Int) : ∀ (n : Nat) (b : List Int), (lls L n b).length ≤ L.length ^ n
  | 0, b => by simp [lls]
  | n + 1, b => by
    unfold lls
    have key : ∀ (M : List Int), (M.flatMap fun l => if l ∈ b then [] else lls L n (b ++ [l])).length ≤ M.length * L.length ^ n := by
      intro M
      induction M with
      | nil => simp
      | cons x M ih =>
        rw [List.flatMap_cons, List.length_append, List.length_cons, Nat.succ_mul]
        split
        · rw [List.length_nil]; omega
        · have := lls_len L n (b ++ [x]); omega
    rw [Nat.pow_succ, Nat.mul_comm]
    exact key L
theorem lls_plen (L : List Int) : ∀ (n : Nat) (b p : List Int), p ∈ lls L n b → p.length = b.length + n
  | 0, b, p, h => by have : p = b := by simpa [lls] using h
                     simp [this]
  | n + 1, b, p, h => by
    unfold lls at h
    obtain ⟨l, _, h⟩ := List.mem_flatMap.1 h
    split at h
    · simp at h
    · rw [lls_plen L n _ _ h]; simp; omega
theorem filter_flatMap' {α : Type} (V : α → Bool) (g : Int → List α) : ∀ (L : List Int), (L.flatMap g).filter V = L.flatMap fun l => (g l).filter V
  | [] => rfl
  | x :: L => by rw [List.flatMap_cons, List.filter_append, filter_flatMap' V g L, List.flatMap_cons]
theorem lls_filter (L : List Int) (P : Int → Bool) (V : List Int → Bool) (hV : ∀ p, V p = true → ∀ x ∈ p, P x = true) : ∀ (n : Nat) (b : List Int), (lls L n b).filter V = (lls (L.filter P) n b).filter V
  | 0, b => rfl
  | n + 1, b => by
    unfold lls
    rw [filter_flatMap', filter_flatMap']
    have key : ∀ (M : List Int), (M.flatMap fun l => (if l ∈ b then [] else lls L n (b ++ [l])).filter V) = (M.filter P).flatMap fun l => (if l ∈ b then [] else lls (L.filter P) n (b ++ [l])).filter V := by
      intro M
      induction M with
      | nil => rfl
      | cons x M ih =>
        rw [List.flatMap_cons, ih, List.filter_cons]
        by_cases hx : P x = true
        · rw [if_pos hx, List.flatMap_cons]
          split
          · rfl
          · rw [lls_filter L P V hV n (b ++ [x])]
        · rw [if_neg hx]
          have : (if x ∈ b then [] else lls L n (b ++ [x])).filter V = [] := by
            split
            · rfl
            · rw [List.filter_eq_nil_iff]
              intro p hp hVp
              obtain ⟨r, rfl⟩ := lls_ext L n _ _ hp
              exact hx (hV _ hVp x (by simp))
          rw [this]; rfl
    exact key L
theorem lls_map (f : Int → Int) (L : List Int) (hf : ∀ x ∈ L, ∀ y ∈ L, f x = f y → x = y) : ∀ (n : Nat) (b : List Int), (∀ x ∈ b, x ∈ L) → lls (L.map f) n (b.map f) = (lls L n b).map (List.map f)
  | 0, b, _ => by simp [lls]
  | n + 1, b, hb => by
    unfold lls
    have key : ∀ (M : List Int), (∀ x ∈ M, x ∈ L) → ((M.map f).flatMap fun l => if l ∈ b.map f then [] else lls (L.map f) n (b.map f ++ [l])) = (M.flatMap fun l => if l ∈ b then [] else lls L n (b ++ [l])).map (List.map f) := by
      intro M
      induction M with
      | nil => intro _; rfl
      | cons x M ih =>
        intro hM
        have hx := hM x (by simp)
        rw [List.map_cons, List.flatMap_cons, List.flatMap_cons, List.map_append, ih (fun y hy => hM y (by simp [hy]))]
        have e : f x ∈ b.map f ↔ x ∈ b := by
          rw [List.mem_map]
          exact ⟨fun ⟨y, hy, e⟩ => by rw [← hf y (hb y hy) x hx e]; exact hy, fun h => ⟨x, h, rfl⟩⟩
        by_cases hc : x ∈ b
        · rw [if_pos (e.2 hc), if_pos hc]; rfl
        · rw [if_neg (fun h => hc (e.1 h)), if_neg hc]
          have := lls_map f L hf n (b ++ [x]) (fun y hy => by rcases List.mem_append.1 hy with h | h; exact hb y h; rw [List.mem_singleton.1 h]; exact hx)
          rw [List.map_append] at this
          rw [show b.map f ++ [f x] = b.map f ++ [x].map f from rfl, this]
    exact key L (fun _ h => h)
theorem ix_map (f : Int → Int) (l : List Int) (i : Int) : ix (l.map f) i = (ix l i).map f := by
  unfold ix
  split
  · rw [List.getElem?_map]
  · rfl
theorem ix_mem {l : List Int} {i x : Int} (h : ix l i = some x) : x ∈ l := by
  unfold ix at h
  split at h
  · exact List.mem_of_getElem? h
  · cases h
section
variable (n : Nat) (f : Int → Int) (l : List Int) (hf : ∀ x ∈ l, ∀ y ∈ l, (f x < f y ↔ x < y))
theorem next_L0_map (k2 : Int → Option (Bool × (List Int))) (hf : ∀ x ∈ l, ∀ y ∈ l, (f x < f y ↔ x < y)) : ∀ (m : Nat) (i : Int), solve_next_L0 n (l.map f) k2 m i = solve_next_L0 n l k2 m i
  | 0, i => rfl
  | m + 1, i => by
    rw [solve_next_L0, solve_next_L0]
    simp only [jn_def, next_L0_map k2 hf m, ix_map]
    split
    · cases h1 : ix l i with
      | none => rfl
      | some x =>
        cases h2 : ix l (i + 1) with
        | none => rfl
        | some y => simp [hf y (ix_mem h2) x (ix_mem h1)]
    · rfl
theorem next_L1_map (k2 : Int → Option (Bool × (List Int))) (hf : ∀ x ∈ l, ∀ y ∈ l, (f x < f y ↔ x < y)) (j : Int) : ∀ (m : Nat) (i : Int), solve_next_L1 n (l.map f) j k2 m i = solve_next_L1 n l j k2 m i
  | 0, i => rfl
  | m + 1, i => by
    rw [solve_next_L1, solve_next_L1]
    simp only [next_L1_map k2 hf j m, ix_map]
    cases h1 : ix l i with
    | none => rfl
    | some x =>
      cases h2 : ix l j with
      | none => rfl
      | some y => simp [hf x (ix_mem h1) y (ix_mem h2)]
end
theorem next_L0_post (n : Nat) (l : List Int) (k k' : Int → Option (Bool × (List Int))) (φ : Bool × (List Int) → Bool × (List Int)) (hk : ∀ i, k' i = (k i).map φ) : ∀ (m : Nat) (i : Int), solve_next_L0 n l k' m i = (solve_next_L0 n l k m i).map φ
  | 0, i => rfl
  | m + 1, i => by
    rw [solve_next_L0, solve_next_L0]
    have e : ∀ t : Bool, (if t = true then chk (-9223372036854775808 ≤ i - 1 ∧ i - 1 ≤ 9223372036854775807) (solve_next_L0 n l k' m (i - 1)) else k' i) = (if t = true then chk (-9223372036854775808 ≤ i - 1 ∧ i - 1 ≤ 9223372036854775807) (solve_next_L0 n l k m (i - 1)) else k i).map φ := by
      intro t
      rw [next_L0_post n l k k' φ hk m]
      cases t with
      | true => simp only [if_true]; unfold chk; split <;> rfl
      | false => simp only [Bool.false_eq_true, if_false]; exact hk i
    simp only [jn_def, e]
    split
    · cases ix l i with
      | none => rfl
      | some x =>
        simp only [bind_some']
        unfold chk
        split
        · cases ix l (i + 1) <;> rfl
        · rfl
    · rfl
theorem next_L1_post (n : Nat) (l : List Int) (j : Int) (k k' : Int → Option (Bool × (List Int))) (φ : Bool × (List Int) → Bool × (List Int)) (hk : ∀ i, k' i = (k i).map φ) : ∀ (m : Nat) (i : Int), solve_next_L1 n l j k' m i = (solve_next_L1 n l j k m i).map φ
  | 0, i => rfl
  | m + 1, i => by
    rw [solve_next_L1, solve_next_L1]
    cases ix l i with
    | none => rfl
    | some x =>
      cases ix l j with
      | none => rfl
      | some y =>
        simp only [bind_some', next_L1_post n l j k k' φ hk m, hk]
        split
        · unfold chk; split <;> rfl
        · rfl
theorem map_set' (f : Int → Int) (l : List Int) (i : Nat) (x : Int) : (l.map f).set i (f x) = (l.set i x).map f := by rw [List.map_set]
theorem next_map (n : Nat) (f : Int → Int) (l : List Int) (hf : ∀ x ∈ l, ∀ y ∈ l, (f x < f y ↔ x < y)) : solve_next n (l.map f) = (solve_next n l).map fun r => (r.1, r.2.map f) := by
  unfold solve_next
  simp only [jn_def, List.length_map]
  rw [next_L0_map n f l _ hf]
  apply next_L0_post
  intro i
  split
  · rfl
  · rw [next_L1_map n f l _ hf]
    apply next_L1_post
    intro k
    simp only [ix_map]
    cases h1 : ix l k with
    | none => rfl
    | some x =>
      cases h2 : ix l i with
      | none => rfl
      | some y =>
        simp only [Option.map_some, bind_some', map_set', ix_map]
        cases h3 : ix (l.set i.toNat x) k with
        | none => rfl
        | some z =>
          simp only [Option.map_some, bind_some', map_set', List.length_map]
          unfold chk
          split
          · split
            · split
              · simp [List.map_take, List.map_drop]
              · rfl
            · rfl
          · rfl
/-- each list is followed by the next one; the last one has none -/
def chain (n : Nat) : List (List Int) → Prop
  | [] => True
  | [a] => solve_next n a = some (false, a)
  | a :: b :: t => solve_next n a = some (true, b) ∧ chain n (b :: t)
def chainB (n : Nat) : List (List Int) → Bool
  | [] => true
  | [a] => decide (solve_next n a = some (false, a))
  | a :: b :: t => decide (solve_next n a = some (true, b)) && chainB n (b :: t)
theorem chainB_eq (n : Nat) : ∀ P, chainB n P = true → chain n P
  | [], _ => trivial
  | [a], h => by unfold chainB at h; exact (show solve_next n a = some (false, a) from of_decide_eq_true h)
  | a :: b :: t, h => by
    unfold chainB at h
    obtain ⟨h1, h2⟩ := Bool.and_eq_true_iff.1 h
    exact ⟨of_decide_eq_true h1, chainB_eq n (b :: t) h2⟩
theorem chain_map (n : Nat) (f : Int → Int) : ∀ P, (∀ l ∈ P, ∀ x ∈ l, ∀ y ∈ l, (f x < f y ↔ x < y)) → chain n P → chain n (P.map (List.map f))
  | [], _, _ => trivial
  | [a], hf, h => by
    have h' : solve_next n a = some (false, a) := h
    show solve_next n (a.map f) = _
    rw [next_map n f a (hf a (by simp)), h']; rfl
  | a :: b :: t, hf, h => by
    obtain ⟨h1, h2⟩ := h
    refine ⟨?_, chain_map n f (b :: t) (fun l hl => hf l (by simp [hl])) h2⟩
    show solve_next n (a.map f) = _
    rw [next_map n f a (hf a (by simp)), h1]; rfl
theorem lls_mem (L : List Int) : ∀ (n : Nat) (b p : List Int), p ∈ lls L n b → ∀ x ∈ p, x ∈ b ∨ x ∈ L
  | 0, b, p, h, x, hx => by
    have : p = b := by simpa [lls] using h
    exact .inl (this ▸ hx)
  | n + 1, b, p, h, x, hx => by
    unfold lls at h
    obtain ⟨l, hl, h⟩ := List.mem_flatMap.1 h
    split at h
    · simp at h
    · rcases lls_mem L n _ _ h x hx with h | h
      · rcases List.mem_append.1 h with h | h
        · exact .inl h
        · exact .inr (by rw [List.mem_singleton.1 h]; exact hl)
      · exact .inr h
end Go.Proofs.YtdicfdfncbmmpaaGreat

