/- Chapter 03: plain laws of names -/
import Derived.Test.YtoeolfnjblibpaaB0
import Derived.Test.YtoeolfnjblibpaaGl15
import Derived.Test.YtoeolfnjblibpaaGl16
import Derived.Test.YtoeolfnjblibpaaGl25
namespace Go.Proofs.Ytoeolfnjblibpaa
open Go.Gl
set_option linter.unusedVariables false
set_option linter.unusedSimpArgs false
/-! names -/
def isLo (x : UInt8) : Prop := 97 ≤ x.toNat ∧ x.toNat ≤ 122
instance (x : UInt8) : Decidable (isLo x) := inferInstanceAs (Decidable (_ ∧ _))
def isDg (x : UInt8) : Prop := 48 ≤ x.toNat ∧ x.toNat ≤ 57
instance (x : UInt8) : Decidable (isDg x) := inferInstanceAs (Decidable (_ ∧ _))
def nmc (x : UInt8) : Prop := isLo x ∨ isDg x ∨ x.toNat = 45
instance (x : UInt8) : Decidable (nmc x) := inferInstanceAs (Decidable (_ ∨ _))
def namy (s : List UInt8) : Prop := ∀ x ∈ s, nmc x
instance (s : List UInt8) : Decidable (namy s) := inferInstanceAs (Decidable (∀ x ∈ s, nmc x))
def isName : List UInt8 → Prop
  | [] => False
  | x :: t => t.length ≤ 31 ∧ isLo x ∧ namy t
instance (s : List UInt8) : Decidable (isName s) := match s with
  | [] => inferInstanceAs (Decidable False)
  | x :: t => inferInstanceAs (Decidable (_ ∧ _))
theorem namy_cons (x : UInt8) (t : List UInt8) : namy (x :: t) ↔ nmc x ∧ namy t := by simp [namy]
theorem text_lower_eq (n : Nat) (c : Int) : text_lower n c = some (decide (97 ≤ c ∧ c ≤ 122)) := by
  unfold text_lower
  by_cases h1 : (97 : Int) ≤ c <;> by_cases h2 : c ≤ 122 <;> simp [h1, h2]
theorem text_digit_eq (n : Nat) (c : Int) : text_digit n c = some (decide (48 ≤ c ∧ c ≤ 57)) := by
  unfold text_digit
  by_cases h1 : (48 : Int) ≤ c <;> by_cases h2 : c ≤ 57 <;> simp [h1, h2]
theorem text_follows_L0_eq (n : Nat) (s : List UInt8) (f : Int → Option Bool) (hf : ∀ c, f c = some (decide (97 ≤ c ∧ c ≤ 122))) : ∀ (t : List UInt8) (m i : Nat), s.drop i = t → t.length < m → 0 < i → text_follows_L0 n s f m i = some (decide (namy t))
  | [], m + 1, i, h, _, _ => by
    rw [text_follows_L0, if_neg (drop_nil' h)]
    simp [namy]
  | x :: t, m + 1, i, h, hm, hi => by
    obtain ⟨h1, h2, h3⟩ := drop_cons h
    rw [text_follows_L0, if_pos h1]
    simp only [jn_def, hf, text_digit_eq, bind_some']
    have key := namy_cons x t
    have hi0 : ¬ i = 0 := by omega
    by_cases hx : x.toNat < 128
    · obtain ⟨e1, e2⟩ := rune_ascii h2 hx
      rw [e1, e2, text_follows_L0_eq n s f hf t m (i + 1) h3 (by simpa using hm) (by omega)]
      by_cases a1 : isLo x
      · have : (97 : Int) ≤ (x.toNat : Int) ∧ (x.toNat : Int) ≤ 122 := by unfold isLo at a1; omega
        simp [this, key, nmc, a1]
      · have q1 : ¬ ((97 : Int) ≤ (x.toNat : Int) ∧ (x.toNat : Int) ≤ 122) := by unfold isLo at a1; omega
        by_cases a2 : isDg x
        · have q2 : (48 : Int) ≤ (x.toNat : Int) ∧ (x.toNat : Int) ≤ 57 := by unfold isDg at a2; omega
          simp [q1, q2, hi0, key, nmc, a2]
        · have q2 : ¬ ((48 : Int) ≤ (x.toNat : Int) ∧ (x.toNat : Int) ≤ 57) := by unfold isDg at a2; omega
          by_cases a3 : x.toNat = 45
          · have q3 : ((x.toNat : Nat) : Int) = 45 := by omega
            simp [q1, q2, q3, hi0, key, nmc, a3]
          · have q3 : ((x.toNat : Nat) : Int) ≠ 45 := by omega
            simp [q1, q2, q3, hi0, key, nmc, a1, a2, a3]
    · obtain ⟨e1, e2⟩ := rune_other h2 (by omega)
      have q1 : ¬ ((97 : Int) ≤ runeAt s i ∧ runeAt s i ≤ 122) := by omega
      have q2 : ¬ ((48 : Int) ≤ runeAt s i ∧ runeAt s i ≤ 57) := by omega
      have q3 : runeAt s i ≠ 45 := by omega
      have : ¬ nmc x := by unfold nmc isLo isDg; omega
      simp [q1, q2, q3, hi0, key, this]
theorem text_Name_eq (n : Nat) (s : List UInt8) (hn : 40 ≤ n) : text_Name n s = some (decide (isName s)) := by
  unfold text_Name text_follows
  simp only [jn_def]
  cases s with
  | nil => simp; decide
  | cons x t =>
    rw [if_neg (by simp)]
    by_cases h2 : 32 < (x :: t).length
    · have : ¬ isName (x :: t) := fun h => by have := h.1; simp at h2; omega
      simp only [h2, decide_true, if_true, bind_some', this, decide_false]
    · rw [if_neg (by simpa using h2)]
      simp only [List.length_cons] at h2
      obtain ⟨m, rfl⟩ : ∃ m, n = m + 1 := ⟨n - 1, by omega⟩
      have hf : ∀ c, (fun p => text_lower (m + 1) p) c = some (decide (97 ≤ c ∧ c ≤ 122)) := fun c => text_lower_eq (m + 1) c
      generalize (fun p => text_lower (m + 1) p) = f at *
      rw [text_follows_L0, if_pos (by simp)]
      simp only [jn_def, hf, bind_some']
      have h0 : (x :: t)[0]? = some x := rfl
      by_cases hx : x.toNat < 128
      · obtain ⟨e1, e2⟩ := rune_ascii h0 hx
        rw [e1, e2, text_follows_L0_eq (m + 1) (x :: t) f hf t m (0 + 1) rfl (by omega) (by omega)]
        by_cases a1 : isLo x
        · have : (97 : Int) ≤ (x.toNat : Int) ∧ (x.toNat : Int) ≤ 122 := by unfold isLo at a1; omega
          have e : isName (x :: t) ↔ namy t := ⟨fun h => h.2.2, fun h => ⟨by omega, a1, h⟩⟩
          simp [this, e]
        · have q1 : ¬ ((97 : Int) ≤ (x.toNat : Int) ∧ (x.toNat : Int) ≤ 122) := by unfold isLo at a1; omega
          have e : ¬ isName (x :: t) := fun h => a1 h.2.1
          simp [q1, e]
      · obtain ⟨e1, e2⟩ := rune_other h0 (by omega)
        have q1 : ¬ ((97 : Int) ≤ runeAt (x :: t) 0 ∧ runeAt (x :: t) 0 ≤ 122) := by omega
        have e : ¬ isName (x :: t) := fun h => by have := h.2.1; unfold isLo at this; omega
        simp [q1, e]
theorem r01_digit_eq (n : Nat) (x : UInt8) : r01_digit n x = some (decide (isDg x)) := by
  unfold r01_digit isDg
  by_cases h1 : 48 ≤ x.toNat <;> by_cases h2 : x.toNat ≤ 57 <;> simp [h1, h2]
theorem r01_lower_eq (n : Nat) (x : UInt8) : r01_lower n x = some (decide (isLo x)) := by
  unfold r01_lower isLo
  by_cases h1 : 97 ≤ x.toNat <;> by_cases h2 : x.toNat ≤ 122 <;> simp [h1, h2]
theorem r01_part_eq (n : Nat) (x : UInt8) : r01_part n x false = some (decide (nmc x)) := by
  unfold r01_part nmc
  rw [r01_digit_eq, r01_lower_eq]
  by_cases h1 : isDg x <;> by_cases h2 : x.toNat = 45 <;> by_cases h3 : isLo x <;> simp [h1, h2, h3]
theorem r01_named_L0_eq (n : Nat) (s : List UInt8) : ∀ (t : List UInt8) (m i : Nat), s.drop i = t → t.length < m → r01_named_L0 n s false m i = some (decide (namy t))
  | [], m + 1, i, h, _ => by
    rw [r01_named_L0, if_neg (drop_nil' h)]
    simp [namy]
  | x :: t, m + 1, i, h, hm => by
    obtain ⟨h1, h2, h3⟩ := drop_cons h
    rw [r01_named_L0, if_pos h1, h2]
    simp only [bind_some', r01_part_eq]
    rw [r01_named_L0_eq n s t m (i + 1) h3 (by simpa using hm)]
    have key := namy_cons x t
    by_cases a : nmc x <;> simp [a, key]
theorem r01_Name_eq (n : Nat) (s : List UInt8) (hn : 40 ≤ n) : r01_Name n s = some (decide (isName s)) := by
  unfold r01_Name r01_named
  simp only [jn_def]
  cases s with
  | nil => simp; decide
  | cons x t =>
    rw [if_neg (by simp)]
    by_cases h2 : 32 < (x :: t).length
    · have : ¬ isName (x :: t) := fun h => by have := h.1; simp at h2; omega
      rw [if_pos h2]
      simp [this]
    · rw [if_neg h2]
      simp only [List.length_cons] at h2
      simp only [List.getElem?_cons_zero, bind_some', r01_digit_eq]
      rw [r01_named_L0_eq n (x :: t) (x :: t) n 0 rfl (by simp; omega)]
      have key := namy_cons x t
      by_cases a1 : isDg x
      · have : ¬ isName (x :: t) := fun h => by have := h.2.1; unfold isLo at this; unfold isDg at a1; omega
        simp [a1, this]
      by_cases a2 : x.toNat = 45
      · have : ¬ isName (x :: t) := fun h => by have := h.2.1; unfold isLo at this; omega
        simp [a1, a2, this]
      · have e : isName (x :: t) ↔ namy (x :: t) := by
          rw [key]
          constructor
          · rintro ⟨_, h1, h2⟩; exact ⟨.inl h1, h2⟩
          · rintro ⟨h1 | h1 | h1, h2⟩
            · exact ⟨by omega, h1, h2⟩
            · exact absurd h1 a1
            · exact absurd h1 a2
        simp [a1, a2, e]
/-! declarations of types: names, supertypes, the errors -/
theorem mget_mset {α : Type} (k j : List UInt8) (v : α) : ∀ kv : List (List UInt8 × α), mget (mset kv k v) j = if j = k then some v else mget kv j
  | [] => by
    by_cases h : j = k
    · subst h; simp [mset, mget]
    · simp [mset, mget, h]
  | (a, x) :: t => by
    have ih := mget_mset k j v t
    by_cases h : k = a
    · subst h
      by_cases h2 : j = k
      · subst h2; simp [mset, mget]
      · simp [mset, mget, h2]
    · by_cases h2 : j = a
      · subst h2
        have h' : ¬ j = k := fun e => h e.symm
        simp [mset, mget, h, h']
      · simp [mset, mget, h, h2, ih]
theorem mget_nil {α : Type} (j : List UInt8) : mget ([] : List (List UInt8 × α)) j = none := rfl
def nms (d : List TypeDecl) : List (List UInt8) := d.map (·.Name)
@[simp] theorem nms_nil : nms [] = [] := rfl
@[simp] theorem nms_cons (x : TypeDecl) (t : List TypeDecl) : nms (x :: t) = x.Name :: nms t := rfl
theorem nms_take (d : List TypeDecl) (i : Nat) (x : TypeDecl) (h : d[i]? = some x) : nms (d.take (i + 1)) = nms (d.take i) ++ [x.Name] := by unfold nms; rw [List.take_add_one, h]; simp
theorem mem_nms {d : List TypeDecl} {s : List UInt8} : s ∈ nms d ↔ ∃ x ∈ d, x.Name = s := List.mem_map
def lightD (d : List TypeDecl) : Prop := d.length ≤ 256 ∧ ∀ x ∈ d, x.Supers.length ≤ 256 ∧ x.Feats.length ≤ 256
instance (d : List TypeDecl) : Decidable (lightD d) := inferInstanceAs (Decidable (_ ∧ _))
theorem long_L0 (n : Nat) (d : List TypeDecl) : ∀ (t : List TypeDecl) (m i : Nat), d.drop i = t → t.length < m → (∀ x ∈ t, x.Supers.length ≤ 256 ∧ x.Feats.length ≤ 256) → slices_IndexFunc_TypeDecl_L0 n d (fun p => poset_long_1 n p) m i = some (-1)
  | [], m + 1, i, h, _, _ => by rw [slices_IndexFunc_TypeDecl_L0, if_neg (drop_nil' h)]
  | x :: t, m + 1, i, h, hm, hx => by
    obtain ⟨h1, h2, h3⟩ := drop_cons h
    have hx0 := hx x (by simp)
    rw [slices_IndexFunc_TypeDecl_L0, if_pos h1, h2]
    have e : poset_long_1 n x = some false := by
      unfold poset_long_1
      rw [if_neg (by omega)]
      simp; omega
    simp only [bind_some', e, Bool.false_eq_true, if_false]
    exact long_L0 n d t m (i + 1) h3 (by simpa using hm) (fun y hy => hx y (by simp [hy]))
theorem long_eq (n : Nat) (d : List TypeDecl) (hn : 3000 ≤ n) (hl : lightD d) : poset_long n d = some false := by
  have := hl.1
  unfold poset_long slices_ContainsFunc_TypeDecl slices_IndexFunc_TypeDecl
  rw [if_neg (by omega), long_L0 n d d n 0 rfl (by omega) hl.2]
  simp
theorem sizes_L0 (n : Nat) (d : List TypeDecl) : ∀ (t : List TypeDecl) (m i : Nat), d.drop i = t → t.length < m → (∀ x ∈ t, x.Supers.length ≤ 256 ∧ x.Feats.length ≤ 256) → r03_sizes_L0 n d m i = some 0
  | [], m + 1, i, h, _, _ => by rw [r03_sizes_L0, if_neg (drop_nil' h)]
  | x :: t, m + 1, i, h, hm, hx => by
    obtain ⟨h1, h2, h3⟩ := drop_cons h
    have hx0 := hx x (by simp)
    rw [r03_sizes_L0, if_pos h1]
    have a1 : ¬ 256 < x.Supers.length := by omega
    have a2 : ¬ 256 < x.Feats.length := by omega
    simp only [jn_def, h2, bind_some', a1, a2, if_false, decide_false, Bool.false_eq_true]
    exact sizes_L0 n d t m (i + 1) h3 (by simpa using hm) (fun y hy => hx y (by simp [hy]))
theorem sizes_eq (n : Nat) (d : List TypeDecl) (hn : 3000 ≤ n) (hl : lightD d) : r03_sizes n d = some 0 := by
  have := hl.1
  unfold r03_sizes
  rw [if_neg (by omega), sizes_L0 n d d n 0 rfl (by omega) hl.2]
/-- where a name is declared first -/
def posN (s : List UInt8) : List TypeDecl → Nat → Int
  | [], _ => -1
  | x :: t, i => if x.Name = s then (i : Int) else posN s t (i + 1)
theorem find_L0 (n : Nat) (d : List TypeDecl) (s : List UInt8) : ∀ (t : List TypeDecl) (m i : Nat), d.drop i = t → t.length < m → r03_find_L0 n d s m i = some (posN s t i)
  | [], m + 1, i, h, _ => by rw [r03_find_L0, if_neg (drop_nil' h)]; rfl
  | x :: t, m + 1, i, h, hm => by
    obtain ⟨h1, h2, h3⟩ := drop_cons h
    rw [r03_find_L0, if_pos h1, h2]
    simp only [bind_some', posN]
    split
    · rfl
    · exact find_L0 n d s t m (i + 1) h3 (by simpa using hm)
theorem find_eq (n : Nat) (d : List TypeDecl) (s : List UInt8) (hn : d.length < n) : r03_find n d s = some (posN s d 0) := find_L0 n d s d n 0 rfl hn
theorem posN_in (s : List UInt8) : ∀ (t : List TypeDecl) (i : Nat), (s ∉ nms t ∧ posN s t i = -1) ∨ ∃ (k : Nat) (x : TypeDecl), t[k]? = some x ∧ x.Name = s ∧ posN s t i = ((i + k : Nat) : Int) ∧ s ∉ nms (t.take k)
  | [], i => .inl ⟨by simp, rfl⟩
  | x :: t, i => by
    by_cases h : x.Name = s
    · exact .inr ⟨0, x, rfl, h, by simp [posN, h], by simp⟩
    · rcases posN_in s t (i + 1) with ⟨h1, h2⟩ | ⟨k, y, h1, h2, h3, h4⟩
      · refine .inl ⟨?_, by simp [posN, h, h2]⟩
        rw [nms_cons, List.mem_cons, not_or]
        exact ⟨fun e => h e.symm, h1⟩
      · refine .inr ⟨k + 1, y, by simpa using h1, h2, by simp [posN, h, h3]; omega, ?_⟩
        rw [List.take_succ_cons, nms_cons, List.mem_cons, not_or]
        exact ⟨fun e => h e.symm, h4⟩
theorem posN_neg (s : List UInt8) (d : List TypeDecl) : posN s d 0 < 0 ↔ s ∉ nms d := by
  rcases posN_in s d 0 with ⟨h1, h2⟩ | ⟨k, x, h1, h2, h3, h4⟩
  · rw [h2]; exact ⟨fun _ => h1, fun _ => by omega⟩
  · rw [h3]
    refine ⟨fun h => by omega, fun h => absurd ?_ h⟩
    exact List.mem_map.2 ⟨x, List.mem_of_getElem? h1, h2⟩
theorem posN_lt (s : List UInt8) (d : List TypeDecl) (i : Nat) (x : TypeDecl) (hx : d[i]? = some x) (hs : x.Name = s) : posN s d 0 < (i : Int) ↔ s ∈ nms (d.take i) := by
  rcases posN_in s d 0 with ⟨h1, h2⟩ | ⟨k, y, h1, h2, h3, h4⟩
  · exact absurd (List.mem_map.2 ⟨x, List.mem_of_getElem? hx, hs⟩) h1
  · rw [h3, Nat.zero_add]
    constructor
    · intro h
      have hk : k < i := by omega
      refine List.mem_map.2 ⟨y, List.mem_of_getElem? (i := k) ?_, h2⟩
      rw [List.getElem?_take_of_lt hk]; exact h1
    · intro h
      apply Classical.byContradiction
      intro hk
      apply h4
      obtain ⟨z, hz, e⟩ := List.mem_map.1 h
      refine List.mem_map.2 ⟨z, ?_, e⟩
      exact (List.take_subset_take_left d (by omega : i ≤ k)) hz
theorem Among_L0 (n : Nat) (l : List (List UInt8)) (s : List UInt8) : ∀ (t : List (List UInt8)) (m i : Nat), l.drop i = t → t.length < m → r03_Among_L0 n l s m i = some (decide (s ∈ t))
  | [], m + 1, i, h, _ => by rw [r03_Among_L0, if_neg (drop_nil' h)]; simp
  | x :: t, m + 1, i, h, hm => by
    obtain ⟨h1, h2, h3⟩ := drop_cons h
    rw [r03_Among_L0, if_pos h1, h2]
    simp only [bind_some']
    by_cases e : x = s
    · simp [e]
    · rw [if_neg e, Among_L0 n l s t m (i + 1) h3 (by simpa using hm)]
      have e' : ¬ s = x := fun q => e q.symm
      simp [e']
theorem Among_eq (n : Nat) (l : List (List UInt8)) (s : List UInt8) (hn : l.length < n) : r03_Among n l s = some (decide (s ∈ l)) := Among_L0 n l s l n 0 rfl hn
theorem Index_L0 (n : Nat) (l : List (List UInt8)) (s : List UInt8) : ∀ (t : List (List UInt8)) (m i : Nat), l.drop i = t → t.length < m → ∃ k : Int, slices_Index_string_L0 n l s m i = some k ∧ decide (0 ≤ k) = decide (s ∈ t)
  | [], m + 1, i, h, _ => by rw [slices_Index_string_L0, if_neg (drop_nil' h)]; exact ⟨-1, rfl, by simp⟩
  | x :: t, m + 1, i, h, hm => by
    obtain ⟨h1, h2, h3⟩ := drop_cons h
    rw [slices_Index_string_L0, if_pos h1, h2]
    simp only [bind_some']
    by_cases e : s = x
    · rw [if_pos e]; exact ⟨_, rfl, by simp [e]⟩
    · rw [if_neg e]
      obtain ⟨k, k1, k2⟩ := Index_L0 n l s t m (i + 1) h3 (by simpa using hm)
      exact ⟨k, k1, by rw [k2]; simp [e]⟩
theorem Contains_eq (n : Nat) (l : List (List UInt8)) (s : List UInt8) (hn : l.length < n) : slices_Contains_string n l s = some (decide (s ∈ l)) := by
  obtain ⟨k, k1, k2⟩ := Index_L0 n l s l n 0 rfl hn
  unfold slices_Contains_string slices_Index_string
  rw [k1, bind_some', k2]
/-! names -/
def namesE (pre : List (List UInt8)) : List TypeDecl → Int
  | [] => 0
  | x :: t => if isName x.Name then (if x.Name ∈ pre then 4 else namesE (pre ++ [x.Name]) t) else 1
theorem namesE_ok : ∀ (t : List TypeDecl) (pre : List (List UInt8)), namesE pre t = 0 → pre.Nodup → (pre ++ nms t).Nodup ∧ ∀ x ∈ t, isName x.Name
  | [], pre, _, h => ⟨by simpa using h, by simp⟩
  | x :: t, pre, h, hp => by
    unfold namesE at h
    split at h
    · rename_i hx
      split at h
      · cases h
      · rename_i hn
        obtain ⟨h1, h2⟩ := namesE_ok t (pre ++ [x.Name]) h (by
          rw [List.nodup_append]
          exact ⟨hp, by simp, fun a ha b hb => by simp at hb; subst hb; exact fun e => hn (e ▸ ha)⟩)
        exact ⟨by simpa using h1, fun y hy => by
          rcases List.mem_cons.1 hy with rfl | hy
          · exact hx
          · exact h2 y hy⟩
    · cases h
theorem names_p (n : Nat) (d : List TypeDecl) (hn : 3000 ≤ n) : ∀ (t : List TypeDecl) (m i : Nat) (seen : List (List UInt8 × Bool)), d.drop i = t → t.length < m → (∀ s, (mget seen s).getD false = decide (s ∈ nms (d.take i))) → poset_names_L0 n d m seen i = some (namesE (nms (d.take i)) t)
  | [], m + 1, i, seen, h, _, _ => by rw [poset_names_L0, if_neg (drop_nil' h)]; rfl
  | x :: t, m + 1, i, seen, h, hm, hs => by
    obtain ⟨h1, h2, h3⟩ := drop_cons h
    rw [poset_names_L0, if_pos h1, h2]
    simp only [bind_some', text_Name_eq n x.Name (by omega), hs, namesE]
    by_cases a : isName x.Name
    · simp only [a, decide_true, Bool.not_true, Bool.false_eq_true, if_false, if_true]
      by_cases b : x.Name ∈ nms (d.take i)
      · simp [b]
      · have e : nms (d.take (i + 1)) = nms (d.take i) ++ [x.Name] := nms_take d i x h2
        simp only [b, decide_false, Bool.false_eq_true, if_false]
        rw [names_p n d hn t m (i + 1) _ h3 (by simpa using hm) (fun s => by
          rw [mget_mset, e]
          by_cases q : s = x.Name
          · simp [q]
          · rw [if_neg q, hs s]; simp [q]), e]
    · simp [a]
theorem names_r (n : Nat) (d : List TypeDecl) (hn : 3000 ≤ n) (hd : d.length < n) : ∀ (t : List TypeDecl) (m i : Nat), d.drop i = t → t.length < m → r03_names_L0 n d m i = some (namesE (nms (d.take i)) t)
  | [], m + 1, i, h, _ => by rw [r03_names_L0, if_neg (drop_nil' h)]; rfl
  | x :: t, m + 1, i, h, hm => by
    obtain ⟨h1, h2, h3⟩ := drop_cons h
    rw [r03_names_L0, if_pos h1, h2]
    simp only [bind_some', r01_Name_eq n x.Name (by omega), find_eq n d _ hd, posN_lt x.Name d i x h2 rfl, namesE]
    by_cases a : isName x.Name
    · simp only [a, decide_true, Bool.not_true, Bool.false_eq_true, if_false, if_true]
      by_cases b : x.Name ∈ nms (d.take i)
      · simp [b]
      · have e : nms (d.take (i + 1)) = nms (d.take i) ++ [x.Name] := nms_take d i x h2
        simp only [b, if_false]
        rw [names_r n d hn hd t m (i + 1) h3 (by simpa using hm), e]
    · simp [a]
theorem names_eq (n : Nat) (d : List TypeDecl) (hn : 3000 ≤ n) (hl : lightD d) : poset_names n d = some (namesE [] d) ∧ r03_names n d = some (namesE [] d) := by
  have := hl.1
  exact ⟨by unfold poset_names; rw [names_p n d hn d n 0 [] rfl (by omega) (fun s => by simp [mget_nil])]; rfl, by unfold r03_names; rw [names_r n d hn (by omega) d n 0 rfl (by omega)]; rfl⟩
end Go.Proofs.Ytoeolfnjblibpaa
