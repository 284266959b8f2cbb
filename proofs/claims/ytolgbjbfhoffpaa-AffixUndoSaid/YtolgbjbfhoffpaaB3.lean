/- Chapter 23: undoing -/
import Derived.Test.YtolgbjbfhoffpaaB2
namespace Go.Proofs.Ytolgbjbfhoffpaa
open Go.Gl
set_option linter.unusedVariables false
set_option linter.unusedSimpArgs false
/-! affix: undoing -/
def fits0 (k : Int) (p w : List UInt8) : Prop := p.length ≤ w.length ∧ if k = 2 then w.take p.length = p else w.drop (w.length - p.length) = p
instance (k : Int) (p w : List UInt8) : Decidable (fits0 k p w) := by unfold fits0; exact inferInstance
theorem fits0_of {k : Int} {p w : List UInt8} (h : fitsS k p w) : fits0 k p w := ⟨by have := h.1; omega, h.2⟩
def isB (a : Affix) (w v : List UInt8) : Prop := isWord v ∧ applyS a v = some w
instance (a : Affix) (w v : List UInt8) : Decidable (isB a w v) := inferInstanceAs (Decidable (_ ∧ _))
def undoC (a : Affix) (w : List UInt8) : List Change → List (List UInt8)
  | [] => []
  | p :: t => if fits0 a.Kind p.New w ∧ isB a w (replS a.Kind w p.New p.Old) then replS a.Kind w p.New p.Old :: undoC a w t else undoC a w t
theorem undoC_len (a : Affix) (w : List UInt8) : ∀ t, (undoC a w t).length ≤ t.length
  | [] => by simp [undoC]
  | p :: t => by
    have := undoC_len a w t
    unfold undoC
    split <;> simp <;> omega
theorem mem_undoC (a : Affix) (w v : List UInt8) : ∀ t, v ∈ undoC a w t ↔ isB a w v ∧ ∃ p ∈ t, fits0 a.Kind p.New w ∧ v = replS a.Kind w p.New p.Old
  | [] => by simp [undoC]
  | p :: t => by
    have ih := mem_undoC a w v t
    unfold undoC
    split
    · rename_i h
      simp only [List.mem_cons, ih]
      constructor
      · rintro (rfl | ⟨h1, p', h2, h3⟩)
        · exact ⟨h.2, p, .inl rfl, h.1, rfl⟩
        · exact ⟨h1, p', .inr h2, h3⟩
      · rintro ⟨h1, p', rfl | h2, h3⟩
        · exact .inl h3.2
        · exact .inr ⟨h1, p', h2, h3⟩
    · rename_i h
      simp only [List.mem_cons, ih]
      constructor
      · rintro ⟨h1, p', h2, h3⟩
        exact ⟨h1, p', .inr h2, h3⟩
      · rintro ⟨h1, p', rfl | h2, h3⟩
        · exact absurd ⟨h3.1, h3.2 ▸ h1⟩ h
        · exact ⟨h1, p', h2, h3⟩
theorem repl_back (k : Int) (v p q : List UInt8) (h : fitsS k p v) : fitsS k q (replS k v p q) ∧ replS k (replS k v p q) q p = v := by
  obtain ⟨h1, h2⟩ := h
  unfold fitsS replS
  by_cases hk : k = 2
  · simp only [hk, if_true] at h2 ⊢
    refine ⟨⟨by simp; omega, by simp⟩, ?_⟩
    rw [List.drop_left]
    conv => lhs; rw [← h2]
    rw [h2, ← h2, List.length_take, Nat.min_eq_left (by omega)]
    exact List.take_append_drop _ _
  · simp only [hk, if_false] at h2 ⊢
    have e : (v.take (v.length - p.length) ++ q).length - q.length = (v.take (v.length - p.length)).length := by simp
    refine ⟨⟨by simp; omega, ?_⟩, ?_⟩
    · rw [e, List.drop_left]
    · rw [e, List.take_left]
      conv => lhs; rw [← h2]
      rw [h2]
      conv => lhs; rhs; rw [← h2]
      exact List.take_append_drop _ _
theorem applyP_back (k : Int) (w v : List UInt8) : ∀ t, applyP k v t = some w → ∃ p ∈ t, fitsS k p.New w ∧ v = replS k w p.New p.Old
  | [], h => by simp [applyP] at h
  | p :: t, h => by
    unfold applyP at h
    split at h
    · rename_i hf
      split at h
      · injection h with h
        obtain ⟨h1, h2⟩ := repl_back k v p.Old p.New hf
        rw [h] at h1 h2
        exact ⟨p, by simp, h1, h2.symm⟩
      · cases h
    · obtain ⟨p', h1, h2⟩ := applyP_back k w v t h
      exact ⟨p', by simp [h1], h2⟩
theorem isB_from (a : Affix) (w v : List UInt8) (hk : a.Kind ≠ 0) (h : isB a w v) : ∃ p ∈ a.Pairs, fitsS a.Kind p.New w ∧ v = replS a.Kind w p.New p.Old := by
  have h2 := h.2
  unfold applyS at h2
  rw [if_neg hk] at h2
  exact applyP_back _ _ _ _ h2
theorem mem_all (a : Affix) (w v : List UInt8) (hk : a.Kind ≠ 0) : v ∈ undoC a w a.Pairs ↔ isB a w v := by
  rw [mem_undoC]
  constructor
  · exact fun h => h.1
  · intro h
    obtain ⟨p, h1, h2, h3⟩ := isB_from a w v hk h
    exact ⟨h, p, h1, fits0_of h2, h3⟩
theorem replS_len0 (k : Int) (w a b : List UInt8) : (replS k w a b).length ≤ w.length + b.length := by
  unfold replS
  split <;> simp <;> omega
theorem side_eq (n : Nat) (k : Int) (sd : side) (hsd : affix_sideOf n k = some sd) (w p q : List UInt8) (hw : w.length ≤ 1000000) (hq : q.length ≤ 1000000) : sd.fits_ (w, p) = some (decide (fits0 k p w)) ∧ (fits0 k p w → ∃ v, sd.remove_ (w, p) = some v ∧ sd.add_ (v, q) = some (replS k w p q)) := by
  unfold affix_sideOf at hsd
  by_cases hk : k = 2
  · rw [if_pos hk] at hsd
    obtain rfl := Option.some.inj hsd
    simp only [strings_HasPrefix, strings_TrimPrefix, stringslite_TrimPrefix, affix_sideOf_1, HasPrefix_eq, bind_some', fits0, hk, if_true, replS]
    refine ⟨trivial, fun h => ⟨w.drop p.length, ?_, ?_⟩⟩
    · have e : p.length ≤ w.length ∧ w.take p.length = p := h
      simp only [e, decide_true, if_true, and_self, chk_tt]
      rfl
    · rw [chk_true (by rw [List.length_drop]; omega)]
  · rw [if_neg hk] at hsd
    obtain rfl := Option.some.inj hsd
    simp only [strings_HasSuffix, strings_TrimSuffix, stringslite_TrimSuffix, affix_sideOf_2, HasSuffix_eq, bind_some', fits0, hk, if_false, replS]
    refine ⟨trivial, fun h => ⟨w.take (w.length - p.length), ?_, ?_⟩⟩
    · have e : p.length ≤ w.length ∧ w.drop (w.length - p.length) = p := h
      simp only [e, decide_true, if_true, and_self, toNat_sub' _ _ e.1]
      rw [chk_true (by omega), chk_true (by omega)]
      rfl
    · rw [chk_true (by rw [List.length_take]; omega)]
theorem affix_Undo_L0_eq (n : Nat) (a : Affix) (w : List UInt8) (sd : side) (K : List (List UInt8) → Option (List (List UInt8))) (hn : 1000 ≤ n) (hw : w.length ≤ 10000) (ha : lightA a) (hsd : affix_sideOf n a.Kind = some sd) : ∀ (t : List Change) (m i : Nat) (out : List (List UInt8)), a.Pairs.drop i = t → t.length < m → out.length + t.length ≤ 1000000 → affix_Undo_L0 n a w sd K m out i = K (out ++ undoC a w t)
  | [], m + 1, i, out, h, _, _ => by
    rw [affix_Undo_L0, if_neg (drop_nil' h)]
    simp [undoC]
  | p :: t, m + 1, i, out, h, hm, hb => by
    obtain ⟨h1, h2, h3⟩ := drop_cons h
    simp only [List.length_cons] at hb
    have hp := ha.2 p (List.mem_of_getElem? h2)
    obtain ⟨s1, s2⟩ := side_eq n a.Kind sd hsd w p.New p.Old (by omega) (by omega)
    have ih := fun out hb => affix_Undo_L0_eq n a w sd K hn hw ha hsd t m (i + 1) out h3 (by simpa using hm) hb
    rw [affix_Undo_L0, if_pos h1, h2]
    simp only [bind_some', s1, jn_def]
    by_cases hf : fits0 a.Kind p.New w
    · obtain ⟨u, hu, hv⟩ := s2 hf
      have hl := replS_len0 a.Kind w p.New p.Old
      simp only [hf, decide_true, Bool.not_true, Bool.false_eq_true, if_false, hu, hv, bind_some', affix_Apply_eq n a (replS a.Kind w p.New p.Old) hn (by omega) ha, text_Word_eq n _ (show 40 ≤ n by omega)]
      have e1 : chk (out.length + [replS a.Kind w p.New p.Old].length ≤ 137438953472) (affix_Undo_L0 n a w sd K m (out ++ [replS a.Kind w p.New p.Old]) (i + 1)) = K (out ++ replS a.Kind w p.New p.Old :: undoC a w t) := by
        rw [chk_true (by simp; omega), ih _ (by simp; omega)]
        simp
      rw [e1, ih out (by omega)]
      have e2 : undoC a w (p :: t) = if fits0 a.Kind p.New w ∧ isB a w (replS a.Kind w p.New p.Old) then replS a.Kind w p.New p.Old :: undoC a w t else undoC a w t := rfl
      by_cases hB : isB a w (replS a.Kind w p.New p.Old)
      · have e3 := e2.trans (if_pos ⟨hf, hB⟩)
        rw [e3]
        obtain ⟨c1, c2⟩ := hB
        simp [c1, c2, enc]
      · have e3 := e2.trans (if_neg (fun h => hB h.2))
        rw [e3]
        by_cases c1 : isWord (replS a.Kind w p.New p.Old)
        · cases hA : applyS a (replS a.Kind w p.New p.Old) with
          | none => simp [c1, enc]
          | some z =>
            have hz : z ≠ w := fun e => hB ⟨c1, by rw [hA, e]⟩
            simp [c1, enc, hz]
        · simp [c1]
    · simp only [hf, decide_false, Bool.not_false, if_true]
      rw [ih out (by omega)]
      simp [undoC, hf]
/-! ascending lists -/
theorem lt_of_le_ne {x y : List UInt8} (h : x ≤ y) (hne : x ≠ y) : x < y := by
  rcases Decidable.em (x < y) with h1 | h1
  · exact h1
  · exact absurd (List.le_antisymm h h1) hne
theorem asc_eq : ∀ (a b : List (List UInt8)), a.Pairwise (· < ·) → b.Pairwise (· < ·) → (∀ v, v ∈ a ↔ v ∈ b) → a = b
  | [], [], _, _, _ => rfl
  | [], y :: b, _, _, h => by have := (h y).2 (by simp); simp at this
  | x :: a, [], _, _, h => by have := (h x).1 (by simp); simp at this
  | x :: a, y :: b, ha, hb, h => by
    obtain ⟨a1, a2⟩ := List.pairwise_cons.1 ha
    obtain ⟨b1, b2⟩ := List.pairwise_cons.1 hb
    have hxy : x = y := by
      rcases List.mem_cons.1 ((h x).1 (by simp)) with h1 | h1
      · exact h1
      rcases List.mem_cons.1 ((h y).2 (by simp)) with h2 | h2
      · exact h2.symm
      exact absurd (List.lt_trans (a1 y h2) (b1 x h1)) (List.lt_irrefl _)
    subst hxy
    rw [asc_eq a b a2 b2 (fun v => ?_)]
    constructor
    · intro hv
      rcases List.mem_cons.1 ((h v).1 (by simp [hv])) with h1 | h1
      · subst h1; exact absurd (a1 v hv) (List.lt_irrefl _)
      · exact h1
    · intro hv
      rcases List.mem_cons.1 ((h v).2 (by simp [hv])) with h1 | h1
      · subst h1; exact absurd (b1 v hv) (List.lt_irrefl _)
      · exact h1
theorem compact_asc (l : List (List UInt8)) (hs : l.Pairwise (· ≤ ·)) : ∀ m, m ≤ l.length → (Lib.compactUpTo l.toArray m).Pairwise (· < ·) ∧ ∀ v, v ∈ Lib.compactUpTo l.toArray m ↔ v ∈ l.take m
  | 0, _ => by simp [Lib.compactUpTo]
  | m + 1, hm => by
    obtain ⟨h1, h2⟩ := compact_asc l hs m (by omega)
    have hm' : m < l.length := hm
    have hg : l.toArray[m]! = l[m] := by simp [hm']
    rw [Lib.compactUpTo_succ, List.take_add_one, List.getElem?_eq_getElem (by omega), hg]
    rcases Nat.eq_zero_or_pos m with rfl | hpos
    · have : Lib.keeps l.toArray 0 = true := by simp [Lib.keeps]
      rw [if_pos this]
      simp [Lib.compactUpTo]
    · have hg' : l.toArray[m - 1]! = l[m - 1] := by
        have : m - 1 < l.length := by omega
        simp [this]
      have hle : l[m - 1] ≤ l[m] := List.pairwise_iff_getElem.1 hs _ _ (by omega) (by omega) (by omega)
      by_cases hne : l[m] = l[m - 1]
      · have : Lib.keeps l.toArray m = false := Lib.keeps_neg hpos (by rw [hg, hg', hne])
        rw [this]
        simp only [Bool.false_eq_true, if_false, List.append_nil, Option.toList_some]
        refine ⟨h1, fun v => ?_⟩
        rw [h2 v, List.mem_append]
        constructor
        · exact .inl
        · rintro (h | h)
          · exact h
          · simp only [List.mem_singleton] at h
            rw [h, hne]
            exact List.mem_take_iff_getElem.2 ⟨m - 1, by omega, rfl⟩
      · have : Lib.keeps l.toArray m = true := Lib.keeps_pos (by rw [hg, hg']; exact hne)
        rw [if_pos this]
        refine ⟨List.pairwise_append.2 ⟨h1, by simp, fun x hx y hy => ?_⟩, fun v => by rw [List.mem_append, List.mem_append, h2 v, Option.toList_some]⟩
        simp only [List.mem_singleton] at hy
        subst hy
        obtain ⟨j, hj, rfl⟩ := List.mem_take_iff_getElem.1 ((h2 x).1 hx)
        have hj' : j < m := by omega
        have hlt : l[m - 1] < l[m] := lt_of_le_ne hle (fun e => hne e.symm)
        rcases Nat.lt_or_ge j (m - 1) with h3 | h3
        · have h4 : l[j] ≤ l[m - 1] := List.pairwise_iff_getElem.1 hs _ _ (by omega) (by omega) h3
          rcases Decidable.em (l[j] = l[m - 1]) with h5 | h5
          · rw [h5]; exact hlt
          · exact List.lt_trans (lt_of_le_ne h4 h5) hlt
        · have : j = m - 1 := by omega
          subst this
          exact hlt
def undoS (a : Affix) (w : List UInt8) : List (List UInt8) := if a.Kind = 0 then [w] else Lib.compact (sortS (undoC a w a.Pairs))
theorem undoS_asc (a : Affix) (w : List UInt8) : (undoS a w).Pairwise (· < ·) := by
  unfold undoS
  split
  · simp
  · exact (compact_asc _ (sortS_sorted _) _ (Nat.le_refl _)).1
theorem undoS_mem (a : Affix) (w v : List UInt8) (hk : a.Kind ≠ 0) : v ∈ undoS a w ↔ isB a w v := by
  unfold undoS
  rw [if_neg hk]
  have h := (compact_asc _ (sortS_sorted (undoC a w a.Pairs)) _ (Nat.le_refl _)).2 v
  rw [List.take_of_length_le (Nat.le_refl _)] at h
  exact h.trans ((sortS_perm _).mem_iff.trans (mem_all a w v hk))
theorem undoS_len (a : Affix) (w : List UInt8) (hk : a.Kind ≠ 0) : (undoS a w).length ≤ a.Pairs.length := by
  unfold undoS
  rw [if_neg hk]
  have h1 := (compact_sub (sortS (undoC a w a.Pairs))).1
  rw [sortS_len] at h1
  exact Nat.le_trans h1 (undoC_len a w a.Pairs)
theorem affix_Undo_eq (n : Nat) (a : Affix) (w : List UInt8) (hn : 1000 ≤ n) (hw : w.length ≤ 10000) (ha : lightA a) : affix_Undo n a w = some (undoS a w) := by
  unfold affix_Undo undoS
  by_cases hk : a.Kind = 0
  · simp [hk]
  rw [if_neg hk, if_neg hk]
  have : ∃ sd, affix_sideOf n a.Kind = some sd := by unfold affix_sideOf; split <;> exact ⟨_, rfl⟩
  obtain ⟨sd, hsd⟩ := this
  have hl := ha.1
  have hu := undoC_len a w a.Pairs
  simp only [hsd, bind_some', jn_def]
  rw [affix_Undo_L0_eq n a w sd _ hn hw ha hsd a.Pairs n 0 [] rfl (by omega) (by simp; omega)]
  simp only [List.nil_append, slices_Sort_string, slices_Compact_string]
  rw [chk_true (by omega)]
  simp only [bind_some']
  rw [chk_true (by rw [sortS_len]; omega)]
  rfl
/-! the reference: inserting -/
def withF (s : List UInt8) : List (List UInt8) → List (List UInt8)
  | [] => [s]
  | x :: t => if x < s then x :: withF s t else s :: (x :: t).filter (fun y => decide (y ≠ s))
theorem with_L0_done (n : Nat) (l : List (List UInt8)) (s : List UInt8) (K : List (List UInt8) → Bool → Option (List (List UInt8))) : ∀ (t : List (List UInt8)) (m i : Nat) (out : List (List UInt8)), l.drop i = t → t.length < m → out.length + t.length ≤ 1000000 → r23_with_L0 n l s K m out true i = K (out ++ t.filter (fun y => decide (y ≠ s))) true
  | [], m + 1, i, out, h, _, _ => by
    rw [r23_with_L0, if_neg (drop_nil' h)]
    simp
  | x :: t, m + 1, i, out, h, hm, hb => by
    obtain ⟨h1, h2, h3⟩ := drop_cons h
    simp only [List.length_cons] at hb
    have ih := fun out hb => with_L0_done n l s K t m (i + 1) out h3 (by simpa using hm) hb
    rw [r23_with_L0, if_pos h1]
    simp only [jn_def, h2, bind_some', Bool.not_true, Bool.false_eq_true, if_false]
    by_cases hx : x = s
    · rw [if_neg (by simpa using hx), ih _ (by omega)]
      simp [hx]
    · rw [if_pos hx, chk_true (by simp; omega), ih _ (by simp; omega)]
      simp [hx]
theorem with_L0_eq (n : Nat) (l : List (List UInt8)) (s : List UInt8) (K : List (List UInt8) → Bool → Option (List (List UInt8))) (hK : ∀ out, out.length ≤ 1000000 → K out false = some (out ++ [s])) (hK' : ∀ out, K out true = some out) : ∀ (t : List (List UInt8)) (m i : Nat) (out : List (List UInt8)), l.drop i = t → t.length < m → out.length + t.length < 1000000 → r23_with_L0 n l s K m out false i = some (out ++ withF s t)
  | [], m + 1, i, out, h, _, hb => by
    rw [r23_with_L0, if_neg (drop_nil' h), hK out (by simp at hb; omega)]
    rfl
  | x :: t, m + 1, i, out, h, hm, hb => by
    obtain ⟨h1, h2, h3⟩ := drop_cons h
    simp only [List.length_cons] at hb
    have ih := fun out hb => with_L0_eq n l s K hK hK' t m (i + 1) out h3 (by simpa using hm) hb
    have ihd := fun out hb => with_L0_done n l s K t m (i + 1) out h3 (by simpa using hm) hb
    rw [r23_with_L0, if_pos h1]
    simp only [jn_def, h2, bind_some', Bool.not_false, if_true, bytesLess_eq]
    by_cases hx : x < s
    · have hne : x ≠ s := fun e => List.lt_irrefl s (e ▸ hx)
      simp only [hx, decide_true, Bool.not_true, Bool.false_eq_true, if_false]
      rw [if_pos hne, chk_true (by simp; omega), ih _ (by simp; omega)]
      simp [withF, hx]
    · simp only [hx, decide_false, Bool.not_false, if_true]
      rw [chk_true (by simp; omega)]
      by_cases he : x = s
      · subst he
        rw [if_neg (by simp), ihd _ (by simp; omega), hK']
        simp [withF, hx]
      · rw [if_pos he, chk_true (by simp; omega), ihd _ (by simp; omega), hK']
        simp [withF, hx, he]
theorem r23_with_eq (n : Nat) (l : List (List UInt8)) (s : List UInt8) (hl : l.length < n) (hb : l.length ≤ 1000) : r23_with n l s = some (withF s l) := by
  unfold r23_with
  simp only [jn_def]
  rw [with_L0_eq n l s _ (fun out ho => by simp only [Bool.not_false, if_true]; rw [chk_true (by simp; omega)]) (fun out => by simp) l n 0 [] rfl hl (by simp; omega)]
  simp
theorem withF_mem (s v : List UInt8) : ∀ l, v ∈ withF s l ↔ v = s ∨ v ∈ l
  | [] => by simp [withF]
  | x :: t => by
    have ih := withF_mem s v t
    unfold withF
    split
    · simp only [List.mem_cons, ih]
      constructor
      · rintro (h | h | h)
        · exact .inr (.inl h)
        · exact .inl h
        · exact .inr (.inr h)
      · rintro (h | h | h)
        · exact .inr (.inl h)
        · exact .inl h
        · exact .inr (.inr h)
    · rw [List.mem_cons, List.mem_filter, decide_eq_true_eq]
      constructor
      · rintro (h | h)
        · exact .inl h
        · exact .inr h.1
      · intro h
        by_cases e : v = s
        · exact .inl e
        · exact .inr ⟨h.resolve_left e, e⟩
theorem withF_asc (s : List UInt8) : ∀ l : List (List UInt8), l.Pairwise (· < ·) → (withF s l).Pairwise (· < ·)
  | [], _ => by simp [withF]
  | x :: t, h => by
    obtain ⟨h1, h2⟩ := List.pairwise_cons.1 h
    unfold withF
    split
    · rename_i hx
      refine List.pairwise_cons.2 ⟨fun y hy => ?_, withF_asc s t h2⟩
      rcases (withF_mem s y t).1 hy with rfl | hy
      · exact hx
      · exact h1 y hy
    · rename_i hx
      refine List.pairwise_cons.2 ⟨fun y hy => ?_, h.filter _⟩
      obtain ⟨hy1, hy2⟩ := List.mem_filter.1 hy
      have hne : y ≠ s := by simpa using hy2
      have hsx : s ≤ x := hx
      rcases List.mem_cons.1 hy1 with rfl | hy3
      · exact lt_of_le_ne hsx (fun e => hne e.symm)
      · rcases Decidable.em (s = x) with hs | hs
        · rw [hs]; exact h1 y hy3
        · exact List.lt_trans (lt_of_le_ne hsx hs) (h1 y hy3)
theorem withF_len (s : List UInt8) : ∀ l, (withF s l).length ≤ l.length + 1
  | [] => by simp [withF]
  | x :: t => by
    have := withF_len s t
    unfold withF
    split
    · simp; omega
    · have := List.length_filter_le (fun y => decide (y ≠ s)) (x :: t)
      simp only [List.length_cons] at this ⊢
      omega
theorem r23_Undo_L0_eq (n : Nat) (a : Affix) (w : List UInt8) (hn : 2000 ≤ n) (hw : w.length ≤ 10000) (ha : lightA a) : ∀ (t : List Change) (m i : Nat) (out : List (List UInt8)), a.Pairs.drop i = t → t.length < m → out.length + t.length ≤ 1000 → out.Pairwise (· < ·) → ∃ r, r23_Undo_L0 n a w m out i = some r ∧ r.Pairwise (· < ·) ∧ ∀ v, v ∈ r ↔ v ∈ out ∨ (isB a w v ∧ ∃ p ∈ t, fitsS a.Kind p.New w ∧ v = replS a.Kind w p.New p.Old)
  | [], m + 1, i, out, h, _, _, ho => by
    rw [r23_Undo_L0, if_neg (drop_nil' h)]
    exact ⟨out, rfl, ho, fun v => by simp⟩
  | p :: t, m + 1, i, out, h, hm, hb, ho => by
    obtain ⟨h1, h2, h3⟩ := drop_cons h
    simp only [List.length_cons] at hb
    have hp := ha.2 p (List.mem_of_getElem? h2)
    have ih := fun out hb ho => r23_Undo_L0_eq n a w hn hw ha t m (i + 1) out h3 (by simpa using hm) hb ho
    have skip : ¬ (fitsS a.Kind p.New w ∧ isB a w (replS a.Kind w p.New p.Old)) → ∃ r, r23_Undo_L0 n a w m out (i + 1) = some r ∧ r.Pairwise (· < ·) ∧ ∀ v, v ∈ r ↔ v ∈ out ∨ (isB a w v ∧ ∃ q ∈ p :: t, fitsS a.Kind q.New w ∧ v = replS a.Kind w q.New q.Old) := fun hno => by
      obtain ⟨r, hr, hr1, hr2⟩ := ih out (by omega) ho
      refine ⟨r, hr, hr1, fun v => (hr2 v).trans ⟨?_, ?_⟩⟩
      · rintro (h | ⟨h4, q, h5, h6⟩)
        · exact .inl h
        · exact .inr ⟨h4, q, by simp [h5], h6⟩
      · rintro (h | ⟨h4, q, h5, h6⟩)
        · exact .inl h
        · rcases List.mem_cons.1 h5 with rfl | h5
          · exact absurd ⟨h6.1, h6.2 ▸ h4⟩ hno
          · exact .inr ⟨h4, q, h5, h6⟩
    rw [r23_Undo_L0, if_pos h1, h2]
    simp only [bind_some', r23_fits_eq, jn_def]
    by_cases hf : fitsS a.Kind p.New w
    · have hl := replS_len0 a.Kind w p.New p.Old
      have hle : p.New.length ≤ w.length := by have := hf.1; omega
      rw [r23_replaced_eq n _ _ _ _ hle (by omega) (by omega)]
      simp only [hf, decide_true, Bool.not_true, Bool.false_eq_true, if_false, bind_some', r01_Word_eq n _ (show 40 ≤ n by omega)]
      by_cases c1 : isWord (replS a.Kind w p.New p.Old)
      · simp only [c1, decide_true, Bool.not_true, Bool.false_eq_true, if_false, r23_Apply_eq n a (replS a.Kind w p.New p.Old) (by omega) (by omega) ha, bind_some']
        by_cases c2 : applyS a (replS a.Kind w p.New p.Old) = some w
        · rw [c2]
          simp only [enc, if_true, decide_true]
          rw [r23_with_eq n out _ (by omega) (by omega)]
          simp only [bind_some']
          have hwl := withF_len (replS a.Kind w p.New p.Old) out
          obtain ⟨r, hr, hr1, hr2⟩ := ih (withF (replS a.Kind w p.New p.Old) out) (by omega) (withF_asc _ _ ho)
          refine ⟨r, hr, hr1, fun v => (hr2 v).trans ?_⟩
          rw [withF_mem]
          constructor
          · rintro ((rfl | h) | ⟨h4, q, h5, h6⟩)
            · exact .inr ⟨⟨c1, c2⟩, p, by simp, hf, rfl⟩
            · exact .inl h
            · exact .inr ⟨h4, q, by simp [h5], h6⟩
          · rintro (h | ⟨h4, q, h5, h6⟩)
            · exact .inl (.inr h)
            · rcases List.mem_cons.1 h5 with rfl | h5
              · exact .inl (.inl h6.2)
              · exact .inr ⟨h4, q, h5, h6⟩
        · have hs := skip (fun h => c2 h.2.2)
          cases hA : applyS a (replS a.Kind w p.New p.Old) with
          | none => simpa [enc] using hs
          | some z =>
            have hz : z ≠ w := fun e => c2 (by rw [hA, e])
            simpa [enc, hz] using hs
      · simp only [c1, decide_false, Bool.not_false, if_true]
        exact skip (fun h => c1 h.2.1)
    · simp only [hf, decide_false, Bool.not_false, if_true]
      exact skip (fun h => hf h.1)
theorem r23_Undo_eq (n : Nat) (a : Affix) (w : List UInt8) (hn : 2000 ≤ n) (hw : w.length ≤ 10000) (ha : lightA a) : r23_Undo n a w = some (undoS a w) := by
  unfold r23_Undo
  by_cases hk : a.Kind = 0
  · simp [hk, undoS]
  rw [if_neg hk]
  have hl := ha.1
  obtain ⟨r, hr, hr1, hr2⟩ := r23_Undo_L0_eq n a w hn hw ha a.Pairs n 0 [] rfl (by omega) (by simp; omega) .nil
  rw [hr, asc_eq r (undoS a w) hr1 (undoS_asc a w) (fun v => ?_)]
  rw [hr2 v, undoS_mem a w v hk]
  constructor
  · rintro (h | h)
    · simp at h
    · exact h.1
  · exact fun h => .inr ⟨h, isB_from a w v hk h⟩
theorem undoS_bound (a : Affix) (w : List UInt8) (ha : lightA a) : (undoS a w).length ≤ 41 := by
  by_cases hk : a.Kind = 0
  · simp [undoS, hk]
  · have := undoS_len a w hk
    have := ha.1
    omega
theorem law23_AffixUndoes_true (a : Affix) (w : List UInt8) : law23_AffixUndoes 100000 a w = some true := by
  unfold law23_AffixUndoes
  refine ahead_eq a (r01_Word 100000 w) _ (by simp [ex23]) ⟨_, r01_Word_eq 100000 w (by omega)⟩ (fun h _ hw => ?_)
  rw [r01_Word_eq 100000 w (by omega)] at hw
  have hw' : isWord w := by simpa using hw
  have := hw'.2.1
  have hb := undoS_bound a w h
  simp only [Bool.false_eq_true, if_false]
  rw [affix_Undo_eq 100000 a w (by omega) (by omega) h, r23_Undo_eq 100000 a w (by omega) (by omega) h]
  simp only [bind_some']
  rw [r01_Same_eq _ _ _ (.inl (by omega))]
  simp [ex23]
theorem Forms_L0_eq (n : Nat) (w : List UInt8) (l : List (List UInt8)) (K : Bool → Option Bool) : ∀ (t : List (List UInt8)) (m i : Nat) (b : Bool), l.drop i = t → t.length < m → law23_AffixForms_L0 n w l K m b i = K (b || decide (w ∈ t))
  | [], m + 1, i, b, h, _ => by
    rw [law23_AffixForms_L0, if_neg (drop_nil' h)]
    simp
  | x :: t, m + 1, i, b, h, hm => by
    obtain ⟨h1, h2, h3⟩ := drop_cons h
    have ih := fun b => Forms_L0_eq n w l K t m (i + 1) b h3 (by simpa using hm)
    rw [law23_AffixForms_L0, if_pos h1]
    cases b with
    | true => simp [ih]
    | false =>
      simp only [h2, bind_some', ih, Bool.false_eq_true, if_false, Bool.false_or]
      congr 1
      by_cases hx : x = w
      · simp [hx]
      · have : ¬ w = x := fun e => hx e.symm
        simp [hx, this]
theorem applyP_word (k : Int) (w v : List UInt8) : ∀ t, applyP k w t = some v → isWord v
  | [], h => by simp [applyP] at h
  | p :: t, h => by
    unfold applyP at h
    split at h
    · split at h
      · rename_i hw
        injection h with h
        rw [← h]; exact hw
      · cases h
    · exact applyP_word k w v t h
theorem law23_AffixForms_true (a : Affix) (w : List UInt8) : law23_AffixForms 100000 a w = some true := by
  unfold law23_AffixForms
  refine ahead_eq a (r01_Word 100000 w) _ (by simp [ex23]) ⟨_, r01_Word_eq 100000 w (by omega)⟩ (fun h _ hw => ?_)
  rw [r01_Word_eq 100000 w (by omega)] at hw
  have hw' : isWord w := by simpa using hw
  have hlen := hw'.2.1
  have hb := undoS_bound a w h
  simp only [Bool.false_eq_true, if_false, jn_def]
  rw [affix_Undo_eq 100000 a w (by omega) (by omega) h, affix_Apply_eq 100000 a w (by omega) (by omega) h]
  simp only [bind_some', ex23]
  by_cases hk : a.Kind = 0
  · simp [hk, applyS, enc, undoS]
  rw [if_neg hk, if_neg (by have := undoS_len a w hk; omega)]
  cases hA : applyS a w with
  | none => simp [enc]
  | some v =>
    have hv : isWord v := by
      unfold applyS at hA
      rw [if_neg hk] at hA
      exact applyP_word _ _ _ _ hA
    have hvl := hv.2.1
    have hb' := undoS_bound a v h
    simp only [enc, if_true, r01_Word_eq 100000 v (by omega), bind_some', hv, decide_true, Bool.not_true, Bool.false_eq_true, if_false]
    rw [affix_Undo_eq 100000 a v (by omega) (by omega) h]
    simp only [bind_some']
    rw [Forms_L0_eq 100000 w (undoS a v) _ (undoS a v) 100000 0 false rfl (by omega)]
    have hm : w ∈ undoS a v := (undoS_mem a v w hk).2 ⟨hw', hA⟩
    simp [hm]
end Go.Proofs.Ytolgbjbfhoffpaa
