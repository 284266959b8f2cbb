/- Chapter 03: plain laws, the greatest and the least -/
import Derived.Test.YtoeolfnjblibpaaC7
namespace Go.Proofs.Ytoeolfnjblibpaa
open Go.Gl Go.Sort
set_option linter.unusedVariables false
set_option linter.unusedSimpArgs false
/-! declared names, the greatest and the least of them -/
theorem declared_L0 (n : Nat) (l N : List (List UInt8)) (M : List (List UInt8 × List (List UInt8))) (hM : ∀ s, (mget M s).isSome = decide (s ∈ N)) (k : List (List UInt8) → Option (List (List UInt8))) : ∀ (t : List (List UInt8)) (m i : Nat) (out : List (List UInt8)), l.drop i = t → t.length < m → out.length + t.length ≤ 1000000 → poset_declared_L0 n l M k m out i = k (out ++ t.filter fun s => decide (s ∈ N))
  | [], m + 1, i, out, h, _, _ => by rw [poset_declared_L0, if_neg (drop_nil' h)]; simp
  | x :: t, m + 1, i, out, h, hm, hb => by
    obtain ⟨h1, h2, h3⟩ := drop_cons h
    rw [List.length_cons] at hb
    rw [poset_declared_L0, if_pos h1, h2, bind_some', hM x]
    by_cases e : x ∈ N
    · simp only [e, decide_true, if_true, List.length_singleton]
      rw [chk_pos (by omega), declared_L0 n l N M hM k t m (i + 1) _ h3 (by simpa using hm) (by rw [List.length_append, List.length_singleton]; omega), List.filter_cons_of_pos (by simpa using e), List.append_assoc]
      rfl
    · simp only [e, decide_false, Bool.false_eq_true, if_false]
      rw [declared_L0 n l N M hM k t m (i + 1) _ h3 (by simpa using hm) (by omega), List.filter_cons_of_neg (by simpa using e)]
theorem compact_eq {l : List (List UInt8)} (h : l.Pairwise (· ≤ ·)) : (Lib.compact l).Pairwise (· < ·) ∧ ∀ v, v ∈ Lib.compact l ↔ v ∈ l := by
  have := compact_asc l h l.length (Nat.le_refl _)
  rw [List.take_length] at this
  exact this
theorem declared_p (n : Nat) (d : List TypeDecl) (hd : Wf d) (hn : 2000 ≤ n) (l : List (List UInt8)) (hl : l.length ≤ 30) : ∃ r, poset_declared n d l = some r ∧ Asc (fun v => v ∈ nms d ∧ v ∈ l) r := by
  have h0 := hd.lt.1
  obtain ⟨M, h1, h2⟩ := supers_eq n d hd.nd (by omega)
  unfold poset_declared
  have hfl := List.length_filter_le (fun s => decide (s ∈ nms d)) l
  rw [h1, bind_some', jn_def, declared_L0 n l (nms d) M (isSup_some h2) _ l n 0 [] rfl (by omega) (by simp; omega), List.nil_append]
  unfold slices_Sort_string slices_Compact_string
  rw [chk_pos (by omega), bind_some', chk_pos (by rw [sortS_len]; omega), bind_some']
  obtain ⟨c1, c2⟩ := compact_eq (sortS_sorted (l.filter fun s => decide (s ∈ nms d)))
  refine ⟨_, rfl, c1, fun v => ?_⟩
  rw [c2 v, (sortS_perm _).mem_iff, List.mem_filter]
  simp [and_comm]
theorem declared_rL0 (n : Nat) (d : List TypeDecl) (hd : d.length < n) (l : List (List UInt8)) : ∀ (t : List (List UInt8)) (m i : Nat) (out : List (List UInt8)), l.drop i = t → t.length < m → out.Pairwise (· < ·) → out.length + t.length ≤ 1000 → out.length + t.length < n → ∃ r, r03_declared_L0 n d l m out i = some r ∧ r.Pairwise (· < ·) ∧ (∀ v, v ∈ r ↔ v ∈ out ∨ (v ∈ nms d ∧ v ∈ t))
  | [], m + 1, i, out, h, _, ha, _, _ => by rw [r03_declared_L0, if_neg (drop_nil' h)]; exact ⟨out, rfl, ha, fun v => by simp⟩
  | x :: t, m + 1, i, out, h, hm, ha, hl, hn => by
    obtain ⟨h1, h2, h3⟩ := drop_cons h
    rw [List.length_cons] at hl hn
    rw [r03_declared_L0, if_pos h1, h2, bind_some', find_eq n d x hd, bind_some']
    by_cases e : x ∈ nms d
    · have : ¬ posN x d 0 < 0 := fun q => (posN_neg x d).1 q e
      rw [if_pos (by omega)]
      obtain ⟨r, r1, r2, r3, r4⟩ := Put_eq n out x (by omega) (by omega) ha
      rw [r1, bind_some']
      obtain ⟨q, q1, q2, q3⟩ := declared_rL0 n d hd l t m (i + 1) r h3 (by simpa using hm) r2 (by omega) (by omega)
      refine ⟨q, q1, q2, fun v => ?_⟩
      rw [q3 v, r3 v, List.mem_cons]
      constructor
      · rintro ((h | h) | h)
        · exact .inr ⟨h ▸ e, .inl h⟩
        · exact .inl h
        · exact .inr ⟨h.1, .inr h.2⟩
      · rintro (h | ⟨h, h' | h'⟩)
        · exact .inl (.inr h)
        · exact .inl (.inl h')
        · exact .inr ⟨h, h'⟩
    · have := (posN_neg x d).2 e
      rw [if_neg (by omega)]
      obtain ⟨q, q1, q2, q3⟩ := declared_rL0 n d hd l t m (i + 1) out h3 (by simpa using hm) ha (by omega) (by omega)
      refine ⟨q, q1, q2, fun v => ?_⟩
      rw [q3 v, List.mem_cons]
      constructor
      · rintro (h | h)
        · exact .inl h
        · exact .inr ⟨h.1, .inr h.2⟩
      · rintro (h | ⟨h, h' | h'⟩)
        · exact .inl h
        · exact absurd (h' ▸ h) e
        · exact .inr ⟨h, h'⟩
theorem declared_r (n : Nat) (d : List TypeDecl) (hd : Wf d) (hn : 2000 ≤ n) (l : List (List UInt8)) (hl : l.length ≤ 30) : ∃ r, r03_declared n d l = some r ∧ Asc (fun v => v ∈ nms d ∧ v ∈ l) r := by
  have h0 := hd.lt.1
  obtain ⟨r, r1, r2, r3⟩ := declared_rL0 n d (by omega) l l n 0 [] rfl (by omega) .nil (by simp; omega) (by simp; omega)
  exact ⟨r, r1, r2, fun v => by rw [r3 v]; simp⟩
theorem Maximal_1 (n : Nat) (y x : List UInt8) (a : List (List UInt8)) (ha : a.length < n) : poset_Maximal_1 n y x a = some (decide (y ≠ x) && decide (y ∈ a)) := by
  unfold poset_Maximal_1
  rw [Contains_eq n a y ha]
  by_cases e : y = x <;> simp [e]
/-- no other one of r is above v -/
def isMax (d : List TypeDecl) (r : List (List UInt8)) (v : List UInt8) : Prop := ∀ x ∈ r, x ≠ v → ¬ Reach (supOf d) v x
def isMin (d : List TypeDecl) (r : List (List UInt8)) (v : List UInt8) : Prop := ∀ x ∈ r, x ≠ v → ¬ Reach (supOf d) x v
theorem part_cons {P : List UInt8 → Prop} {x : List UInt8} {t u : List (List UInt8)} (hx : x ∉ t) (h1 : u.Sublist t) (h2 : ∀ v ∈ t, v ∈ u ↔ P v) : (P x → (x :: u).Sublist (x :: t) ∧ ∀ v ∈ x :: t, v ∈ x :: u ↔ P v) ∧ (¬ P x → u.Sublist (x :: t) ∧ ∀ v ∈ x :: t, v ∈ u ↔ P v) := by
  constructor
  · intro hp
    refine ⟨h1.cons_cons x, fun v hv => ?_⟩
    rcases List.mem_cons.1 hv with rfl | hv
    · simp [hp]
    · have : v ≠ x := fun e => hx (e ▸ hv)
      rw [List.mem_cons, ← h2 v hv]; simp [this]
  · intro hp
    refine ⟨h1.cons x, fun v hv => ?_⟩
    rcases List.mem_cons.1 hv with rfl | hv
    · exact ⟨fun h => absurd (h1.subset h) hx, fun h => absurd h hp⟩
    · exact h2 v hv
theorem Maximal_L0 (n : Nat) (d : List TypeDecl) (hd : Wf d) (hn : 2000 ≤ n) (r : List (List UInt8)) (hr : r.length ≤ 100) (hrn : ∀ v ∈ r, v ∈ nms d) (M : List (List UInt8 × List (List UInt8))) (hM : isSup d M) : ∀ (t : List (List UInt8)) (m i : Nat) (out : List (List UInt8)), r.drop i = t → t.length < m → t.Nodup → out.length + t.length ≤ 1000000 → ∃ u, poset_Maximal_L0 n r M m out i = some (out ++ u) ∧ u.Sublist t ∧ ∀ v ∈ t, v ∈ u ↔ isMax d r v
  | [], m + 1, i, out, h, _, _, _ => by rw [poset_Maximal_L0, if_neg (drop_nil' h)]; exact ⟨[], by simp, .refl _, by simp⟩
  | x :: t, m + 1, i, out, h, hm, hnd, hb => by
    obtain ⟨h1, h2, h3⟩ := drop_cons h
    obtain ⟨n1, n2⟩ := List.nodup_cons.1 hnd
    have h0 := hd.lt.1
    have hxN := hrn x (List.mem_of_getElem? h2)
    rw [List.length_cons] at hb
    obtain ⟨a, a1, a2⟩ := reach_eq n (nms d) M (supOf d) (isSup_get hM) (isSup_some hM) (fun s => by have := supOf_len hd s; omega) (by omega) (by rw [nms_len]; omega) (supOf_cl hd) x
    have hal := a2.le hd (fun v => up_in hd)
    rw [poset_Maximal_L0, if_pos h1, h2, bind_some', a1, bind_some', ContainsFunc_eq n r _ (fun y => decide (y ≠ x) && decide (y ∈ a)) (fun y _ => Maximal_1 n y x a (by omega)) (by omega), bind_some']
    have hP : (r.any fun y => decide (y ≠ x) && decide (y ∈ a)) = true ↔ ¬ isMax d r x := by
      rw [List.any_eq_true]
      unfold isMax
      constructor
      · rintro ⟨y, hy, q⟩ hmax
        simp at q
        exact hmax y hy q.1 ((a2.mem y).1 q.2).2
      · intro hno
        apply Classical.byContradiction
        intro hne
        apply hno
        intro y hy q hre
        exact hne ⟨y, hy, by simp [q, (a2.mem y).2 ⟨hxN, hre⟩]⟩
    by_cases e : isMax d r x
    · have : (r.any fun y => decide (y ≠ x) && decide (y ∈ a)) = false := by
        cases hq : (r.any fun y => decide (y ≠ x) && decide (y ∈ a)) with
        | false => rfl
        | true => exact absurd e (hP.1 hq)
      rw [this]
      simp only [Bool.not_false, if_true, List.length_singleton]
      rw [chk_pos (by omega)]
      obtain ⟨u, u1, u2, u3⟩ := Maximal_L0 n d hd hn r hr hrn M hM t m (i + 1) (out ++ [x]) h3 (by simpa using hm) n2 (by rw [List.length_append, List.length_singleton]; omega)
      obtain ⟨p1, p2⟩ := (part_cons n1 u2 u3).1 e
      exact ⟨x :: u, by rw [u1]; simp, p1, p2⟩
    · rw [hP.2 e]
      simp only [Bool.not_true, Bool.false_eq_true, if_false]
      obtain ⟨u, u1, u2, u3⟩ := Maximal_L0 n d hd hn r hr hrn M hM t m (i + 1) out h3 (by simpa using hm) n2 (by omega)
      obtain ⟨p1, p2⟩ := (part_cons n1 u2 u3).2 e
      exact ⟨u, u1, p1, p2⟩
def maxP (d : List TypeDecl) (l : List (List UInt8)) (v : List UInt8) : Prop := (v ∈ nms d ∧ v ∈ l) ∧ ∀ x, x ∈ nms d ∧ x ∈ l → x ≠ v → ¬ Reach (supOf d) v x
def minP (d : List TypeDecl) (l : List (List UInt8)) (v : List UInt8) : Prop := (v ∈ nms d ∧ v ∈ l) ∧ ∀ x, x ∈ nms d ∧ x ∈ l → x ≠ v → ¬ Reach (supOf d) x v
theorem Asc.part {P Q : List UInt8 → Prop} {r u : List (List UInt8)} (h : Asc P r) (h1 : u.Sublist r) (h2 : ∀ v ∈ r, v ∈ u ↔ Q v) : Asc (fun v => P v ∧ Q v) u := ⟨h.asc.sublist h1, fun v => ⟨fun hv => ⟨(h.mem v).1 (h1.subset hv), (h2 v (h1.subset hv)).1 hv⟩, fun hv => (h2 v ((h.mem v).2 hv.1)).2 hv.2⟩⟩
theorem Asc.congr {P Q : List UInt8 → Prop} {r : List (List UInt8)} (h : Asc P r) (e : ∀ v, P v ↔ Q v) : Asc Q r := ⟨h.asc, fun v => (h.mem v).trans (e v)⟩
theorem isMax_iff {d : List TypeDecl} {l r : List (List UInt8)} (h : Asc (fun v => v ∈ nms d ∧ v ∈ l) r) (v : List UInt8) : ((v ∈ nms d ∧ v ∈ l) ∧ isMax d r v) ↔ maxP d l v := by
  unfold isMax maxP
  exact ⟨fun ⟨a, b⟩ => ⟨a, fun x hx => b x ((h.mem x).2 hx)⟩, fun ⟨a, b⟩ => ⟨a, fun x hx => b x ((h.mem x).1 hx)⟩⟩
theorem isMin_iff {d : List TypeDecl} {l r : List (List UInt8)} (h : Asc (fun v => v ∈ nms d ∧ v ∈ l) r) (v : List UInt8) : ((v ∈ nms d ∧ v ∈ l) ∧ isMin d r v) ↔ minP d l v := by
  unfold isMin minP
  exact ⟨fun ⟨a, b⟩ => ⟨a, fun x hx => b x ((h.mem x).2 hx)⟩, fun ⟨a, b⟩ => ⟨a, fun x hx => b x ((h.mem x).1 hx)⟩⟩
theorem dcl_len {d : List TypeDecl} (hd : Wf d) {l r : List (List UInt8)} (h : Asc (fun v => v ∈ nms d ∧ v ∈ l) r) : r.length ≤ 16 := h.le hd (fun v q => q.1)
theorem Maximal_eq (n : Nat) (d : List TypeDecl) (hd : Wf d) (hn : 2000 ≤ n) (l : List (List UInt8)) (hl : l.length ≤ 30) : ∃ r, poset_Maximal n d l = some r ∧ Asc (maxP d l) r := by
  have h0 := hd.lt.1
  obtain ⟨r, r1, r2⟩ := declared_p n d hd hn l hl
  obtain ⟨M, h1, h2⟩ := supers_eq n d hd.nd (by omega)
  have hrl := dcl_len hd r2
  obtain ⟨u, u1, u2, u3⟩ := Maximal_L0 n d hd hn r (by omega) (fun v hv => ((r2.mem v).1 hv).1) M h2 r n 0 [] rfl (by omega) r2.nodup (by simp; omega)
  exact ⟨u, by unfold poset_Maximal; rw [r1, bind_some', h1, bind_some', u1, List.nil_append], (r2.part u2 u3).congr (isMax_iff r2)⟩
/-! the reference's -/
theorem idx_eq {r : List (List UInt8)} (hr : r.Nodup) {i j : Nat} {x y : List UInt8} (hi : r[i]? = some x) (hj : r[j]? = some y) : j = i ↔ y = x := by
  constructor
  · rintro rfl; rw [hi] at hj; exact (Option.some.inj hj).symm
  · rintro rfl
    obtain ⟨a1, a2⟩ := List.getElem?_eq_some_iff.1 hi
    obtain ⟨b1, b2⟩ := List.getElem?_eq_some_iff.1 hj
    exact (List.getElem_inj hr).1 (b2.trans a2.symm)
theorem rMaximal_L1 (n : Nat) (r : List (List UInt8)) (hr : r.Nodup) (i : Nat) (x : List UInt8) (hx : r[i]? = some x) (a : List (List UInt8)) (ha : a.length < n) (k : Bool → Option (List (List UInt8))) : ∀ (t : List (List UInt8)) (m j : Nat) (b : Bool), r.drop j = t → t.length < m → r03_Maximal_L1 n r i a k m b j = k (b && t.all fun y => decide (y = x) || !decide (y ∈ a))
  | [], m + 1, j, b, h, _ => by rw [r03_Maximal_L1, if_neg (drop_nil' h)]; simp
  | y :: t, m + 1, j, b, h, hm => by
    obtain ⟨h1, h2, h3⟩ := drop_cons h
    have ih := fun b' => rMaximal_L1 n r hr i x hx a ha k t m (j + 1) b' h3 (by simpa using hm)
    have hij := idx_eq hr hx h2
    rw [r03_Maximal_L1, if_pos h1, h2, bind_some', Among_eq n a y ha, bind_some', ih, ih, ih, List.all_cons]
    cases b with
    | false => simp
    | true =>
      by_cases e : j = i
      · have := hij.1 e
        simp [e, this]
      · have : ¬ y = x := fun q => e (hij.2 q)
        simp [e, this]
theorem rMaximal_L0 (n : Nat) (d : List TypeDecl) (hd : Wf d) (hn : 2000 ≤ n) (r : List (List UInt8)) (hr : r.length ≤ 100) (hrd : r.Nodup) (hrn : ∀ v ∈ r, v ∈ nms d) : ∀ (t : List (List UInt8)) (m i : Nat) (out : List (List UInt8)), r.drop i = t → t.length < m → t.Nodup → out.length + t.length ≤ 1000000 → ∃ u, r03_Maximal_L0 n d r m out i = some (out ++ u) ∧ u.Sublist t ∧ ∀ v ∈ t, v ∈ u ↔ isMax d r v
  | [], m + 1, i, out, h, _, _, _ => by rw [r03_Maximal_L0, if_neg (drop_nil' h)]; exact ⟨[], by simp, .refl _, by simp⟩
  | x :: t, m + 1, i, out, h, hm, hnd, hb => by
    obtain ⟨h1, h2, h3⟩ := drop_cons h
    obtain ⟨n1, n2⟩ := List.nodup_cons.1 hnd
    have hxN := hrn x (List.mem_of_getElem? h2)
    rw [List.length_cons] at hb
    obtain ⟨a, a1, a2⟩ := rAbove_eq n d hd hn x
    have hal := a2.le hd (fun v => up_in hd)
    rw [r03_Maximal_L0, if_pos h1, h2, bind_some', a1, bind_some', jn_def, rMaximal_L1 n r hrd i x h2 a (by omega) _ r n 0 true rfl (by omega), Bool.true_and]
    have hP : (r.all fun y => decide (y = x) || !decide (y ∈ a)) = true ↔ isMax d r x := by
      rw [List.all_eq_true]
      unfold isMax
      constructor
      · intro hall y hy q hre
        have := hall y hy
        simp [q, (a2.mem y).2 ⟨hxN, hre⟩] at this
      · intro hmax y hy
        by_cases q : y = x
        · simp [q]
        · have : y ∉ a := fun hya => hmax y hy q ((a2.mem y).1 hya).2
          simp [this]
    by_cases e : isMax d r x
    · rw [hP.2 e]
      simp only [if_true, List.length_singleton]
      rw [chk_pos (by omega)]
      obtain ⟨u, u1, u2, u3⟩ := rMaximal_L0 n d hd hn r hr hrd hrn t m (i + 1) (out ++ [x]) h3 (by simpa using hm) n2 (by rw [List.length_append, List.length_singleton]; omega)
      obtain ⟨p1, p2⟩ := (part_cons n1 u2 u3).1 e
      exact ⟨x :: u, by rw [u1]; simp, p1, p2⟩
    · rw [if_neg (fun q => e (hP.1 q))]
      obtain ⟨u, u1, u2, u3⟩ := rMaximal_L0 n d hd hn r hr hrd hrn t m (i + 1) out h3 (by simpa using hm) n2 (by omega)
      obtain ⟨p1, p2⟩ := (part_cons n1 u2 u3).2 e
      exact ⟨u, u1, p1, p2⟩
theorem rMaximal_eq (n : Nat) (d : List TypeDecl) (hd : Wf d) (hn : 2000 ≤ n) (l : List (List UInt8)) (hl : l.length ≤ 30) : ∃ r, r03_Maximal n d l = some r ∧ Asc (maxP d l) r := by
  obtain ⟨r, r1, r2⟩ := declared_r n d hd hn l hl
  have hrl := dcl_len hd r2
  obtain ⟨u, u1, u2, u3⟩ := rMaximal_L0 n d hd hn r (by omega) r2.nodup (fun v hv => ((r2.mem v).1 hv).1) r n 0 [] rfl (by omega) r2.nodup (by simp; omega)
  exact ⟨u, by unfold r03_Maximal; rw [r1, bind_some', u1, List.nil_append], (r2.part u2 u3).congr (isMax_iff r2)⟩
theorem rMinimal_L1 (n : Nat) (d : List TypeDecl) (hd : Wf d) (hn : 2000 ≤ n) (r : List (List UInt8)) (hr : r.Nodup) (hrn : ∀ v ∈ r, v ∈ nms d) (i : Nat) (x : List UInt8) (hx : r[i]? = some x) (k : Bool → Option (List (List UInt8))) : ∀ (t : List (List UInt8)) (m j : Nat) (b : Bool), r.drop j = t → t.length < m → ∃ b', r03_Minimal_L1 n d r i k m b j = k b' ∧ (b' = true ↔ b = true ∧ ∀ y ∈ t, y ≠ x → ¬ Reach (supOf d) y x)
  | [], m + 1, j, b, h, _ => by rw [r03_Minimal_L1, if_neg (drop_nil' h)]; exact ⟨b, rfl, by simp⟩
  | y :: t, m + 1, j, b, h, hm => by
    obtain ⟨h1, h2, h3⟩ := drop_cons h
    have hyN := hrn y (List.mem_of_getElem? h2)
    have hij := idx_eq hr hx h2
    obtain ⟨a, a1, a2⟩ := rAbove_eq n d hd hn y
    have hal := a2.le hd (fun v => up_in hd)
    rw [r03_Minimal_L1, if_pos h1, h2, bind_some', a1, bind_some', hx, bind_some', Among_eq n a x (by omega), bind_some']
    cases b with
    | false =>
      rw [if_neg (by simp)]
      obtain ⟨b', b1, b2⟩ := rMinimal_L1 n d hd hn r hr hrn i x hx k t m (j + 1) false h3 (by simpa using hm)
      exact ⟨b', b1, by rw [b2]; simp⟩
    | true =>
      rw [if_pos rfl]
      by_cases e : j = i
      · rw [if_pos e]
        obtain ⟨b', b1, b2⟩ := rMinimal_L1 n d hd hn r hr hrn i x hx k t m (j + 1) true h3 (by simpa using hm)
        refine ⟨b', b1, b2.trans ⟨fun ⟨q1, q2⟩ => ⟨q1, fun z hz q => ?_⟩, fun ⟨q1, q2⟩ => ⟨q1, fun z hz => q2 z (by simp [hz])⟩⟩⟩
        rcases List.mem_cons.1 hz with rfl | hz
        · exact absurd (hij.1 e) q
        · exact q2 z hz q
      · rw [if_neg e]
        have hne : y ≠ x := fun q => e (hij.2 q)
        obtain ⟨b', b1, b2⟩ := rMinimal_L1 n d hd hn r hr hrn i x hx k t m (j + 1) (!decide (x ∈ a)) h3 (by simpa using hm)
        refine ⟨b', b1, b2.trans ⟨fun ⟨q1, q2⟩ => ⟨rfl, fun z hz q => ?_⟩, fun ⟨q1, q2⟩ => ⟨?_, fun z hz => q2 z (by simp [hz])⟩⟩⟩
        · rcases List.mem_cons.1 hz with rfl | hz
          · have : x ∉ a := by simpa using q1
            exact fun hre => this ((a2.mem x).2 ⟨hyN, hre⟩)
          · exact q2 z hz q
        · have : x ∉ a := fun hxa => q2 y (by simp) hne ((a2.mem x).1 hxa).2
          simp [this]
theorem rMinimal_L0 (n : Nat) (d : List TypeDecl) (hd : Wf d) (hn : 2000 ≤ n) (r : List (List UInt8)) (hr : r.length ≤ 100) (hrd : r.Nodup) (hrn : ∀ v ∈ r, v ∈ nms d) : ∀ (t : List (List UInt8)) (m i : Nat) (out : List (List UInt8)), r.drop i = t → t.length < m → t.Nodup → out.length + t.length ≤ 1000000 → ∃ u, r03_Minimal_L0 n d r m out i = some (out ++ u) ∧ u.Sublist t ∧ ∀ v ∈ t, v ∈ u ↔ isMin d r v
  | [], m + 1, i, out, h, _, _, _ => by rw [r03_Minimal_L0, if_neg (drop_nil' h)]; exact ⟨[], by simp, .refl _, by simp⟩
  | x :: t, m + 1, i, out, h, hm, hnd, hb => by
    obtain ⟨h1, h2, h3⟩ := drop_cons h
    obtain ⟨n1, n2⟩ := List.nodup_cons.1 hnd
    rw [List.length_cons] at hb
    obtain ⟨b', b1, b2⟩ := rMinimal_L1 n d hd hn r hrd hrn i x h2 (fun (free_14 : Bool) =>
      if free_14 = true then
       (r[i]?).bind fun x43 =>
       chk ((out).length + ([x43]).length ≤ 137438953472) (
       r03_Minimal_L0 n d r m (out ++ [x43]) (i + 1))
      else
       r03_Minimal_L0 n d r m out (i + 1)) r n 0 true rfl (by omega)
    rw [r03_Minimal_L0, if_pos h1, jn_def, b1]
    have hP : b' = true ↔ isMin d r x := by rw [b2]; simp [isMin]
    by_cases e : isMin d r x
    · rw [if_pos (hP.2 e), h2, bind_some', List.length_singleton, chk_pos (by omega)]
      obtain ⟨u, u1, u2, u3⟩ := rMinimal_L0 n d hd hn r hr hrd hrn t m (i + 1) (out ++ [x]) h3 (by simpa using hm) n2 (by rw [List.length_append, List.length_singleton]; omega)
      obtain ⟨p1, p2⟩ := (part_cons n1 u2 u3).1 e
      exact ⟨x :: u, by rw [u1]; simp, p1, p2⟩
    · rw [if_neg (fun q => e (hP.1 q))]
      obtain ⟨u, u1, u2, u3⟩ := rMinimal_L0 n d hd hn r hr hrd hrn t m (i + 1) out h3 (by simpa using hm) n2 (by omega)
      obtain ⟨p1, p2⟩ := (part_cons n1 u2 u3).2 e
      exact ⟨u, u1, p1, p2⟩
theorem rMinimal_eq (n : Nat) (d : List TypeDecl) (hd : Wf d) (hn : 2000 ≤ n) (l : List (List UInt8)) (hl : l.length ≤ 30) : ∃ r, r03_Minimal n d l = some r ∧ Asc (minP d l) r := by
  obtain ⟨r, r1, r2⟩ := declared_r n d hd hn l hl
  have hrl := dcl_len hd r2
  obtain ⟨u, u1, u2, u3⟩ := rMinimal_L0 n d hd hn r (by omega) r2.nodup (fun v hv => ((r2.mem v).1 hv).1) r n 0 [] rfl (by omega) r2.nodup (by simp; omega)
  exact ⟨u, by unfold r03_Minimal; rw [r1, bind_some', u1, List.nil_append], (r2.part u2 u3).congr (isMin_iff r2)⟩
theorem Minimal_L1 (n : Nat) (k : List (List UInt8 × Bool) → Option (List (List UInt8))) (x : List UInt8) (a : List (List UInt8)) : ∀ (t : List (List UInt8)) (m i : Nat) (cov : List (List UInt8 × Bool)), a.drop i = t → t.length < m → ∃ cov', poset_Minimal_L1 n k x a m i cov = k cov' ∧ ∀ s, (mget cov' s).getD false = true ↔ (mget cov s).getD false = true ∨ (s ∈ t ∧ s ≠ x)
  | [], m + 1, i, cov, h, _ => by rw [poset_Minimal_L1, if_neg (drop_nil' h)]; exact ⟨cov, rfl, by simp⟩
  | y :: t, m + 1, i, cov, h, hm => by
    obtain ⟨h1, h2, h3⟩ := drop_cons h
    rw [poset_Minimal_L1, if_pos h1, h2, bind_some']
    by_cases e : y = x
    · rw [if_neg (by simp [e])]
      obtain ⟨cov', c1, c2⟩ := Minimal_L1 n k x a t m (i + 1) cov h3 (by simpa using hm)
      refine ⟨cov', c1, fun s => (c2 s).trans ?_⟩
      rw [List.mem_cons]
      constructor
      · rintro (q | q)
        · exact .inl q
        · exact .inr ⟨.inr q.1, q.2⟩
      · rintro (q | ⟨q | q, q'⟩)
        · exact .inl q
        · exact absurd (q.trans e) q'
        · exact .inr ⟨q, q'⟩
    · rw [if_pos e]
      obtain ⟨cov', c1, c2⟩ := Minimal_L1 n k x a t m (i + 1) (mset cov y true) h3 (by simpa using hm)
      refine ⟨cov', c1, fun s => (c2 s).trans ?_⟩
      rw [mget_mset, List.mem_cons]
      by_cases q : s = y
      · subst q
        simp [e]
      · simp [q]
theorem Minimal_L0 (n : Nat) (d : List TypeDecl) (hd : Wf d) (hn : 2000 ≤ n) (r : List (List UInt8)) (hrn : ∀ v ∈ r, v ∈ nms d) (M : List (List UInt8 × List (List UInt8))) (hM : isSup d M) (k : List (List UInt8 × Bool) → Option (List (List UInt8))) : ∀ (t : List (List UInt8)) (m i : Nat) (cov : List (List UInt8 × Bool)), r.drop i = t → t.length < m → ∃ cov', poset_Minimal_L0 n r M k m i cov = k cov' ∧ ∀ s, (mget cov' s).getD false = true ↔ (mget cov s).getD false = true ∨ ∃ x ∈ t, Reach (supOf d) x s ∧ s ≠ x
  | [], m + 1, i, cov, h, _ => by rw [poset_Minimal_L0, if_neg (drop_nil' h)]; exact ⟨cov, rfl, by simp⟩
  | x :: t, m + 1, i, cov, h, hm => by
    obtain ⟨h1, h2, h3⟩ := drop_cons h
    have h0 := hd.lt.1
    have hxN := hrn x (List.mem_of_getElem? h2)
    obtain ⟨a, a1, a2⟩ := reach_eq n (nms d) M (supOf d) (isSup_get hM) (isSup_some hM) (fun s => by have := supOf_len hd s; omega) (by omega) (by rw [nms_len]; omega) (supOf_cl hd) x
    have hal := a2.le hd (fun v => up_in hd)
    obtain ⟨c, c1, c2⟩ := Minimal_L1 n (fun (covered_24 : (List (List UInt8 × Bool))) => poset_Minimal_L0 n r M k m (i + 1) covered_24) x a a n 0 cov rfl (by omega)
    rw [poset_Minimal_L0, if_pos h1, jn_def, h2, bind_some', a1, bind_some', c1]
    obtain ⟨cov', q1, q2⟩ := Minimal_L0 n d hd hn r hrn M hM k t m (i + 1) c h3 (by simpa using hm)
    refine ⟨cov', q1, fun s => (q2 s).trans ?_⟩
    rw [c2 s, a2.mem s]
    constructor
    · rintro ((q | q) | ⟨y, hy, q⟩)
      · exact .inl q
      · exact .inr ⟨x, by simp, q.1.2, q.2⟩
      · exact .inr ⟨y, by simp [hy], q⟩
    · rintro (q | ⟨y, hy, q⟩)
      · exact .inl (.inl q)
      · rcases List.mem_cons.1 hy with rfl | hy
        · exact .inl (.inr ⟨⟨hxN, q.1⟩, q.2⟩)
        · exact .inr ⟨y, hy, q⟩
theorem Minimal_eq (n : Nat) (d : List TypeDecl) (hd : Wf d) (hn : 2000 ≤ n) (l : List (List UInt8)) (hl : l.length ≤ 30) : ∃ r, poset_Minimal n d l = some r ∧ Asc (minP d l) r := by
  have h0 := hd.lt.1
  obtain ⟨r, r1, r2⟩ := declared_p n d hd hn l hl
  obtain ⟨M, h1, h2⟩ := supers_eq n d hd.nd (by omega)
  have hrl := dcl_len hd r2
  obtain ⟨cov, c1, c2⟩ := Minimal_L0 n d hd hn r (fun v hv => ((r2.mem v).1 hv).1) M h2 (fun (covered_16 : (List (List UInt8 × Bool))) =>
    (slices_DeleteFunc_string n r (fun p => poset_Minimal_1 n p covered_16)).bind fun r47 => some r47) r n 0 [] rfl (by omega)
  refine ⟨r.filter fun s => !(mget cov s).getD false, ?_, (r2.part (u := r.filter fun s => !(mget cov s).getD false) (Q := isMin d r) List.filter_sublist (fun v hv => ?_)).congr (isMin_iff r2)⟩
  · unfold poset_Minimal
    rw [r1, bind_some', h1, bind_some', jn_def, c1, Delete_eq n r (fun p => poset_Minimal_1 n p cov) (fun s => (mget cov s).getD false) (fun x _ => rfl) (by omega) (by omega)]
    rfl
  · rw [List.mem_filter]
    have := c2 v
    rw [mget_nil] at this
    unfold isMin
    constructor
    · rintro ⟨_, q⟩ y hy hne hre
      have q2 := this.2 (.inr ⟨y, hy, hre, fun e => hne e.symm⟩)
      rw [q2] at q
      cases q
    · intro hmin
      refine ⟨hv, ?_⟩
      cases hq : (mget cov v).getD false with
      | false => rfl
      | true =>
        rcases this.1 hq with q | ⟨y, hy, q1, q2⟩
        · cases q
        · exact absurd q1 (hmin y hy (fun e => q2 e.symm))
theorem maxP_len {d : List TypeDecl} (hd : Wf d) {l r : List (List UInt8)} (h : Asc (maxP d l) r) : r.length ≤ 16 := h.le hd (fun v q => q.1.1)
theorem minP_len {d : List TypeDecl} (hd : Wf d) {l r : List (List UInt8)} (h : Asc (minP d l) r) : r.length ≤ 16 := h.le hd (fun v q => q.1.1)
theorem Extremes_main (n : Nat) (hn : 2000 ≤ n) (hex : law03_exampleHolds n = some true) (d : List TypeDecl) (l : List (List UInt8)) : law03_PosetExtremes n d l = some true := by
  unfold law03_PosetExtremes
  obtain ⟨b, b1, b2⟩ := valid_eq n d hn
  simp only [jn_def, b1, hex, bind_some']
  cases b with
  | false => simp
  | true =>
    simp only [Bool.not_true, Bool.false_eq_true, if_false]
    by_cases hl : 30 < l.length
    · simp [hl]
    · obtain ⟨o, ho, _⟩ := b2 rfl
      obtain ⟨x, x1, x2⟩ := Maximal_eq n d ho.wf hn l (by omega)
      obtain ⟨y, y1, y2⟩ := rMaximal_eq n d ho.wf hn l (by omega)
      obtain ⟨z, z1, z2⟩ := Minimal_eq n d ho.wf hn l (by omega)
      obtain ⟨v, v1, v2⟩ := rMinimal_eq n d ho.wf hn l (by omega)
      obtain rfl := x2.unique y2
      obtain rfl := z2.unique v2
      have := maxP_len ho.wf x2
      have := minP_len ho.wf z2
      simp [hl, x1, y1, z1, v1, Same_eq n x x (by omega), Same_eq n z z (by omega)]
theorem law03_PosetExtremes_true (d : List TypeDecl) (l : List (List UInt8)) : law03_PosetExtremes 100000 d l = some true := Extremes_main 100000 (by omega) ex03 d l
end Go.Proofs.Ytoeolfnjblibpaa
