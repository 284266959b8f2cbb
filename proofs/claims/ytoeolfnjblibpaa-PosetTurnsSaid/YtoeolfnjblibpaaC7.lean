/- Chapter 03: plain laws, Above and Below -/
import Derived.Test.YtoeolfnjblibpaaC6
namespace Go.Proofs.Ytoeolfnjblibpaa
open Go.Gl Go.Sort
set_option linter.unusedVariables false
set_option linter.unusedSimpArgs false
/-! the reference's Above and Below -/
theorem rAbove_L1 (n : Nat) (k : List (List UInt8) → Option (List (List UInt8))) (x : TypeDecl) : ∀ (t : List (List UInt8)) (m i : Nat) (todo : List (List UInt8)), x.Supers.drop i = t → t.length < m → todo.length + t.length ≤ 1000000 → todo.length + t.length < n → r03_Above_L1 n k x m todo i = k (grow todo t)
  | [], m + 1, i, todo, h, _, _, _ => by rw [r03_Above_L1, if_neg (drop_nil' h)]; rfl
  | s :: t, m + 1, i, todo, h, hm, hb, hn => by
    obtain ⟨h1, h2, h3⟩ := drop_cons h
    rw [List.length_cons] at hb hn
    rw [r03_Above_L1, if_pos h1, h2, bind_some', Among_eq n todo s (by omega), bind_some']
    unfold grow
    by_cases e : s ∈ todo
    · simp only [e, decide_true, Bool.not_true, Bool.false_eq_true, if_false, if_true]
      exact rAbove_L1 n k x t m (i + 1) todo h3 (by simpa using hm) (by omega) (by omega)
    · simp only [e, decide_false, Bool.not_false, if_true, if_false, List.length_singleton]
      rw [chk_pos (by omega)]
      exact rAbove_L1 n k x t m (i + 1) _ h3 (by simpa using hm) (by rw [List.length_append, List.length_singleton]; omega) (by rw [List.length_append, List.length_singleton]; omega)
theorem find_ix {d : List TypeDecl} {s : List UInt8} (hs : s ∈ nms d) : ∃ x ∈ d, x.Name = s ∧ ix d (posN s d 0) = some x := by
  rcases posN_in s d 0 with ⟨h1, h2⟩ | ⟨k, x, h1, h2, h3, h4⟩
  · exact absurd hs h1
  · exact ⟨x, List.mem_of_getElem? h1, h2, by rw [h3, Nat.zero_add, ix_nat, h1]⟩
theorem rAbove_L0 (n : Nat) (d : List TypeDecl) (hd : Wf d) (hn : 2000 ≤ n) (k : List (List UInt8) → Option (List (List UInt8))) : ∀ (m i : Nat) (todo r : List (List UInt8)), bfs (supOf d) m i todo = some r → r.length ≤ 1000 → (∀ x ∈ todo, x ∈ nms d) → r03_Above_L0 n d k m todo i = k r
  | 0, i, todo, r, h, _, _ => by cases h
  | m + 1, i, todo, r, h, hr, ht => by
    obtain ⟨u, hu⟩ := bfs_pre (supOf d) _ _ _ _ h
    have hol : todo.length ≤ 1000 := by rw [hu, List.length_append] at hr; omega
    have h0 := hd.lt.1
    unfold bfs at h
    rw [r03_Above_L0]
    cases hx : todo[i]? with
    | none =>
      rw [hx] at h
      cases h
      rw [if_neg (by have := List.getElem?_eq_none_iff.1 hx; omega)]
    | some s =>
      rw [hx] at h
      have hi := (List.getElem?_eq_some_iff.1 hx).1
      have hsd := ht s (List.mem_of_getElem? hx)
      obtain ⟨x, x1, x2, x3⟩ := find_ix hsd
      have hsup : supOf d s = x.Supers := by rw [← x2]; exact supOf_of hd.nd x1
      have hxl := (hd.lt.2 x x1).1
      rw [if_pos hi, jn_def, bind_some', find_eq n d s (by omega), bind_some', x3, bind_some', rAbove_L1 n _ x x.Supers n 0 todo rfl (by omega) (by omega) (by omega)]
      replace h : bfs (supOf d) m (i + 1) (grow todo (supOf d s)) = some r := h
      rw [hsup] at h
      exact rAbove_L0 n d hd hn k m (i + 1) _ r h hr (fun y hy => by
        rcases grow_mem.1 hy with hy | hy
        · exact ht y hy
        · exact hd.cl x x1 y hy)
theorem rAbove_L2 (n : Nat) (l : List (List UInt8)) : ∀ (t : List (List UInt8)) (m i : Nat) (out : List (List UInt8)), l.drop i = t → t.length < m → out.Pairwise (· < ·) → out.length + t.length ≤ 1000 → out.length + t.length < n → ∃ r, r03_Above_L2 n l m out i = some r ∧ r.Pairwise (· < ·) ∧ (∀ v, v ∈ r ↔ v ∈ out ∨ v ∈ t)
  | [], m + 1, i, out, h, _, ha, _, _ => by rw [r03_Above_L2, if_neg (drop_nil' h)]; exact ⟨out, rfl, ha, fun v => by simp⟩
  | x :: t, m + 1, i, out, h, hm, ha, hl, hn => by
    obtain ⟨h1, h2, h3⟩ := drop_cons h
    rw [List.length_cons] at hl hn
    rw [r03_Above_L2, if_pos h1, h2, bind_some']
    obtain ⟨r, r1, r2, r3, r4⟩ := Put_eq n out x (by omega) (by omega) ha
    rw [r1, bind_some']
    obtain ⟨q, q1, q2, q3⟩ := rAbove_L2 n l t m (i + 1) r h3 (by simpa using hm) r2 (by omega) (by omega)
    refine ⟨q, q1, q2, fun v => ?_⟩
    rw [q3 v, r3 v, List.mem_cons]
    constructor
    · rintro ((h | h) | h) <;> simp [h]
    · rintro (h | h | h) <;> simp [h]
theorem bfs_in {d : List TypeDecl} (hd : Wf d) {step : List UInt8 → List (List UInt8)} (hc : ∀ x ∈ nms d, ∀ s ∈ step x, s ∈ nms d) (n : Nat) (hn : 200 ≤ n) {a : List UInt8} (ha : a ∈ nms d) : ∃ r, bfs step n 0 [a] = some r ∧ r.length ≤ 16 ∧ ∀ v, v ∈ r ↔ Reach step a v := by
  have h0 := hd.lt.1
  obtain ⟨r, hr⟩ := bfs_some step (nms d) hc n 0 [a] (by simp) (fun x hx => by simp at hx; subst hx; exact ha) (by simp) (by rw [nms_len]; omega)
  have hmem := fun x => bfs_mem hr x
  have hl := nodup_lenK r (nms d) (bfs_nodup step n 0 [a] r hr (by simp)) (fun x hx => by
    have := (hmem x).1 hx
    clear hx
    induction this with
    | refl => exact ha
    | tail _ hz ih => exact hc _ ih _ hz)
  rw [nms_len] at hl
  exact ⟨r, hr, by omega, hmem⟩
theorem rAbove_eq (n : Nat) (d : List TypeDecl) (hd : Wf d) (hn : 2000 ≤ n) (a : List UInt8) : ∃ r, r03_Above n d a = some r ∧ Asc (fun v => a ∈ nms d ∧ Reach (supOf d) a v) r := by
  have h0 := hd.lt.1
  unfold r03_Above
  rw [find_eq n d a (by omega), bind_some']
  by_cases ha : a ∈ nms d
  · rw [if_neg (fun e => (posN_neg a d).1 e ha), jn_def]
    obtain ⟨r, r1, r2, r3⟩ := bfs_in hd (supOf_cl hd) n (by omega) ha
    rw [rAbove_L0 n d hd hn _ n 0 [a] r r1 (by omega) (fun x hx => by simp at hx; subst hx; exact ha)]
    obtain ⟨q, q1, q2, q3⟩ := rAbove_L2 n r r n 0 [] rfl (by omega) .nil (by simp; omega) (by simp; omega)
    exact ⟨q, q1, q2, fun v => by rw [q3 v, r3 v]; simp [ha]⟩
  · rw [if_pos ((posN_neg a d).2 ha)]
    exact ⟨[], rfl, .nil, fun v => by simp [ha]⟩
theorem dn_cons (x : TypeDecl) (t : List TypeDecl) (s : List UInt8) : dn (x :: t) s = if s ∈ x.Supers then x.Name :: dn t s else dn t s := by
  unfold dn
  by_cases h : s ∈ x.Supers
  · rw [if_pos h, List.filter_cons_of_pos (by simpa using h)]; rfl
  · rw [if_neg h, List.filter_cons_of_neg (by simpa using h)]
theorem rBelow_L1 (n : Nat) (d : List TypeDecl) (hx : ∀ x ∈ d, x.Supers.length < n) (j : Nat) (s : List UInt8) (k : List (List UInt8) → Option (List (List UInt8))) : ∀ (t : List TypeDecl) (m i : Nat) (todo : List (List UInt8)), d.drop i = t → t.length < m → todo[j]? = some s → todo.length + t.length ≤ 1000000 → todo.length + t.length < n → r03_Below_L1 n d j k m todo i = k (grow todo (dn t s))
  | [], m + 1, i, todo, h, _, _, _, _ => by rw [r03_Below_L1, if_neg (drop_nil' h)]; rfl
  | x :: t, m + 1, i, todo, h, hm, hj, hb, hn => by
    obtain ⟨h1, h2, h3⟩ := drop_cons h
    rw [List.length_cons] at hb hn
    rw [r03_Below_L1, if_pos h1]
    simp only [jn_def, h2, bind_some', hj, Among_eq n x.Supers s (hx x (List.mem_of_getElem? h2)), Among_eq n todo x.Name (by omega)]
    rw [dn_cons]
    by_cases q : s ∈ x.Supers
    · by_cases e : x.Name ∈ todo
      · simp only [q, e, decide_true, if_true, Bool.not_true, Bool.false_eq_true, if_false, grow]
        exact rBelow_L1 n d hx j s k t m (i + 1) todo h3 (by simpa using hm) hj (by omega) (by omega)
      · simp only [q, e, decide_true, decide_false, if_true, Bool.not_false, if_false, grow, List.length_singleton]
        rw [chk_pos (by omega)]
        have hjl := (List.getElem?_eq_some_iff.1 hj).1
        exact rBelow_L1 n d hx j s k t m (i + 1) _ h3 (by simpa using hm) (by rw [List.getElem?_append_left hjl]; exact hj) (by rw [List.length_append, List.length_singleton]; omega) (by rw [List.length_append, List.length_singleton]; omega)
    · simp only [q, decide_false, Bool.false_eq_true, if_false]
      exact rBelow_L1 n d hx j s k t m (i + 1) todo h3 (by simpa using hm) hj (by omega) (by omega)
theorem rBelow_L0 (n : Nat) (d : List TypeDecl) (hd : Wf d) (hn : 2000 ≤ n) (k : List (List UInt8) → Option (List (List UInt8))) : ∀ (m i : Nat) (todo r : List (List UInt8)), bfs (dn d) m i todo = some r → r.length ≤ 1000 → r03_Below_L0 n d k m todo i = k r
  | 0, i, todo, r, h, _ => by cases h
  | m + 1, i, todo, r, h, hr => by
    obtain ⟨u, hu⟩ := bfs_pre (dn d) _ _ _ _ h
    have hol : todo.length ≤ 1000 := by rw [hu, List.length_append] at hr; omega
    have h0 := hd.lt.1
    unfold bfs at h
    rw [r03_Below_L0]
    cases hx : todo[i]? with
    | none =>
      rw [hx] at h
      cases h
      rw [if_neg (by have := List.getElem?_eq_none_iff.1 hx; omega)]
    | some s =>
      rw [hx] at h
      have hi := (List.getElem?_eq_some_iff.1 hx).1
      rw [if_pos hi, jn_def, rBelow_L1 n d (fun x hx => by have := (hd.lt.2 x hx).1; omega) i s _ d n 0 todo rfl (by omega) hx (by omega) (by omega)]
      exact rBelow_L0 n d hd hn k m (i + 1) _ r h hr
theorem rBelow_L2 (n : Nat) (l : List (List UInt8)) : ∀ (t : List (List UInt8)) (m i : Nat) (out : List (List UInt8)), l.drop i = t → t.length < m → out.Pairwise (· < ·) → out.length + t.length ≤ 1000 → out.length + t.length < n → ∃ r, r03_Below_L2 n l m out i = some r ∧ r.Pairwise (· < ·) ∧ (∀ v, v ∈ r ↔ v ∈ out ∨ v ∈ t)
  | [], m + 1, i, out, h, _, ha, _, _ => by rw [r03_Below_L2, if_neg (drop_nil' h)]; exact ⟨out, rfl, ha, fun v => by simp⟩
  | x :: t, m + 1, i, out, h, hm, ha, hl, hn => by
    obtain ⟨h1, h2, h3⟩ := drop_cons h
    rw [List.length_cons] at hl hn
    rw [r03_Below_L2, if_pos h1, h2, bind_some']
    obtain ⟨r, r1, r2, r3, r4⟩ := Put_eq n out x (by omega) (by omega) ha
    rw [r1, bind_some']
    obtain ⟨q, q1, q2, q3⟩ := rBelow_L2 n l t m (i + 1) r h3 (by simpa using hm) r2 (by omega) (by omega)
    refine ⟨q, q1, q2, fun v => ?_⟩
    rw [q3 v, r3 v, List.mem_cons]
    constructor
    · rintro ((h | h) | h) <;> simp [h]
    · rintro (h | h | h) <;> simp [h]
theorem rBelow_eq (n : Nat) (d : List TypeDecl) (hd : Wf d) (hn : 2000 ≤ n) (a : List UInt8) : ∃ r, r03_Below n d a = some r ∧ Asc (fun v => a ∈ nms d ∧ Reach (dn d) a v) r := by
  have h0 := hd.lt.1
  unfold r03_Below
  rw [find_eq n d a (by omega), bind_some']
  by_cases ha : a ∈ nms d
  · rw [if_neg (fun e => (posN_neg a d).1 e ha), jn_def]
    obtain ⟨r, r1, r2, r3⟩ := bfs_in hd (fun x _ => dn_cl x) n (by omega) ha
    rw [rBelow_L0 n d hd hn _ n 0 [a] r r1 (by omega)]
    obtain ⟨q, q1, q2, q3⟩ := rBelow_L2 n r r n 0 [] rfl (by omega) .nil (by simp; omega) (by simp; omega)
    exact ⟨q, q1, q2, fun v => by rw [q3 v, r3 v]; simp [ha]⟩
  · rw [if_pos ((posN_neg a d).2 ha)]
    exact ⟨[], rfl, .nil, fun v => by simp [ha]⟩
/-! the law of neighbours -/
theorem valid_eq (n : Nat) (d : List TypeDecl) (hn : 2000 ≤ n) : ∃ b, law03_valid n d = some b ∧ (b = true → ∃ o, Ok d o ∧ poset_ordered n d = some o ∧ poset_Check n d = some 0) := by
  unfold law03_valid
  rw [r03_Light_eq n d (by omega)]
  by_cases h : lightD d
  · obtain ⟨c, c1, c2, c3⟩ := Check_eq n d h (by omega)
    simp only [h, decide_true, bind_some', if_true, c2]
    refine ⟨_, rfl, fun e => ?_⟩
    have e : c = 0 := by simpa using e
    obtain ⟨o, o1, o2, _⟩ := c3 e
    exact ⟨o, o1, o2, by rw [c1, e]⟩
  · simp only [h, decide_false, bind_some', Bool.false_eq_true, if_false]
    exact ⟨false, rfl, fun e => by cases e⟩
theorem Asc.le {P : List UInt8 → Prop} {a : List (List UInt8)} {d : List TypeDecl} (hd : Wf d) (h : Asc P a) (hP : ∀ v, P v → v ∈ nms d) : a.length ≤ 16 := by
  have := h.len (N := nms d) hP
  rw [nms_len] at this
  have := hd.lt.1
  omega
theorem up_in {d : List TypeDecl} (hd : Wf d) {a v : List UInt8} (h : a ∈ nms d ∧ Reach (supOf d) a v) : v ∈ nms d := reach_in (supOf_cl hd) h.1 h.2
theorem dn_in {d : List TypeDecl} {a v : List UInt8} (h : a ∈ nms d ∧ Reach (dn d) a v) : v ∈ nms d := by
  obtain ⟨h1, h2⟩ := h
  cases h2 with
  | refl => exact h1
  | tail _ hz => exact dn_cl _ _ hz
theorem Neighbours_L0 (n : Nat) (d : List TypeDecl) (hd : Wf d) (hn : 2000 ≤ n) (nm : List UInt8) (l : List (List UInt8)) : ∀ (t : List (List UInt8)) (m i : Nat), (l ++ [nm]).drop i = t → t.length < m → law03_PosetNeighbours_L0 n d nm l (some true) m i = some true
  | [], m + 1, i, h, _ => by rw [law03_PosetNeighbours_L0, if_neg (drop_nil' h)]
  | x :: t, m + 1, i, h, hm => by
    obtain ⟨h1, h2, h3⟩ := drop_cons h
    rw [law03_PosetNeighbours_L0, if_pos h1]
    obtain ⟨a, a1, a2⟩ := Above_eq n d hd (by omega) x
    obtain ⟨b, b1, b2⟩ := rAbove_eq n d hd hn x
    obtain ⟨c, c1, c2⟩ := Below_eq n d hd (by omega) x
    obtain ⟨e, e1, e2⟩ := rBelow_eq n d hd hn x
    obtain rfl := a2.unique b2
    obtain rfl := c2.unique e2
    have hal := a2.le hd (fun v => up_in hd)
    have hcl := c2.le hd (fun v => dn_in)
    simp only [jn_def, h2, bind_some', a1, b1, c1, e1, Same_eq n a a (by omega), Same_eq n c c (by omega), decide_true, Bool.not_true, Bool.false_eq_true, if_false]
    exact Neighbours_L0 n d hd hn nm l t m (i + 1) h3 (by simpa using hm)
theorem Neighbours_main (n : Nat) (hn : 2000 ≤ n) (hex : law03_exampleHolds n = some true) (d : List TypeDecl) (nm : List UInt8) : law03_PosetNeighbours n d nm = some true := by
  unfold law03_PosetNeighbours
  obtain ⟨b, b1, b2⟩ := valid_eq n d hn
  rw [b1, hex]
  cases b with
  | false => simp
  | true =>
    obtain ⟨o, ho, _⟩ := b2 rfl
    obtain ⟨r, r1, r2⟩ := Names_eq n d ho.wf.lt (by omega)
    have hrl := r2.le ho.wf (fun v h => h)
    simp only [bind_some', Bool.not_true, Bool.false_eq_true, if_false, r1, jn_def, List.length_singleton]
    rw [chk_pos (by omega)]
    exact Neighbours_L0 n d ho.wf hn nm r (r ++ [nm]) n 0 rfl (by rw [List.length_append, List.length_singleton]; omega)
theorem law03_PosetNeighbours_true (d : List TypeDecl) (nm : List UInt8) : law03_PosetNeighbours 100000 d nm = some true := Neighbours_main 100000 (by omega) ex03 d nm
end Go.Proofs.Ytoeolfnjblibpaa
