/- Chapter 03: plain laws of what can be reached -/
import Derived.Test.YtoeolfnjblibpaaC5
namespace Go.Proofs.Ytoeolfnjblibpaa
open Go.Gl Go.Sort
set_option linter.unusedVariables false
set_option linter.unusedSimpArgs false
theorem lt_of_le_ne {x y : List UInt8} (h : x ≤ y) (hne : x ≠ y) : x < y := by
  rcases Decidable.em (x < y) with h1 | h1
  · exact h1
  · exact absurd (List.le_antisymm h h1) hne
theorem asc_eq : ∀ (a b : List (List UInt8)), a.Pairwise (· < ·) → b.Pairwise (· < ·) → (∀ v, v ∈ a ↔ v ∈ b) → a = b
  | [], [], _, _, _ => rfl
  | [], y :: b, _, _, h => by have := (h y).2 (by simp); simp at this
  | x :: a, [], _, _, h => by have := (h x).1 (by simp); simp at this
  | x :: a, y :: b, ha, hb, h => by
    obtain ⟨a1, a2⟩ := List.pairwise_cons.1 ha
    obtain ⟨b1, b2⟩ := List.pairwise_cons.1 hb
    have hxy : x = y := by
      rcases List.mem_cons.1 ((h x).1 (by simp)) with h1 | h1
      · exact h1
      rcases List.mem_cons.1 ((h y).2 (by simp)) with h2 | h2
      · exact h2.symm
      exact absurd (List.lt_trans (a1 y h2) (b1 x h1)) (List.lt_irrefl _)
    subst hxy
    rw [asc_eq a b a2 b2 (fun v => ?_)]
    constructor
    · intro hv
      rcases List.mem_cons.1 ((h v).1 (by simp [hv])) with h1 | h1
      · subst h1; exact absurd (a1 v hv) (List.lt_irrefl _)
      · exact h1
    · intro hv
      rcases List.mem_cons.1 ((h v).2 (by simp [hv])) with h1 | h1
      · subst h1; exact absurd (b1 v hv) (List.lt_irrefl _)
      · exact h1
theorem compact_asc (l : List (List UInt8)) (hs : l.Pairwise (· ≤ ·)) : ∀ m, m ≤ l.length → (Lib.compactUpTo l.toArray m).Pairwise (· < ·) ∧ ∀ v, v ∈ Lib.compactUpTo l.toArray m ↔ v ∈ l.take m
  | 0, _ => by simp [Lib.compactUpTo]
  | m + 1, hm => by
    obtain ⟨h1, h2⟩ := compact_asc l hs m (by omega)
    have hm' : m < l.length := hm
    have hg : l.toArray[m]! = l[m] := by simp [hm']
    rw [Lib.compactUpTo_succ, List.take_add_one, List.getElem?_eq_getElem (by omega), hg]
    rcases Nat.eq_zero_or_pos m with rfl | hpos
    · have : Lib.keeps l.toArray 0 = true := by simp [Lib.keeps]
      rw [if_pos this]
      simp [Lib.compactUpTo]
    · have hg' : l.toArray[m - 1]! = l[m - 1] := by
        have : m - 1 < l.length := by omega
        simp [this]
      have hle : l[m - 1] ≤ l[m] := List.pairwise_iff_getElem.1 hs _ _ (by omega) (by omega) (by omega)
      by_cases hne : l[m] = l[m - 1]
      · have : Lib.keeps l.toArray m = false := Lib.keeps_neg hpos (by rw [hg, hg', hne])
        rw [this]
        simp only [Bool.false_eq_true, if_false, List.append_nil, Option.toList_some]
        refine ⟨h1, fun v => ?_⟩
        rw [h2 v, List.mem_append]
        constructor
        · exact .inl
        · rintro (h | h)
          · exact h
          · simp only [List.mem_singleton] at h
            rw [h, hne]
            exact List.mem_take_iff_getElem.2 ⟨m - 1, by omega, rfl⟩
      · have : Lib.keeps l.toArray m = true := Lib.keeps_pos (by rw [hg, hg']; exact hne)
        rw [if_pos this]
        refine ⟨List.pairwise_append.2 ⟨h1, by simp, fun x hx y hy => ?_⟩, fun v => by rw [List.mem_append, List.mem_append, h2 v, Option.toList_some]⟩
        simp only [List.mem_singleton] at hy
        subst hy
        obtain ⟨j, hj, rfl⟩ := List.mem_take_iff_getElem.1 ((h2 x).1 hx)
        have hj' : j < m := by omega
        have hlt : l[m - 1] < l[m] := lt_of_le_ne hle (fun e => hne e.symm)
        rcases Nat.lt_or_ge j (m - 1) with h3 | h3
        · have h4 : l[j] ≤ l[m - 1] := List.pairwise_iff_getElem.1 hs _ _ (by omega) (by omega) h3
          rcases Decidable.em (l[j] = l[m - 1]) with h5 | h5
          · rw [h5]; exact hlt
          · exact List.lt_trans (lt_of_le_ne h4 h5) hlt
        · have : j = m - 1 := by omega
          subst this
          exact hlt
/-! what can be reached -/
theorem Ok.names {d : List TypeDecl} {o : List (List UInt8)} (h : Ok d o) : o.Nodup ∧ (∀ x, x ∈ o ↔ x ∈ nms d) ∧ After (supOf d) o := by
  have h1 := h.pl.nodup List.nodup_nil
  have h2 := h.pl.sub (by simp)
  refine ⟨h1, fun x => ⟨h2 x, fun hx => ?_⟩, h.pl.after (fun i x hx => by simp at hx)⟩
  apply Classical.byContradiction
  intro hno
  have := nodup_lenK (x :: o) (nms d) (List.nodup_cons.2 ⟨hno, h1⟩) (fun y hy => by
    rcases List.mem_cons.1 hy with rfl | hy
    · exact hx
    · exact h2 y hy)
  rw [nms_len, List.length_cons, h.all] at this
  omega
theorem sortS_asc {l : List (List UInt8)} (h : l.Nodup) : (sortS l).Pairwise (· < ·) := by
  have h1 := sortS_sorted l
  have h2 : (sortS l).Nodup := (sortS_perm l).nodup_iff.2 h
  have := h1.and h2
  exact this.imp (fun ⟨a, b⟩ => lt_of_le_ne a b)
theorem reach_L1 (n : Nat) (M : List (List UInt8 × List (List UInt8))) (k : List (List UInt8 × Bool) → List (List UInt8) → Option (List (List UInt8))) (x : List UInt8) (B : List (List UInt8)) (hB : (mget M x).getD [] = B) : ∀ (t : List (List UInt8)) (m i : Nat) (met : List (List UInt8 × Bool)) (out : List (List UInt8)), B.drop i = t → t.length < m → (∀ s, (mget met s).getD false = decide (s ∈ out)) → out.length + t.length ≤ 1000000 → ∃ met', poset_reach_L1 n M k x m met out i = k met' (grow out t) ∧ ∀ s, (mget met' s).getD false = decide (s ∈ grow out t)
  | [], m + 1, i, met, out, h, _, hm, _ => by rw [poset_reach_L1, hB, if_neg (drop_nil' h)]; exact ⟨met, rfl, hm⟩
  | s :: t, m + 1, i, met, out, h, hl, hm, hb => by
    obtain ⟨h1, h2, h3⟩ := drop_cons h
    rw [List.length_cons] at hb
    rw [poset_reach_L1, hB, if_pos h1, h2]
    simp only [bind_some', hm, grow]
    by_cases e : s ∈ out
    · simp only [e, decide_true, Bool.not_true, Bool.false_eq_true, if_false, if_true]
      exact reach_L1 n M k x B hB t m (i + 1) met out h3 (by simpa using hl) hm (by omega)
    · simp only [e, decide_false, Bool.not_false, if_true, if_false, List.length_singleton]
      rw [chk_pos (by omega)]
      refine reach_L1 n M k x B hB t m (i + 1) _ _ h3 (by simpa using hl) (fun u => ?_) (by rw [List.length_append, List.length_singleton]; omega)
      rw [mget_mset]
      by_cases q : u = s
      · simp [q]
      · rw [if_neg q, hm u]; simp [q]
theorem grow_len (out t : List (List UInt8)) : (grow out t).length ≤ out.length + t.length := by
  induction t generalizing out with
  | nil => simp [grow]
  | cons s t ih =>
    unfold grow
    by_cases e : s ∈ out
    · rw [if_pos e]
      have := ih out
      rw [List.length_cons]; omega
    · rw [if_neg e]
      have := ih (out ++ [s])
      rw [List.length_append, List.length_singleton] at this
      rw [List.length_cons]; omega
theorem reach_L0 (n : Nat) (M : List (List UInt8 × List (List UInt8))) (step : List UInt8 → List (List UInt8)) (hM : ∀ s, (mget M s).getD [] = step s) (hs : ∀ s, (step s).length ≤ 100) (hn : 200 ≤ n) (k : List (List UInt8) → Option (List (List UInt8))) : ∀ (m i : Nat) (met : List (List UInt8 × Bool)) (out r : List (List UInt8)), bfs step m i out = some r → r.length ≤ 1000 → (∀ s, (mget met s).getD false = decide (s ∈ out)) → poset_reach_L0 n M k m met out i = k r
  | 0, i, met, out, r, h, _, _ => by cases h
  | m + 1, i, met, out, r, h, hr, hm => by
    obtain ⟨u, hu⟩ := bfs_pre step _ _ _ _ h
    have hol : out.length ≤ 1000 := by rw [hu, List.length_append] at hr; omega
    unfold bfs at h
    rw [poset_reach_L0]
    cases hx : out[i]? with
    | none =>
      rw [hx] at h
      cases h
      rw [if_neg (by have := List.getElem?_eq_none_iff.1 hx; omega)]
    | some x =>
      rw [hx] at h
      have hi := (List.getElem?_eq_some_iff.1 hx).1
      have := hs x
      obtain ⟨met', q1, q2⟩ := reach_L1 n M (fun met_23 out_25 => poset_reach_L0 n M k m met_23 out_25 (i + 1)) x (step x) (hM x) (step x) n 0 met out rfl (by omega) hm (by omega)
      rw [if_pos hi, jn_def, bind_some', q1]
      exact reach_L0 n M step hM hs hn k m (i + 1) met' _ r h hr q2
/-- the names that can be reached, ascending -/
structure Asc (P : List UInt8 → Prop) (l : List (List UInt8)) : Prop where
  asc : l.Pairwise (· < ·)
  mem : ∀ v, v ∈ l ↔ P v
theorem Asc.unique {P : List UInt8 → Prop} {a b : List (List UInt8)} (h : Asc P a) (k : Asc P b) : a = b := asc_eq a b h.asc k.asc (fun v => (h.mem v).trans (k.mem v).symm)
theorem Asc.nodup {P : List UInt8 → Prop} {a : List (List UInt8)} (h : Asc P a) : a.Nodup := h.asc.imp (fun h e => by subst e; exact List.lt_irrefl _ h)
theorem Asc.len {P : List UInt8 → Prop} {a N : List (List UInt8)} (h : Asc P a) (hN : ∀ x, P x → x ∈ N) : a.length ≤ N.length := nodup_lenK a N h.nodup (fun x hx => hN x ((h.mem x).1 hx))
theorem reach_eq (n : Nat) (N : List (List UInt8)) (M : List (List UInt8 × List (List UInt8))) (step : List UInt8 → List (List UInt8)) (hM : ∀ s, (mget M s).getD [] = step s) (hk : ∀ s, (mget M s).isSome = decide (s ∈ N)) (hs : ∀ s, (step s).length ≤ 100) (hn : 200 ≤ n) (hN : N.length ≤ 100) (hc : ∀ x ∈ N, ∀ s ∈ step x, s ∈ N) (a : List UInt8) : ∃ r, poset_reach n M a = some r ∧ Asc (fun v => a ∈ N ∧ Reach step a v) r := by
  unfold poset_reach
  rw [hk a]
  by_cases ha : a ∈ N
  · obtain ⟨r, hr⟩ := bfs_some step N hc n 0 [a] (by simp) (fun x hx => by simp at hx; subst hx; exact ha) (by simp) (by omega)
    have hnd := bfs_nodup step n 0 [a] r hr (by simp)
    have hmem := fun x => bfs_mem hr x
    have hin : ∀ x ∈ r, x ∈ N := fun x hx => by
      have := (hmem x).1 hx
      clear hx
      induction this with
      | refl => exact ha
      | tail _ hz ih => exact hc _ ih _ hz
    have hl := nodup_lenK r N hnd hin
    simp only [ha, decide_true, Bool.not_true, Bool.false_eq_true, if_false, jn_def]
    rw [reach_L0 n M step hM hs hn _ n 0 _ [a] r hr (by omega) (fun s => by rw [mget_mset, mget_nil]; by_cases e : s = a <;> simp [e])]
    unfold slices_Sort_string
    rw [chk_pos (by omega), bind_some']
    refine ⟨_, rfl, sortS_asc hnd, fun v => ?_⟩
    rw [(sortS_perm r).mem_iff, hmem v]
    simp [ha]
  · simp only [ha, decide_false, Bool.not_false, if_true]
    exact ⟨[], rfl, .nil, fun v => by simp [ha]⟩
theorem dn_cl {d : List TypeDecl} (s : List UInt8) : ∀ y ∈ dn d s, y ∈ nms d := fun y hy => by
  obtain ⟨x, hx, e, _⟩ := mem_dn.1 hy
  exact mem_nms.2 ⟨x, hx, e⟩
theorem Above_eq (n : Nat) (d : List TypeDecl) (hd : Wf d) (hn : 200 ≤ n) (a : List UInt8) : ∃ r, poset_Above n d a = some r ∧ Asc (fun v => a ∈ nms d ∧ Reach (supOf d) a v) r := by
  have h0 := hd.lt.1
  obtain ⟨M, h1, h2⟩ := supers_eq n d hd.nd (by omega)
  obtain ⟨r, r1, r2⟩ := reach_eq n (nms d) M (supOf d) (isSup_get h2) (isSup_some h2) (fun s => by have := supOf_len hd s; omega) hn (by rw [nms_len]; omega) (supOf_cl hd) a
  exact ⟨r, by unfold poset_Above; rw [h1, bind_some', r1]; rfl, r2⟩
/-! Below's map -/
theorem Below_L1 (n : Nat) (k : List (List UInt8 × List (List UInt8)) → Option (List (List UInt8))) (x : TypeDecl) (f : List UInt8 → List (List UInt8)) (ks : List UInt8 → Bool) (hf : ∀ s, (f s).length ≤ 1000000) (hx : x.Supers.Nodup) :
    ∀ (t : List (List UInt8)) (m i : Nat) (M : List (List UInt8 × List (List UInt8))), x.Supers.drop i = t → t.length < m → (∀ s, (mget M s).getD [] = f s ++ if s ∈ x.Supers.take i then [x.Name] else []) → (∀ s, (mget M s).isSome = (ks s || decide (s ∈ x.Supers.take i))) → ∃ M', poset_Below_L1 n k x m M i = k M' ∧ (∀ s, (mget M' s).getD [] = f s ++ if s ∈ x.Supers then [x.Name] else []) ∧ ∀ s, (mget M' s).isSome = (ks s || decide (s ∈ x.Supers))
  | [], m + 1, i, M, h, _, hM, hK => by
    have hi := drop_nil' h
    rw [poset_Below_L1, if_neg hi]
    rw [List.take_of_length_le (by omega)] at hM hK
    exact ⟨M, rfl, hM, hK⟩
  | s :: t, m + 1, i, M, h, hm, hM, hK => by
    obtain ⟨h1, h2, h3⟩ := drop_cons h
    have hsp : s ∉ x.Supers.take i := by
      have e : x.Supers = x.Supers.take i ++ s :: t := by rw [← h, List.take_append_drop]
      rw [e, List.nodup_append] at hx
      exact fun hp => hx.2.2 s hp s (by simp) rfl
    have hs : (mget M s).getD [] = f s := by rw [hM s, if_neg hsp, List.append_nil]
    rw [poset_Below_L1, if_pos h1, h2]
    simp only [bind_some', hs, List.length_singleton]
    rw [chk_pos (by have := hf s; omega)]
    refine Below_L1 n k x f ks hf hx t m (i + 1) _ h3 (by simpa using hm) (fun u => ?_) (fun u => ?_)
    · rw [mget_mset, take_snoc' h2]
      by_cases q : u = s
      · subst q; simp
      · rw [if_neg q, hM u]; simp [q]
    · rw [mget_mset, take_snoc' h2]
      by_cases q : u = s
      · subst q; simp
      · rw [if_neg q, hK u]; simp [q]
theorem Below_L0 (n : Nat) (d : List TypeDecl) (hd : Wf d) (hn : 200 ≤ n) (k : List (List UInt8 × List (List UInt8)) → Option (List (List UInt8))) :
    ∀ (t : List TypeDecl) (m i : Nat) (M : List (List UInt8 × List (List UInt8))), d.drop i = t → t.length < m → (∀ s, (mget M s).getD [] = dn (d.take i) s) → (∀ s, (mget M s).isSome = (decide (s ∈ nms (d.take i)) || decide (∃ x ∈ d.take i, s ∈ x.Supers))) →
      ∃ M', poset_Below_L0 n d k m M i = k M' ∧ (∀ s, (mget M' s).getD [] = dn d s) ∧ ∀ s, (mget M' s).isSome = decide (s ∈ nms d)
  | [], m + 1, i, M, h, _, h1, h2 => by
    have hi := drop_nil' h
    rw [poset_Below_L0, if_neg hi]
    rw [List.take_of_length_le (by omega)] at h1 h2
    refine ⟨M, rfl, h1, fun s => ?_⟩
    rw [h2 s]
    by_cases e : s ∈ nms d
    · simp [e]
    · have : ¬ ∃ x ∈ d, s ∈ x.Supers := fun ⟨x, hx, hs⟩ => e (hd.cl x hx s hs)
      simp only [e, this, decide_false, Bool.or_false]
  | x :: t, m + 1, i, M, h, hm, h1, h2 => by
    obtain ⟨g1, g2, g3⟩ := drop_cons h
    have hxd := List.mem_of_getElem? g2
    have h0 := hd.lt.1
    have hs := (hd.lt.2 x hxd).1
    have e := take_snoc g2
    rw [poset_Below_L0, if_pos g1]
    simp only [jn_def, g2, bind_some']
    have main : ∀ M1, (∀ s, (mget M1 s).getD [] = dn (d.take i) s) → (∀ s, (mget M1 s).isSome = (decide (s ∈ nms (d.take (i + 1))) || decide (∃ x ∈ d.take i, s ∈ x.Supers))) → ∃ M', poset_Below_L1 n (fun to_12 => poset_Below_L0 n d k m to_12 (i + 1)) x n M1 0 = k M' ∧ (∀ s, (mget M' s).getD [] = dn d s) ∧ ∀ s, (mget M' s).isSome = decide (s ∈ nms d) := by
      intro M1 a1 a2
      obtain ⟨M2, b1, b2, b3⟩ := Below_L1 n (fun to_12 => poset_Below_L0 n d k m to_12 (i + 1)) x (dn (d.take i)) (fun s => decide (s ∈ nms (d.take (i + 1))) || decide (∃ x ∈ d.take i, s ∈ x.Supers)) (fun s => by have := dn_len (d.take i) s; rw [List.length_take] at this; omega) (hd.sn x hxd) x.Supers n 0 M1 rfl (by omega) (fun s => by rw [a1 s]; simp) (fun s => by rw [a2 s]; simp)
      rw [b1]
      refine Below_L0 n d hd hn k t m (i + 1) M2 g3 (by simpa using hm) (fun s => by rw [b2 s, e, dn_snoc]) (fun s => ?_)
      rw [b3 s, Bool.or_assoc]
      congr 1
      rw [e, ← Bool.decide_or]
      congr 1
      apply propext
      constructor
      · rintro (⟨y, hy, q⟩ | q)
        · exact ⟨y, by simp [hy], q⟩
        · exact ⟨x, by simp, q⟩
      · rintro ⟨y, hy, q⟩
        rcases List.mem_append.1 hy with hy | hy
        · exact .inl ⟨y, hy, q⟩
        · simp at hy; subst hy; exact .inr q
    have en := nms_take d i x g2
    by_cases q : (mget M x.Name).isSome = true
    · simp only [q, Bool.not_true, Bool.false_eq_true, if_false]
      refine main M h1 (fun s => ?_)
      rw [h2 s, en]
      by_cases e : s = x.Name
      · have := h2 x.Name
        rw [q] at this
        subst e
        simp only [List.mem_append, List.mem_singleton, or_true, decide_true, Bool.true_or]
        exact this.symm
      · simp [e]
    · simp only [q, Bool.not_false, if_true]
      refine main _ (fun s => ?_) (fun s => ?_)
      · rw [mget_mset]
        by_cases e : s = x.Name
        · rw [if_pos e]
          have := h1 x.Name
          have hq : mget M x.Name = none := by simpa using q
          rw [hq] at this
          rw [e, ← this]
          rfl
        · rw [if_neg e, h1 s]
      · rw [mget_mset, en]
        by_cases e : s = x.Name
        · simp [e]
        · rw [if_neg e, h2 s]; simp [e]
theorem Below_eq (n : Nat) (d : List TypeDecl) (hd : Wf d) (hn : 200 ≤ n) (a : List UInt8) : ∃ r, poset_Below n d a = some r ∧ Asc (fun v => a ∈ nms d ∧ Reach (dn d) a v) r := by
  have h0 := hd.lt.1
  obtain ⟨M, h1, h2, h3⟩ := Below_L0 n d hd hn (fun to_4 => (poset_reach n to_4 a).bind fun r46 => some r46) d n 0 [] rfl (by omega) (fun s => by simp [mget_nil, dn]) (fun s => by simp [mget_nil])
  obtain ⟨r, r1, r2⟩ := reach_eq n (nms d) M (dn d) h2 h3 (fun s => by have := dn_len d s; omega) hn (by rw [nms_len]; omega) (fun x hx => dn_cl x) a
  exact ⟨r, by unfold poset_Below; rw [jn_def, h1, r1]; rfl, r2⟩
/-! the reference's lists -/
theorem Put_L0 (n : Nat) (l : List (List UInt8)) (s : List UInt8) (k : Nat → Option (List (List UInt8))) (hl : l.length ≤ 1000000) : ∀ (t : List (List UInt8)) (m i : Nat), l.drop i = t → t.length < m → i ≤ l.length → ∃ j, i ≤ j ∧ j ≤ l.length ∧ r03_Put_L0 n l s k m i = k j ∧ (∀ q x, i ≤ q → q < j → l[q]? = some x → x < s) ∧ ∀ x, l[j]? = some x → ¬ x < s
  | [], m + 1, i, h, _, q => by
    have hi := drop_nil' h
    rw [r03_Put_L0]
    simp only [jn_def, if_neg hi, Bool.false_eq_true, if_false]
    exact ⟨i, Nat.le_refl _, q, rfl, fun q x a b => by omega, fun x hx => by have := (List.getElem?_eq_some_iff.1 hx).1; omega⟩
  | x :: t, m + 1, i, h, hm, _ => by
    obtain ⟨h1, h2, h3⟩ := drop_cons h
    rw [r03_Put_L0]
    simp only [jn_def, if_pos h1, h2, bind_some', bytesLess_eq]
    by_cases e : x < s
    · simp only [e, decide_true, if_true]
      rw [chk_pos (by omega)]
      obtain ⟨j, a1, a2, a3, a4, a5⟩ := Put_L0 n l s k hl t m (i + 1) h3 (by simpa using hm) (by omega)
      refine ⟨j, by omega, a2, a3, fun q y b1 b2 b3 => ?_, a5⟩
      rcases Nat.eq_or_lt_of_le b1 with rfl | b1
      · rw [h2] at b3; cases b3; exact e
      · exact a4 q y b1 b2 b3
    · simp only [e, decide_false, Bool.false_eq_true, if_false]
      exact ⟨i, Nat.le_refl _, by omega, rfl, fun q x a b => by omega, fun y hy => by rw [h2] at hy; cases hy; exact e⟩
theorem lt_of_not {x y : List UInt8} (h : ¬ x < y) (e : x ≠ y) : y < x := lt_of_le_ne h (fun q => e q.symm)
theorem Put_eq (n : Nat) (l : List (List UInt8)) (s : List UInt8) (hl : l.length ≤ 1000) (hn : l.length < n) (ha : l.Pairwise (· < ·)) : ∃ r, r03_Put n l s = some r ∧ r.Pairwise (· < ·) ∧ (∀ v, v ∈ r ↔ v = s ∨ v ∈ l) ∧ r.length ≤ l.length + 1 := by
  unfold r03_Put
  rw [jn_def]
  obtain ⟨j, _, j1, j2, j3, j4⟩ := Put_L0 n l s (fun at_2 =>
    jn (fun (t_16 : Bool) =>
     if t_16 = true then
      some l
     else
      chk (at_2 ≤ (l).length) (
      chk (((l).take at_2).length ≤ 137438953472) (
      chk (((l).take at_2).length + ([s]).length ≤ 137438953472) (
      chk ((((l).take at_2) ++ [s]).length + ((l).drop at_2).length ≤ 137438953472) (
      some ((((l).take at_2) ++ [s]) ++ ((l).drop at_2)))))))
      (fun k15 =>
      if at_2 < ((l).length) then
       (l[at_2]?).bind fun x20 =>
       k15 (decide ((x20 : List UInt8) = s))
      else
       k15 false)) (by omega) l n 0 rfl hn (Nat.zero_le _)
  rw [j2]
  simp only [jn_def]
  have hins : (∀ y, l[j]? = some y → y ≠ s) → ∃ r, (chk (j ≤ l.length) (chk ((l.take j).length ≤ 137438953472) (chk ((l.take j).length + [s].length ≤ 137438953472) (chk ((l.take j ++ [s]).length + (l.drop j).length ≤ 137438953472) (some (l.take j ++ [s] ++ l.drop j))))) : Option (List (List UInt8))) = some r ∧ r.Pairwise (· < ·) ∧ (∀ v, v ∈ r ↔ v = s ∨ v ∈ l) ∧ r.length ≤ l.length + 1 := by
    intro hne
    rw [chk_pos j1, chk_pos (by rw [List.length_take]; omega), chk_pos (by rw [List.length_take, List.length_singleton]; omega), chk_pos (by rw [List.length_append, List.length_take, List.length_singleton, List.length_drop]; omega)]
    have hlo : ∀ x ∈ l.take j, x < s := fun x hx => by
      obtain ⟨q, hq⟩ := List.getElem?_of_mem hx
      have hql := (List.getElem?_eq_some_iff.1 hq).1
      rw [List.length_take] at hql
      rw [List.getElem?_take_of_lt (by omega)] at hq
      exact j3 q x (Nat.zero_le _) (by omega) hq
    have hhi : ∀ x ∈ l.drop j, s < x := by
      have hp : (l.drop j).Pairwise (· < ·) := ha.sublist (List.drop_sublist _ _)
      cases hd : l.drop j with
      | nil => simp
      | cons y u =>
        obtain ⟨_, h2, _⟩ := drop_cons hd
        have hy : s < y := lt_of_not (j4 y h2) (hne y h2)
        rw [hd] at hp
        intro x hx
        rcases List.mem_cons.1 hx with rfl | hx
        · exact hy
        · exact List.lt_trans hy ((List.pairwise_cons.1 hp).1 x hx)
    refine ⟨_, rfl, ?_, fun v => ?_, by simp; omega⟩
    · rw [List.pairwise_append, List.pairwise_append]
      refine ⟨⟨ha.sublist (List.take_sublist _ _), by simp, fun x hx y hy => by simp at hy; subst hy; exact hlo x hx⟩, ha.sublist (List.drop_sublist _ _), fun x hx y hy => ?_⟩
      rcases List.mem_append.1 hx with hx | hx
      · exact List.lt_trans (hlo x hx) (hhi y hy)
      · simp at hx; subst hx; exact hhi y hy
    · have : v ∈ l ↔ v ∈ l.take j ∨ v ∈ l.drop j := by rw [← List.mem_append, List.take_append_drop]
      rw [this]
      simp only [List.mem_append, List.mem_singleton]
      constructor
      · rintro ((h | h) | h) <;> simp [h]
      · rintro (h | h | h) <;> simp [h]
  by_cases hj : j < l.length
  · obtain ⟨y, hy⟩ : ∃ y, l[j]? = some y := ⟨_, List.getElem?_eq_getElem hj⟩
    rw [if_pos hj, hy, bind_some']
    by_cases e : y = s
    · simp only [e, decide_true, if_true]
      have hs : s ∈ l := e ▸ List.mem_of_getElem? hy
      exact ⟨l, rfl, ha, fun v => ⟨fun h => .inr h, fun h => by rcases h with rfl | h; exact hs; exact h⟩, by omega⟩
    · simp only [e, decide_false, Bool.false_eq_true, if_false]
      exact hins (fun z hz => by rw [hy] at hz; cases hz; exact e)
  · rw [if_neg hj]
    simp only [Bool.false_eq_true, if_false]
    exact hins (fun z hz => by have := (List.getElem?_eq_some_iff.1 hz).1; omega)
theorem Names_L0 (n : Nat) (d : List TypeDecl) : ∀ (t : List TypeDecl) (m i : Nat) (out : List (List UInt8)), d.drop i = t → t.length < m → out.Pairwise (· < ·) → out.length + t.length ≤ 1000 → out.length + t.length < n → ∃ r, r03_Names_L0 n d m out i = some r ∧ r.Pairwise (· < ·) ∧ (∀ v, v ∈ r ↔ v ∈ out ∨ v ∈ nms t) ∧ r.length ≤ out.length + t.length
  | [], m + 1, i, out, h, _, ha, _, _ => by rw [r03_Names_L0, if_neg (drop_nil' h)]; exact ⟨out, rfl, ha, fun v => by simp, by simp⟩
  | x :: t, m + 1, i, out, h, hm, ha, hl, hn => by
    obtain ⟨h1, h2, h3⟩ := drop_cons h
    rw [List.length_cons] at hl hn
    rw [r03_Names_L0, if_pos h1, h2, bind_some']
    obtain ⟨r, r1, r2, r3, r4⟩ := Put_eq n out x.Name (by omega) (by omega) ha
    rw [r1, bind_some']
    obtain ⟨q, q1, q2, q3, q4⟩ := Names_L0 n d t m (i + 1) r h3 (by simpa using hm) r2 (by omega) (by omega)
    refine ⟨q, q1, q2, fun v => ?_, by rw [List.length_cons]; omega⟩
    rw [q3 v, r3 v, nms_cons, List.mem_cons]
    constructor
    · rintro ((h | h) | h) <;> simp [h]
    · rintro (h | h | h) <;> simp [h]
theorem Names_eq (n : Nat) (d : List TypeDecl) (hd : lightD d) (hn : 200 ≤ n) : ∃ r, r03_Names n d = some r ∧ Asc (fun v => v ∈ nms d) r := by
  have h0 := hd.1
  obtain ⟨r, r1, r2, r3, _⟩ := Names_L0 n d d n 0 [] rfl (by omega) .nil (by simp; omega) (by simp; omega)
  exact ⟨r, r1, r2, fun v => by rw [r3 v]; simp⟩
end Go.Proofs.Ytoeolfnjblibpaa
