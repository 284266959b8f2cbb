/- Chapter 03: plain laws of orders -/
import Derived.Test.YtoeolfnjblibpaaL1
namespace Go.Proofs.Ytoeolfnjblibpaa
open Go.Gl
set_option linter.unusedVariables false
set_option linter.unusedSimpArgs false
/-! orders of names: plain laws of what can be reached, with no program in sight -/
set_option linter.unusedSectionVars false
section
variable {K : Type} [DecidableEq K]
theorem nodup_lenK : ∀ (l S : List K), l.Nodup → (∀ x ∈ l, x ∈ S) → l.length ≤ S.length
  | [], S, _, _ => by simp
  | x :: l, S, h, hs => by
    obtain ⟨h1, h2⟩ := List.nodup_cons.1 h
    have hx := hs x (by simp)
    have := nodup_lenK l (S.erase x) h2 (fun y hy => (List.mem_erase_of_ne (fun (e : y = x) => h1 (e ▸ hy))).2 (hs y (by simp [hy])))
    rw [List.length_erase_of_mem hx] at this
    have := List.length_pos_of_mem hx
    simp; omega
/-- what is new in l goes behind t -/
def grow (t : List K) : List K → List K
  | [] => t
  | s :: l => grow (if s ∈ t then t else t ++ [s]) l
theorem grow_pre : ∀ (l t : List K), ∃ u, grow t l = t ++ u ∧ ∀ s ∈ u, s ∈ l
  | [], t => ⟨[], by simp [grow], by simp⟩
  | s :: l, t => by
    obtain ⟨u, h1, h2⟩ := grow_pre l (if s ∈ t then t else t ++ [s])
    unfold grow
    rw [h1]
    split
    · exact ⟨u, rfl, fun x hx => by simp [h2 x hx]⟩
    · exact ⟨s :: u, by simp, fun x hx => by
        rcases List.mem_cons.1 hx with rfl | hx
        · simp
        · simp [h2 x hx]⟩
theorem grow_all : ∀ (l t : List K) (s : K), s ∈ l → s ∈ grow t l
  | [], t, s, h => by cases h
  | s' :: l, t, s, h => by
    unfold grow
    rcases List.mem_cons.1 h with rfl | h
    · obtain ⟨u, h1, _⟩ := grow_pre l (if s ∈ t then t else t ++ [s])
      rw [h1]
      split
      · rename_i hs; simp [hs]
      · simp
    · exact grow_all l _ s h
theorem grow_mem {l t : List K} {s : K} : s ∈ grow t l ↔ s ∈ t ∨ s ∈ l := by
  obtain ⟨u, h1, h2⟩ := grow_pre l t
  constructor
  · intro h
    rw [h1, List.mem_append] at h
    exact h.imp id (h2 s)
  · rintro (h | h)
    · rw [h1]; simp [h]
    · exact grow_all l t s h
theorem grow_nodup : ∀ (l t : List K), t.Nodup → (grow t l).Nodup
  | [], t, h => h
  | s :: l, t, h => by
    unfold grow
    apply grow_nodup l
    split
    · exact h
    · rename_i hs
      rw [List.nodup_append]
      exact ⟨h, by simp, fun a ha b hb => by
        rintro rfl
        simp at hb
        subst hb
        exact hs ha⟩
inductive Reach (step : K → List K) (a : K) : K → Prop
  | refl : Reach step a a
  | tail {y z : K} : Reach step a y → z ∈ step y → Reach step a z
theorem Reach.trans {step : K → List K} {a b c : K} (h : Reach step a b) (k : Reach step b c) : Reach step a c := by
  induction k with
  | refl => exact h
  | tail _ hz ih => exact .tail ih hz
theorem Reach.head {step : K → List K} {a b c : K} (hb : b ∈ step a) (k : Reach step b c) : Reach step a c := Reach.trans (.tail .refl hb) k
/-- all that can be reached, in the order in which it is met -/
def bfs (step : K → List K) : Nat → Nat → List K → Option (List K)
  | 0, _, _ => none
  | m + 1, i, t => match t[i]? with
    | none => some t
    | some x => bfs step m (i + 1) (grow t (step x))
theorem bfs_some (step : K → List K) (U : List K) (hU : ∀ x ∈ U, ∀ s ∈ step x, s ∈ U) : ∀ (m i : Nat) (t : List K), t.Nodup → (∀ x ∈ t, x ∈ U) → i ≤ t.length → U.length < m + i → ∃ r, bfs step m i t = some r
  | 0, i, t, h1, h2, h0, h3 => by
    have := nodup_lenK t U h1 h2
    omega
  | m + 1, i, t, h1, h2, h0, h3 => by
    unfold bfs
    cases hx : t[i]? with
    | none => exact ⟨t, rfl⟩
    | some x =>
      have hm := List.mem_of_getElem? hx
      refine bfs_some step U hU m (i + 1) _ (grow_nodup _ _ h1) (fun y hy => ?_) ?_ (by omega)
      rotate_left
      · obtain ⟨u, hu, _⟩ := grow_pre (step x) t
        have := (List.getElem?_eq_some_iff.1 hx).1
        rw [hu, List.length_append]
        omega
      rcases grow_mem.1 hy with h | h
      · exact h2 y h
      · exact hU x (h2 x hm) y h
theorem bfs_pre (step : K → List K) : ∀ (m i : Nat) (t r : List K), bfs step m i t = some r → ∃ u, r = t ++ u
  | 0, i, t, r, h => by cases h
  | m + 1, i, t, r, h => by
    unfold bfs at h
    cases hx : t[i]? with
    | none => rw [hx] at h; cases h; exact ⟨[], by simp⟩
    | some x =>
      rw [hx] at h
      obtain ⟨u, hu⟩ := bfs_pre step m _ _ _ h
      obtain ⟨v, hv, _⟩ := grow_pre (step x) t
      exact ⟨v ++ u, by rw [hu, hv, List.append_assoc]⟩
theorem bfs_nodup (step : K → List K) : ∀ (m i : Nat) (t r : List K), bfs step m i t = some r → t.Nodup → r.Nodup
  | 0, i, t, r, h, _ => by cases h
  | m + 1, i, t, r, h, hn => by
    unfold bfs at h
    cases hx : t[i]? with
    | none => rw [hx] at h; cases h; exact hn
    | some x => rw [hx] at h; exact bfs_nodup step m _ _ _ h (grow_nodup _ _ hn)
theorem bfs_closed (step : K → List K) : ∀ (m i : Nat) (t r : List K), bfs step m i t = some r → (∀ j x, j < i → t[j]? = some x → ∀ s ∈ step x, s ∈ t) → ∀ x ∈ r, ∀ s ∈ step x, s ∈ r
  | 0, i, t, r, h, _ => by cases h
  | m + 1, i, t, r, h, hc => by
    unfold bfs at h
    cases hx : t[i]? with
    | none =>
      rw [hx] at h
      cases h
      intro x hx' s hs
      obtain ⟨j, hj⟩ := List.getElem?_of_mem hx'
      have h1 := (List.getElem?_eq_some_iff.1 hj).1
      have h2 := List.getElem?_eq_none_iff.1 hx
      exact hc j x (by omega) hj s hs
    | some x =>
      rw [hx] at h
      refine bfs_closed step m _ _ _ h (fun j y hj hy s hs => ?_)
      have hlt := (List.getElem?_eq_some_iff.1 hx).1
      obtain ⟨u, hu, _⟩ := grow_pre (step x) t
      rw [hu, List.getElem?_append_left (by omega)] at hy
      by_cases e : j = i
      · subst e
        rw [hx] at hy
        cases hy
        exact grow_mem.2 (.inr hs)
      · exact grow_mem.2 (.inl (hc j y (by omega) hy s hs))
theorem bfs_reach (step : K → List K) (a : K) : ∀ (m i : Nat) (t r : List K), bfs step m i t = some r → (∀ x ∈ t, Reach step a x) → ∀ x ∈ r, Reach step a x
  | 0, i, t, r, h, _ => by cases h
  | m + 1, i, t, r, h, hr => by
    unfold bfs at h
    cases hx : t[i]? with
    | none => rw [hx] at h; cases h; exact hr
    | some x =>
      rw [hx] at h
      refine bfs_reach step a m _ _ _ h (fun y hy => ?_)
      rcases grow_mem.1 hy with h' | h'
      · exact hr y h'
      · exact .tail (hr x (List.mem_of_getElem? hx)) h'
theorem bfs_mem {step : K → List K} {a : K} {m : Nat} {r : List K} (h : bfs step m 0 [a] = some r) (x : K) : x ∈ r ↔ Reach step a x := by
  constructor
  · exact fun hx => bfs_reach step a m 0 [a] r h (fun x hx => by simp at hx; subst hx; exact .refl) x hx
  · intro hr
    induction hr with
    | refl =>
      obtain ⟨u, rfl⟩ := bfs_pre step m 0 [a] r h
      simp
    | tail _ hz ih => exact bfs_closed step m 0 [a] r h (fun j x hj => by omega) _ ih _ hz
end
/-! names placed one after the other: each after those above it, the least that can come next -/
section
variable (N : List (List UInt8)) (sup : List UInt8 → List (List UInt8))
/-- can come next -/
def isNext (out : List (List UInt8)) (x : List UInt8) : Prop := x ∈ N ∧ x ∉ out ∧ ∀ s ∈ sup x, s ∈ out
def leastOf (P : List UInt8 → Prop) (x : List UInt8) : Prop := P x ∧ ∀ y, P y → x ≤ y
theorem leastOf_unique {P : List UInt8 → Prop} {x y : List UInt8} (h : leastOf P x) (k : leastOf P y) : x = y := List.le_antisymm (h.2 y k.1) (k.2 x h.1)
/-- o is placed, from out on -/
inductive Placed : List (List UInt8) → List (List UInt8) → Prop
  | done {out : List (List UInt8)} : (∀ x, ¬ isNext N sup out x) → Placed out out
  | more {out o : List (List UInt8)} {x : List UInt8} : leastOf (isNext N sup out) x → Placed (out ++ [x]) o → Placed out o
variable {N sup}
theorem Placed.unique {out o o' : List (List UInt8)} (h : Placed N sup out o) (k : Placed N sup out o') : o = o' := by
  induction h with
  | done h1 =>
    cases k with
    | done _ => rfl
    | more h2 _ => exact absurd h2.1 (h1 _)
  | more h1 _ ih =>
    cases k with
    | done h2 => exact absurd h1.1 (h2 _)
    | more h2 h3 => rw [leastOf_unique h2 h1] at h3; exact ih h3
/-- only the members count -/
theorem Placed.same {N' : List (List UInt8)} (hN : ∀ x, x ∈ N ↔ x ∈ N') {sup' : List UInt8 → List (List UInt8)} (hs : ∀ x, sup' x = sup x) {out o : List (List UInt8)} (h : Placed N sup out o) : Placed N' sup' out o := by
  have e : ∀ out x, isNext N' sup' out x ↔ isNext N sup out x := fun out x => by
    unfold isNext
    rw [hs, hN x]
  induction h with
  | done h1 => exact .done fun x hx => h1 x ((e _ x).1 hx)
  | more h1 _ ih => exact .more ⟨(e _ _).2 h1.1, fun y hy => h1.2 y ((e _ y).1 hy)⟩ ih
theorem Placed.pre {out o : List (List UInt8)} (h : Placed N sup out o) : ∃ u, o = out ++ u := by
  induction h with
  | done _ => exact ⟨[], by simp⟩
  | @more out o x _ _ ih =>
    obtain ⟨u, hu⟩ := ih
    exact ⟨x :: u, by rw [hu]; simp⟩
theorem Placed.nodup {out o : List (List UInt8)} (h : Placed N sup out o) (hn : out.Nodup) : o.Nodup := by
  induction h with
  | done _ => exact hn
  | more h1 _ ih =>
    refine ih ?_
    rw [List.nodup_append]
    refine ⟨hn, by simp, fun a ha b hb => ?_⟩
    rintro rfl
    simp at hb
    subst hb
    exact h1.1.2.1 ha
theorem Placed.sub {out o : List (List UInt8)} (h : Placed N sup out o) (hn : ∀ x ∈ out, x ∈ N) : ∀ x ∈ o, x ∈ N := by
  induction h with
  | done _ => exact hn
  | more h1 _ ih =>
    refine ih fun y hy => ?_
    rcases List.mem_append.1 hy with h | h
    · exact hn y h
    · simp at h; subst h; exact h1.1.1
/-- each one after those above it -/
def After (sup : List UInt8 → List (List UInt8)) (o : List (List UInt8)) : Prop := ∀ (i : Nat) (x : List UInt8), o[i]? = some x → ∀ s ∈ sup x, ∃ j : Nat, j < i ∧ o[j]? = some s
theorem Placed.after {out o : List (List UInt8)} (h : Placed N sup out o) (hn : After sup out) : After sup o := by
  induction h with
  | done _ => exact hn
  | @more out o x h1 _ ih =>
    refine ih fun i y hy s hs => ?_
    by_cases hi : i < out.length
    · rw [List.getElem?_append_left hi] at hy
      obtain ⟨j, h2, h3⟩ := hn i y hy s hs
      exact ⟨j, h2, by rw [List.getElem?_append_left (by omega)]; exact h3⟩
    · rw [List.getElem?_append_right (by omega)] at hy
      have hy' : y = x := by
        cases hq : i - out.length with
        | zero => rw [hq] at hy; simpa using hy.symm
        | succ q => rw [hq] at hy; simp at hy
      subst hy'
      obtain ⟨j, hj⟩ := List.getElem?_of_mem (h1.1.2.2 s hs)
      have := (List.getElem?_eq_some_iff.1 hj).1
      exact ⟨j, by omega, by rw [List.getElem?_append_left this]; exact hj⟩
theorem Placed.full {out o : List (List UInt8)} (h : Placed N sup out o) : ∀ x, ¬ isNext N sup o x := by
  induction h with
  | done h1 => exact h1
  | more _ _ ih => exact ih
/-- what can be reached upwards comes earlier -/
theorem After.reach {o : List (List UInt8)} (h : After sup o) {x y : List UInt8} (r : Reach sup x y) : ∀ i : Nat, o[i]? = some x → ∃ j : Nat, j ≤ i ∧ o[j]? = some y ∧ (x ≠ y → j < i) := by
  induction r with
  | refl => exact fun i hi => ⟨i, Nat.le_refl _, hi, fun e => absurd rfl e⟩
  | tail _ hz ih =>
    intro i hi
    obtain ⟨j, h1, h2, _⟩ := ih i hi
    obtain ⟨k, h3, h4⟩ := h j _ h2 _ hz
    exact ⟨k, by omega, h4, fun _ => by omega⟩
end
/-! above and below -/
section
variable {N : List (List UInt8)} {sup : List UInt8 → List (List UInt8)}
def dnS (N : List (List UInt8)) (sup : List UInt8 → List (List UInt8)) (x : List UInt8) : List (List UInt8) := N.filter fun y => decide (x ∈ sup y)
theorem reach_in (hc : ∀ x ∈ N, ∀ s ∈ sup x, s ∈ N) {x y : List UInt8} (hx : x ∈ N) (r : Reach sup x y) : y ∈ N := by
  induction r with
  | refl => exact hx
  | tail _ hz ih => exact hc _ ih _ hz
theorem dn_up {x y : List UInt8} (r : Reach (dnS N sup) x y) : Reach sup y x := by
  induction r with
  | refl => exact .refl
  | tail _ hz ih =>
    have := (List.mem_filter.1 hz).2
    exact Reach.head (by simpa using this) ih
theorem up_dn (hc : ∀ x ∈ N, ∀ s ∈ sup x, s ∈ N) {x y : List UInt8} (hx : x ∈ N) (r : Reach sup x y) : Reach (dnS N sup) y x := by
  induction r with
  | refl => exact .refl
  | tail r hz ih => exact Reach.head (List.mem_filter.2 ⟨reach_in hc hx r, by simpa using hz⟩) ih
/-- different ones are not above each other -/
theorem reach_anti {o : List (List UInt8)} (ho : After sup o) (hn : o.Nodup) {x y : List UInt8} (hx : x ∈ o) (r : Reach sup x y) (k : Reach sup y x) : x = y := by
  apply Decidable.byContradiction
  intro hne
  obtain ⟨i, hi⟩ := List.getElem?_of_mem hx
  obtain ⟨j, _, h2, h3⟩ := ho.reach r i hi
  obtain ⟨l, _, h5, h6⟩ := ho.reach k j h2
  have h7 := h3 hne
  have h8 := h6 (fun e => hne e.symm)
  have hlt := (List.getElem?_eq_some_iff.1 hi).1
  have := (List.getElem?_inj hlt hn).1 (hi.trans h5.symm)
  omega
/-- everything has the only one without others above it above it -/
theorem reach_top {o : List (List UInt8)} (ho : After sup o) (t : List UInt8) (ht : ∀ x ∈ o, sup x = [] → x = t) : ∀ (i : Nat) (x : List UInt8), o[i]? = some x → Reach sup x t := by
  intro i
  induction i using Nat.strongRecOn with
  | _ i ih =>
    intro x hx
    cases hs : sup x with
    | nil => rw [ht x (List.mem_of_getElem? hx) hs]; exact .refl
    | cons s l =>
      have hm : s ∈ sup x := by rw [hs]; simp
      obtain ⟨j, hj, hjs⟩ := ho i x hx s hm
      exact Reach.head hm (ih j hj s hjs)
/-- in a set there is one above x with none of the set strictly above it -/
theorem reach_max {o : List (List UInt8)} (ho : After sup o) (A : List UInt8 → Prop) : ∀ (i : Nat) (x : List UInt8), o[i]? = some x → A x → ∃ t, A t ∧ Reach sup x t ∧ ∀ y, A y → Reach sup t y → y = t := by
  intro i
  induction i using Nat.strongRecOn with
  | _ i ih =>
    intro x hx hA
    by_cases h : ∃ y, A y ∧ Reach sup x y ∧ y ≠ x
    · obtain ⟨y, h1, h2, h3⟩ := h
      obtain ⟨j, _, h5, h6⟩ := ho.reach h2 i hx
      obtain ⟨t, k1, k2, k3⟩ := ih j (h6 fun e => h3 e.symm) y h5 h1
      exact ⟨t, k1, h2.trans k2, k3⟩
    · exact ⟨x, hA, .refl, fun y h1 h2 => Decidable.byContradiction fun h3 => h ⟨y, h1, h2, h3⟩⟩
/-- and one below x with none of the set strictly below it -/
theorem reach_min {o : List (List UInt8)} (ho : After sup o) (hn : o.Nodup) (A : List UInt8 → Prop) (hA : ∀ x, A x → x ∈ o) : ∀ (i m : Nat) (x : List UInt8), o[i]? = some x → o.length - i ≤ m → A x → ∃ t, A t ∧ Reach sup t x ∧ ∀ y, A y → Reach sup y t → y = t
  | i, 0, x, hx, hm, _ => by
    have := (List.getElem?_eq_some_iff.1 hx).1
    omega
  | i, m + 1, x, hx, hm, hAx => by
    by_cases h : ∃ y, A y ∧ Reach sup y x ∧ y ≠ x
    · obtain ⟨y, h1, h2, h3⟩ := h
      obtain ⟨j, hj⟩ := List.getElem?_of_mem (hA y h1)
      obtain ⟨l, h4, h5, h6⟩ := ho.reach h2 j hj
      have h7 := h6 h3
      have hlt := (List.getElem?_eq_some_iff.1 hx).1
      have h8 := (List.getElem?_inj hlt hn).1 (hx.trans h5.symm)
      obtain ⟨t, k1, k2, k3⟩ := reach_min ho hn A hA j m y hj (by omega) h1
      exact ⟨t, k1, k2.trans h2, k3⟩
    · exact ⟨x, hAx, .refl, fun y h1 h2 => Decidable.byContradiction fun h3 => h ⟨y, h1, h2, h3⟩⟩
end
/-! counting what is still to be placed above a name -/
section
variable {N : List (List UInt8)} {sup : List UInt8 → List (List UInt8)}
def left (l out : List (List UInt8)) : Nat := (l.filter fun s => decide (s ∉ out)).length
theorem left_zero {l out : List (List UInt8)} : left l out = 0 ↔ ∀ s ∈ l, s ∈ out := by
  unfold left
  rw [List.length_eq_zero_iff, List.filter_eq_nil_iff]
  constructor
  · intro h s hs
    have := h s hs
    simpa using this
  · intro h s hs
    simpa using h s hs
theorem left_nil (l : List (List UInt8)) : left l [] = l.length := by
  unfold left
  rw [List.filter_eq_self.2]
  simp
theorem left_step {out : List (List UInt8)} {x : List UInt8} (hx : x ∉ out) : ∀ {l : List (List UInt8)}, l.Nodup → left l out = left l (out ++ [x]) + if x ∈ l then 1 else 0
  | [], _ => by simp [left]
  | s :: l, h => by
    obtain ⟨h1, h2⟩ := List.nodup_cons.1 h
    have ih := left_step hx h2
    unfold left at ih ⊢
    by_cases e : s = x
    · subst e
      rw [List.filter_cons_of_pos (by simpa using hx), List.filter_cons_of_neg (by simp)]
      rw [if_neg h1] at ih
      rw [if_pos (by simp)]
      simp only [List.length_cons]
      omega
    · have e1 : (x ∈ s :: l) ↔ x ∈ l := by
        rw [List.mem_cons]
        exact ⟨fun h => h.resolve_left fun q => e q.symm, .inr⟩
      by_cases hs : s ∈ out
      · rw [List.filter_cons_of_neg (by simpa using hs), List.filter_cons_of_neg (by simp [hs])]
        simp only [e1]
        exact ih
      · rw [List.filter_cons_of_pos (by simpa using hs), List.filter_cons_of_pos (by simp [hs, e])]
        simp only [e1, List.length_cons]
        omega
/-- what can come next once x is placed -/
theorem next_step {out : List (List UInt8)} {x : List UInt8} (hx : isNext N sup out x) (ho : ∀ y ∈ out, ∀ s ∈ sup y, s ∈ out) (y : List UInt8) :
    isNext N sup (out ++ [x]) y ↔ (isNext N sup out y ∧ y ≠ x) ∨ (y ∈ dnS N sup x ∧ left (sup y) (out ++ [x]) = 0) := by
  constructor
  · rintro ⟨h1, h2, h3⟩
    by_cases hm : x ∈ sup y
    · exact .inr ⟨List.mem_filter.2 ⟨h1, by simpa using hm⟩, left_zero.2 h3⟩
    · refine .inl ⟨⟨h1, fun h => h2 (by simp [h]), fun s hs => ?_⟩, fun e => h2 (by simp [e])⟩
      have := h3 s hs
      rcases List.mem_append.1 this with h | h
      · exact h
      · simp at h
        subst h
        exact absurd hs hm
  · rintro (⟨⟨h1, h2, h3⟩, h4⟩ | ⟨h1, h2⟩)
    · exact ⟨h1, fun h => by
        rcases List.mem_append.1 h with h | h
        · exact h2 h
        · simp at h; exact h4 h, fun s hs => by simp [h3 s hs]⟩
    · obtain ⟨h3, h4⟩ := List.mem_filter.1 h1
      have h4 : x ∈ sup y := by simpa using h4
      refine ⟨h3, fun h => ?_, left_zero.1 h2⟩
      rcases List.mem_append.1 h with h | h
      · exact hx.2.1 (ho y h x h4)
      · simp at h
        subst h
        exact hx.2.1 (hx.2.2 y h4)
theorem closed_step {out : List (List UInt8)} {x : List UInt8} (hx : isNext N sup out x) (ho : ∀ y ∈ out, ∀ s ∈ sup y, s ∈ out) : ∀ y ∈ out ++ [x], ∀ s ∈ sup y, s ∈ out ++ [x] := fun y hy s hs => by
  rcases List.mem_append.1 hy with h | h
  · simp [ho y h s hs]
  · simp at h
    subst h
    simp [hx.2.2 s hs]
end
end Go.Proofs.Ytoeolfnjblibpaa
