/- Scope: labels and holes -/
import Derived.Test.YtegboboemepifaaGreatDoorD1
namespace Go.Proofs.YtegboboemepifaaGreatDoor
open Go.Gl
set_option linter.unusedVariables false
set_option linter.unusedSimpArgs false
def upto (i k : Nat) : List Int := (List.range' i k).map fun j => ((j : Nat) : Int)
theorem upto_succ (i k : Nat) : upto i (k + 1) = ((i : Nat) : Int) :: upto (i + 1) k := by simp [upto, List.range'_succ]
theorem mem_upto {i k : Nat} {x : Int} : x ∈ upto i k ↔ (i : Int) ≤ x ∧ x < (i : Int) + k := by
  simp only [upto, List.mem_map, List.mem_range'_1]
  constructor
  · rintro ⟨j, ⟨h1, h2⟩, rfl⟩; omega
  · rintro ⟨h1, h2⟩; exact ⟨x.toNat, by omega, by omega⟩
theorem upto_nodup : ∀ (k i : Nat), (upto i k).Nodup
  | 0, i => by simp [upto]
  | k + 1, i => by
    rw [upto_succ, List.nodup_cons]
    exact ⟨fun h => by have := mem_upto.1 h; omega, upto_nodup k (i + 1)⟩
theorem upto_sorted : ∀ (k i : Nat), (upto i k).Pairwise (· < ·)
  | 0, i => by simp [upto]
  | k + 1, i => by
    rw [upto_succ, List.pairwise_cons]
    exact ⟨fun x h => by have := mem_upto.1 h; omega, upto_sorted k (i + 1)⟩
theorem upto_len (i k : Nat) : (upto i k).length = k := by simp [upto]
theorem upto_get (k : Nat) {v : Nat} (h : v < k) : (upto 0 k)[v]? = some (v : Int) := by
  simp [upto, h]
theorem nodup_len : ∀ (l S : List Int), l.Nodup → (∀ x ∈ l, x ∈ S) → l.length ≤ S.length
  | [], S, _, _ => by simp
  | x :: l, S, h, hs => by
    obtain ⟨h1, h2⟩ := List.nodup_cons.1 h
    have hx := hs x (by simp)
    have := nodup_len l (S.erase x) h2 (fun y hy => (List.mem_erase_of_ne (fun (e : y = x) => h1 (e ▸ hy))).2 (hs y (by simp [hy])))
    rw [List.length_erase_of_mem hx] at this
    have := List.length_pos_of_mem hx
    simp; omega
theorem count_nodup {l : List Int} (h : l.Nodup) (x : Int) : l.count x = if x ∈ l then 1 else 0 := by
  split
  · rename_i hx
    have h1 := List.nodup_iff_count.1 h x
    have h2 := List.count_pos_iff.2 hx
    omega
  · rename_i hx
    exact List.count_eq_zero.2 hx
theorem perm_nodup {a b : List Int} (ha : a.Nodup) (hb : b.Nodup) (h : ∀ x, x ∈ a ↔ x ∈ b) : a.Perm b := by
  rw [List.perm_iff_count]
  intro x
  rw [count_nodup ha, count_nodup hb]
  simp [h x]
/-- all elements are there exactly if the lengths agree -/
theorem nodup_full {l S : List Int} (hl : l.Nodup) (hS : S.Nodup) (hs : ∀ x ∈ l, x ∈ S) : l.length = S.length ↔ ∀ x ∈ S, x ∈ l := by
  constructor
  · intro h x hx
    apply Decidable.byContradiction
    intro hn
    have := nodup_len (x :: l) S (List.nodup_cons.2 ⟨hn, hl⟩) (fun y hy => by rcases List.mem_cons.1 hy with rfl | hy; exact hx; exact hs y hy)
    simp at this; omega
  · intro h
    exact (perm_nodup hl hS (fun x => ⟨hs x, h x⟩)).length_eq
def isLab (m : MRS) (v : Int) : Prop := ∃ x ∈ m.Rels, x.Label = v
instance (m : MRS) (v : Int) : Decidable (isLab m v) := inferInstanceAs (Decidable (∃ x ∈ m.Rels, x.Label = v))
def isArg (m : MRS) (v : Int) : Prop := ∃ x ∈ m.Rels, ∃ a ∈ x.Args, a.Var = v
instance (m : MRS) (v : Int) : Decidable (isArg m v) := inferInstanceAs (Decidable (∃ x ∈ m.Rels, ∃ a ∈ x.Args, a.Var = v))
def isHole (m : MRS) (v : Int) : Prop := ix m.Vars v = some [104] ∧ ¬ isLab m v ∧ (v = m.Top ∨ isArg m v)
instance (m : MRS) (v : Int) : Decidable (isHole m v) := inferInstanceAs (Decidable (_ ∧ _ ∧ _))
def labs (m : MRS) : List Int := (upto 0 m.Vars.length).filter fun v => decide (isLab m v)
def hols (m : MRS) : List Int := (upto 0 m.Vars.length).filter fun v => decide (isHole m v)
/-- sizes, and variables in range -/
structure Good (m : MRS) : Prop where
  nv : m.Vars.length ≤ 256
  nr : m.Rels.length ≤ 8
  nc : m.Cons.length ≤ 8
  na : ∀ x ∈ m.Rels, x.Args.length ≤ 10
  top : 0 ≤ m.Top ∧ m.Top < m.Vars.length
  lab : ∀ x ∈ m.Rels, 0 ≤ x.Label ∧ x.Label < m.Vars.length
  arg : ∀ x ∈ m.Rels, ∀ a ∈ x.Args, 0 ≤ a.Var ∧ a.Var < m.Vars.length
  con : ∀ c ∈ m.Cons, (0 ≤ c.High ∧ c.High < m.Vars.length) ∧ 0 ≤ c.Low ∧ c.Low < m.Vars.length
  prd : ∀ x ∈ m.Rels, x.Pred.length ≤ 32
  rol : ∀ x ∈ m.Rels, ∀ a ∈ x.Args, a.Role.length ≤ 32
  srt : ∀ s ∈ m.Vars, s.length ≤ 1
theorem mem_labs {m : MRS} (g : Good m) {v : Int} : v ∈ labs m ↔ isLab m v := by
  unfold labs
  rw [List.mem_filter, mem_upto, decide_eq_true_eq]
  constructor
  · exact fun h => h.2
  · intro h
    refine ⟨?_, h⟩
    obtain ⟨x, hx, rfl⟩ := h
    have := g.lab x hx
    omega
theorem mem_hols {m : MRS} (g : Good m) {v : Int} : v ∈ hols m ↔ isHole m v := by
  unfold hols
  rw [List.mem_filter, mem_upto, decide_eq_true_eq]
  constructor
  · exact fun h => h.2
  · intro h
    refine ⟨?_, h⟩
    rcases h.2.2 with h | ⟨x, hx, a, ha, h⟩
    · have := g.top; omega
    · have := g.arg x hx a ha; omega
theorem labs_nodup (m : MRS) : (labs m).Nodup := (upto_nodup _ _).filter _
theorem hols_nodup (m : MRS) : (hols m).Nodup := (upto_nodup _ _).filter _
theorem labs_sorted (m : MRS) : (labs m).Pairwise (· < ·) := (upto_sorted _ _).filter _
theorem labs_len {m : MRS} (g : Good m) : (labs m).length ≤ m.Rels.length := by
  have := nodup_len (labs m) (m.Rels.map (·.Label)) (labs_nodup m) (fun x hx => by
    obtain ⟨y, hy, rfl⟩ := (mem_labs g).1 hx
    exact List.mem_map.2 ⟨y, hy, rfl⟩)
  simpa using this
theorem hols_len {m : MRS} (g : Good m) : (hols m).length ≤ 256 := by
  have := List.length_filter_le (fun v => decide (isHole m v)) (upto 0 m.Vars.length)
  rw [upto_len] at this
  exact Nat.le_trans this g.nv
theorem IndexFunc_EP_eq (n : Nat) (s : List EP) (f : EP → Option Bool) (p : EP → Prop) [DecidablePred p] (hf : ∀ w, w ∈ s → f w = some (decide (p w))) : ∀ (t : List EP) (m i : Nat), s.drop i = t → t.length < m → ∃ k, slices_IndexFunc_EP_L0 n s f m i = some k ∧ (0 ≤ k ↔ ∃ w ∈ t, p w)
  | [], m + 1, i, h, _ => by
    rw [slices_IndexFunc_EP_L0, if_neg (drop_nil' h)]
    exact ⟨-1, rfl, by simp⟩
  | x :: t, m + 1, i, h, hm => by
    obtain ⟨h1, h2, h3⟩ := drop_cons h
    rw [slices_IndexFunc_EP_L0, if_pos h1, h2]
    simp only [bind_some', hf x (List.mem_of_getElem? h2)]
    obtain ⟨k, hk, hk'⟩ := IndexFunc_EP_eq n s f p hf t m (i + 1) h3 (by simpa using hm)
    by_cases hx : p x
    · exact ⟨i, by simp [hx], by simp [hx]⟩
    · exact ⟨k, by simp [hx, hk], by simp [hx, hk']⟩
theorem ContainsFunc_EP_eq (n : Nat) (s : List EP) (f : EP → Option Bool) (p : EP → Prop) [DecidablePred p] (hf : ∀ w, w ∈ s → f w = some (decide (p w))) (hn : s.length < n) : slices_ContainsFunc_EP n s f = some (decide (∃ w ∈ s, p w)) := by
  unfold slices_ContainsFunc_EP slices_IndexFunc_EP
  obtain ⟨k, hk, hk'⟩ := IndexFunc_EP_eq n s f p hf s n 0 rfl hn
  rw [hk]
  simp [hk']
theorem IndexFunc_Arg_eq (n : Nat) (s : List Arg) (f : Arg → Option Bool) (p : Arg → Prop) [DecidablePred p] (hf : ∀ w, f w = some (decide (p w))) : ∀ (t : List Arg) (m i : Nat), s.drop i = t → t.length < m → ∃ k, slices_IndexFunc_Arg_L0 n s f m i = some k ∧ (0 ≤ k ↔ ∃ w ∈ t, p w)
  | [], m + 1, i, h, _ => by
    rw [slices_IndexFunc_Arg_L0, if_neg (drop_nil' h)]
    exact ⟨-1, rfl, by simp⟩
  | x :: t, m + 1, i, h, hm => by
    obtain ⟨h1, h2, h3⟩ := drop_cons h
    rw [slices_IndexFunc_Arg_L0, if_pos h1, h2]
    simp only [bind_some', hf]
    obtain ⟨k, hk, hk'⟩ := IndexFunc_Arg_eq n s f p hf t m (i + 1) h3 (by simpa using hm)
    by_cases hx : p x
    · exact ⟨i, by simp [hx], by simp [hx]⟩
    · exact ⟨k, by simp [hx, hk], by simp [hx, hk']⟩
theorem ContainsFunc_Arg_eq (n : Nat) (s : List Arg) (f : Arg → Option Bool) (p : Arg → Prop) [DecidablePred p] (hf : ∀ w, f w = some (decide (p w))) (hn : s.length < n) : slices_ContainsFunc_Arg n s f = some (decide (∃ w ∈ s, p w)) := by
  unfold slices_ContainsFunc_Arg slices_IndexFunc_Arg
  obtain ⟨k, hk, hk'⟩ := IndexFunc_Arg_eq n s f p hf s n 0 rfl hn
  rw [hk]
  simp [hk']
theorem Index_int_eq (n : Nat) (s : List Int) (v : Int) : ∀ (t : List Int) (m i : Nat), s.drop i = t → t.length < m → ∃ k, slices_Index_int_L0 n s v m i = some k ∧ (0 ≤ k ↔ v ∈ t)
  | [], m + 1, i, h, _ => by
    rw [slices_Index_int_L0, if_neg (drop_nil' h)]
    exact ⟨-1, rfl, by simp⟩
  | x :: t, m + 1, i, h, hm => by
    obtain ⟨h1, h2, h3⟩ := drop_cons h
    rw [slices_Index_int_L0, if_pos h1, h2]
    simp only [bind_some']
    obtain ⟨k, hk, hk'⟩ := Index_int_eq n s v t m (i + 1) h3 (by simpa using hm)
    by_cases hx : v = x
    · exact ⟨i, by simp [hx], by simp [hx]⟩
    · exact ⟨k, by simp [hx, hk], by simp [hx, hk']⟩
theorem Contains_int_eq (n : Nat) (s : List Int) (v : Int) (hn : s.length < n) : slices_Contains_int n s v = some (decide (v ∈ s)) := by
  unfold slices_Contains_int slices_Index_int
  obtain ⟨k, hk, hk'⟩ := Index_int_eq n s v s n 0 rfl hn
  rw [hk]
  simp [hk']
theorem r41_Has_L0_eq (n : Nat) (s : List Int) (v : Int) : ∀ (t : List Int) (m i : Nat), s.drop i = t → t.length < m → r41_Has_L0 n s v m i = some (decide (v ∈ t))
  | [], m + 1, i, h, _ => by
    rw [r41_Has_L0, if_neg (drop_nil' h)]
    simp
  | x :: t, m + 1, i, h, hm => by
    obtain ⟨h1, h2, h3⟩ := drop_cons h
    rw [r41_Has_L0, if_pos h1, h2]
    simp only [bind_some', r41_Has_L0_eq n s v t m (i + 1) h3 (by simpa using hm)]
    by_cases hx : x = v
    · simp [hx]
    · simp [hx, Ne.symm hx]
theorem r41_Has_eq (n : Nat) (s : List Int) (v : Int) (hn : s.length < n) : r41_Has n s v = some (decide (v ∈ s)) := r41_Has_L0_eq n s v s n 0 rfl hn
theorem scope_Labels_L0_eq (n : Nat) (m : MRS) (g : Good m) (hn : 1000 ≤ n) : ∀ (k q i : Nat) (out : List Int), i + k = m.Vars.length → k < q → out.length ≤ i → scope_Labels_L0 n m q out i = some (out ++ (upto i k).filter fun v => decide (isLab m v))
  | 0, q + 1, i, out, h, _, _ => by
    rw [scope_Labels_L0, if_neg (by omega)]
    simp [upto]
  | k + 1, q + 1, i, out, h, hq, ho => by
    have := g.nv; have := g.nr
    rw [scope_Labels_L0, if_pos (by omega), ContainsFunc_EP_eq n m.Rels (fun p => scope_Labels_1 n p ((i : Nat) : Int)) (fun x => x.Label = (i : Int)) (fun x _ => rfl) (by omega), bind_some', upto_succ, List.filter_cons]
    by_cases hx : isLab m i
    · rw [if_pos (by simpa [isLab] using hx), if_pos (by simpa using hx), chk_true (by simp; omega), scope_Labels_L0_eq n m g hn k q (i + 1) _ (by omega) (by omega) (by simp; omega)]
      simp
    · rw [if_neg (by simpa [isLab] using hx), if_neg (by simpa using hx), scope_Labels_L0_eq n m g hn k q (i + 1) _ (by omega) (by omega) (by omega)]
theorem scope_Labels_eq (n : Nat) (m : MRS) (g : Good m) (hn : 1000 ≤ n) : scope_Labels n m = some (labs m) := by
  have := g.nv
  unfold scope_Labels
  rw [scope_Labels_L0_eq n m g hn m.Vars.length n 0 [] (by omega) (by omega) (by simp)]
  rfl
theorem scope_used_eq (n : Nat) (x : EP) (v : Int) (hx : x.Args.length ≤ 10) (hn : 1000 ≤ n) : scope_used n x v = some (decide (∃ a ∈ x.Args, a.Var = v)) := by
  unfold scope_used
  rw [ContainsFunc_Arg_eq n x.Args (fun p => scope_used_1 n p v) (fun a => a.Var = v) (fun a => rfl) (by omega)]
  rfl
theorem any_arg_eq (n : Nat) (m : MRS) (g : Good m) (hn : 1000 ≤ n) (v : Int) : slices_ContainsFunc_EP n m.Rels (fun p => scope_Holes_1 n p v) = some (decide (isArg m v)) := by
  have := g.nr
  rw [ContainsFunc_EP_eq n m.Rels _ (fun x => ∃ a ∈ x.Args, a.Var = v) (fun x hx => by
    unfold scope_Holes_1
    rw [scope_used_eq n x v (g.na x hx) hn]
    rfl) (by omega)]
  rfl
theorem scope_Holes_L0_eq (n : Nat) (m : MRS) (g : Good m) (hn : 1000 ≤ n) : ∀ (k q i : Nat) (out : List Int), i + k = m.Vars.length → k < q → out.length ≤ i → scope_Holes_L0 n m (labs m) q out i = some (out ++ (upto i k).filter fun v => decide (isHole m v))
  | 0, q + 1, i, out, h, _, _ => by
    rw [scope_Holes_L0, if_neg (by omega)]
    simp [upto]
  | k + 1, q + 1, i, out, h, hq, ho => by
    have := g.nv; have := g.nr; have := labs_len g
    have hi : i < m.Vars.length := by omega
    have e1 : isHole m i ↔ m.Vars[i] = [104] ∧ ¬ isLab m i ∧ ((i : Int) = m.Top ∨ isArg m i) := by
      unfold isHole
      rw [ix_nat, List.getElem?_eq_getElem hi]
      simp
    rw [scope_Holes_L0, if_pos hi]
    simp only [jn_def, List.getElem?_eq_getElem hi, bind_some', Contains_int_eq n (labs m) _ (show (labs m).length < n by omega), any_arg_eq n m g hn, upto_succ, List.filter_cons]
    have ih1 := scope_Holes_L0_eq n m g hn k q (i + 1) out (by omega) (by omega) (by omega)
    have ih2 := scope_Holes_L0_eq n m g hn k q (i + 1) (out ++ [((i : Nat) : Int)]) (by omega) (by omega) (by simp; omega)
    rw [ih1, ih2, chk_true (by simp; omega)]
    by_cases a1 : m.Vars[i] = [104]
    · by_cases a2 : isLab m i
      · simp [e1, a1, a2, mem_labs g]
      · by_cases a3 : (i : Int) = m.Top
        · have e2 : isHole m i := e1.2 ⟨a1, a2, .inl a3⟩
          simp [a1, a2, mem_labs g, e2]
          simp [a3]
        · by_cases a4 : isArg m i
          · have e2 : isHole m i := e1.2 ⟨a1, a2, .inr a4⟩
            simp [a1, a2, a3, a4, mem_labs g, e2]
          · have e2 : ¬ isHole m i := fun h => by rcases (e1.1 h).2.2 with h | h; exact a3 h; exact a4 h
            simp [a1, a2, a3, a4, mem_labs g, e2]
    · have e2 : ¬ isHole m i := fun h => a1 (e1.1 h).1
      simp [a1, e2]
theorem scope_Holes_eq (n : Nat) (m : MRS) (g : Good m) (hn : 1000 ≤ n) : scope_Holes n m = some (hols m) := by
  have := g.nv
  unfold scope_Holes
  rw [scope_Labels_eq n m g hn, bind_some', scope_Holes_L0_eq n m g hn m.Vars.length n 0 [] (by omega) (by omega) (by simp)]
  rfl
end Go.Proofs.YtegboboemepifaaGreatDoor

