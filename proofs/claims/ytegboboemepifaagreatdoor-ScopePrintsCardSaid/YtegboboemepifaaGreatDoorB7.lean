/- Accepted representations -/
import Derived.Test.YtegboboemepifaaGreatDoorB6
namespace Go.Proofs.YtegboboemepifaaGreatDoor
open Go.Gl
set_option linter.unusedVariables false
set_option linter.unusedSimpArgs false
theorem r01_part_tot (n : Nat) (c : UInt8) (big : Bool) : ∃ b, r01_part n c big = some b := by
  have h1 : ∃ b, r01_digit n c = some b := by unfold r01_digit; split <;> exact ⟨_, rfl⟩
  have h2 : ∃ b, r01_upper n c = some b := by unfold r01_upper; split <;> exact ⟨_, rfl⟩
  have h3 : ∃ b, r01_lower n c = some b := by unfold r01_lower; split <;> exact ⟨_, rfl⟩
  obtain ⟨b1, h1⟩ := h1
  obtain ⟨b2, h2⟩ := h2
  obtain ⟨b3, h3⟩ := h3
  unfold r01_part
  rw [h1, h2, h3]
  simp only [bind_some']
  repeat' split
  all_goals exact ⟨_, rfl⟩
theorem r01_named_L0_tot (n : Nat) (s : List UInt8) (big : Bool) : ∀ (t : List UInt8) (q i : Nat), s.drop i = t → t.length < q → ∃ b, r01_named_L0 n s big q i = some b
  | [], q + 1, i, h, _ => by
    rw [r01_named_L0, if_neg (drop_nil' h)]
    exact ⟨_, rfl⟩
  | x :: t, q + 1, i, h, hq => by
    obtain ⟨h1, h2, h3⟩ := drop_cons h
    obtain ⟨b, hb⟩ := r01_part_tot n x big
    obtain ⟨c, hc⟩ := r01_named_L0_tot n s big t q (i + 1) h3 (by simpa using hq)
    rw [r01_named_L0, if_pos h1, h2, bind_some', hb, bind_some', hc]
    split <;> exact ⟨_, rfl⟩
theorem r01_named_tot (n : Nat) (s : List UInt8) (big : Bool) (hn : 1000 ≤ n) : ∃ b, r01_named n s big = some b ∧ (b = true → s.length ≤ 32) := by
  unfold r01_named
  simp only [jn_def]
  by_cases h1 : s.length < 1
  · rw [if_pos h1]; exact ⟨false, by simp, by simp⟩
  · rw [if_neg h1]
    by_cases h2 : 32 < s.length
    · rw [if_pos h2]; exact ⟨false, by simp, by simp⟩
    · rw [if_neg h2]
      have h3 : ∃ b, r01_digit n s[0] = some b := by unfold r01_digit; split <;> exact ⟨_, rfl⟩
      obtain ⟨b, hb⟩ := h3
      obtain ⟨c, hc⟩ := r01_named_L0_tot n s big s n 0 rfl (by omega)
      rw [List.getElem?_eq_getElem (show 0 < s.length by omega), bind_some', hb, bind_some', hc]
      split
      · exact ⟨false, by simp, by simp⟩
      · split
        · exact ⟨false, rfl, by simp⟩
        · exact ⟨c, rfl, fun _ => by omega⟩
theorem r01_Name_tot (n : Nat) (s : List UInt8) (hn : 1000 ≤ n) : ∃ b, r01_Name n s = some b ∧ (b = true → s.length ≤ 32) := by
  obtain ⟨b, h1, h2⟩ := r01_named_tot n s false hn
  exact ⟨b, by unfold r01_Name; rw [h1]; rfl, h2⟩
theorem r01_Feature_tot (n : Nat) (s : List UInt8) (hn : 1000 ≤ n) : ∃ b, r01_Feature n s = some b ∧ (b = true → s.length ≤ 32) := by
  obtain ⟨b, h1, h2⟩ := r01_named_tot n s true hn
  exact ⟨b, by unfold r01_Feature; rw [h1]; rfl, h2⟩
theorem predication_L0_tot (n : Nat) (x : EP) (hn : 1000 ≤ n) : ∀ (t : List Arg) (q i : Nat), x.Args.drop i = t → t.length < q → ∃ e, r39_predication_L0 n x q i = some e ∧ (e = 0 → ∀ a ∈ t, a.Role.length ≤ 32)
  | [], q + 1, i, h, _ => by
    rw [r39_predication_L0, if_neg (drop_nil' h)]
    exact ⟨0, rfl, by simp⟩
  | a :: t, q + 1, i, h, hq => by
    obtain ⟨h1, h2, h3⟩ := drop_cons h
    obtain ⟨b, hb, hb'⟩ := r01_Feature_tot n a.Role hn
    obtain ⟨e, he, he'⟩ := predication_L0_tot n x hn t q (i + 1) h3 (by simpa using hq)
    have hgo : b = true → ∃ e', (if (0 : Nat) < i then (some a).bind fun x38 => (ix x.Args (((i : Nat) : Int) - 1)).bind fun x41 => (if ((Op.bytesLess x38.Role x41.Role) || (x38.Role == x41.Role)) = true then some (3 : Int) else some e) else (if (false : Bool) = true then some (3 : Int) else some e)) = some e' ∧ (e' = 0 → ∀ c ∈ a :: t, c.Role.length ≤ 32) := by
      intro hbt
      have hall : e = 0 → ∀ c ∈ a :: t, c.Role.length ≤ 32 := fun h0 c hc => by
        rcases List.mem_cons.1 hc with rfl | hc
        · exact hb' hbt
        · exact he' h0 c hc
      split
      · rename_i hi
        have : ∃ y, ix x.Args (((i : Nat) : Int) - 1) = some y := by
          obtain ⟨j, rfl⟩ : ∃ j, i = j + 1 := ⟨i - 1, by omega⟩
          refine ⟨x.Args[j]'(by omega), ?_⟩
          rw [show (((j + 1 : Nat) : Int) - 1) = ((j : Nat) : Int) by omega, ix_nat, List.getElem?_eq_getElem (by omega)]
        obtain ⟨y, hy⟩ := this
        rw [bind_some', hy, bind_some']
        split
        · exact ⟨3, rfl, by simp⟩
        · exact ⟨e, rfl, hall⟩
      · exact ⟨e, by simp, hall⟩
    rw [r39_predication_L0, if_pos h1]
    simp only [jn_def, h2, he]
    rw [bind_some', hb, bind_some']
    by_cases hbt : b = true
    · obtain ⟨e', g1, g2⟩ := hgo hbt
      rw [if_neg (by simp [hbt])]
      split
      · exact ⟨1, rfl, by simp⟩
      · exact ⟨e', g1, g2⟩
    · rw [if_pos (by simp [hbt])]
      exact ⟨1, by simp, by simp⟩
theorem predication_tot (n : Nat) (x : EP) (hx : x.Args.length ≤ 10) (hn : 1000 ≤ n) : ∃ e, r39_predication n x = some e ∧ (e = 0 → x.Pred.length ≤ 32 ∧ ∀ a ∈ x.Args, a.Role.length ≤ 32) := by
  unfold r39_predication
  obtain ⟨b, hb, hb'⟩ := r01_Name_tot n x.Pred hn
  obtain ⟨e, he, he'⟩ := predication_L0_tot n x hn x.Args n 0 rfl (by omega)
  rw [hb, bind_some', he]
  by_cases hbt : b = true
  · rw [if_neg (by simp [hbt])]; exact ⟨e, rfl, fun h => ⟨hb' hbt, he' h⟩⟩
  · rw [if_pos (by simp [hbt])]; exact ⟨1, rfl, by simp⟩
/-- sizes -/
structure Small (m : MRS) : Prop where
  nv : m.Vars.length ≤ 300
  nr : m.Rels.length ≤ 8
  nc : m.Cons.length ≤ 8
  na : ∀ x ∈ m.Rels, x.Args.length ≤ 10
def occ (m : MRS) : List Int := [m.Top, m.Index] ++ (m.Rels.flatMap fun x => x.Label :: x.Args.map (·.Var)) ++ m.Cons.flatMap fun c => [c.High, c.Low]
theorem occ_L1_eq (n : Nat) (k : List Int → Option (List Int)) (x : EP) : ∀ (t : List Arg) (q i : Nat) (out : List Int), x.Args.drop i = t → t.length < q → out.length + t.length ≤ 10000 → r39_Occurrences_L1 n k x q out i = k (out ++ t.map (·.Var))
  | [], q + 1, i, out, h, _, _ => by
    rw [r39_Occurrences_L1, if_neg (drop_nil' h)]
    simp
  | a :: t, q + 1, i, out, h, hq, ho => by
    obtain ⟨h1, h2, h3⟩ := drop_cons h
    simp only [List.length_cons] at hq ho
    rw [r39_Occurrences_L1, if_pos h1, h2, bind_some', chk_true (by simp; omega), occ_L1_eq n k x t q (i + 1) _ h3 (by omega) (by simp; omega)]
    simp
theorem occ_L0_eq (n : Nat) (m : MRS) (g : Small m) (hn : 1000 ≤ n) (k : List Int → Option (List Int)) : ∀ (t : List EP) (q i : Nat) (out : List Int), m.Rels.drop i = t → t.length < q → out.length + 20 * t.length ≤ 5000 → r39_Occurrences_L0 n m k q out i = k (out ++ t.flatMap fun x => x.Label :: x.Args.map (·.Var))
  | [], q + 1, i, out, h, _, _ => by
    rw [r39_Occurrences_L0, if_neg (drop_nil' h)]
    simp
  | x :: t, q + 1, i, out, h, hq, ho => by
    obtain ⟨h1, h2, h3⟩ := drop_cons h
    simp only [List.length_cons] at hq ho
    have hx := g.na x (List.mem_of_getElem? h2)
    rw [r39_Occurrences_L0, if_pos h1]
    simp only [jn_def, h2, bind_some']
    rw [chk_true (by simp; omega), occ_L1_eq n _ x x.Args n 0 _ rfl (by omega) (by simp; omega), occ_L0_eq n m g hn k t q (i + 1) _ h3 (by omega) (by simp; omega)]
    simp
theorem occ_L2_eq (n : Nat) (m : MRS) : ∀ (t : List Qeq) (q i : Nat) (out : List Int), m.Cons.drop i = t → t.length < q → out.length + 2 * t.length ≤ 10000 → r39_Occurrences_L2 n m q out i = some (out ++ t.flatMap fun c => [c.High, c.Low])
  | [], q + 1, i, out, h, _, _ => by
    rw [r39_Occurrences_L2, if_neg (drop_nil' h)]
    simp
  | x :: t, q + 1, i, out, h, hq, ho => by
    obtain ⟨h1, h2, h3⟩ := drop_cons h
    simp only [List.length_cons] at hq ho
    rw [r39_Occurrences_L2, if_pos h1, h2, bind_some', chk_true (by simp; omega), chk_true (by simp; omega), occ_L2_eq n m t q (i + 1) _ h3 (by omega) (by simp; omega)]
    simp
theorem occ_rels_len {m : MRS} (g : Small m) : (m.Rels.flatMap fun x => x.Label :: x.Args.map (·.Var)).length ≤ 100 := by
  have key : ∀ (t : List EP), (∀ x ∈ t, x.Args.length ≤ 10) → (t.flatMap fun x => x.Label :: x.Args.map (·.Var)).length ≤ 11 * t.length := by
    intro t
    induction t with
    | nil => simp
    | cons x t ih =>
      intro h
      have h1 := ih (fun y hy => h y (by simp [hy]))
      have h2 := h x (by simp)
      simp only [List.flatMap_cons, List.length_append, List.length_cons, List.length_map]; omega
  have := key m.Rels g.na
  have := g.nr
  omega
theorem occ_eq (n : Nat) (m : MRS) (g : Small m) (hn : 1000 ≤ n) : r39_Occurrences n m = some (occ m) := by
  have := g.nr; have := g.nc; have := occ_rels_len g
  unfold r39_Occurrences
  simp only [jn_def]
  rw [occ_L0_eq n m g hn _ m.Rels n 0 _ rfl (by omega) (by simp; omega), occ_L2_eq n m m.Cons n 0 _ rfl (by omega) (by simp at *; omega)]
  rfl
def hnd (m : MRS) : List Int := [m.Top] ++ m.Rels.map (·.Label) ++ m.Cons.flatMap fun c => [c.High, c.Low]
theorem hnd_L0_eq (n : Nat) (m : MRS) (k : List Int → Option (List Int)) : ∀ (t : List EP) (q i : Nat) (out : List Int), m.Rels.drop i = t → t.length < q → out.length + t.length ≤ 5000 → r39_handles_L0 n m k q out i = k (out ++ t.map (·.Label))
  | [], q + 1, i, out, h, _, _ => by
    rw [r39_handles_L0, if_neg (drop_nil' h)]
    simp
  | x :: t, q + 1, i, out, h, hq, ho => by
    obtain ⟨h1, h2, h3⟩ := drop_cons h
    simp only [List.length_cons] at hq ho
    rw [r39_handles_L0, if_pos h1, h2, bind_some', chk_true (by simp; omega), hnd_L0_eq n m k t q (i + 1) _ h3 (by omega) (by simp; omega)]
    simp
theorem hnd_L1_eq (n : Nat) (m : MRS) : ∀ (t : List Qeq) (q i : Nat) (out : List Int), m.Cons.drop i = t → t.length < q → out.length + 2 * t.length ≤ 10000 → r39_handles_L1 n m q out i = some (out ++ t.flatMap fun c => [c.High, c.Low])
  | [], q + 1, i, out, h, _, _ => by
    rw [r39_handles_L1, if_neg (drop_nil' h)]
    simp
  | x :: t, q + 1, i, out, h, hq, ho => by
    obtain ⟨h1, h2, h3⟩ := drop_cons h
    simp only [List.length_cons] at hq ho
    rw [r39_handles_L1, if_pos h1, h2, bind_some', chk_true (by simp; omega), chk_true (by simp; omega), hnd_L1_eq n m t q (i + 1) _ h3 (by omega) (by simp; omega)]
    simp
theorem hnd_eq (n : Nat) (m : MRS) (g : Small m) (hn : 1000 ≤ n) : r39_handles n m = some (hnd m) := by
  have := g.nr; have := g.nc
  unfold r39_handles
  simp only [jn_def]
  rw [hnd_L0_eq n m _ m.Rels n 0 _ rfl (by omega) (by simp; omega), hnd_L1_eq n m m.Cons n 0 _ rfl (by omega) (by simp at *; omega)]
  rfl
theorem r39_sorted_tot (n : Nat) (s : List UInt8) : ∃ b, r39_sorted n s = some b ∧ (b = true → s.length ≤ 1) := by
  unfold r39_sorted
  split
  · rename_i h; exact ⟨true, rfl, fun _ => by rw [h]; simp⟩
  · split
    · rename_i h; exact ⟨true, rfl, fun _ => by rw [h]; simp⟩
    · split
      · rename_i h; exact ⟨true, rfl, fun _ => by rw [h]; simp⟩
      · exact ⟨_, rfl, fun h => by rw [of_decide_eq_true h]; simp⟩
theorem Loose_L0_eq (n : Nat) (m : MRS) (k : Option Int) : ∀ (t : List (List UInt8)) (q i : Nat), m.Vars.drop i = t → t.length < q → r39_Loose_L0 n m k q i = some 1 ∨ (r39_Loose_L0 n m k q i = k ∧ ∀ s ∈ t, s.length ≤ 1)
  | [], q + 1, i, h, _ => by
    rw [r39_Loose_L0, if_neg (drop_nil' h)]
    exact .inr ⟨rfl, by simp⟩
  | x :: t, q + 1, i, h, hq => by
    obtain ⟨h1, h2, h3⟩ := drop_cons h
    obtain ⟨b, hb, hb'⟩ := r39_sorted_tot n x
    rw [r39_Loose_L0, if_pos h1, h2, bind_some', hb, bind_some']
    by_cases hbt : b = true
    · rw [if_neg (by simp [hbt])]
      rcases Loose_L0_eq n m k t q (i + 1) h3 (by simpa using hq) with h | ⟨h, h'⟩
      · exact .inl h
      · exact .inr ⟨h, fun s hs => by rcases List.mem_cons.1 hs with rfl | hs; exact hb' hbt; exact h' s hs⟩
    · rw [if_pos (by simp [hbt])]; exact .inl rfl
theorem Loose_L1_eq (n : Nat) (m : MRS) (g : Small m) (hn : 1000 ≤ n) (k : Option Int) : ∀ (t : List EP) (q i : Nat), m.Rels.drop i = t → t.length < q → (∃ e, e ≠ 0 ∧ r39_Loose_L1 n m k q i = some e) ∨ (r39_Loose_L1 n m k q i = k ∧ ∀ x ∈ t, x.Pred.length ≤ 32 ∧ ∀ a ∈ x.Args, a.Role.length ≤ 32)
  | [], q + 1, i, h, _ => by
    rw [r39_Loose_L1, if_neg (drop_nil' h)]
    exact .inr ⟨rfl, by simp⟩
  | x :: t, q + 1, i, h, hq => by
    obtain ⟨h1, h2, h3⟩ := drop_cons h
    obtain ⟨e, he, he'⟩ := predication_tot n x (g.na x (List.mem_of_getElem? h2)) hn
    rw [r39_Loose_L1, if_pos h1, h2, bind_some', he, bind_some']
    by_cases h0 : e = 0
    · rw [if_neg (by simp [h0])]
      rcases Loose_L1_eq n m g hn k t q (i + 1) h3 (by simpa using hq) with h | ⟨h, h'⟩
      · exact .inl h
      · exact .inr ⟨h, fun s hs => by rcases List.mem_cons.1 hs with rfl | hs; exact he' h0; exact h' s hs⟩
    · rw [if_pos h0]; exact .inl ⟨e, h0, rfl⟩
theorem Loose_L2_eq (n : Nat) (m : MRS) (r : List Int) (k : Option Int) : ∀ (t : List Int) (q i : Nat), r.drop i = t → t.length < q → r39_Loose_L2 n m r k q i = some 2 ∨ (r39_Loose_L2 n m r k q i = k ∧ ∀ v ∈ t, 0 ≤ v ∧ v < m.Vars.length)
  | [], q + 1, i, h, _ => by
    rw [r39_Loose_L2, if_neg (drop_nil' h)]
    exact .inr ⟨rfl, by simp⟩
  | x :: t, q + 1, i, h, hq => by
    obtain ⟨h1, h2, h3⟩ := drop_cons h
    rw [r39_Loose_L2, if_pos h1]
    simp only [jn_def, h2, bind_some']
    by_cases c1 : x < 0
    · rw [if_pos c1]; exact .inl (by simp)
    · rw [if_neg c1]
      by_cases c2 : ((m.Vars.length : Nat) : Int) ≤ x
      · exact .inl (by simp [c2])
      · rw [if_neg (by simp [c2])]
        rcases Loose_L2_eq n m r k t q (i + 1) h3 (by simpa using hq) with h | ⟨h, h'⟩
        · exact .inl h
        · exact .inr ⟨h, fun s hs => by rcases List.mem_cons.1 hs with rfl | hs; exact ⟨by omega, by omega⟩; exact h' s hs⟩
theorem Loose_L3_eq (n : Nat) (m : MRS) (r : List Int) (hr : ∀ v ∈ r, 0 ≤ v ∧ v < m.Vars.length) : ∀ (t : List Int) (q i : Nat), r.drop i = t → t.length < q → ∃ e, r39_Loose_L3 n m r q i = some e
  | [], q + 1, i, h, _ => by
    rw [r39_Loose_L3, if_neg (drop_nil' h)]
    exact ⟨_, rfl⟩
  | x :: t, q + 1, i, h, hq => by
    obtain ⟨h1, h2, h3⟩ := drop_cons h
    have hx := hr x (List.mem_of_getElem? h2)
    obtain ⟨e, he⟩ := Loose_L3_eq n m r hr t q (i + 1) h3 (by simpa using hq)
    have : ∃ y, ix m.Vars x = some y := by
      unfold ix
      rw [if_pos hx.1, List.getElem?_eq_getElem (by omega)]
      exact ⟨_, rfl⟩
    obtain ⟨y, hy⟩ := this
    rw [r39_Loose_L3, if_pos h1, h2, bind_some', hy, bind_some', he]
    split <;> exact ⟨_, rfl⟩
theorem hnd_occ {m : MRS} {v : Int} (h : v ∈ hnd m) : v ∈ occ m := by
  unfold hnd at h
  unfold occ
  rw [List.mem_append, List.mem_append] at h ⊢
  rcases h with (h | h) | h
  · refine .inl (.inl ?_); rw [List.mem_singleton.1 h]; simp
  · refine .inl (.inr ?_)
    obtain ⟨x, hx, rfl⟩ := List.mem_map.1 h
    exact List.mem_flatMap.2 ⟨x, hx, by simp⟩
  · exact .inr h
theorem occ_len {m : MRS} (g : Small m) : (occ m).length ≤ 200 := by
  have h1 := occ_rels_len g
  have h2 : (m.Cons.flatMap fun c => [c.High, c.Low]).length = 2 * m.Cons.length := by
    induction m.Cons with
    | nil => rfl
    | cons x t ih => simp at ih ⊢; omega
  have := g.nc
  unfold occ
  simp only [List.length_append, h2, List.length_cons, List.length_nil]; omega
theorem Loose_tot (n : Nat) (m : MRS) (g : Small m) (hn : 1000 ≤ n) : ∃ e, r39_Loose n m = some e ∧ (e = 0 → Good m) := by
  have a1 := g.nr; have a2 := g.nc; have a3 := g.nv
  unfold r39_Loose
  simp only [jn_def]
  have hk : ∀ (b : Bool), b = decide ((256 : Nat) < m.Vars.length) → ∃ e, (if b = true then some (7 : Int) else r39_Loose_L0 n m (r39_Loose_L1 n m ((r39_Occurrences n m).bind fun r40 => r39_Loose_L2 n m r40 ((r39_handles n m).bind fun r64 => r39_Loose_L3 n m r64 n 0) n 0) n 0) n 0) = some e ∧ (e = 0 → Good m) := by
    intro b hb
    by_cases hv : 256 < m.Vars.length
    · exact ⟨7, by simp [hb, hv], by simp⟩
    · rw [if_neg (by simp [hb, hv])]
      have hol := occ_len g
      have hhl : (hnd m).length ≤ 200 := by
        unfold hnd
        have h2 : (m.Cons.flatMap fun c => [c.High, c.Low]).length = 2 * m.Cons.length := by
          induction m.Cons with
          | nil => rfl
          | cons x t ih => simp at ih ⊢; omega
        simp only [List.length_append, h2]
        simp; omega
      rcases Loose_L0_eq n m (r39_Loose_L1 n m ((r39_Occurrences n m).bind fun r40 => r39_Loose_L2 n m r40 ((r39_handles n m).bind fun r64 => r39_Loose_L3 n m r64 n 0) n 0) n 0) m.Vars n 0 rfl (by omega) with h | ⟨h, hs⟩
      · rw [h]; exact ⟨1, rfl, by simp⟩
      · rw [h]
        rcases Loose_L1_eq n m g hn ((r39_Occurrences n m).bind fun r40 => r39_Loose_L2 n m r40 ((r39_handles n m).bind fun r64 => r39_Loose_L3 n m r64 n 0) n 0) m.Rels n 0 rfl (by omega) with ⟨e, he, h⟩ | ⟨h, hp⟩
        · rw [h]; exact ⟨e, rfl, fun h => absurd h he⟩
        · rw [h, occ_eq n m g hn, bind_some']
          rcases Loose_L2_eq n m (occ m) ((r39_handles n m).bind fun r64 => r39_Loose_L3 n m r64 n 0) (occ m) n 0 rfl (by omega) with h | ⟨h, ho⟩
          · rw [h]; exact ⟨2, rfl, by simp⟩
          · rw [h, hnd_eq n m g hn, bind_some']
            obtain ⟨e, he⟩ := Loose_L3_eq n m (hnd m) (fun v hv => ho v (hnd_occ hv)) (hnd m) n 0 rfl (by omega)
            refine ⟨e, he, fun _ => ⟨by omega, a1, a2, g.na, ?_, fun x hx => ?_, fun x hx a ha => ?_, fun c hc => ⟨?_, ?_⟩, fun x hx => (hp x hx).1, fun x hx => (hp x hx).2, hs⟩⟩
            · exact ho _ (by unfold occ; simp)
            · exact ho _ (by unfold occ; simp only [List.mem_append]; exact .inl (.inr (List.mem_flatMap.2 ⟨x, hx, by simp⟩)))
            · exact ho _ (by unfold occ; simp only [List.mem_append]; exact .inl (.inr (List.mem_flatMap.2 ⟨x, hx, List.mem_cons_of_mem _ (List.mem_map.2 ⟨a, ha, rfl⟩)⟩)))
            · exact ho _ (by unfold occ; simp only [List.mem_append]; exact .inr (List.mem_flatMap.2 ⟨c, hc, by simp⟩))
            · exact ho _ (by unfold occ; simp only [List.mem_append]; exact .inr (List.mem_flatMap.2 ⟨c, hc, by simp⟩))
  rw [if_neg (by omega), if_neg (by omega)]
  exact hk _ rfl
theorem place_tot (n : Nat) (l : List Int) (v : Int) : ∀ (t : List Int) (q i : Nat), l.drop i = t → t.length < q → ∃ e, r39_place_L0 n l v q i = some e
  | [], q + 1, i, h, _ => by
    rw [r39_place_L0, if_neg (drop_nil' h)]
    exact ⟨_, rfl⟩
  | x :: t, q + 1, i, h, hq => by
    obtain ⟨h1, h2, h3⟩ := drop_cons h
    obtain ⟨e, he⟩ := place_tot n l v t q (i + 1) h3 (by simpa using hq)
    rw [r39_place_L0, if_pos h1, h2, bind_some', he]
    split <;> exact ⟨_, rfl⟩
theorem firsts_tot (n : Nat) (r : List Int) (hn : 1000 ≤ n) : ∀ (t : List Int) (q i : Nat) (out : List Int), r.drop i = t → t.length < q → out.length + t.length ≤ 500 → ∃ o, r39_firsts_L0 n r q out i = some o ∧ o.length ≤ 500
  | [], q + 1, i, out, h, _, ho => by
    rw [r39_firsts_L0, if_neg (drop_nil' h)]
    exact ⟨_, rfl, by simpa using ho⟩
  | x :: t, q + 1, i, out, h, hq, ho => by
    obtain ⟨h1, h2, h3⟩ := drop_cons h
    simp only [List.length_cons] at hq ho
    obtain ⟨e, he⟩ := place_tot n out x out n 0 rfl (by omega)
    have he' : r39_place n out x = some e := he
    rw [r39_firsts_L0, if_pos h1, h2, bind_some', he', bind_some', chk_true (by simp; omega)]
    split
    · exact firsts_tot n r hn t q (i + 1) _ h3 (by omega) (by simp; omega)
    · exact firsts_tot n r hn t q (i + 1) _ h3 (by omega) (by omega)
theorem Check_L0_tot (n : Nat) (r : List Int) : ∀ (t : List Int) (q i : Nat), r.drop i = t → t.length < q → ∃ e, r39_Check_L0 n r q i = some e
  | [], q + 1, i, h, _ => by
    rw [r39_Check_L0, if_neg (drop_nil' h)]
    exact ⟨_, rfl⟩
  | x :: t, q + 1, i, h, hq => by
    obtain ⟨h1, h2, h3⟩ := drop_cons h
    obtain ⟨e, he⟩ := Check_L0_tot n r t q (i + 1) h3 (by simpa using hq)
    rw [r39_Check_L0, if_pos h1, h2, bind_some', he]
    split <;> exact ⟨_, rfl⟩
theorem Check_tot (n : Nat) (m : MRS) (g : Small m) (hn : 1000 ≤ n) : ∃ e, r39_Check n m = some e ∧ (e = 0 → Good m) := by
  unfold r39_Check
  obtain ⟨e, he, hg⟩ := Loose_tot n m g hn
  rw [he, bind_some']
  by_cases h0 : e = 0
  · rw [if_neg (by simp [h0])]
    have hol := occ_len g
    obtain ⟨o, h1, h2⟩ := firsts_tot n (occ m) hn (occ m) n 0 [] rfl (by omega) (by simp; omega)
    have hf : r39_firsts n m = some o := by unfold r39_firsts; rw [occ_eq n m g hn, bind_some', h1]
    obtain ⟨c, hc⟩ := Check_L0_tot n o o n 0 rfl (by omega)
    rw [hf, bind_some', hc]
    split
    · exact ⟨3, rfl, by simp⟩
    · exact ⟨c, rfl, fun _ => hg h0⟩
  · rw [if_pos h0]; exact ⟨e, rfl, fun h => absurd h h0⟩
theorem Light_L0_eq (n : Nat) (m : MRS) : ∀ (t : List EP) (q i : Nat), m.Rels.drop i = t → t.length < q → ∃ b, r39_Light_L0 n m q i = some b ∧ (b = true → ∀ x ∈ t, x.Args.length ≤ 10)
  | [], q + 1, i, h, _ => by
    rw [r39_Light_L0, if_neg (drop_nil' h)]
    exact ⟨true, rfl, by simp⟩
  | x :: t, q + 1, i, h, hq => by
    obtain ⟨h1, h2, h3⟩ := drop_cons h
    obtain ⟨e, he, he'⟩ := Light_L0_eq n m t q (i + 1) h3 (by simpa using hq)
    rw [r39_Light_L0, if_pos h1, h2, bind_some', he]
    split
    · exact ⟨false, rfl, by simp⟩
    · exact ⟨e, rfl, fun h s hs => by rcases List.mem_cons.1 hs with rfl | hs; omega; exact he' h s hs⟩
theorem Light_tot (n : Nat) (m : MRS) (k : Int) (hk : k ≤ 8) (hn : 1000 ≤ n) : ∃ b, r39_Light n m k = some b ∧ (b = true → Small m ∧ (m.Rels.length : Int) ≤ k ∧ (m.Cons.length : Int) ≤ k) := by
  unfold r39_Light
  simp only [jn_def]
  by_cases c1 : k < ((m.Rels.length : Nat) : Int)
  · rw [if_pos c1]; exact ⟨false, by simp, by simp⟩
  · rw [if_neg c1]
    by_cases c2 : k < ((m.Cons.length : Nat) : Int)
    · rw [if_pos c2]; exact ⟨false, by simp, by simp⟩
    · rw [if_neg c2]
      by_cases c3 : 300 < m.Vars.length
      · exact ⟨false, by simp [c3], by simp⟩
      · rw [if_neg (by simp [c3])]
        obtain ⟨b, h1, h2⟩ := Light_L0_eq n m m.Rels n 0 rfl (by omega)
        exact ⟨b, h1, fun h => ⟨⟨by omega, by omega, by omega, h2 h⟩, by omega, by omega⟩⟩
end Go.Proofs.YtegboboemepifaaGreatDoor

