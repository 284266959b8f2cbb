/- Scope: the reference -/
import Derived.Test.YtegboboemepifaaGreatDoorB6
namespace Go.Proofs.YtegboboemepifaaGreatDoor
open Go.Gl
set_option linter.unusedVariables false
set_option linter.unusedSimpArgs false
theorem r41_Labels_L1_eq (n : Nat) (m : MRS) (v : Nat) (k : Bool → Option (List Int)) : ∀ (t : List EP) (q i : Nat) (b : Bool), m.Rels.drop i = t → t.length < q → r41_Labels_L1 n m v k q b i = k (b || decide (∃ x ∈ t, x.Label = (v : Int)))
  | [], q + 1, i, b, h, _ => by
    rw [r41_Labels_L1, if_neg (drop_nil' h)]
    simp
  | x :: t, q + 1, i, b, h, hq => by
    obtain ⟨h1, h2, h3⟩ := drop_cons h
    simp only [List.length_cons] at hq
    rw [r41_Labels_L1, if_pos h1]
    cases b with
    | true => rw [if_pos rfl, r41_Labels_L1_eq n m v k t q (i + 1) true h3 (by omega)]; simp
    | false =>
      rw [if_neg (by simp), h2, bind_some', r41_Labels_L1_eq n m v k t q (i + 1) _ h3 (by omega)]
      by_cases hx : x.Label = (v : Int)
      · simp [hx]
      · simp [hx]
theorem r41_Labels_L0_eq (n : Nat) (m : MRS) (g : Good m) (hn : 1000 ≤ n) : ∀ (k q i : Nat) (out : List Int), i + k = m.Vars.length → k < q → out.length ≤ i → r41_Labels_L0 n m q out i = some (out ++ (upto i k).filter fun v => decide (isLab m v))
  | 0, q + 1, i, out, h, _, _ => by
    rw [r41_Labels_L0, if_neg (by omega)]
    simp [upto]
  | k + 1, q + 1, i, out, h, hq, ho => by
    have := g.nv; have := g.nr
    rw [r41_Labels_L0, if_pos (by omega)]
    simp only [jn_def]
    rw [r41_Labels_L1_eq n m i _ m.Rels n 0 false rfl (by omega), upto_succ, List.filter_cons]
    by_cases hx : isLab m i
    · rw [if_pos (by simpa [isLab] using hx), if_pos (by simpa using hx), chk_true (by simp; omega), r41_Labels_L0_eq n m g hn k q (i + 1) _ (by omega) (by omega) (by simp; omega)]
      simp
    · rw [if_neg (by simpa [isLab] using hx), if_neg (by simpa using hx), r41_Labels_L0_eq n m g hn k q (i + 1) _ (by omega) (by omega) (by omega)]
theorem r41_Labels_eq (n : Nat) (m : MRS) (g : Good m) (hn : 1000 ≤ n) : r41_Labels n m = some (labs m) := by
  have := g.nv
  unfold r41_Labels
  rw [r41_Labels_L0_eq n m g hn m.Vars.length n 0 [] (by omega) (by omega) (by simp)]
  rfl
theorem r41_argument_L1_eq (n : Nat) (m : MRS) (v : Int) (i : Nat) (x : EP) (hx : m.Rels[i]? = some x) (k : Option Bool) : ∀ (t : List Arg) (q j : Nat), x.Args.drop j = t → t.length < q → r41_argument_L1 n m v i k q j = if ∃ a ∈ t, a.Var = v then some true else k
  | [], q + 1, j, h, _ => by
    rw [r41_argument_L1, hx, bind_some', if_neg (drop_nil' h)]
    simp
  | a :: t, q + 1, j, h, hq => by
    obtain ⟨h1, h2, h3⟩ := drop_cons h
    rw [r41_argument_L1, hx, bind_some', if_pos h1, h2, bind_some', r41_argument_L1_eq n m v i x hx k t q (j + 1) h3 (by simpa using hq)]
    by_cases ha : a.Var = v
    · simp [ha]
    · simp [ha]
theorem r41_argument_L0_eq (n : Nat) (m : MRS) (g : Good m) (hn : 1000 ≤ n) (v : Int) : ∀ (t : List EP) (q i : Nat), m.Rels.drop i = t → t.length < q → r41_argument_L0 n m v q i = some (decide (∃ x ∈ t, ∃ a ∈ x.Args, a.Var = v))
  | [], q + 1, i, h, _ => by
    rw [r41_argument_L0, if_neg (drop_nil' h)]
    simp
  | x :: t, q + 1, i, h, hq => by
    obtain ⟨h1, h2, h3⟩ := drop_cons h
    have hx := g.na x (List.mem_of_getElem? h2)
    rw [r41_argument_L0, if_pos h1]
    simp only [jn_def]
    rw [r41_argument_L1_eq n m v i x h2 _ x.Args n 0 rfl (by omega), r41_argument_L0_eq n m g hn v t q (i + 1) h3 (by simpa using hq)]
    by_cases ha : ∃ a ∈ x.Args, a.Var = v
    · rw [if_pos ha, decide_eq_true (show ∃ x' ∈ x :: t, ∃ a ∈ x'.Args, a.Var = v from ⟨x, by simp, ha⟩)]
    · rw [if_neg ha]
      congr 1
      rw [decide_eq_decide]
      simp only [List.mem_cons, exists_eq_or_imp]
      exact ⟨.inr, fun h => h.elim (fun h => absurd h ha) id⟩
theorem r41_argument_eq (n : Nat) (m : MRS) (g : Good m) (hn : 1000 ≤ n) (v : Int) : r41_argument n m v = some (decide (v = m.Top ∨ isArg m v)) := by
  have := g.nr
  unfold r41_argument
  rw [r41_argument_L0_eq n m g hn v m.Rels n 0 rfl (by omega)]
  by_cases hv : m.Top = v
  · simp [hv]
  · rw [if_neg hv]
    congr 1
    rw [decide_eq_decide]
    exact ⟨.inr, fun h => h.elim (fun h => absurd h.symm hv) id⟩
theorem r41_Holes_L0_eq (n : Nat) (m : MRS) (g : Good m) (hn : 1000 ≤ n) : ∀ (k q i : Nat) (out : List Int), i + k = m.Vars.length → k < q → out.length ≤ i → r41_Holes_L0 n m (labs m) q out i = some (out ++ (upto i k).filter fun v => decide (isHole m v))
  | 0, q + 1, i, out, h, _, _ => by
    rw [r41_Holes_L0, if_neg (by omega)]
    simp [upto]
  | k + 1, q + 1, i, out, h, hq, ho => by
    have := g.nv; have := g.nr; have := labs_len g
    have hi : i < m.Vars.length := by omega
    have e1 : isHole m i ↔ m.Vars[i] = [104] ∧ ¬ isLab m i ∧ ((i : Int) = m.Top ∨ isArg m i) := by
      unfold isHole
      rw [ix_nat, List.getElem?_eq_getElem hi]
      simp
    rw [r41_Holes_L0, if_pos hi]
    simp only [jn_def, List.getElem?_eq_getElem hi, bind_some', r41_Has_eq n (labs m) _ (show (labs m).length < n by omega), r41_argument_eq n m g hn, upto_succ, List.filter_cons]
    have ih1 := r41_Holes_L0_eq n m g hn k q (i + 1) out (by omega) (by omega) (by omega)
    have ih2 := r41_Holes_L0_eq n m g hn k q (i + 1) (out ++ [((i : Nat) : Int)]) (by omega) (by omega) (by simp; omega)
    rw [ih1, ih2, chk_true (by simp; omega)]
    by_cases a1 : m.Vars[i] = [104]
    · rw [if_pos a1]
      by_cases a3 : (i : Int) = m.Top ∨ isArg m i
      · rw [if_pos (by simpa using a3)]
        by_cases a2 : isLab m i
        · have e2 : ¬ isHole m i := fun h => (e1.1 h).2.1 a2
          rw [if_neg (by simp [mem_labs g, a2]), if_neg (by simp [e2])]
        · have e2 : isHole m i := e1.2 ⟨a1, a2, a3⟩
          rw [if_pos (by simp [mem_labs g, a2]), if_pos (by simp [e2])]
          simp
      · have e2 : ¬ isHole m i := fun h => a3 (e1.1 h).2.2
        rw [if_neg (by simpa using a3), if_neg (by simp), if_neg (by simp [e2])]
    · have e2 : ¬ isHole m i := fun h => a1 (e1.1 h).1
      rw [if_neg a1, if_neg (by simp), if_neg (by simp [e2])]
theorem r41_Holes_eq (n : Nat) (m : MRS) (g : Good m) (hn : 1000 ≤ n) : r41_Holes n m = some (hols m) := by
  have := g.nv
  unfold r41_Holes
  rw [r41_Labels_eq n m g hn, bind_some', r41_Holes_L0_eq n m g hn m.Vars.length n 0 [] (by omega) (by omega) (by simp)]
  rfl
theorem r41_at_L0_eq (n : Nat) (plug hs : List Int) (hp : plug.length = hs.length) (v : Int) (k : Option Int) : ∀ (t : List Int) (q i : Nat), hs.drop i = t → t.length < q → r41_at_L0 n plug v hs k q i = match (t.zip (plug.drop i)).lookup v with | some l => some l | none => k
  | [], q + 1, i, h, _ => by
    rw [r41_at_L0, if_neg (drop_nil' h)]
    simp
  | x :: t, q + 1, i, h, hq => by
    obtain ⟨h1, h2, h3⟩ := drop_cons h
    obtain ⟨y, hy⟩ : ∃ y, plug[i]? = some y := ⟨_, List.getElem?_eq_getElem (by omega)⟩
    have hd : plug.drop i = y :: plug.drop (i + 1) := by
      have := List.drop_eq_getElem_cons (l := plug) (i := i) (by omega)
      rw [this, ← (List.getElem?_eq_some_iff.1 hy).2]
    rw [r41_at_L0, if_pos h1, h2, bind_some', hy, bind_some', r41_at_L0_eq n plug hs hp v k t q (i + 1) h3 (by simpa using hq), hd, List.zip_cons_cons, List.lookup_cons]
    by_cases hx : x = v
    · have : (v == x) = true := by simp [hx]
      rw [if_pos hx, this]
    · have : (v == x) = false := by simpa using fun e => hx e.symm
      rw [if_neg hx, this]
theorem r41_at_eq (n : Nat) (m : MRS) (g : Good m) (hn : 1000 ≤ n) (plug : List Int) (hp : plug.length = (hols m).length) (v : Int) : r41_at n m plug v = some (atv m plug v) := by
  have := labs_len g; have := g.nr; have := hols_len g
  unfold r41_at
  simp only [r41_Holes_eq n m g hn, r41_Labels_eq n m g hn, bind_some', jn_def, r41_Has_eq n (labs m) v (show (labs m).length < n by omega)]
  rw [r41_at_L0_eq n plug (hols m) hp v _ (hols m) n 0 rfl (by omega), List.drop_zero]
  unfold atv
  cases ((hols m).zip plug).lookup v with
  | some l => rfl
  | none =>
    simp only [decide_eq_true_eq, mem_labs g]
    split <;> rfl
theorem r41_children_L1_eq (n : Nat) (m : MRS) (g : Good m) (hn : 1000 ≤ n) (plug : List Int) (hp : plug.length = (hols m).length) (l : Int) (i : Nat) (x : EP) (hx : m.Rels[i]? = some x) (k : List Int → Option (List Int)) : ∀ (t : List Arg) (q j : Nat) (out : List Int), x.Args.drop j = t → t.length < q → out.length + t.length ≤ 1000 → r41_children_L1 n m plug l i k q out j = k (out ++ if x.Label = l then (t.map fun a => atv m plug a.Var).filter fun l => decide (0 ≤ l) else [])
  | [], q + 1, j, out, h, _, _ => by
    have := drop_nil' h
    rw [r41_children_L1]
    simp only [jn_def, hx, bind_some']
    rw [if_neg this, if_neg (by simp)]
    simp
  | a :: t, q + 1, j, out, h, hq, ho => by
    obtain ⟨h1, h2, h3⟩ := drop_cons h
    simp only [List.length_cons] at hq ho
    have hj : j < x.Args.length := h1
    have hl := g.na x (List.mem_of_getElem? hx)
    rw [r41_children_L1]
    simp only [jn_def, hx, bind_some', h2, r41_at_eq n m g hn plug hp]
    rw [if_pos h1]
    by_cases hlb : x.Label = l
    · rw [if_pos (by simp [hlb]), if_pos hlb, List.map_cons, List.filter_cons]
      have ih := fun out' ho' => r41_children_L1_eq n m g hn plug hp l i x hx k t q (j + 1) out' h3 (by omega) ho'
      by_cases h0 : 0 ≤ atv m plug a.Var
      · rw [if_pos h0, if_pos (by simpa using h0), chk_true (by simp; omega), chk_true (by omega), ih _ (by simp; omega), if_pos hlb]
        simp
      · rw [if_neg h0, if_neg (by simpa using h0), chk_true (by omega), ih _ (by omega), if_pos hlb]
    · rw [if_neg (by simp [hlb]), if_neg hlb]
      simp
theorem r41_children_L0_eq (n : Nat) (m : MRS) (g : Good m) (hn : 1000 ≤ n) (plug : List Int) (hp : plug.length = (hols m).length) (l : Int) : ∀ (t : List EP) (q i : Nat) (out : List Int), m.Rels.drop i = t → t.length < q → out.length + 10 * t.length ≤ 900 → r41_children_L0 n m plug l q out i = some (out ++ t.flatMap fun x => if x.Label = l then kidsOf m plug x else [])
  | [], q + 1, i, out, h, _, _ => by
    rw [r41_children_L0, if_neg (drop_nil' h)]
    simp
  | x :: t, q + 1, i, out, h, hq, ho => by
    obtain ⟨h1, h2, h3⟩ := drop_cons h
    have hl := g.na x (List.mem_of_getElem? h2)
    simp only [List.length_cons] at ho hq
    rw [r41_children_L0, if_pos h1]
    simp only [jn_def, List.flatMap_cons]
    rw [r41_children_L1_eq n m g hn plug hp l i x h2 _ x.Args n 0 out rfl (by omega) (by omega)]
    show r41_children_L0 n m plug l q (out ++ if x.Label = l then kidsOf m plug x else []) (i + 1) = _
    have h4 : (if x.Label = l then kidsOf m plug x else []).length ≤ 10 := by
      split
      · have := List.length_filter_le (fun l => decide ((0 : Int) ≤ l)) (x.Args.map fun a => atv m plug a.Var)
        rw [List.length_map] at this
        unfold kidsOf; omega
      · simp
    rw [r41_children_L0_eq n m g hn plug hp l t q (i + 1) _ h3 (by omega) (by rw [List.length_append]; omega)]
    simp
theorem r41_children_eq (n : Nat) (m : MRS) (g : Good m) (hn : 1000 ≤ n) (plug : List Int) (hp : plug.length = (hols m).length) (l : Int) : r41_children n m plug l = some (chil m plug l) := by
  have := g.nr
  unfold r41_children
  rw [r41_children_L0_eq n m g hn plug hp l m.Rels n 0 [] rfl (by omega) (by simp; omega)]
  rfl
theorem r41_Below_L1_eq (n : Nat) (S : List Int) (hS : S.length ≤ 300) (hn : 1000 ≤ n) (k : List Int → Option (List Int)) (r : List Int) (hr : ∀ x ∈ r, x ∈ S) : ∀ (t : List Int) (q i : Nat) (out : List Int), r.drop i = t → t.length < q → out.Nodup → (∀ x ∈ out, x ∈ S) →
    ∃ z, r41_Below_L1 n k r q out i = k (out ++ z) ∧ (out ++ z).Nodup ∧ (∀ x ∈ z, x ∈ t) ∧ ∀ x ∈ t, x ∈ out ++ z
  | [], q + 1, i, out, h, _, hd, _ => by
    rw [r41_Below_L1, if_neg (drop_nil' h)]
    exact ⟨[], by simp, by simpa using hd, by simp, by simp⟩
  | x :: t, q + 1, i, out, h, hq, hd, hs => by
    obtain ⟨h1, h2, h3⟩ := drop_cons h
    have hx := hr x (List.mem_of_getElem? h2)
    have hl := nodup_len out S hd hs
    simp only [List.length_cons] at hq
    rw [r41_Below_L1, if_pos h1, h2]
    simp only [bind_some', r41_Has_eq n out x (by omega)]
    by_cases hm : x ∈ out
    · rw [if_neg (by simp [hm])]
      obtain ⟨z, e1, e2, e3, e4⟩ := r41_Below_L1_eq n S hS hn k r hr t q (i + 1) out h3 (by omega) hd hs
      refine ⟨z, e1, e2, fun y hy => by simp [e3 y hy], fun y hy => ?_⟩
      rcases List.mem_cons.1 hy with rfl | hy
      · simp [hm]
      · exact e4 y hy
    · rw [if_pos (by simp [hm]), chk_true (by simp; omega)]
      obtain ⟨z, e1, e2, e3, e4⟩ := r41_Below_L1_eq n S hS hn k r hr t q (i + 1) (out ++ [x]) h3 (by omega)
        (by rw [List.nodup_append]; exact ⟨hd, by simp, fun a ha b hb e => hm (by rw [List.mem_singleton] at hb; rw [← hb, ← e]; exact ha)⟩)
        (fun y hy => by rcases List.mem_append.1 hy with hy | hy; exact hs y hy; rw [List.mem_singleton.1 hy]; exact hx)
      rw [List.append_assoc] at e1 e2 e4
      refine ⟨[x] ++ z, e1, e2, fun y hy => ?_, fun y hy => ?_⟩
      · rcases List.mem_append.1 hy with hy | hy
        · simp [List.mem_singleton.1 hy]
        · simp [e3 y hy]
      · rcases List.mem_cons.1 hy with rfl | hy
        · simp
        · exact e4 y hy
theorem r41_Below_L0_eq (n : Nat) (m : MRS) (plug : List Int) (ch : Int → List Int) (S : List Int) (a : Int) (hS : S.length ≤ 300) (hn : 1000 ≤ n) (k : List Int → Option (List Int)) (hch : ∀ x ∈ S, r41_children n m plug x = some (ch x) ∧ (ch x).length ≤ 900) (hsub : ∀ x ∈ S, ∀ y ∈ ch x, y ∈ S) : ∀ (q i : Nat) (out : List Int),
    out.Nodup → (∀ x ∈ out, x ∈ S) → out[0]? = some a → S.length < i + q → i ≤ out.length → (∀ j x, j < i → out[j]? = some x → ∀ y ∈ ch x, y ∈ out) → (∀ j, 0 < j → ∀ y, out[j]? = some y → ∃ p x, p < j ∧ out[p]? = some x ∧ y ∈ ch x) →
    ∃ B, r41_Below_L0 n m plug k q out i = k B ∧ Bfs ch S a B
  | 0, i, out, h1, h2, _, h4, h5, _, _ => by
    have := nodup_len out S h1 h2
    omega
  | q + 1, i, out, h1, h2, h3, h4, h5, h6, h7 => by
    rw [r41_Below_L0]
    rcases Nat.lt_or_ge i out.length with hi | hi
    · rw [if_pos hi, List.getElem?_eq_getElem hi]
      have hx : out[i] ∈ S := h2 _ (List.getElem_mem hi)
      simp only [jn_def, bind_some', (hch _ hx).1]
      obtain ⟨z, e1, e2, e3, e4⟩ := r41_Below_L1_eq n S hS hn (fun out_24 => r41_Below_L0 n m plug k q out_24 (i + 1)) (ch out[i]) (hsub _ hx) (ch out[i]) n 0 out rfl (by have := (hch _ hx).2; omega) h1 h2
      rw [e1]
      refine r41_Below_L0_eq n m plug ch S a hS hn k hch hsub q (i + 1) (out ++ z) e2 (fun x hx' => ?_) (get_app h3) (by omega) (by simp; omega) (fun j x hj hjx y hy => ?_) (fun j hj y hy => ?_)
      · rcases List.mem_append.1 hx' with h | h
        · exact h2 x h
        · exact hsub _ hx _ (e3 x h)
      · rcases Nat.lt_or_ge j i with hji | hji
        · rw [List.getElem?_append_left (by omega)] at hjx
          exact List.mem_append_left _ (h6 j x hji hjx y hy)
        · obtain rfl : j = i := by omega
          rw [List.getElem?_append_left hi, List.getElem?_eq_getElem hi] at hjx
          obtain rfl := Option.some.inj hjx
          exact e4 y hy
      · rcases Nat.lt_or_ge j out.length with hjl | hjl
        · rw [List.getElem?_append_left hjl] at hy
          obtain ⟨p, x, hp, hpx, hxy⟩ := h7 j hj y hy
          exact ⟨p, x, hp, get_app hpx, hxy⟩
        · rw [List.getElem?_append_right hjl] at hy
          exact ⟨i, out[i], by omega, get_app (List.getElem?_eq_getElem hi), e3 y (List.mem_of_getElem? hy)⟩
    · rw [if_neg (by omega)]
      refine ⟨out, rfl, h1, h2, h3, fun x hx y hy => ?_, h7⟩
      obtain ⟨j, hj⟩ := List.getElem?_of_mem hx
      exact h6 j x (by have := (List.getElem?_eq_some_iff.1 hj).1; omega) hj y hy
theorem r41_Below_L2_eq (n : Nat) (S B : List Int) (hS : S.length ≤ 300) (hB : B.length < n) : ∀ (t : List Int) (q i : Nat) (out : List Int), S.drop i = t → t.length < q → out.length ≤ i → r41_Below_L2 n S B q out i = some (out ++ t.filter fun l => decide (l ∈ B))
  | [], q + 1, i, out, h, _, _ => by
    rw [r41_Below_L2, if_neg (drop_nil' h)]
    simp
  | x :: t, q + 1, i, out, h, hq, ho => by
    obtain ⟨h1, h2, h3⟩ := drop_cons h
    simp only [List.length_cons] at hq
    rw [r41_Below_L2, if_pos h1, h2, bind_some', r41_Has_eq n B x hB, bind_some', List.filter_cons]
    split
    · rw [chk_true (by simp; omega), r41_Below_L2_eq n S B hS hB t q (i + 1) _ h3 (by omega) (by simp; omega)]
      simp
    · rw [r41_Below_L2_eq n S B hS hB t q (i + 1) _ h3 (by omega) (by omega)]
theorem r41_Below_mem (n : Nat) (m : MRS) (g : Good m) (hn : 1000 ≤ n) (plug : List Int) (hp : ∀ l ∈ plug, isLab m l) (hl : plug.length = (hols m).length) (a : Int) : ∃ L, r41_Below n m plug a = some L ∧ L.Nodup ∧ (∀ l, l ∈ L ↔ a ∈ labs m ∧ Reach (chil m plug) a l) ∧ (∀ l ∈ L, l ∈ labs m) ∧ L.Pairwise (· ≤ ·) := by
  have := g.nv; have := g.nr; have := labs_len g
  unfold r41_Below
  rw [r41_Labels_eq n m g hn, bind_some', r41_Has_eq n (labs m) a (by omega), bind_some']
  by_cases ha : a ∈ labs m
  · rw [if_neg (by simp [ha])]
    simp only [jn_def]
    obtain ⟨B, e1, hB⟩ := r41_Below_L0_eq n m plug (chil m plug) (labs m) a (by omega) hn (fun t_17 => r41_Below_L2 n (labs m) t_17 n [] 0) (fun x _ => ⟨r41_children_eq n m g hn plug hl x, by have := chil_len g plug x; omega⟩) (fun x _ y hy => chil_lab g hp hy) n 0 [a] (by simp) (by simpa using ha) rfl (by omega) (by simp) (fun j x hj => by omega) (fun j hj y hy => by rw [List.getElem?_eq_none (by simp; omega)] at hy; cases hy)
    have hbl := nodup_len B (labs m) hB.nodup hB.sub
    rw [e1, r41_Below_L2_eq n (labs m) B (by omega) (by omega) (labs m) n 0 [] rfl (by omega) (by simp)]
    refine ⟨_, rfl, (labs_nodup m).filter _, fun l => ?_, fun l h => (List.mem_filter.1 h).1, ((labs_sorted m).filter _).imp (fun h => Int.le_of_lt h)⟩
    rw [List.nil_append, List.mem_filter, decide_eq_true_eq, hB.mem]
    exact ⟨fun h => ⟨ha, h.2⟩, fun h => ⟨hB.sub l ((hB.mem l).2 h.2), h.2⟩⟩
  · rw [if_pos (by simp [ha])]
    exact ⟨[], rfl, by simp, fun l => by simp [ha], by simp, by simp⟩
/-- Below and its reference -/
theorem Below_same {L L' : List Int} {m : MRS} {P : Int → Prop} (h1 : L.Nodup) (h2 : ∀ l, l ∈ L ↔ P l) (h3 : L.Pairwise (· ≤ ·)) (k1 : L'.Nodup) (k2 : ∀ l, l ∈ L' ↔ P l) (k3 : L'.Pairwise (· ≤ ·)) : L = L' :=
  eqI_of_perm _ _ (perm_nodup h1 k1 (fun x => (h2 x).trans (k2 x).symm)) h3 k3
theorem r41_tree_L1_eq (n : Nat) (root : Int) (k : List Int → Option Bool) (r : List Int) (hn : 60000 ≤ n) : ∀ (t : List Int) (q i : Nat) (out : List Int), r.drop i = t → t.length < q → out.length + t.length ≤ 50000 → out.Nodup → root ∉ out →
    ((out ++ t).Nodup ∧ root ∉ t ∧ r41_tree_L1 n root k r q out i = k (out ++ t)) ∨ (¬ ((out ++ t).Nodup ∧ root ∉ t) ∧ r41_tree_L1 n root k r q out i = some false)
  | [], q + 1, i, out, h, _, _, hd, hr => by
    rw [r41_tree_L1, if_neg (drop_nil' h)]
    exact .inl ⟨by simpa using hd, by simp, by simp⟩
  | x :: t, q + 1, i, out, h, hq, ho, hd, hr => by
    obtain ⟨h1, h2, h3⟩ := drop_cons h
    simp only [List.length_cons] at hq ho
    rw [r41_tree_L1, if_pos h1]
    simp only [jn_def, h2, bind_some', r41_Has_eq n out x (by omega)]
    rw [chk_true (by simp; omega)]
    by_cases hx : x = root
    · rw [if_pos hx, if_pos trivial]
      exact .inr ⟨fun h => h.2 (by simp [hx]), rfl⟩
    · rw [if_neg hx]
      by_cases hm : x ∈ out
      · rw [if_pos (by simp [hm])]
        refine .inr ⟨fun h => ?_, rfl⟩
        exact (List.nodup_append.1 h.1).2.2 x hm x (by simp) rfl
      · rw [if_neg (by simp [hm])]
        have hd' : (out ++ [x]).Nodup := by
          rw [List.nodup_append]
          exact ⟨hd, by simp, fun a ha b hb e => hm (by rw [List.mem_singleton] at hb; rw [← hb, ← e]; exact ha)⟩
        have hr' : root ∉ out ++ [x] := by
          simp only [List.mem_append, List.mem_singleton]
          rintro (h | h)
          · exact hr h
          · exact hx h.symm
        rcases r41_tree_L1_eq n root k r hn t q (i + 1) (out ++ [x]) h3 (by omega) (by simp; omega) hd' hr' with ⟨a, b, c⟩ | ⟨a, c⟩
        · rw [List.append_assoc] at a c
          exact .inl ⟨a, by simp only [List.mem_cons]; rintro (h | h); exact hx h.symm; exact b h, c⟩
        · refine .inr ⟨fun h => a ⟨?_, fun h' => h.2 (by simp [h'])⟩, c⟩
          rw [List.append_assoc]
          exact h.1
theorem r41_tree_L0_eq (n : Nat) (m : MRS) (g : Good m) (hn : 60000 ≤ n) (plug : List Int) (hp : ∀ l ∈ plug, isLab m l) (hl : plug.length = (hols m).length) (root : Int) : ∀ (t : List Int) (q i : Nat) (out : List Int), (labs m).drop i = t → t.length < q → out.length + 100 * t.length ≤ 40000 → out.Nodup → root ∉ out →
    ∃ b, r41_tree_L0 n m plug root (labs m) q out i = some b ∧ (b = true ↔ (out ++ t.flatMap (chil m plug)).Nodup ∧ root ∉ t.flatMap (chil m plug))
  | [], q + 1, i, out, h, _, _, hd, _ => by
    rw [r41_tree_L0, if_neg (drop_nil' h)]
    exact ⟨true, rfl, by simp [hd]⟩
  | x :: t, q + 1, i, out, h, hq, ho, hd, hr => by
    obtain ⟨h1, h2, h3⟩ := drop_cons h
    simp only [List.length_cons] at hq ho
    have hc := chil_len g plug x
    rw [r41_tree_L0, if_pos h1]
    simp only [jn_def, h2, bind_some', r41_children_eq n m g (show 1000 ≤ n by omega) plug hl]
    rcases r41_tree_L1_eq n root (fun t_30 => r41_tree_L0 n m plug root (labs m) q t_30 (i + 1)) (chil m plug x) hn (chil m plug x) n 0 out rfl (by omega) (by omega) hd hr with ⟨a, b, c⟩ | ⟨a, c⟩
    · rw [c]
      obtain ⟨d, e1, e2⟩ := r41_tree_L0_eq n m g hn plug hp hl root t q (i + 1) (out ++ chil m plug x) h3 (by omega) (by simp; omega) a (by simp only [List.mem_append]; rintro (h | h); exact hr h; exact b h)
      refine ⟨d, e1, e2.trans ?_⟩
      rw [List.flatMap_cons, List.append_assoc]
      simp only [List.mem_append, not_or]
      exact ⟨fun h => ⟨h.1, b, h.2⟩, fun h => ⟨h.1, h.2.2⟩⟩
    · refine ⟨false, c, ?_⟩
      rw [List.flatMap_cons]
      simp only [List.mem_append, not_or, Bool.false_eq_true, false_iff]
      intro h
      refine a ⟨?_, h.2.1⟩
      rw [← List.append_assoc] at h
      exact (List.nodup_append.1 h.1).1
theorem r41_tree_eq (n : Nat) (m : MRS) (g : Good m) (hn : 60000 ≤ n) (plug : List Int) (hp : ∀ l ∈ plug, isLab m l) (hl : plug.length = (hols m).length) : ∃ b, r41_tree n m plug = some b ∧ (b = true ↔ FormP m plug) := by
  have := g.nr; have hll := labs_len g
  unfold r41_tree
  rw [r41_at_eq n m g (by omega) plug hl, bind_some']
  by_cases h0 : atv m plug m.Top < 0
  · rw [if_pos h0]
    exact ⟨false, rfl, by simp; exact fun h => by have := h.root; omega⟩
  · rw [if_neg h0, r41_Labels_eq n m g (by omega), bind_some']
    obtain ⟨L, e1, hn1, hm1, hs1, _⟩ := r41_Below_mem n m g (by omega) plug hp hl (atv m plug m.Top)
    have hroot : atv m plug m.Top ∈ labs m := (mem_labs g).2 (atv_lab hp (by omega))
    rw [e1, bind_some']
    have hfull := nodup_full hn1 (labs_nodup m) hs1
    by_cases hL : L.length = (labs m).length
    · rw [if_neg (by simp [hL])]
      obtain ⟨b, e2, e3⟩ := r41_tree_L0_eq n m g hn plug hp hl (atv m plug m.Top) (labs m) n 0 [] rfl (by omega) (by simp; omega) (by simp) (by simp)
      refine ⟨b, e2, e3.trans ?_⟩
      rw [List.nil_append]
      have hall : ∀ l ∈ labs m, Reach (chil m plug) (atv m plug m.Top) l := fun l hl => ((hm1 l).1 (hfull.1 hL l hl)).2
      constructor
      · rintro ⟨h1, h2⟩
        refine ⟨by omega, hall, fun l hl => ?_⟩
        rw [count_nodup h1]
        by_cases hlr : l = atv m plug m.Top
        · rw [if_pos hlr, if_neg (by rw [hlr]; exact h2)]
        · rw [if_neg hlr, if_pos]
          have hR := hall l hl
          cases hR with
          | refl => exact absurd rfl hlr
          | step hb hc =>
            exact List.mem_flatMap.2 ⟨_, hs1 _ ((hm1 _).2 ⟨hroot, hb⟩), hc⟩
      · intro h
        refine ⟨List.nodup_iff_count.2 fun c => ?_, fun hm => ?_⟩
        · by_cases hc : c ∈ (labs m).flatMap (chil m plug)
          · obtain ⟨x, _, hx⟩ := List.mem_flatMap.1 hc
            rw [h.cnt c (chil_lab g hp hx)]
            split <;> omega
          · rw [List.count_eq_zero.2 hc]; omega
        · have h1 := h.cnt _ hroot
          rw [if_pos rfl] at h1
          have := List.count_pos_iff.2 hm
          omega
    · rw [if_pos (by simp [hL])]
      exact ⟨false, rfl, by simp; exact fun h => hL (hfull.2 fun l hl => (hm1 l).2 ⟨hroot, h.all l hl⟩)⟩
theorem r41_role_L0_eq (n : Nat) (x : EP) (nm : List UInt8) : ∀ (t : List Arg) (q i : Nat), x.Args.drop i = t → t.length < q → r41_role_L0 n x nm q i = some (match t.find? (fun a => decide (a.Role = nm)) with | some a => a.Var | none => -1)
  | [], q + 1, i, h, _ => by
    rw [r41_role_L0, if_neg (drop_nil' h)]
    simp
  | a :: t, q + 1, i, h, hq => by
    obtain ⟨h1, h2, h3⟩ := drop_cons h
    rw [r41_role_L0, if_pos h1, h2, bind_some', r41_role_L0_eq n x nm t q (i + 1) h3 (by simpa using hq)]
    by_cases ha : a.Role = nm
    · simp [ha]
    · simp [ha]
theorem r41_role_eq (n : Nat) (x : EP) (nm : List UInt8) (hx : x.Args.length ≤ 10) (hn : 1000 ≤ n) : r41_role n x nm = some (match roleOf x nm with | some v => v | none => -1) := by
  unfold r41_role
  rw [r41_role_L0_eq n x nm x.Args n 0 rfl (by omega)]
  unfold roleOf
  cases x.Args.find? (fun a => decide (a.Role = nm)) <;> rfl
theorem r41_quantifier_eq (n : Nat) (m : MRS) (g : Good m) (x : EP) (hx : x ∈ m.Rels) (hn : 1000 ≤ n) : ∃ r, r41_quantifier n x = some r ∧ (r = true ↔ ∃ b, qb x = some b) := by
  have hl := g.na x hx
  have hpos : ∀ nm v, roleOf x nm = some v → 0 ≤ v := fun nm v h => by
    obtain ⟨a, ha, rfl⟩ := roleOf_mem h
    exact (g.arg x hx a ha).1
  unfold r41_quantifier qb
  rw [r41_role_eq n x _ hl hn, r41_role_eq n x _ hl hn]
  cases h1 : roleOf x [66, 79, 68, 89] with
  | none =>
    cases roleOf x [82, 83, 84, 82] with
    | none => exact ⟨false, by simp, by simp⟩
    | some v => exact ⟨false, by simp, by simp⟩
  | some b =>
    have hb := hpos _ _ h1
    cases h2 : roleOf x [82, 83, 84, 82] with
    | none => exact ⟨false, by simp [hb], by simp⟩
    | some v => exact ⟨true, by simp [hb, hpos _ _ h2], by simp⟩
theorem qb_role {x : EP} {b : Int} (h : qb x = some b) : roleOf x [66, 79, 68, 89] = some b := by
  unfold qb at h
  split at h
  · exact h
  · cases h
theorem r41_reaches_L0_eq (n : Nat) (m : MRS) (g : Good m) (hn : 1000 ≤ n) (plug : List Int) (lab at' steps : Int) (hst : -100000 ≤ steps ∧ steps ≤ 100000) (self : MRS → List Int → Int → Int → Int → Option Bool) (hs : ∀ x ∈ m.Rels, x.Label = at' → ∀ b, qb x = some b → ∃ r, self m plug b lab (steps - 1) = some r ∧ (r = true ↔ RB m plug lab b)) : ∀ (t : List EP) (q i : Nat), m.Rels.drop i = t → t.length < q →
    ∃ r, r41_reaches_L0 n m plug lab steps self at' q i = some r ∧ (r = true ↔ ∃ x ∈ t, x.Label = at' ∧ ∃ b, qb x = some b ∧ RB m plug lab b)
  | [], q + 1, i, h, _ => by
    rw [r41_reaches_L0, if_neg (drop_nil' h)]
    exact ⟨false, rfl, by simp⟩
  | x :: t, q + 1, i, h, hq => by
    obtain ⟨h1, h2, h3⟩ := drop_cons h
    have hx := List.mem_of_getElem? h2
    obtain ⟨r, er, e1⟩ := r41_quantifier_eq n m g x hx hn
    obtain ⟨c, f1, f2⟩ := r41_reaches_L0_eq n m g hn plug lab at' steps hst self hs t q (i + 1) h3 (by simpa using hq)
    rw [r41_reaches_L0, if_pos h1]
    simp only [jn_def, h2, bind_some', er, f1]
    by_cases hl : x.Label = at'
    · rw [if_pos hl]
      by_cases hq' : r = true
      · obtain ⟨b, hb⟩ := e1.1 hq'
        obtain ⟨d, g1, g2⟩ := hs x hx hl b hb
        rw [if_pos hq', r41_role_eq n x _ (g.na x hx) hn, qb_role hb, bind_some', chk_true (by omega), g1, bind_some']
        by_cases hd : d = true
        · exact ⟨true, by simp [hd], by simp; exact .inl ⟨hl, b, hb, g2.1 hd⟩⟩
        · refine ⟨c, by simp [hd], f2.trans ?_⟩
          simp only [List.mem_cons, exists_eq_or_imp]
          exact ⟨.inr, fun h => h.elim (fun ⟨_, b', hb', hr⟩ => by rw [hb] at hb'; obtain rfl := Option.some.inj hb'; exact absurd (g2.2 hr) hd) id⟩
      · rw [if_neg hq']
        refine ⟨c, by simp, f2.trans ?_⟩
        simp only [List.mem_cons, exists_eq_or_imp]
        exact ⟨.inr, fun h => h.elim (fun ⟨_, b', hb', _⟩ => absurd (e1.2 ⟨b', hb'⟩) hq') id⟩
    · rw [if_neg hl]
      exact ⟨c, by simp, f2.trans (by simp [hl])⟩
theorem r41_reaches_eq (m : MRS) (g : Good m) (plug : List Int) (lab : Int) (hlab : 0 ≤ lab) (rank : Int → Nat) (hp : ∀ l ∈ plug, isLab m l) (hpl : plug.length = (hols m).length) (hr1 : ∀ l ∈ labs m, rank l < (labs m).length) (hr2 : ∀ l ∈ labs m, ∀ c ∈ chil m plug l, rank l < rank c) : ∀ (d n : Nat) (v : Int), (0 ≤ atv m plug v → (labs m).length ≤ rank (atv m plug v) + d) → 2000 + d ≤ n → d ≤ 1000 →
    ∃ r, r41_reaches (n + 1) m plug v lab ((d : Int) + 1) = some r ∧ (r = true ↔ RB m plug lab v) := by
  intro d
  induction d with
  | zero =>
    intro n v hd hn _
    rw [r41_reaches, r41_at_eq n m g (by omega) plug hpl, bind_some']
    simp only [jn_def]
    by_cases h2 : atv m plug v < 0
    · rw [if_pos h2, if_pos trivial]
      exact ⟨false, rfl, by simp; exact fun h => by rcases h.inv with h | h; omega; exact absurd h.1 (by omega)⟩
    · have h3 := hr1 (atv m plug v) ((mem_labs g).2 (atv_lab hp (by omega)))
      have := hd (by omega)
      omega
  | succ d ih =>
    intro n v hd hn hd1
    rw [r41_reaches, r41_at_eq n m g (by omega) plug hpl, bind_some']
    simp only [jn_def]
    by_cases h2 : atv m plug v < 0
    · rw [if_pos h2, if_pos trivial]
      exact ⟨false, rfl, by simp; exact fun h => by rcases h.inv with h | h; omega; exact absurd h.1 (by omega)⟩
    · rw [if_neg h2, if_neg (by simp; omega)]
      by_cases h1 : atv m plug v = lab
      · rw [if_pos h1]; exact ⟨true, rfl, by simp; exact .here h1⟩
      · rw [if_neg h1]
        have hat : atv m plug v ∈ labs m := (mem_labs g).2 (atv_lab hp (by omega))
        obtain ⟨n, rfl⟩ : ∃ n', n = n' + 1 := ⟨n - 1, by omega⟩
        have hs : ∀ x ∈ m.Rels, x.Label = atv m plug v → ∀ b, qb x = some b → ∃ r, r41_reaches (n + 1) m plug b lab (((d + 1 : Nat) : Int) + 1 - 1) = some r ∧ (r = true ↔ RB m plug lab b) := by
          intro x hx hl b hb
          obtain ⟨a, ha, hab⟩ := qb_mem hb
          rw [show (((d + 1 : Nat) : Int) + 1 - 1) = (d : Int) + 1 by omega]
          refine ih n b (fun h0 => ?_) (by omega) (by omega)
          have hc : atv m plug b ∈ chil m plug (atv m plug v) := mem_chil.2 ⟨x, hx, hl, a, ha, by rw [hab], h0⟩
          have := hr2 _ hat _ hc
          have := hd (by omega)
          omega
        have := g.nr
        obtain ⟨r, e1, e2⟩ := r41_reaches_L0_eq (n + 1) m g (by omega) plug lab (atv m plug v) (((d + 1 : Nat) : Int) + 1) (by omega) _ hs m.Rels (n + 1) 0 rfl (by omega)
        refine ⟨r, e1, e2.trans ⟨fun ⟨x, hx, hl, b, hb, hr⟩ => .down (by omega) hx hl hb hr, fun h => ?_⟩⟩
        rcases h.inv with h | ⟨_, h⟩
        · exact absurd h h1
        · exact h
theorem r41_under_L0_eq (n : Nat) (m : MRS) (g : Good m) (hn : 1000 ≤ n) (plug : List Int) (hp : ∀ l ∈ plug, isLab m l) (hpl : plug.length = (hols m).length) (x : EP) (lab : Int) : ∀ (t : List Arg) (q i : Nat), x.Args.drop i = t → t.length < q → ∃ b, r41_under_L0 n m plug x lab q i = some b ∧ (b = true ↔ ∃ a ∈ t, Under m plug (atv m plug a.Var) lab)
  | [], q + 1, i, h, _ => by
    rw [r41_under_L0, if_neg (drop_nil' h)]
    exact ⟨false, rfl, by simp⟩
  | a :: t, q + 1, i, h, hq => by
    obtain ⟨h1, h2, h3⟩ := drop_cons h
    obtain ⟨c, f1, f2⟩ := r41_under_L0_eq n m g hn plug hp hpl x lab t q (i + 1) h3 (by simpa using hq)
    rw [r41_under_L0, if_pos h1, h2, bind_some', r41_at_eq n m g hn plug hpl, bind_some']
    simp only [jn_def, f1]
    by_cases h0 : 0 ≤ atv m plug a.Var
    · obtain ⟨L, e1, hd, hm, hs, _⟩ := r41_Below_mem n m g hn plug hp hpl (atv m plug a.Var)
      have hll := nodup_len L (labs m) hd hs
      have := labs_len g; have := g.nr
      rw [if_pos h0, e1, bind_some', r41_Has_eq n L lab (by omega), bind_some']
      by_cases hm' : lab ∈ L
      · exact ⟨true, by simp [hm'], by simp; exact .inl ((hm lab).1 hm')⟩
      · refine ⟨c, by simp [hm'], f2.trans ?_⟩
        simp only [List.mem_cons, exists_eq_or_imp]
        exact ⟨.inr, fun h => h.elim (fun h => absurd ((hm lab).2 h) hm') id⟩
    · rw [if_neg h0]
      refine ⟨c, by simp, f2.trans ?_⟩
      simp only [List.mem_cons, exists_eq_or_imp]
      exact ⟨.inr, fun h => h.elim (fun h => absurd (labs_range _ h.1).1 h0) id⟩
theorem r41_binds_L1_eq (n : Nat) (m : MRS) (v : Int) (i : Nat) (x : EP) (hx : m.Rels[i]? = some x) (k : Bool → Option Bool) : ∀ (t : List Arg) (q j : Nat) (b : Bool), x.Args.drop j = t → t.length < q → r41_binds_L1 n m v i k q b j = k (b || decide (∃ a ∈ t, a.Var = v))
  | [], q + 1, j, b, h, _ => by
    rw [r41_binds_L1, hx, bind_some', if_neg (drop_nil' h)]
    simp
  | a :: t, q + 1, j, b, h, hq => by
    obtain ⟨h1, h2, h3⟩ := drop_cons h
    simp only [List.length_cons] at hq
    rw [r41_binds_L1, hx, bind_some', if_pos h1]
    cases b with
    | true => rw [if_pos rfl, r41_binds_L1_eq n m v i x hx k t q (j + 1) true h3 (by omega)]; simp
    | false =>
      rw [if_neg (by simp), h2, bind_some', r41_binds_L1_eq n m v i x hx k t q (j + 1) _ h3 (by omega)]
      by_cases ha : a.Var = v
      · simp [ha]
      · simp [ha]
theorem r41_binds_L0_eq (n : Nat) (m : MRS) (g : Good m) (hn : 1000 ≤ n) (plug : List Int) (hp : ∀ l ∈ plug, isLab m l) (hpl : plug.length = (hols m).length) (i0 : Nat) (x : EP) (hx : x.Args.length ≤ 10) (v : Int) (hv : 0 ≤ v) : ∀ (t : List EP) (q i : Nat), m.Rels.drop i = t → t.length < q →
    ∃ b, r41_binds_L0 n m plug (i0 : Int) x v q i = some b ∧ (b = true ↔ ∀ (k : Nat) (y : EP), i ≤ k → m.Rels[k]? = some y → k ≠ i0 → (∃ a ∈ y.Args, a.Var = v) → ∃ a ∈ x.Args, Under m plug (atv m plug a.Var) y.Label)
  | [], q + 1, i, h, _ => by
    have := drop_nil' h
    rw [r41_binds_L0]
    simp only [jn_def]
    rw [if_neg this, if_neg (by simp)]
    exact ⟨true, rfl, by simp; exact fun k y hk hy => by have := (List.getElem?_eq_some_iff.1 hy).1; omega⟩
  | y :: t, q + 1, i, h, hq => by
    obtain ⟨h1, h2, h3⟩ := drop_cons h
    simp only [List.length_cons] at hq
    have hy := g.na y (List.mem_of_getElem? h2)
    have := g.nr
    obtain ⟨b, e1, e2⟩ := r41_binds_L0_eq n m g hn plug hp hpl i0 x hx v hv t q (i + 1) h3 (by omega)
    obtain ⟨u, u1, u2⟩ := r41_under_L0_eq n m g hn plug hp hpl x y.Label x.Args n 0 rfl (by omega)
    have u1' : r41_under n m plug x y.Label = some u := u1
    rw [r41_binds_L0]
    simp only [jn_def]
    rw [if_pos h1, if_pos (by simpa using hv), r41_binds_L1_eq n m v i y h2 _ y.Args n 0 false rfl (by omega), h2, bind_some', u1', bind_some', chk_true (by omega), e1]
    have key : (∀ (k : Nat) (y : EP), i ≤ k → m.Rels[k]? = some y → k ≠ i0 → (∃ a ∈ y.Args, a.Var = v) → ∃ a ∈ x.Args, Under m plug (atv m plug a.Var) y.Label) ↔ (i ≠ i0 → (∃ a ∈ y.Args, a.Var = v) → u = true) ∧ b = true := by
      rw [e2]
      constructor
      · exact fun h => ⟨fun a c => u2.2 (h i y (Nat.le_refl _) h2 a c), fun k y hk => h k y (by omega)⟩
      · rintro ⟨ha, hb⟩ k y' hk hy' hne hc
        rcases Nat.eq_or_lt_of_le hk with rfl | hk
        · rw [h2] at hy'; obtain rfl := Option.some.inj hy'; exact u2.1 (ha hne hc)
        · exact hb k y' hk hy' hne hc
    rw [key]
    by_cases c2 : ∃ a ∈ y.Args, a.Var = v
    · rw [if_pos (by simpa using c2)]
      by_cases c1 : i = i0
      · subst c1
        exact ⟨b, by simp, by simp⟩
      · have c1' : ¬ (i : Int) = (i0 : Int) := by omega
        rw [if_pos c1']
        cases u with
        | true => exact ⟨b, by simp, by simp⟩
        | false => exact ⟨false, by simp, by simp only [Bool.false_eq_true, false_iff]; exact fun h => by have := h.1 c1 c2; simp at this⟩
    · rw [if_neg (by simpa using c2)]
      exact ⟨b, by simp, ⟨fun h => ⟨fun _ h' => absurd h' c2, h⟩, fun h => h.2⟩⟩
theorem r41_binds_eq (n : Nat) (m : MRS) (g : Good m) (hn : 1000 ≤ n) (plug : List Int) (hp : ∀ l ∈ plug, isLab m l) (hpl : plug.length = (hols m).length) (i : Nat) (x : EP) (hx : m.Rels[i]? = some x) (b0 : Int) (hq : qb x = some b0) : ∃ b, r41_binds n m plug (i : Int) = some b ∧ (b = true ↔ BindAt m plug i x) := by
  have hm := List.mem_of_getElem? hx
  have hl := g.na x hm
  have := g.nr
  unfold r41_binds
  rw [ix_nat, hx, bind_some', r41_role_eq n x _ hl hn, bind_some']
  cases hv : roleOf x [65, 82, 71, 48] with
  | none =>
    obtain ⟨n, rfl⟩ : ∃ n', n = n' + 1 := ⟨n - 1, by omega⟩
    refine ⟨true, ?_, by simp; intro _ v _ hv'; rw [hv] at hv'; cases hv'⟩
    rw [r41_binds_L0]
    simp only [jn_def]
    split <;> simp
  | some v =>
    obtain ⟨a, ha, hav⟩ := roleOf_mem hv
    have hv0 : 0 ≤ v := by rw [← hav]; exact (g.arg x hm a ha).1
    obtain ⟨c, f1, f2⟩ := r41_binds_L0_eq n m g hn plug hp hpl i x hl v hv0 m.Rels n 0 rfl (by omega)
    refine ⟨c, f1, f2.trans ⟨fun h b' v' _ hv' k y hy hk ha => ?_, fun h k y _ hy hk ha => h b0 v hq hv k y hy hk ha⟩⟩
    rw [hv] at hv'
    obtain rfl := Option.some.inj hv'
    exact h k y (Nat.zero_le _) hy hk ha
theorem r41_Valid_L0_eq (n : Nat) (m : MRS) (plug : List Int) (k : Option Int) (hl : (labs m).length < n) (hp : plug.length < n) : ∀ (t : List Int) (q i : Nat), plug.drop i = t → t.length < q →
    ((∀ j x, i ≤ j → plug[j]? = some x → x ∈ labs m ∧ x ∉ plug.take j) ∧ r41_Valid_L0 n plug (labs m) k q i = k) ∨ (¬ (∀ j x, i ≤ j → plug[j]? = some x → x ∈ labs m ∧ x ∉ plug.take j) ∧ r41_Valid_L0 n plug (labs m) k q i = some 1)
  | [], q + 1, i, h, _ => by
    have := drop_nil' h
    rw [r41_Valid_L0, if_neg this]
    exact .inl ⟨fun j x hj hx => by have := (List.getElem?_eq_some_iff.1 hx).1; omega, rfl⟩
  | y :: t, q + 1, i, h, hq => by
    obtain ⟨h1, h2, h3⟩ := drop_cons h
    simp only [List.length_cons] at hq
    rw [r41_Valid_L0, if_pos h1]
    simp only [jn_def, h2, r41_Has_eq n (labs m) y hl, r41_Has_eq n (plug.take i) y (show (plug.take i).length < n by rw [List.length_take]; omega), bind_some']
    rw [chk_true (by omega)]
    by_cases c1 : y ∈ labs m
    · by_cases c2 : y ∈ plug.take i
      · exact .inr ⟨fun h => (h i y (Nat.le_refl _) h2).2 c2, by simp [c1, c2]⟩
      · rcases r41_Valid_L0_eq n m plug k hl hp t q (i + 1) h3 (by omega) with ⟨a, b⟩ | ⟨a, b⟩
        · refine .inl ⟨fun j x hj hx => ?_, by simp [c1, c2, b]⟩
          rcases Nat.eq_or_lt_of_le hj with rfl | hj
          · rw [h2] at hx; obtain rfl := Option.some.inj hx; exact ⟨c1, c2⟩
          · exact a j x hj hx
        · exact .inr ⟨fun h => a fun j x hj hx => h j x (by omega) hx, by simp [c1, c2, b]⟩
    · exact .inr ⟨fun h => c1 (h i y (Nat.le_refl _) h2).1, by simp [c1]⟩
theorem r41_Valid_L1_eq (n : Nat) (m : MRS) (plug r3 : List Int) (hr3 : r3.length ≤ 1000) (k : Option Int) (hr : ∀ c ∈ m.Cons, ∃ r, r41_reaches n m plug c.High c.Low ((r3.length + 1 : Nat) : Int) = some r ∧ (r = true ↔ RB m plug c.Low c.High)) : ∀ (t : List Qeq) (q i : Nat), m.Cons.drop i = t → t.length < q →
    ((∀ c ∈ t, RB m plug c.Low c.High) ∧ r41_Valid_L1 n m plug r3 k q i = k) ∨ (¬ (∀ c ∈ t, RB m plug c.Low c.High) ∧ r41_Valid_L1 n m plug r3 k q i = some 18)
  | [], q + 1, i, h, _ => by
    rw [r41_Valid_L1, if_neg (drop_nil' h)]
    exact .inl ⟨by simp, rfl⟩
  | c :: t, q + 1, i, h, hq => by
    obtain ⟨h1, h2, h3⟩ := drop_cons h
    simp only [List.length_cons] at hq
    obtain ⟨r, e1, e2⟩ := hr c (List.mem_of_getElem? h2)
    rw [r41_Valid_L1, if_pos h1, h2, bind_some', chk_true (by omega), e1, bind_some']
    by_cases hc : r = true
    · rcases r41_Valid_L1_eq n m plug r3 hr3 k hr t q (i + 1) h3 (by omega) with ⟨a, b⟩ | ⟨a, b⟩
      · exact .inl ⟨by simp; exact ⟨e2.1 hc, a⟩, by simp [hc, b]⟩
      · exact .inr ⟨fun h => a fun c hc => h c (by simp [hc]), by simp [hc, b]⟩
    · exact .inr ⟨fun h => hc (e2.2 (h c (by simp))), by simp [hc]⟩
theorem r41_Valid_L2_eq (n : Nat) (m : MRS) (g : Good m) (hn : 10000 ≤ n) (plug : List Int) (hp : ∀ l ∈ plug, isLab m l) (hpl : plug.length = (hols m).length) : ∀ (t : List EP) (q i : Nat), m.Rels.drop i = t → t.length < q →
    ((∀ (j : Nat) (x : EP), i ≤ j → m.Rels[j]? = some x → BindAt m plug j x) ∧ r41_Valid_L2 n m plug q i = some 0) ∨ (¬ (∀ (j : Nat) (x : EP), i ≤ j → m.Rels[j]? = some x → BindAt m plug j x) ∧ r41_Valid_L2 n m plug q i = some 18)
  | [], q + 1, i, h, _ => by
    have := drop_nil' h
    rw [r41_Valid_L2, if_neg this]
    exact .inl ⟨fun j x hj hx => by have := (List.getElem?_eq_some_iff.1 hx).1; omega, rfl⟩
  | y :: t, q + 1, i, h, hq => by
    obtain ⟨h1, h2, h3⟩ := drop_cons h
    simp only [List.length_cons] at hq
    have := g.nr
    obtain ⟨w, w1, w2⟩ := r41_quantifier_eq n m g y (List.mem_of_getElem? h2) (by omega)
    have key : ∃ r, (if w = true then (r41_binds n m plug (i : Int)).bind fun r87 => (if (!(r87)) = true then some (18 : Int) else r41_Valid_L2 n m plug q (i + 1)) else (if (false : Bool) = true then some (18 : Int) else r41_Valid_L2 n m plug q (i + 1))) = (if r = true then r41_Valid_L2 n m plug q (i + 1) else some 18) ∧ (r = true ↔ BindAt m plug i y) := by
      by_cases hw : w = true
      · obtain ⟨b, hb⟩ := w2.1 hw
        obtain ⟨r, e1, e2⟩ := r41_binds_eq n m g (by omega) plug hp hpl i y h2 b hb
        refine ⟨r, ?_, e2⟩
        rw [if_pos hw, e1, bind_some']
        cases r <;> simp
      · refine ⟨true, by rw [if_neg hw]; simp, by simp; exact fun b v hb => absurd (w2.2 ⟨b, hb⟩) hw⟩
    obtain ⟨r, e1, e2⟩ := key
    rw [r41_Valid_L2, if_pos h1]
    simp only [jn_def, h2, bind_some', w1]
    rw [e1]
    by_cases hc : r = true
    · rw [if_pos hc]
      rcases r41_Valid_L2_eq n m g hn plug hp hpl t q (i + 1) h3 (by omega) with ⟨a, b⟩ | ⟨a, b⟩
      · refine .inl ⟨fun j x hj hx => ?_, b⟩
        rcases Nat.eq_or_lt_of_le hj with rfl | hj
        · rw [h2] at hx; obtain rfl := Option.some.inj hx; exact e2.1 hc
        · exact a j x hj hx
      · exact .inr ⟨fun h => a fun j x hj hx => h j x (by omega) hx, b⟩
    · rw [if_neg hc]
      exact .inr ⟨fun h => hc (e2.2 (h i y (Nat.le_refl _) h2)), rfl⟩
theorem r41_Valid_eq (n : Nat) (m : MRS) (g : Good m) (hn : 60000 ≤ n) (plug : List Int) : ∃ e, r41_Valid n m plug = some e ∧ VSpec m plug e := by
  have := g.nr; have := g.nc; have := labs_len g; have := hols_len g
  unfold r41_Valid
  rw [r41_Labels_eq n m g (by omega), bind_some', r41_Holes_eq n m g (by omega), bind_some']
  by_cases hlen : plug.length = (hols m).length
  · rw [if_neg (by simp [hlen])]
    simp only [jn_def]
    rcases r41_Valid_L0_eq n m plug ((r41_tree n m plug).bind fun r49 => if (!(r49)) = true then some 13 else r41_Valid_L1 n m plug (labs m) (r41_Valid_L2 n m plug n 0) n 0) (by omega) (by omega) plug n 0 rfl (by omega) with ⟨a, b⟩ | ⟨a, b⟩
    · have hA : ArgP m plug := ⟨hlen, fun l hl => by obtain ⟨j, hj⟩ := List.getElem?_of_mem hl; exact (a j l (Nat.zero_le _) hj).1, (nodup_take plug).2 fun j x hj => (a j x (Nat.zero_le _) hj).2⟩
      have hp : ∀ l ∈ plug, isLab m l := fun l hl => (mem_labs g).1 (hA.lab l hl)
      rw [b]
      obtain ⟨f, e1, e2⟩ := r41_tree_eq n m g hn plug hp hlen
      rw [e1, bind_some']
      by_cases hf : f = true
      · have hF := e2.1 hf
        obtain ⟨rank, hr1, hr2⟩ := hF.rank g hp
        obtain ⟨n', rfl⟩ : ∃ n', n = n' + 1 := ⟨n - 1, by omega⟩
        rw [if_neg (by simp [hf])]
        rcases r41_Valid_L1_eq (n' + 1) m plug (labs m) (by omega) (r41_Valid_L2 (n' + 1) m plug (n' + 1) 0) (fun c hc => by
          rw [show (((labs m).length + 1 : Nat) : Int) = (((labs m).length : Nat) : Int) + 1 by omega]
          exact r41_reaches_eq m g plug c.Low (g.con c hc).2.1 rank hp hlen hr1 hr2 (labs m).length n' c.High (fun _ => by omega) (by omega) (by omega)) m.Cons (n' + 1) 0 rfl (by omega) with ⟨c, d⟩ | ⟨c, d⟩
        · rw [d]
          rcases r41_Valid_L2_eq (n' + 1) m g (by omega) plug hp hlen m.Rels (n' + 1) 0 rfl (by omega) with ⟨p, q⟩ | ⟨p, q⟩
          · exact ⟨0, q, .inr (.inr (.inr ⟨hA, hF, ⟨c, fun i x hx => p i x (Nat.zero_le _) hx⟩, rfl⟩))⟩
          · exact ⟨18, q, .inr (.inr (.inl ⟨hA, hF, fun h => p fun j x _ hx => h.bnd j x hx, rfl⟩))⟩
        · rw [d]
          exact ⟨18, rfl, .inr (.inr (.inl ⟨hA, hF, fun h => c h.con, rfl⟩))⟩
      · rw [if_pos (by simp [hf])]
        exact ⟨13, rfl, .inr (.inl ⟨hA, fun h => hf (e2.2 h), rfl⟩)⟩
    · rw [b]
      refine ⟨1, rfl, .inl ⟨fun h => a fun j x _ hx => ⟨h.lab x (List.mem_of_getElem? hx), (nodup_take plug).1 h.nodup j x hx⟩, rfl⟩⟩
  · rw [if_pos (by simp [hlen])]
    exact ⟨1, rfl, .inl ⟨fun h => hlen h.len, rfl⟩⟩
end Go.Proofs.YtegboboemepifaaGreatDoor

