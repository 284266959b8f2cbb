/- Scope: children -/
import Derived.Test.YtegboboemepifaaGreatDoorB1
namespace Go.Proofs.YtegboboemepifaaGreatDoor
open Go.Gl
set_option linter.unusedVariables false
set_option linter.unusedSimpArgs false
def atv (m : MRS) (plug : List Int) (v : Int) : Int :=
  match ((hols m).zip plug).lookup v with
  | some l => l
  | none => if isLab m v then v else -1
def tr (m : MRS) (plug : List Int) : tree := tree.mk m (labs m) ((upto 0 m.Vars.length).map (atv m plug))
theorem tr_m (m : MRS) (plug : List Int) : (tr m plug).m_ = m := rfl
theorem tr_l (m : MRS) (plug : List Int) : (tr m plug).labels_ = labs m := rfl
theorem tr_at (m : MRS) (plug : List Int) {v : Int} (h : 0 ≤ v ∧ v < m.Vars.length) : ix (tr m plug).at_ v = some (atv m plug v) := by
  obtain ⟨k, rfl⟩ : ∃ k : Nat, v = k := ⟨v.toNat, by omega⟩
  rw [ix_nat]
  show ((upto 0 m.Vars.length).map (atv m plug))[k]? = _
  rw [List.getElem?_map, upto_get _ (by omega)]
  rfl
theorem scope_plugged_L0_eq (n : Nat) (m : MRS) (g : Good m) (hn : 1000 ≤ n) (kk : List Int → Option tree) : ∀ (k q i : Nat) (b : List Int), i + k = m.Vars.length → k < q → b.length ≤ i → scope_plugged_L0 n m (labs m) kk q i b = kk (b ++ (upto i k).map fun v => if isLab m v then v else -1)
  | 0, q + 1, i, out, h, _, _ => by
    rw [scope_plugged_L0, if_neg (by omega)]
    simp [upto]
  | k + 1, q + 1, i, out, h, hq, ho => by
    have := g.nv; have := g.nr; have := labs_len g
    rw [scope_plugged_L0, if_pos (by omega)]
    simp only [jn_def, bind_some', Contains_int_eq n (labs m) _ (show (labs m).length < n by omega), upto_succ, List.map_cons, decide_eq_true_eq, mem_labs g]
    by_cases hx : isLab m i
    · rw [if_pos hx, if_pos hx, chk_true (by simp; omega), scope_plugged_L0_eq n m g hn kk k q (i + 1) _ (by omega) (by omega) (by simp; omega)]
      simp
    · rw [if_neg hx, if_neg hx, chk_true (by simp; omega), scope_plugged_L0_eq n m g hn kk k q (i + 1) _ (by omega) (by omega) (by simp; omega)]
      simp
theorem lookup_none {v : Int} : ∀ (a b : List Int), v ∉ a → (a.zip b).lookup v = none
  | [], b, _ => by simp
  | x :: a, [], _ => by simp
  | x :: a, y :: b, h => by
    have h1 : (v == x) = false := by simpa using fun e => h (by simp [e])
    rw [List.zip_cons_cons, List.lookup_cons, h1]
    exact lookup_none a b (fun h2 => h (by simp [h2]))
theorem lookup_get : ∀ (a b : List Int) (i : Nat) (v l : Int), a.Nodup → a[i]? = some v → b[i]? = some l → (a.zip b).lookup v = some l
  | [], b, i, v, l, _, h, _ => by simp at h
  | x :: a, [], i, v, l, _, _, h => by simp at h
  | x :: a, y :: b, 0, v, l, hn, h1, h2 => by
    have e1 : x = v := by simpa using h1
    have e2 : y = l := by simpa using h2
    rw [e1, e2, List.zip_cons_cons, List.lookup_cons]; simp
  | x :: a, y :: b, i + 1, v, l, hn, h1, h2 => by
    have h3 : a[i]? = some v := by simpa using h1
    have hne : (v == x) = false := by
      have : v ∈ a := List.mem_of_getElem? h3
      have hx := (List.nodup_cons.1 hn).1
      simpa using fun (e : v = x) => hx (e ▸ this)
    rw [List.zip_cons_cons, List.lookup_cons, hne]
    exact lookup_get a b i v l (List.nodup_cons.1 hn).2 h3 (by simpa using h2)
theorem lookup_mem : ∀ (a b : List Int) (v l : Int), (a.zip b).lookup v = some l → v ∈ a ∧ l ∈ b ∧ ∃ i : Nat, a[i]? = some v ∧ b[i]? = some l
  | [], b, v, l, h => by simp at h
  | x :: a, [], v, l, h => by simp at h
  | x :: a, y :: b, v, l, h => by
    rw [List.zip_cons_cons, List.lookup_cons] at h
    cases hc : (v == x) with
    | true =>
      rw [hc] at h
      have e1 : v = x := by simpa using hc
      have e2 : y = l := by simpa using h
      subst e1; subst e2
      exact ⟨by simp, by simp, 0, by simp, by simp⟩
    | false =>
      rw [hc] at h
      obtain ⟨h1, h2, i, h3, h4⟩ := lookup_mem a b v l h
      exact ⟨by simp [h1], by simp [h2], i + 1, by simpa using h3, by simpa using h4⟩
theorem scope_plugged_L1_eq (n : Nat) (m : MRS) (plug hs : List Int) (kk : List Int → Option tree) (hp : plug.length = hs.length) (hr : ∀ v ∈ hs, 0 ≤ v ∧ v < m.Vars.length) : ∀ (t : List Int) (q i : Nat) (b : List Int), hs.drop i = t → t.length < q → b.length = m.Vars.length → t.Nodup →
    ∃ b', scope_plugged_L1 n plug hs kk q i b = kk b' ∧ b'.length = m.Vars.length ∧ ∀ v : Nat, v < m.Vars.length → b'[v]? = match (t.zip (plug.drop i)).lookup (v : Int) with | some l => some l | none => b[v]?
  | [], q + 1, i, b, h, _, hb, _ => by
    rw [scope_plugged_L1, if_neg (drop_nil' h)]
    exact ⟨b, rfl, hb, fun v _ => by simp⟩
  | x :: t, q + 1, i, b, h, hq, hb, hn => by
    obtain ⟨h1, h2, h3⟩ := drop_cons h
    have hx := hr x (List.mem_of_getElem? h2)
    obtain ⟨y, hy⟩ : ∃ y, plug[i]? = some y := ⟨_, List.getElem?_eq_getElem (by omega)⟩
    obtain ⟨x', rfl⟩ : ∃ x' : Nat, x = x' := ⟨x.toNat, by omega⟩
    have hx' : x' < b.length := by omega
    rw [scope_plugged_L1, if_pos h1, h2, hy]
    simp only [bind_some', ix_nat, List.getElem?_eq_getElem hx']
    obtain ⟨b', e1, e2, e3⟩ := scope_plugged_L1_eq n m plug hs kk hp hr t q (i + 1) (b.set ((x' : Int)).toNat y) h3 (by simpa using hq) (by simp [hb]) (List.nodup_cons.1 hn).2
    refine ⟨b', e1, e2, fun v hv => ?_⟩
    rw [e3 v hv]
    have hd : plug.drop i = y :: plug.drop (i + 1) := by
      have := List.drop_eq_getElem_cons (l := plug) (i := i) (by omega)
      rw [this, ← (List.getElem?_eq_some_iff.1 hy).2]
    rw [hd, List.zip_cons_cons, List.lookup_cons]
    by_cases hvx : v = x'
    · subst hvx
      rw [lookup_none t _ (List.nodup_cons.1 hn).1]
      simp [hx']
    · have : ((v : Int) == (x' : Int)) = false := by simpa using fun e => hvx (by omega)
      rw [this]
      cases (t.zip (plug.drop (i + 1))).lookup (v : Int) with
      | some l => rfl
      | none => simp; rw [List.getElem?_set_ne (fun e => hvx e.symm)]
theorem hols_range {m : MRS} : ∀ v ∈ hols m, 0 ≤ v ∧ v < m.Vars.length := fun v hv => by
  unfold hols at hv
  have := mem_upto.1 (List.mem_filter.1 hv).1
  omega
theorem scope_plugged_eq (n : Nat) (m : MRS) (g : Good m) (hn : 1000 ≤ n) (plug : List Int) (hp : plug.length = (hols m).length) : scope_plugged n m plug = some (tr m plug) := by
  have := g.nv; have := hols_len g
  unfold scope_plugged
  simp only [scope_Labels_eq n m g hn, scope_Holes_eq n m g hn, bind_some', jn_def]
  rw [scope_plugged_L0_eq n m g hn _ m.Vars.length n 0 [] (by omega) (by omega) (by simp)]
  obtain ⟨b', e1, e2, e3⟩ := scope_plugged_L1_eq n m plug (hols m) (fun b_45 => some (tree.mk m (labs m) b_45)) hp hols_range (hols m) n 0 ([] ++ (upto 0 m.Vars.length).map fun v => if isLab m v then v else -1) rfl (by omega) (by simp [upto_len]) (hols_nodup m)
  rw [e1]
  have : b' = (upto 0 m.Vars.length).map (atv m plug) := by
    apply List.ext_getElem?
    intro v
    rcases Nat.lt_or_ge v m.Vars.length with hv | hv
    · rw [e3 v hv, List.getElem?_map, upto_get _ hv]
      unfold atv
      simp only [List.drop_zero, List.nil_append, Option.map_some]
      cases ((hols m).zip plug).lookup (v : Int) with
      | some l => rfl
      | none => simp only []; rw [List.getElem?_map, upto_get _ hv]; rfl
    · rw [List.getElem?_eq_none (by omega), List.getElem?_eq_none (by simp [upto_len]; omega)]
  rw [this]
  rfl
def kidsOf (m : MRS) (plug : List Int) (x : EP) : List Int := (x.Args.map fun a => atv m plug a.Var).filter fun l => decide (0 ≤ l)
def chil (m : MRS) (plug : List Int) (l : Int) : List Int := m.Rels.flatMap fun x => if x.Label = l then kidsOf m plug x else []
theorem children_L1_eq (n : Nat) (m : MRS) (plug : List Int) (k : List Int → Option (List Int)) (x : EP) (hx : ∀ a ∈ x.Args, 0 ≤ a.Var ∧ a.Var < m.Vars.length) : ∀ (t : List Arg) (q i : Nat) (out : List Int), x.Args.drop i = t → t.length < q → out.length + t.length ≤ 1000 → scope_tree_children_L1 n (tr m plug) k x q out i = k (out ++ (t.map fun a => atv m plug a.Var).filter fun l => decide (0 ≤ l))
  | [], q + 1, i, out, h, _, _ => by
    rw [scope_tree_children_L1, if_neg (drop_nil' h)]
    simp
  | a :: t, q + 1, i, out, h, hq, ho => by
    obtain ⟨h1, h2, h3⟩ := drop_cons h
    rw [scope_tree_children_L1, if_pos h1, h2]
    simp only [bind_some', tr_at m plug (hx a (List.mem_of_getElem? h2)), List.map_cons, List.filter_cons, decide_eq_true_eq]
    simp only [List.length_cons] at ho hq
    split
    · rw [chk_true (by simp; omega), children_L1_eq n m plug k x hx t q (i + 1) _ h3 (by omega) (by simp; omega)]
      simp
    · rw [children_L1_eq n m plug k x hx t q (i + 1) _ h3 (by omega) (by omega)]
theorem children_L0_eq (n : Nat) (m : MRS) (g : Good m) (hn : 1000 ≤ n) (plug : List Int) (l : Int) : ∀ (t : List EP) (q i : Nat) (out : List Int), m.Rels.drop i = t → t.length < q → out.length + 10 * t.length ≤ 900 → scope_tree_children_L0 n (tr m plug) l q out i = some (out ++ t.flatMap fun x => if x.Label = l then kidsOf m plug x else [])
  | [], q + 1, i, out, h, _, _ => by
    rw [scope_tree_children_L0, tr_m, if_neg (drop_nil' h)]
    simp
  | x :: t, q + 1, i, out, h, hq, ho => by
    obtain ⟨h1, h2, h3⟩ := drop_cons h
    have hm := List.mem_of_getElem? h2
    have hl := g.na x hm
    rw [scope_tree_children_L0, tr_m, if_pos h1]
    simp only [List.length_cons] at ho hq
    simp only [h2, bind_some', jn_def, List.flatMap_cons]
    by_cases hx : x.Label = l
    · rw [if_neg (by simp [hx]), if_pos hx, children_L1_eq n m plug _ x (g.arg x hm) x.Args n 0 out rfl (by omega) (by omega)]
      have h4 : (kidsOf m plug x).length ≤ 10 := by
        have := List.length_filter_le (fun l => decide ((0 : Int) ≤ l)) (x.Args.map fun a => atv m plug a.Var)
        rw [List.length_map] at this
        unfold kidsOf; omega
      show scope_tree_children_L0 n (tr m plug) l q (out ++ kidsOf m plug x) (i + 1) = _
      rw [children_L0_eq n m g hn plug l t q (i + 1) _ h3 (by omega) (by simp; omega)]
      simp
    · rw [if_pos hx, if_neg hx, children_L0_eq n m g hn plug l t q (i + 1) _ h3 (by omega) (by omega)]
      simp
theorem children_eq (n : Nat) (m : MRS) (g : Good m) (hn : 1000 ≤ n) (plug : List Int) (l : Int) : scope_tree_children n (tr m plug) l = some (chil m plug l) := by
  have := g.nr
  unfold scope_tree_children
  rw [children_L0_eq n m g hn plug l m.Rels n 0 [] rfl (by omega) (by simp; omega)]
  rfl
theorem atv_lab {m : MRS} {plug : List Int} (hp : ∀ l ∈ plug, isLab m l) {v : Int} (h : 0 ≤ atv m plug v) : isLab m (atv m plug v) := by
  unfold atv at h ⊢
  split at h
  · rename_i l hl
    exact hp l (lookup_mem _ _ _ _ hl).2.1
  · rename_i hl
    split at h
    · rename_i h2; rw [if_pos h2]; exact h2
    · omega
theorem mem_chil {m : MRS} {plug : List Int} {l c : Int} : c ∈ chil m plug l ↔ ∃ x ∈ m.Rels, x.Label = l ∧ ∃ a ∈ x.Args, atv m plug a.Var = c ∧ 0 ≤ c := by
  unfold chil
  rw [List.mem_flatMap]
  constructor
  · rintro ⟨x, hx, h⟩
    split at h
    · rename_i e
      unfold kidsOf at h
      rw [List.mem_filter, List.mem_map] at h
      obtain ⟨⟨a, ha, rfl⟩, h⟩ := h
      exact ⟨x, hx, e, a, ha, rfl, by simpa using h⟩
    · simp at h
  · rintro ⟨x, hx, e, a, ha, rfl, h⟩
    refine ⟨x, hx, ?_⟩
    rw [if_pos e]
    unfold kidsOf
    exact List.mem_filter.2 ⟨List.mem_map.2 ⟨a, ha, rfl⟩, by simpa using h⟩
theorem chil_lab {m : MRS} (g : Good m) {plug : List Int} (hp : ∀ l ∈ plug, isLab m l) {l c : Int} (h : c ∈ chil m plug l) : c ∈ labs m := by
  obtain ⟨x, _, _, a, _, rfl, h0⟩ := mem_chil.1 h
  exact (mem_labs g).2 (atv_lab hp h0)
inductive Reach (ch : Int → List Int) (a : Int) : Int → Prop where
  | refl : Reach ch a a
  | step {b c : Int} : Reach ch a b → c ∈ ch b → Reach ch a c
/-- a list that a search in breadth has found -/
structure Bfs (ch : Int → List Int) (S : List Int) (a : Int) (B : List Int) : Prop where
  nodup : B.Nodup
  sub : ∀ x ∈ B, x ∈ S
  head : B[0]? = some a
  closed : ∀ x ∈ B, ∀ y ∈ ch x, y ∈ B
  par : ∀ j, 0 < j → ∀ y, B[j]? = some y → ∃ p x, p < j ∧ B[p]? = some x ∧ y ∈ ch x
theorem Bfs.mem {ch : Int → List Int} {S : List Int} {a : Int} {B : List Int} (h : Bfs ch S a B) (x : Int) : x ∈ B ↔ Reach ch a x := by
  constructor
  · intro hx
    obtain ⟨j, hj⟩ := List.getElem?_of_mem hx
    induction j using Nat.strongRecOn generalizing x with
    | _ j ih =>
      rcases Nat.eq_zero_or_pos j with rfl | h0
      · rw [h.head] at hj
        obtain rfl := Option.some.inj hj
        exact .refl
      · obtain ⟨p, y, hp, hy, hxy⟩ := h.par j h0 x hj
        exact .step (ih p hp y (List.mem_of_getElem? hy) hy) hxy
  · intro hx
    induction hx with
    | refl => exact List.mem_of_getElem? h.head
    | step _ hc ih => exact h.closed _ ih _ hc
theorem get_app {out r : List Int} {j : Nat} {y : Int} (h : out[j]? = some y) : (out ++ r)[j]? = some y := by
  obtain ⟨h1, _⟩ := List.getElem?_eq_some_iff.1 h
  rw [List.getElem?_append_left h1, h]
theorem below_L1_eq (n : Nat) (S : List Int) (hS : S.length ≤ 300) (hn : 1000 ≤ n) (k : List Int → Option (List Int)) (r : List Int) (hr : ∀ x ∈ r, x ∈ S) : ∀ (t : List Int) (q i : Nat) (out : List Int), r.drop i = t → t.length < q → out.Nodup → (∀ x ∈ out, x ∈ S) →
    ∃ z, scope_tree_below_L1 n k r q out i = k (out ++ z) ∧ (out ++ z).Nodup ∧ (∀ x ∈ z, x ∈ t) ∧ ∀ x ∈ t, x ∈ out ++ z
  | [], q + 1, i, out, h, _, hd, _ => by
    rw [scope_tree_below_L1, if_neg (drop_nil' h)]
    exact ⟨[], by simp, by simpa using hd, by simp, by simp⟩
  | x :: t, q + 1, i, out, h, hq, hd, hs => by
    obtain ⟨h1, h2, h3⟩ := drop_cons h
    have hx := hr x (List.mem_of_getElem? h2)
    have hl := nodup_len out S hd hs
    simp only [List.length_cons] at hq
    rw [scope_tree_below_L1, if_pos h1, h2]
    simp only [bind_some', Contains_int_eq n out x (by omega)]
    by_cases hm : x ∈ out
    · rw [if_neg (by simp [hm])]
      obtain ⟨z, e1, e2, e3, e4⟩ := below_L1_eq n S hS hn k r hr t q (i + 1) out h3 (by omega) hd hs
      refine ⟨z, e1, e2, fun y hy => by simp [e3 y hy], fun y hy => ?_⟩
      rcases List.mem_cons.1 hy with rfl | hy
      · simp [hm]
      · exact e4 y hy
    · rw [if_pos (by simp [hm]), chk_true (by simp; omega)]
      obtain ⟨z, e1, e2, e3, e4⟩ := below_L1_eq n S hS hn k r hr t q (i + 1) (out ++ [x]) h3 (by omega)
        (by rw [List.nodup_append]; exact ⟨hd, by simp, fun a ha b hb e => hm (by rw [List.mem_singleton] at hb; rw [← hb, ← e]; exact ha)⟩)
        (fun y hy => by rcases List.mem_append.1 hy with hy | hy; exact hs y hy; rw [List.mem_singleton.1 hy]; exact hx)
      rw [List.append_assoc] at e1 e2 e4
      refine ⟨[x] ++ z, e1, e2, fun y hy => ?_, fun y hy => ?_⟩
      · rcases List.mem_append.1 hy with hy | hy
        · simp [List.mem_singleton.1 hy]
        · simp [e3 y hy]
      · rcases List.mem_cons.1 hy with rfl | hy
        · simp
        · exact e4 y hy
theorem below_L0_eq (n : Nat) (t : tree) (ch : Int → List Int) (S : List Int) (a : Int) (hS : S.length ≤ 300) (hn : 1000 ≤ n) (k : List Int → Option (List Int)) (hch : ∀ x ∈ S, scope_tree_children n t x = some (ch x) ∧ (ch x).length ≤ 900) (hsub : ∀ x ∈ S, ∀ y ∈ ch x, y ∈ S) : ∀ (q i : Nat) (out : List Int),
    out.Nodup → (∀ x ∈ out, x ∈ S) → out[0]? = some a → S.length < i + q → i ≤ out.length → (∀ j x, j < i → out[j]? = some x → ∀ y ∈ ch x, y ∈ out) → (∀ j, 0 < j → ∀ y, out[j]? = some y → ∃ p x, p < j ∧ out[p]? = some x ∧ y ∈ ch x) →
    ∃ B, scope_tree_below_L0 n t k q out i = k B ∧ Bfs ch S a B
  | 0, i, out, h1, h2, _, h4, h5, _, _ => by
    have := nodup_len out S h1 h2
    omega
  | q + 1, i, out, h1, h2, h3, h4, h5, h6, h7 => by
    rw [scope_tree_below_L0]
    rcases Nat.lt_or_ge i out.length with hi | hi
    · rw [if_pos hi, List.getElem?_eq_getElem hi]
      have hx : out[i] ∈ S := h2 _ (List.getElem_mem hi)
      simp only [jn_def, bind_some', (hch _ hx).1]
      obtain ⟨z, e1, e2, e3, e4⟩ := below_L1_eq n S hS hn (fun out_24 => scope_tree_below_L0 n t k q out_24 (i + 1)) (ch out[i]) (hsub _ hx) (ch out[i]) n 0 out rfl (by have := (hch _ hx).2; omega) h1 h2
      rw [e1]
      refine below_L0_eq n t ch S a hS hn k hch hsub q (i + 1) (out ++ z) e2 (fun x hx' => ?_) (get_app h3) (by omega) (by simp; omega) (fun j x hj hjx y hy => ?_) (fun j hj y hy => ?_)
      · rcases List.mem_append.1 hx' with h | h
        · exact h2 x h
        · exact hsub _ hx _ (e3 x h)
      · rcases Nat.lt_or_ge j i with hji | hji
        · rw [List.getElem?_append_left (by omega)] at hjx
          exact List.mem_append_left _ (h6 j x hji hjx y hy)
        · obtain rfl : j = i := by omega
          rw [List.getElem?_append_left hi, List.getElem?_eq_getElem hi] at hjx
          obtain rfl := Option.some.inj hjx
          exact e4 y hy
      · rcases Nat.lt_or_ge j out.length with hjl | hjl
        · rw [List.getElem?_append_left hjl] at hy
          obtain ⟨p, x, hp, hpx, hxy⟩ := h7 j hj y hy
          exact ⟨p, x, hp, get_app hpx, hxy⟩
        · rw [List.getElem?_append_right hjl] at hy
          exact ⟨i, out[i], by omega, get_app (List.getElem?_eq_getElem hi), e3 y (List.mem_of_getElem? hy)⟩
    · rw [if_neg (by omega)]
      refine ⟨out, rfl, h1, h2, h3, fun x hx y hy => ?_, h7⟩
      obtain ⟨j, hj⟩ := List.getElem?_of_mem hx
      exact h6 j x (by have := (List.getElem?_eq_some_iff.1 hj).1; omega) hj y hy
theorem chil_len {m : MRS} (g : Good m) (plug : List Int) (l : Int) : (chil m plug l).length ≤ 80 := by
  have key : ∀ (t : List EP), (∀ x ∈ t, x.Args.length ≤ 10) → (t.flatMap fun x => if x.Label = l then kidsOf m plug x else []).length ≤ 10 * t.length := by
    intro t
    induction t with
    | nil => simp
    | cons x t ih =>
      intro h
      have h1 := ih (fun y hy => h y (by simp [hy]))
      have h2 := h x (by simp)
      have h4 : (kidsOf m plug x).length ≤ 10 := by
        have := List.length_filter_le (fun l => decide ((0 : Int) ≤ l)) (x.Args.map fun a => atv m plug a.Var)
        rw [List.length_map] at this
        unfold kidsOf; omega
      rw [List.flatMap_cons, List.length_append, List.length_cons]
      split
      · omega
      · rw [List.length_nil]; omega
  have := key m.Rels g.na
  have := g.nr
  unfold chil; omega
theorem below_eq (n : Nat) (m : MRS) (g : Good m) (hn : 1000 ≤ n) (plug : List Int) (hp : ∀ l ∈ plug, isLab m l) (a : Int) : ∃ L, scope_tree_below n (tr m plug) a = some L ∧ (if a ∈ labs m then ∃ B, Bfs (chil m plug) (labs m) a B ∧ L = sortI B else L = []) := by
  have := g.nv; have := g.nr; have := labs_len g
  unfold scope_tree_below
  show ∃ L, (slices_Contains_int n (labs m) a).bind _ = some L ∧ _
  rw [Contains_int_eq n (labs m) a (by omega), bind_some']
  by_cases ha : a ∈ labs m
  · rw [if_neg (by simp [ha])]
    simp only [jn_def, ha, if_true]
    obtain ⟨B, e1, hB⟩ := below_L0_eq n (tr m plug) (chil m plug) (labs m) a (by omega) hn (fun out_12 => (slices_Sort_int n out_12).bind fun r63 => some r63) (fun x _ => ⟨children_eq n m g hn plug x, by have := chil_len g plug x; omega⟩) (fun x _ y hy => chil_lab g hp hy) n 0 [a] (by simp) (by simpa using ha) rfl (by omega) (by simp) (fun j x hj => by omega) (fun j hj y hy => by rw [List.getElem?_eq_none (by simp; omega)] at hy; cases hy)
    rw [e1]
    have hl := nodup_len B (labs m) hB.nodup hB.sub
    refine ⟨sortI B, ?_, B, hB, rfl⟩
    unfold slices_Sort_int
    rw [chk_true (by omega)]
    rfl
  · rw [if_pos (by simp [ha])]
    exact ⟨[], rfl, by rw [if_neg ha]⟩
end Go.Proofs.YtegboboemepifaaGreatDoor

