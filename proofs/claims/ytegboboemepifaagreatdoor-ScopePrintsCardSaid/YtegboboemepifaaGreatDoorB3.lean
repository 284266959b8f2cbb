/- Scope: valid pluggings -/
import Derived.Test.YtegboboemepifaaGreatDoorB2
namespace Go.Proofs.YtegboboemepifaaGreatDoor
open Go.Gl
set_option linter.unusedVariables false
set_option linter.unusedSimpArgs false
structure FormP (m : MRS) (plug : List Int) : Prop where
  root : 0 ≤ atv m plug m.Top
  all : ∀ l ∈ labs m, Reach (chil m plug) (atv m plug m.Top) l
  cnt : ∀ l ∈ labs m, ((labs m).flatMap (chil m plug)).count l = if l = atv m plug m.Top then 0 else 1
theorem below_mem (n : Nat) (m : MRS) (g : Good m) (hn : 1000 ≤ n) (plug : List Int) (hp : ∀ l ∈ plug, isLab m l) (a : Int) : ∃ L, scope_tree_below n (tr m plug) a = some L ∧ L.Nodup ∧ (∀ l, l ∈ L ↔ a ∈ labs m ∧ Reach (chil m plug) a l) ∧ (∀ l ∈ L, l ∈ labs m) ∧ L.Pairwise (· ≤ ·) := by
  obtain ⟨L, e, h⟩ := below_eq n m g hn plug hp a
  refine ⟨L, e, ?_⟩
  split at h
  · rename_i ha
    obtain ⟨B, hB, rfl⟩ := h
    have hm : ∀ l, l ∈ sortI B ↔ l ∈ B := fun l => (sortI_perm B).mem_iff
    exact ⟨(sortI_perm B).nodup_iff.2 hB.nodup, fun l => by rw [hm, hB.mem]; simp [ha], fun l hl => hB.sub l ((hm l).1 hl), sortI_sorted B⟩
  · rename_i ha
    subst h
    exact ⟨by simp, fun l => by simp [ha], by simp, by simp⟩
/-- the list that Below returns -/
theorem below_same {m : MRS} {L : List Int} (hn : L.Nodup) (hs : L.Pairwise (· ≤ ·)) (p : Int → Bool) (h : ∀ l, l ∈ L ↔ l ∈ labs m ∧ p l = true) : L = (labs m).filter p := by
  refine eqI_of_perm _ _ (perm_nodup hn ((labs_nodup m).filter _) (fun x => ?_)) hs (((labs_sorted m).filter _).imp (fun h => Int.le_of_lt h))
  rw [h, List.mem_filter]
def cntL (N : Nat) (d : List Int) : List Int := (upto 0 N).map fun v => ((d.count v : Nat) : Int)
theorem cntL_get {N : Nat} (d : List Int) {v : Int} (h : 0 ≤ v ∧ v < N) : ix (cntL N d) v = some ((d.count v : Nat) : Int) := by
  obtain ⟨k, rfl⟩ : ∃ k : Nat, v = k := ⟨v.toNat, by omega⟩
  rw [ix_nat]
  unfold cntL
  rw [List.getElem?_map, upto_get _ (by omega)]
  rfl
theorem cntL_set {N : Nat} (d : List Int) {x : Int} (h : 0 ≤ x ∧ x < N) : (cntL N d).set x.toNat (((d.count x : Nat) : Int) + 1) = cntL N (d ++ [x]) := by
  apply List.ext_getElem?
  intro v
  rcases Nat.lt_or_ge v N with hv | hv
  · have e : ∀ d, (cntL N d)[v]? = some ((d.count (v : Int) : Nat) : Int) := fun d => by
      unfold cntL; rw [List.getElem?_map, upto_get _ hv]; rfl
    have hl : v < (cntL N d).length := by simp [cntL, upto_len, hv]
    rw [e (d ++ [x]), List.getElem?_set]
    by_cases hx : x.toNat = v
    · have : x = (v : Int) := by omega
      rw [if_pos hx, if_pos (by omega), this]
      simp
    · rw [if_neg hx, e d]
      have : ¬ x = (v : Int) := by omega
      simp [this]
  · rw [List.getElem?_eq_none (by simp [cntL, upto_len]; omega), List.getElem?_eq_none (by simp [cntL, upto_len]; omega)]
theorem form_L1_eq (n N : Nat) (k : List Int → Option Bool) (r : List Int) (hr : ∀ x ∈ r, 0 ≤ x ∧ x < (N : Int)) : ∀ (t : List Int) (q i : Nat) (d : List Int), r.drop i = t → t.length < q → d.length + t.length ≤ 1000000 → scope_tree_form_L1 n k r q (cntL N d) i = k (cntL N (d ++ t))
  | [], q + 1, i, d, h, _, _ => by
    rw [scope_tree_form_L1, if_neg (drop_nil' h)]
    simp
  | x :: t, q + 1, i, d, h, hq, hd => by
    obtain ⟨h1, h2, h3⟩ := drop_cons h
    have hx := hr x (List.mem_of_getElem? h2)
    simp only [List.length_cons] at hq hd
    have hc : d.count x ≤ d.length := List.count_le_length
    rw [scope_tree_form_L1, if_pos h1, h2, bind_some', cntL_get d hx, bind_some', chk_true (by omega), cntL_set d hx, form_L1_eq n N k r hr t q (i + 1) (d ++ [x]) h3 (by omega) (by simp; omega)]
    simp
theorem labs_range {m : MRS} : ∀ v ∈ labs m, 0 ≤ v ∧ v < m.Vars.length := fun v hv => by
  unfold labs at hv
  have := mem_upto.1 (List.mem_filter.1 hv).1
  omega
theorem form_L0_eq (n : Nat) (m : MRS) (g : Good m) (hn : 1000 ≤ n) (plug : List Int) (hp : ∀ l ∈ plug, isLab m l) (k : List Int → Option Bool) : ∀ (t : List Int) (q i : Nat) (d : List Int), (labs m).drop i = t → t.length < q → d.length + 80 * t.length ≤ 100000 → scope_tree_form_L0 n (tr m plug) k q (cntL m.Vars.length d) i = k (cntL m.Vars.length (d ++ t.flatMap (chil m plug)))
  | [], q + 1, i, d, h, _, _ => by
    rw [scope_tree_form_L0, tr_l, if_neg (drop_nil' h)]
    simp
  | x :: t, q + 1, i, d, h, hq, hd => by
    obtain ⟨h1, h2, h3⟩ := drop_cons h
    simp only [List.length_cons] at hq hd
    have hc := chil_len g plug x
    rw [scope_tree_form_L0, tr_l, if_pos h1]
    simp only [jn_def, h2, bind_some', children_eq n m g hn]
    rw [form_L1_eq n m.Vars.length _ (chil m plug x) (fun y hy => labs_range y (chil_lab g hp hy)) (chil m plug x) n 0 d rfl (by omega) (by omega), form_L0_eq n m g hn plug hp k t q (i + 1) _ h3 (by omega) (by simp; omega)]
    simp
theorem form_L2_eq (n : Nat) (m : MRS) (plug : List Int) (root : Int) (d : List Int) : ∀ (t : List Int) (q i : Nat), (labs m).drop i = t → t.length < q → ∃ b, scope_tree_form_L2 n (tr m plug) root (cntL m.Vars.length d) q i = some b ∧ (b = true ↔ ∀ l ∈ t, d.count l = if l = root then 0 else 1)
  | [], q + 1, i, h, _ => by
    rw [scope_tree_form_L2, tr_l, if_neg (drop_nil' h)]
    exact ⟨true, rfl, by simp⟩
  | x :: t, q + 1, i, h, hq => by
    obtain ⟨h1, h2, h3⟩ := drop_cons h
    simp only [List.length_cons] at hq
    rw [scope_tree_form_L2, tr_l, if_pos h1, h2, bind_some']
    simp only [jn_def, cntL_get d (labs_range x (List.mem_of_getElem? h2)), bind_some']
    obtain ⟨b, e1, e2⟩ := form_L2_eq n m plug root d t q (i + 1) h3 (by omega)
    rw [e1]
    by_cases hx : x = root
    · subst hx
      by_cases hc : d.count x = 0
      · exact ⟨b, by simp [hc], by rw [e2]; simp [hc]⟩
      · exact ⟨false, by simp [hc], by simp [hc]⟩
    · by_cases hc : d.count x = 1
      · exact ⟨b, by simp [hx, hc], by rw [e2]; simp [hx, hc]⟩
      · refine ⟨false, ?_, by simp [hx, hc]⟩
        have : ¬ ((d.count x : Nat) : Int) = 1 := by omega
        simp [hx, this]
theorem form_eq (n : Nat) (m : MRS) (g : Good m) (hn : 1000 ≤ n) (plug : List Int) (hp : ∀ l ∈ plug, isLab m l) : ∃ b, scope_tree_form n (tr m plug) = some b ∧ (b = true ↔ FormP m plug) := by
  have := g.nv; have := g.nr; have hll := labs_len g
  unfold scope_tree_form
  have hT : ix (tr m plug).at_ (tr m plug).m_.Top = some (atv m plug m.Top) := tr_at m plug g.top
  rw [hT, bind_some']
  simp only [jn_def]
  by_cases h0 : atv m plug m.Top < 0
  · rw [if_pos h0]
    exact ⟨false, by simp, by simp; exact fun h => by have := h.root; omega⟩
  · rw [if_neg h0]
    obtain ⟨L, e1, hn1, hm1, hs1, _⟩ := below_mem n m g hn plug hp (atv m plug m.Top)
    have hroot : atv m plug m.Top ∈ labs m := (mem_labs g).2 (atv_lab hp (by omega))
    rw [e1, bind_some']
    have hfull := nodup_full hn1 (labs_nodup m) hs1
    by_cases hL : L.length = (labs m).length
    · have hL' : L.length = (tr m plug).labels_.length := hL
      rw [if_neg (by simp [hL']), chk_true (by show 8 * m.Vars.length ≤ _; omega)]
      have e0 : List.replicate ((tr m plug).m_.Vars.length) (0 : Int) = cntL m.Vars.length [] := by
        show List.replicate m.Vars.length (0 : Int) = (upto 0 m.Vars.length).map (fun _ => (0 : Int))
        rw [List.map_const', upto_len]
      rw [e0, form_L0_eq n m g hn plug hp _ (labs m) n 0 [] rfl (by omega) (by simp; omega)]
      obtain ⟨b, e2, e3⟩ := form_L2_eq n m plug (atv m plug m.Top) ([] ++ (labs m).flatMap (chil m plug)) (labs m) n 0 rfl (by omega)
      refine ⟨b, e2, e3.trans ⟨fun h => ⟨by omega, fun l hl => ((hm1 l).1 (hfull.1 hL l hl)).2, by simpa using h⟩, fun h => by simpa using h.cnt⟩⟩
    · have hL' : ¬ L.length = (tr m plug).labels_.length := hL
      rw [if_pos (by simp [hL'])]
      exact ⟨false, rfl, by simp; exact fun h => hL (hfull.2 fun l hl => (hm1 l).2 ⟨hroot, h.all l hl⟩)⟩
def pos (l : Int) : List Int → Nat
  | [] => 0
  | x :: t => if x = l then 0 else pos l t + 1
theorem pos_get (l : Int) : ∀ (B : List Int), l ∈ B → B[pos l B]? = some l
  | [], h => by simp at h
  | x :: t, h => by
    unfold pos
    split
    · rename_i e; simp [e]
    · rename_i e
      rcases List.mem_cons.1 h with h | h
      · exact absurd h.symm e
      · simpa using pos_get l t h
theorem pos_le (l : Int) : ∀ (B : List Int) (p : Nat), B[p]? = some l → pos l B ≤ p
  | [], p, h => by simp at h
  | x :: t, p, h => by
    unfold pos
    split
    · omega
    · rename_i e
      cases p with
      | zero => exact absurd (by simpa using h) e
      | succ p => have := pos_le l t p (by simpa using h); omega
theorem count_mem_flat (ch : Int → List Int) {c x : Int} : ∀ (L : List Int), x ∈ L → c ∈ ch x → 1 ≤ (L.flatMap ch).count c
  | [], h, _ => by simp at h
  | y :: L, h, hc => by
    rw [List.flatMap_cons, List.count_append]
    rcases List.mem_cons.1 h with rfl | h
    · have := List.count_pos_iff.2 hc; omega
    · have := count_mem_flat ch L h hc; omega
theorem count_two_flat (ch : Int → List Int) {c x l : Int} (hxl : x ≠ l) (hc : c ∈ ch x) (hc' : c ∈ ch l) : ∀ (L : List Int), x ∈ L → l ∈ L → 2 ≤ (L.flatMap ch).count c
  | [], h, _ => by simp at h
  | y :: L, h, h' => by
    rw [List.flatMap_cons, List.count_append]
    rcases List.mem_cons.1 h with e | h1
    · rcases List.mem_cons.1 h' with e' | h1'
      · exact absurd (e.trans e'.symm) hxl
      · have := count_mem_flat ch L h1' hc'; have := List.count_pos_iff.2 hc; rw [← e]; omega
    · rcases List.mem_cons.1 h' with e' | h1'
      · have := count_mem_flat ch L h1 hc; have := List.count_pos_iff.2 hc'; rw [← e']; omega
      · have := count_two_flat ch hxl hc hc' L h1 h1'; omega
theorem FormP.rank {m : MRS} (g : Good m) {plug : List Int} (hp : ∀ l ∈ plug, isLab m l) (h : FormP m plug) : ∃ rank : Int → Nat, (∀ l ∈ labs m, rank l < (labs m).length) ∧ ∀ l ∈ labs m, ∀ c ∈ chil m plug l, rank l < rank c := by
  have hroot : atv m plug m.Top ∈ labs m := (mem_labs g).2 (atv_lab hp h.root)
  obtain ⟨_, _, h1⟩ := below_eq 1000 m g (Nat.le_refl _) plug hp (atv m plug m.Top)
  rw [if_pos hroot] at h1
  obtain ⟨B, hB, _⟩ := h1
  have hall : ∀ l ∈ labs m, l ∈ B := fun l hl => (hB.mem l).2 (h.all l hl)
  have hlen : B.length = (labs m).length := (nodup_full hB.nodup (labs_nodup m) hB.sub).2 hall
  refine ⟨fun l => pos l B, fun l hl => ?_, fun l hl c hc => ?_⟩
  · have := (List.getElem?_eq_some_iff.1 (pos_get l B (hall l hl))).1
    show pos l B < _; omega
  · have hcl := chil_lab g hp hc
    have hcB := pos_get c B (hall c hcl)
    have hcnt := h.cnt c hcl
    have h1 := count_mem_flat (chil m plug) (labs m) hl hc
    have hne : c ≠ atv m plug m.Top := fun e => by rw [if_pos e] at hcnt; omega
    rw [if_neg hne] at hcnt
    have hj : 0 < pos c B := by
      rcases Nat.eq_zero_or_pos (pos c B) with e | e
      · rw [e, hB.head] at hcB
        exact absurd (Option.some.inj hcB).symm hne
      · exact e
    obtain ⟨p, x, hpj, hpx, hxc⟩ := hB.par _ hj c hcB
    have hxl : x = l := by
      apply Decidable.byContradiction
      intro hxl
      have := count_two_flat (chil m plug) hxl hxc hc (labs m) (hB.sub x (List.mem_of_getElem? hpx)) hl
      omega
    subst hxl
    have := pos_le x B p hpx
    show pos x B < pos c B; omega
def roleOf (x : EP) (nm : List UInt8) : Option Int := (x.Args.find? fun a => decide (a.Role = nm)).map (·.Var)
theorem roleOf_mem {x : EP} {nm : List UInt8} {v : Int} (h : roleOf x nm = some v) : ∃ a ∈ x.Args, a.Var = v := by
  unfold roleOf at h
  rw [Option.map_eq_some_iff] at h
  obtain ⟨a, h1, h2⟩ := h
  exact ⟨a, List.mem_of_find?_eq_some h1, h2⟩
theorem scope_role_L0_eq (n : Nat) (x : EP) (nm : List UInt8) : ∀ (t : List Arg) (q i : Nat), x.Args.drop i = t → t.length < q → scope_role_L0 n x nm q i = some (match t.find? (fun a => decide (a.Role = nm)) with | some a => (a.Var, true) | none => (0, false))
  | [], q + 1, i, h, _ => by
    rw [scope_role_L0, if_neg (drop_nil' h)]
    simp
  | a :: t, q + 1, i, h, hq => by
    obtain ⟨h1, h2, h3⟩ := drop_cons h
    rw [scope_role_L0, if_pos h1, h2, bind_some', scope_role_L0_eq n x nm t q (i + 1) h3 (by simpa using hq)]
    by_cases ha : a.Role = nm
    · simp [ha]
    · simp [ha]
theorem scope_role_eq (n : Nat) (x : EP) (nm : List UInt8) (hx : x.Args.length ≤ 10) (hn : 1000 ≤ n) : scope_role n x nm = some (match roleOf x nm with | some v => (v, true) | none => (0, false)) := by
  unfold scope_role
  rw [scope_role_L0_eq n x nm x.Args n 0 rfl (by omega)]
  unfold roleOf
  cases x.Args.find? (fun a => decide (a.Role = nm)) <;> rfl
/-- the variable of a quantifier's BODY -/
def qb (x : EP) : Option Int := match roleOf x [82, 83, 84, 82] with | some _ => roleOf x [66, 79, 68, 89] | none => none
theorem scope_quantifier_eq (n : Nat) (x : EP) (hx : x.Args.length ≤ 10) (hn : 1000 ≤ n) : ∃ r, scope_quantifier n x = some r ∧ (r.2 = true ↔ ∃ b, qb x = some b) ∧ ∀ b, qb x = some b → r.1 = b := by
  unfold scope_quantifier qb
  rw [scope_role_eq n x _ hx hn, scope_role_eq n x _ hx hn]
  cases roleOf x [82, 83, 84, 82] with
  | none =>
    cases roleOf x [66, 79, 68, 89] with
    | none => exact ⟨(0, false), by simp, by simp, by simp⟩
    | some v => exact ⟨(v, false), by simp, by simp, by simp⟩
  | some _ =>
    cases roleOf x [66, 79, 68, 89] with
    | none => exact ⟨(0, false), by simp, by simp, by simp⟩
    | some v => exact ⟨(v, true), by simp, by simp, by simp⟩
theorem qb_mem {x : EP} {b : Int} (h : qb x = some b) : ∃ a ∈ x.Args, a.Var = b := by
  unfold qb at h
  split at h
  · exact roleOf_mem h
  · cases h
inductive RB (m : MRS) (plug : List Int) (lab : Int) : Int → Prop where
  | here {v : Int} : atv m plug v = lab → RB m plug lab v
  | down {v b : Int} {x : EP} : 0 ≤ atv m plug v → x ∈ m.Rels → x.Label = atv m plug v → qb x = some b → RB m plug lab b → RB m plug lab v
theorem reaches_L0_eq (n : Nat) (m : MRS) (g : Good m) (hn : 1000 ≤ n) (plug : List Int) (lab at' : Int) (self : tree → Int → Int → Option Bool) (hs : ∀ x ∈ m.Rels, x.Label = at' → ∀ b, qb x = some b → ∃ r, self (tr m plug) b lab = some r ∧ (r = true ↔ RB m plug lab b)) : ∀ (t : List EP) (q i : Nat), m.Rels.drop i = t → t.length < q →
    ∃ r, scope_tree_reaches_L0 n (tr m plug) lab self at' q i = some r ∧ (r = true ↔ ∃ x ∈ t, x.Label = at' ∧ ∃ b, qb x = some b ∧ RB m plug lab b)
  | [], q + 1, i, h, _ => by
    rw [scope_tree_reaches_L0, tr_m, if_neg (drop_nil' h)]
    exact ⟨false, rfl, by simp⟩
  | x :: t, q + 1, i, h, hq => by
    obtain ⟨h1, h2, h3⟩ := drop_cons h
    have hx := List.mem_of_getElem? h2
    obtain ⟨r, er, e1, e2⟩ := scope_quantifier_eq n x (g.na x hx) hn
    obtain ⟨c, f1, f2⟩ := reaches_L0_eq n m g hn plug lab at' self hs t q (i + 1) h3 (by simpa using hq)
    rw [scope_tree_reaches_L0, tr_m, if_pos h1, h2, bind_some', er, bind_some']
    simp only [jn_def, f1]
    by_cases hq' : r.2 = true
    · obtain ⟨b, hb⟩ := e1.1 hq'
      by_cases hl : x.Label = at'
      · obtain ⟨d, g1, g2⟩ := hs x hx hl b hb
        rw [if_pos hq', if_pos hl, e2 b hb, g1, bind_some']
        by_cases hd : d = true
        · exact ⟨true, by simp [hd], by simp; exact .inl ⟨hl, b, hb, g2.1 hd⟩⟩
        · refine ⟨c, by simp [hd], f2.trans ?_⟩
          simp only [List.mem_cons, exists_eq_or_imp]
          exact ⟨.inr, fun h => h.elim (fun ⟨_, b', hb', hr⟩ => by rw [hb] at hb'; obtain rfl := Option.some.inj hb'; exact absurd (g2.2 hr) hd) id⟩
      · rw [if_pos hq', if_neg hl]
        exact ⟨c, by simp, f2.trans (by simp [hl])⟩
    · rw [if_neg hq']
      refine ⟨c, by simp, f2.trans ?_⟩
      simp only [List.mem_cons, exists_eq_or_imp]
      exact ⟨.inr, fun h => h.elim (fun ⟨_, b', hb', _⟩ => absurd (e1.2 ⟨b', hb'⟩) hq') id⟩
theorem RB.inv {m : MRS} {plug : List Int} {lab v : Int} (h : RB m plug lab v) : atv m plug v = lab ∨ (0 ≤ atv m plug v ∧ ∃ x ∈ m.Rels, x.Label = atv m plug v ∧ ∃ b, qb x = some b ∧ RB m plug lab b) := by
  cases h with
  | here h => exact .inl h
  | down h1 h2 h3 h4 h5 => exact .inr ⟨h1, _, h2, h3, _, h4, h5⟩
theorem reaches_eq (m : MRS) (g : Good m) (plug : List Int) (lab : Int) (rank : Int → Nat) (hp : ∀ l ∈ plug, isLab m l) (hr1 : ∀ l ∈ labs m, rank l < (labs m).length) (hr2 : ∀ l ∈ labs m, ∀ c ∈ chil m plug l, rank l < rank c) : ∀ (d n : Nat) (v : Int), (0 ≤ v ∧ v < m.Vars.length) → (0 ≤ atv m plug v → (labs m).length ≤ rank (atv m plug v) + d) → 1000 + d ≤ n →
    ∃ r, scope_tree_reaches (n + 1) (tr m plug) v lab = some r ∧ (r = true ↔ RB m plug lab v) := by
  intro d
  induction d with
  | zero =>
    intro n v hv hd hn
    rw [scope_tree_reaches, tr_at m plug hv, bind_some']
    by_cases h1 : atv m plug v = lab
    · rw [if_pos h1]; exact ⟨true, rfl, by simp; exact .here h1⟩
    · rw [if_neg h1]
      by_cases h2 : atv m plug v < 0
      · rw [if_pos h2]
        exact ⟨false, rfl, by simp; exact fun h => by rcases h.inv with h | h; exact h1 h; exact absurd h.1 (by omega)⟩
      · have h3 := hr1 (atv m plug v) ((mem_labs g).2 (atv_lab hp (by omega)))
        have := hd (by omega)
        omega
  | succ d ih =>
    intro n v hv hd hn
    rw [scope_tree_reaches, tr_at m plug hv, bind_some']
    by_cases h1 : atv m plug v = lab
    · rw [if_pos h1]; exact ⟨true, rfl, by simp; exact .here h1⟩
    · rw [if_neg h1]
      by_cases h2 : atv m plug v < 0
      · rw [if_pos h2]
        exact ⟨false, rfl, by simp; exact fun h => by rcases h.inv with h | h; exact h1 h; exact absurd h.1 (by omega)⟩
      · rw [if_neg h2]
        have hat : atv m plug v ∈ labs m := (mem_labs g).2 (atv_lab hp (by omega))
        obtain ⟨n, rfl⟩ : ∃ n', n = n' + 1 := ⟨n - 1, by omega⟩
        have hs : ∀ x ∈ m.Rels, x.Label = atv m plug v → ∀ b, qb x = some b → ∃ r, scope_tree_reaches (n + 1) (tr m plug) b lab = some r ∧ (r = true ↔ RB m plug lab b) := by
          intro x hx hl b hb
          obtain ⟨a, ha, hab⟩ := qb_mem hb
          have hbr := g.arg x hx a ha
          rw [hab] at hbr
          refine ih n b hbr (fun h0 => ?_) (by omega)
          have hc : atv m plug b ∈ chil m plug (atv m plug v) := mem_chil.2 ⟨x, hx, hl, a, ha, by rw [hab], h0⟩
          have := hr2 _ hat _ hc
          have := hd (by omega)
          omega
        have := g.nr
        obtain ⟨r, e1, e2⟩ := reaches_L0_eq (n + 1) m g (by omega) plug lab (atv m plug v) _ hs m.Rels (n + 1) 0 rfl (by omega)
        refine ⟨r, e1, e2.trans ⟨fun ⟨x, hx, hl, b, hb, hr⟩ => .down (by omega) hx hl hb hr, fun h => ?_⟩⟩
        rcases h.inv with h | ⟨_, h⟩
        · exact absurd h h1
        · exact h
def Under (m : MRS) (plug : List Int) (a l : Int) : Prop := a ∈ labs m ∧ Reach (chil m plug) a l
def BindAt (m : MRS) (plug : List Int) (i : Nat) (x : EP) : Prop := ∀ b v, qb x = some b → roleOf x [65, 82, 71, 48] = some v → ∀ (k : Nat) (y : EP), m.Rels[k]? = some y → k ≠ i → (∃ a ∈ y.Args, a.Var = v) → ∃ a ∈ x.Args, Under m plug (atv m plug a.Var) y.Label
theorem bound_L0_eq (n : Nat) (m : MRS) (g : Good m) (hn : 1000 ≤ n) (plug : List Int) (hp : ∀ l ∈ plug, isLab m l) (x : EP) (hx : ∀ a ∈ x.Args, 0 ≤ a.Var ∧ a.Var < m.Vars.length) (k : List Int → Option Bool) : ∀ (t : List Arg) (q i : Nat) (out : List Int), x.Args.drop i = t → t.length < q → out.length + 300 * t.length ≤ 100000 →
    ∃ U, scope_tree_bound_L0 n (tr m plug) x k q out i = k (out ++ U) ∧ (∀ l, l ∈ U ↔ ∃ a ∈ t, Under m plug (atv m plug a.Var) l) ∧ U.length ≤ 300 * t.length
  | [], q + 1, i, out, h, _, _ => by
    rw [scope_tree_bound_L0, if_neg (drop_nil' h)]
    exact ⟨[], by simp, by simp, by simp⟩
  | a :: t, q + 1, i, out, h, hq, ho => by
    obtain ⟨h1, h2, h3⟩ := drop_cons h
    simp only [List.length_cons] at hq ho
    obtain ⟨L, e1, hd, hm, hs, _⟩ := below_mem n m g hn plug hp (atv m plug a.Var)
    have hl := nodup_len L (labs m) hd hs
    have := labs_len g; have := g.nr
    rw [scope_tree_bound_L0, if_pos h1, h2, bind_some', tr_at m plug (hx a (List.mem_of_getElem? h2)), bind_some', e1, bind_some', chk_true (by omega)]
    obtain ⟨U, f1, f2, f3⟩ := bound_L0_eq n m g hn plug hp x hx k t q (i + 1) (out ++ L) h3 (by omega) (by simp; omega)
    refine ⟨L ++ U, by rw [f1, List.append_assoc], fun l => ?_, by simp; omega⟩
    rw [List.mem_append, hm, f2]
    simp [Under]
theorem bound_L1_eq (n : Nat) (m : MRS) (g : Good m) (hn : 1000 ≤ n) (plug : List Int) (i0 : Nat) (r : Int × Bool) (U : List Int) (hU : U.length < n) : ∀ (t : List EP) (q i : Nat), m.Rels.drop i = t → t.length < q →
    ∃ b, scope_tree_bound_L1 n (tr m plug) (i0 : Int) r U q i = some b ∧ (b = true ↔ ∀ (k : Nat) (y : EP), i ≤ k → m.Rels[k]? = some y → k ≠ i0 → (∃ a ∈ y.Args, a.Var = r.1) → y.Label ∈ U)
  | [], q + 1, i, h, _ => by
    have := drop_nil' h
    rw [scope_tree_bound_L1, tr_m, if_neg this]
    exact ⟨true, rfl, by simp; exact fun k y hk hy => by have := (List.getElem?_eq_some_iff.1 hy).1; omega⟩
  | x :: t, q + 1, i, h, hq => by
    obtain ⟨h1, h2, h3⟩ := drop_cons h
    simp only [List.length_cons] at hq
    have hx := List.mem_of_getElem? h2
    obtain ⟨b, e1, e2⟩ := bound_L1_eq n m g hn plug i0 r U hU t q (i + 1) h3 (by omega)
    rw [scope_tree_bound_L1, tr_m, if_pos h1, h2, bind_some']
    simp only [jn_def, scope_used_eq n x _ (g.na x hx) hn, bind_some', Contains_int_eq n U _ hU, e1]
    have key : (∀ (k : Nat) (y : EP), i ≤ k → m.Rels[k]? = some y → k ≠ i0 → (∃ a ∈ y.Args, a.Var = r.1) → y.Label ∈ U) ↔ (i ≠ i0 → (∃ a ∈ x.Args, a.Var = r.1) → x.Label ∈ U) ∧ b = true := by
      rw [e2]
      constructor
      · exact fun h => ⟨h i x (Nat.le_refl _) h2, fun k y hk => h k y (by omega)⟩
      · rintro ⟨ha, hb⟩ k y hk hy
        rcases Nat.eq_or_lt_of_le hk with rfl | hk
        · rw [h2] at hy; obtain rfl := Option.some.inj hy; exact ha
        · exact hb k y hk hy
    rw [key]
    by_cases c1 : i = i0
    · subst c1
      exact ⟨b, by simp, by simp⟩
    · have c1' : ¬ (i : Int) = (i0 : Int) := by omega
      by_cases c2 : ∃ a ∈ x.Args, a.Var = r.1
      · by_cases c3 : x.Label ∈ U
        · exact ⟨b, by simp [c1', c2, c3], by simp [c3]⟩
        · exact ⟨false, by simp [c1', c2, c3], by simp [c1, c3]; exact fun h => absurd c2 (by simpa using h)⟩
      · exact ⟨b, by simp only [ne_eq, c1', not_false_eq_true, if_true, c2, decide_false]; simp, by simp [c2]⟩
theorem bound_eq (n : Nat) (m : MRS) (g : Good m) (hn : 10000 ≤ n) (plug : List Int) (hp : ∀ l ∈ plug, isLab m l) (i : Nat) (x : EP) (hx : m.Rels[i]? = some x) : ∃ b, scope_tree_bound n (tr m plug) (i : Int) = some b ∧ (b = true ↔ BindAt m plug i x) := by
  have hm := List.mem_of_getElem? hx
  have hl := g.na x hm
  have := g.nr
  unfold scope_tree_bound
  show ∃ b, (ix m.Rels (i : Int)).bind _ = some b ∧ _
  obtain ⟨r, er, q1, q2⟩ := scope_quantifier_eq n x hl (by omega)
  rw [ix_nat, hx, bind_some', scope_role_eq n x _ hl (by omega), bind_some', er, bind_some']
  simp only [jn_def]
  by_cases h1 : r.2 = true
  · obtain ⟨b, hb⟩ := q1.1 h1
    cases hv : roleOf x [65, 82, 71, 48] with
    | none => exact ⟨true, by simp [h1], by simp; intro _ v _ hv'; rw [hv] at hv'; cases hv'⟩
    | some v =>
      obtain ⟨U, e1, e2, e3⟩ := bound_L0_eq n m g (by omega) plug hp x (g.arg x hm) (fun t_25 => scope_tree_bound_L1 n (tr m plug) (i : Int) (v, true) t_25 n 0) x.Args n 0 [] rfl (by omega) (by simp; omega)
      obtain ⟨c, f1, f2⟩ := bound_L1_eq n m g (by omega) plug i (v, true) ([] ++ U) (by simp; omega) m.Rels n 0 rfl (by omega)
      refine ⟨c, ?_, f2.trans ⟨fun h b' v' hb' hv' k y hy hk ha => ?_, fun h k y _ hy hk ha => ?_⟩⟩
      · simp only [h1, Bool.not_true, Bool.false_eq_true, if_false]
        rw [e1, f1]
      · rw [hv] at hv'
        obtain rfl := Option.some.inj hv'
        exact (e2 _).1 (by simpa using h k y (Nat.zero_le _) hy hk ha)
      · simpa using (e2 _).2 (h b v hb hv k y hy hk ha)
  · refine ⟨true, by simp [h1], by simp; intro b' v' hb'; exact absurd (q1.2 ⟨b', hb'⟩) h1⟩
structure ArgP (m : MRS) (plug : List Int) : Prop where
  len : plug.length = (hols m).length
  lab : ∀ l ∈ plug, l ∈ labs m
  nodup : plug.Nodup
structure ScopeP (m : MRS) (plug : List Int) : Prop where
  con : ∀ c ∈ m.Cons, RB m plug c.Low c.High
  bnd : ∀ (i : Nat) (x : EP), m.Rels[i]? = some x → BindAt m plug i x
def VSpec (m : MRS) (plug : List Int) (e : Int) : Prop := (¬ ArgP m plug ∧ e = 1) ∨ (ArgP m plug ∧ ¬ FormP m plug ∧ e = 13) ∨ (ArgP m plug ∧ FormP m plug ∧ ¬ ScopeP m plug ∧ e = 18) ∨ (ArgP m plug ∧ FormP m plug ∧ ScopeP m plug ∧ e = 0)
theorem VSpec.unique {m : MRS} {plug : List Int} {e f : Int} (h1 : VSpec m plug e) (h2 : VSpec m plug f) : e = f := by
  rcases h1 with ⟨a, rfl⟩ | ⟨a, b, rfl⟩ | ⟨a, b, c, rfl⟩ | ⟨a, b, c, rfl⟩ <;> rcases h2 with ⟨a', rfl⟩ | ⟨a', b', rfl⟩ | ⟨a', b', c', rfl⟩ | ⟨a', b', c', rfl⟩ <;> first | rfl | (exfalso; contradiction)
theorem nodup_take (l : List Int) : l.Nodup ↔ ∀ j x, l[j]? = some x → x ∉ l.take j := by
  unfold List.Nodup
  rw [List.pairwise_iff_getElem]
  constructor
  · intro h j x hj hx
    obtain ⟨hj1, hj2⟩ := List.getElem?_eq_some_iff.1 hj
    obtain ⟨i, hi⟩ := List.getElem?_of_mem hx
    have hi1 := (List.getElem?_eq_some_iff.1 hi).1
    rw [List.length_take] at hi1
    rw [List.getElem?_take_of_lt (by omega), List.getElem?_eq_getElem (by omega)] at hi
    exact h i j (by omega) hj1 (by omega) ((Option.some.inj hi).trans hj2.symm)
  · intro h i j hi hj hij e
    refine h j l[j] (List.getElem?_eq_getElem hj) ?_
    rw [← e]
    exact List.mem_of_getElem? (i := i) (by rw [List.getElem?_take_of_lt hij, List.getElem?_eq_getElem hi])
theorem scope_Valid_L0_eq (n : Nat) (m : MRS) (plug : List Int) (k : Option Int) (hl : (labs m).length < n) (hp : plug.length < n) : ∀ (t : List Int) (q i : Nat), plug.drop i = t → t.length < q →
    ((∀ j x, i ≤ j → plug[j]? = some x → x ∈ labs m ∧ x ∉ plug.take j) ∧ scope_Valid_L0 n plug (labs m) k q i = k) ∨ (¬ (∀ j x, i ≤ j → plug[j]? = some x → x ∈ labs m ∧ x ∉ plug.take j) ∧ scope_Valid_L0 n plug (labs m) k q i = some 1)
  | [], q + 1, i, h, _ => by
    have := drop_nil' h
    rw [scope_Valid_L0, if_neg this]
    exact .inl ⟨fun j x hj hx => by have := (List.getElem?_eq_some_iff.1 hx).1; omega, rfl⟩
  | y :: t, q + 1, i, h, hq => by
    obtain ⟨h1, h2, h3⟩ := drop_cons h
    simp only [List.length_cons] at hq
    rw [scope_Valid_L0, if_pos h1, h2, bind_some']
    simp only [jn_def, Contains_int_eq n (labs m) y hl, Contains_int_eq n (plug.take i) y (by rw [List.length_take]; omega), bind_some']
    rw [chk_true (by omega)]
    by_cases c1 : y ∈ labs m
    · by_cases c2 : y ∈ plug.take i
      · exact .inr ⟨fun h => (h i y (Nat.le_refl _) h2).2 c2, by simp [c1, c2]⟩
      · rcases scope_Valid_L0_eq n m plug k hl hp t q (i + 1) h3 (by omega) with ⟨a, b⟩ | ⟨a, b⟩
        · refine .inl ⟨fun j x hj hx => ?_, by simp [c1, c2, b]⟩
          rcases Nat.eq_or_lt_of_le hj with rfl | hj
          · rw [h2] at hx; obtain rfl := Option.some.inj hx; exact ⟨c1, c2⟩
          · exact a j x hj hx
        · exact .inr ⟨fun h => a fun j x hj hx => h j x (by omega) hx, by simp [c1, c2, b]⟩
    · exact .inr ⟨fun h => c1 (h i y (Nat.le_refl _) h2).1, by simp [c1]⟩
theorem scope_Valid_L1_eq (n : Nat) (m : MRS) (plug : List Int) (k : Option Int) (hr : ∀ c ∈ m.Cons, ∃ r, scope_tree_reaches n (tr m plug) c.High c.Low = some r ∧ (r = true ↔ RB m plug c.Low c.High)) : ∀ (t : List Qeq) (q i : Nat), m.Cons.drop i = t → t.length < q →
    ((∀ c ∈ t, RB m plug c.Low c.High) ∧ scope_Valid_L1 n m (tr m plug) k q i = k) ∨ (¬ (∀ c ∈ t, RB m plug c.Low c.High) ∧ scope_Valid_L1 n m (tr m plug) k q i = some 18)
  | [], q + 1, i, h, _ => by
    rw [scope_Valid_L1, if_neg (drop_nil' h)]
    exact .inl ⟨by simp, rfl⟩
  | c :: t, q + 1, i, h, hq => by
    obtain ⟨h1, h2, h3⟩ := drop_cons h
    simp only [List.length_cons] at hq
    obtain ⟨r, e1, e2⟩ := hr c (List.mem_of_getElem? h2)
    rw [scope_Valid_L1, if_pos h1, h2, bind_some', e1, bind_some']
    by_cases hc : r = true
    · rcases scope_Valid_L1_eq n m plug k hr t q (i + 1) h3 (by omega) with ⟨a, b⟩ | ⟨a, b⟩
      · exact .inl ⟨by simp; exact ⟨e2.1 hc, a⟩, by simp [hc, b]⟩
      · exact .inr ⟨fun h => a fun c hc => h c (by simp [hc]), by simp [hc, b]⟩
    · exact .inr ⟨fun h => hc (e2.2 (h c (by simp))), by simp [hc]⟩
theorem scope_Valid_L2_eq (n : Nat) (m : MRS) (g : Good m) (hn : 10000 ≤ n) (plug : List Int) (hp : ∀ l ∈ plug, isLab m l) : ∀ (t : List EP) (q i : Nat), m.Rels.drop i = t → t.length < q →
    ((∀ (j : Nat) (x : EP), i ≤ j → m.Rels[j]? = some x → BindAt m plug j x) ∧ scope_Valid_L2 n m (tr m plug) q i = some 0) ∨ (¬ (∀ (j : Nat) (x : EP), i ≤ j → m.Rels[j]? = some x → BindAt m plug j x) ∧ scope_Valid_L2 n m (tr m plug) q i = some 18)
  | [], q + 1, i, h, _ => by
    have := drop_nil' h
    rw [scope_Valid_L2, if_neg this]
    exact .inl ⟨fun j x hj hx => by have := (List.getElem?_eq_some_iff.1 hx).1; omega, rfl⟩
  | y :: t, q + 1, i, h, hq => by
    obtain ⟨h1, h2, h3⟩ := drop_cons h
    simp only [List.length_cons] at hq
    have := g.nr
    obtain ⟨r, e1, e2⟩ := bound_eq n m g hn plug hp i y h2
    rw [scope_Valid_L2, if_pos h1, e1, bind_some', chk_true (by omega)]
    by_cases hc : r = true
    · rcases scope_Valid_L2_eq n m g hn plug hp t q (i + 1) h3 (by omega) with ⟨a, b⟩ | ⟨a, b⟩
      · refine .inl ⟨fun j x hj hx => ?_, by simp [hc, b]⟩
        rcases Nat.eq_or_lt_of_le hj with rfl | hj
        · rw [h2] at hx; obtain rfl := Option.some.inj hx; exact e2.1 hc
        · exact a j x hj hx
      · exact .inr ⟨fun h => a fun j x hj hx => h j x (by omega) hx, by simp [hc, b]⟩
    · exact .inr ⟨fun h => hc (e2.2 (h i y (Nat.le_refl _) h2)), by simp [hc]⟩
theorem scope_Valid_eq (n : Nat) (m : MRS) (g : Good m) (hn : 10000 ≤ n) (plug : List Int) : ∃ e, scope_Valid n m plug = some e ∧ VSpec m plug e := by
  have := g.nr; have := g.nc; have := labs_len g; have := hols_len g
  unfold scope_Valid
  rw [scope_Labels_eq n m g (by omega), bind_some', scope_Holes_eq n m g (by omega), bind_some']
  by_cases hlen : plug.length = (hols m).length
  · rw [if_neg (by simp [hlen])]
    simp only [jn_def]
    rcases scope_Valid_L0_eq n m plug ((scope_plugged n m plug).bind fun r40 => (scope_tree_form n r40).bind fun r47 => if (!(r47)) = true then some 13 else scope_Valid_L1 n m r40 (scope_Valid_L2 n m r40 n 0) n 0) (by omega) (by omega) plug n 0 rfl (by omega) with ⟨a, b⟩ | ⟨a, b⟩
    · have hA : ArgP m plug := ⟨hlen, fun l hl => by obtain ⟨j, hj⟩ := List.getElem?_of_mem hl; exact (a j l (Nat.zero_le _) hj).1, (nodup_take plug).2 fun j x hj => (a j x (Nat.zero_le _) hj).2⟩
      have hp : ∀ l ∈ plug, isLab m l := fun l hl => (mem_labs g).1 (hA.lab l hl)
      rw [b, scope_plugged_eq n m g (by omega) plug hlen, bind_some']
      obtain ⟨f, e1, e2⟩ := form_eq n m g (by omega) plug hp
      rw [e1, bind_some']
      by_cases hf : f = true
      · have hF := e2.1 hf
        obtain ⟨rank, hr1, hr2⟩ := hF.rank g hp
        obtain ⟨n', rfl⟩ : ∃ n', n = n' + 1 := ⟨n - 1, by omega⟩
        rw [if_neg (by simp [hf])]
        rcases scope_Valid_L1_eq (n' + 1) m plug (scope_Valid_L2 (n' + 1) m (tr m plug) (n' + 1) 0) (fun c hc => reaches_eq m g plug c.Low rank hp hr1 hr2 300 n' c.High (g.con c hc).1 (fun _ => by omega) (by omega)) m.Cons (n' + 1) 0 rfl (by omega) with ⟨c, d⟩ | ⟨c, d⟩
        · rw [d]
          rcases scope_Valid_L2_eq (n' + 1) m g (by omega) plug hp m.Rels (n' + 1) 0 rfl (by omega) with ⟨p, q⟩ | ⟨p, q⟩
          · exact ⟨0, q, .inr (.inr (.inr ⟨hA, hF, ⟨c, fun i x hx => p i x (Nat.zero_le _) hx⟩, rfl⟩))⟩
          · exact ⟨18, q, .inr (.inr (.inl ⟨hA, hF, fun h => p fun j x _ hx => h.bnd j x hx, rfl⟩))⟩
        · rw [d]
          exact ⟨18, rfl, .inr (.inr (.inl ⟨hA, hF, fun h => c h.con, rfl⟩))⟩
      · rw [if_pos (by simp [hf])]
        exact ⟨13, rfl, .inr (.inl ⟨hA, fun h => hf (e2.2 h), rfl⟩)⟩
    · rw [b]
      refine ⟨1, rfl, .inl ⟨fun h => a fun j x _ hx => ⟨h.lab x (List.mem_of_getElem? hx), (nodup_take plug).1 h.nodup j x hx⟩, rfl⟩⟩
  · rw [if_pos (by simp [hlen])]
    exact ⟨1, rfl, .inl ⟨fun h => hlen h.len, rfl⟩⟩
end Go.Proofs.YtegboboemepifaaGreatDoor

