/- The laws of scope trees -/
import Derived.Test.YtegboboemepifaaGreatDoorB0
import Derived.Test.YtegboboemepifaaGreatDoorB7
import Derived.Test.YtegboboemepifaaGreatDoorC4
namespace Go.Proofs.YtegboboemepifaaGreatDoor
open Go.Gl
set_option linter.unusedVariables false
set_option linter.unusedSimpArgs false
theorem valid41 (m : MRS) : ∃ b, law41_valid 100000 m = some b ∧ (b = true → Good m ∧ Small m) := by
  unfold law41_valid
  obtain ⟨l, h1, h2⟩ := Light_tot 100000 m 8 (by decide) (by decide)
  rw [h1, bind_some']
  by_cases hl : l = true
  · obtain ⟨hs, _, _⟩ := h2 hl
    obtain ⟨e, h3, h4⟩ := Check_tot 100000 m hs (by decide)
    rw [if_pos hl, h3, bind_some']
    exact ⟨_, rfl, fun h => ⟨h4 (of_decide_eq_true h), hs⟩⟩
  · rw [if_neg hl]
    exact ⟨false, rfl, by simp⟩
theorem law41_ScopeHandles_true (m : MRS) : law41_ScopeHandles 100000 m = some true := by
  unfold law41_ScopeHandles
  obtain ⟨b, h1, h2⟩ := valid41 m
  rw [h1, bind_some', ex41]
  by_cases hb : b = true
  · obtain ⟨g, _⟩ := h2 hb
    have := hols_len g; have := labs_len g; have := g.nr
    rw [if_neg (by simp [hb]), scope_Holes_eq 100000 m g (by decide), bind_some', r41_Holes_eq 100000 m g (by decide), bind_some', r41_Same_eq 100000 _ _ (by omega), bind_some', if_pos (by simp), scope_Labels_eq 100000 m g (by decide), bind_some', r41_Labels_eq 100000 m g (by decide), bind_some', r41_Same_eq 100000 _ _ (by omega), bind_some', if_pos (by simp)]
    rfl
  · rw [if_pos (by simp [hb])]
    rfl
theorem labelled_L0_eq (n : Nat) (ch : List UInt8) (L hs : List Int) (hh : hs.length ≤ 256) : ∀ (t : List Int) (q i : Nat) (out : List Int), hs.drop i = t → t.length < q → out.length ≤ i → (∀ l ∈ out, l ∈ L) → ∃ o, law41_labelled_L0 n ch L hs q out i = some o ∧ ∀ l ∈ o, l ∈ L
  | [], q + 1, i, out, h, _, _, ho => by
    rw [law41_labelled_L0, if_neg (drop_nil' h)]
    exact ⟨out, rfl, ho⟩
  | x :: t, q + 1, i, out, h, hq, hl, ho => by
    obtain ⟨h1, h2, h3⟩ := drop_cons h
    simp only [List.length_cons] at hq
    rw [law41_labelled_L0, if_pos h1]
    simp only [jn_def]
    have key : ∀ k : Nat, ∃ o, (if (0 : Nat) < L.length then chk (0 < L.length) ((L[k % L.length]?).bind fun x34 => chk (out.length + ([x34]).length ≤ 137438953472) (chk (i + 1 ≤ 9223372036854775807) (law41_labelled_L0 n ch L hs q (out ++ [x34]) (i + 1)))) else chk (i + 1 ≤ 9223372036854775807) (law41_labelled_L0 n ch L hs q out (i + 1))) = some o ∧ ∀ l ∈ o, l ∈ L := by
      intro k
      by_cases hL : 0 < L.length
      · have hk := Nat.mod_lt k hL
        rw [if_pos hL, chk_true hL, List.getElem?_eq_getElem hk, bind_some', chk_true (by simp; omega), chk_true (by omega)]
        exact labelled_L0_eq n ch L hs hh t q (i + 1) _ h3 (by omega) (by simp; omega) (fun l hl' => by
          rcases List.mem_append.1 hl' with h | h
          · exact ho l h
          · rw [List.mem_singleton.1 h]; exact List.getElem_mem hk)
      · rw [if_neg hL, chk_true (by omega)]
        exact labelled_L0_eq n ch L hs hh t q (i + 1) _ h3 (by omega) (by omega) ho
    by_cases hi : i < ch.length
    · rw [if_pos hi, List.getElem?_eq_getElem hi, bind_some']
      exact key _
    · rw [if_neg hi]
      exact key 0
theorem scope_Below_eq (n : Nat) (m : MRS) (g : Good m) (hn : 1000 ≤ n) (plug : List Int) (hp : ∀ l ∈ plug, isLab m l) (hl : plug.length = (hols m).length) (a : Int) : ∃ L, scope_Below n m plug a = some L ∧ L.Nodup ∧ (∀ l, l ∈ L ↔ a ∈ labs m ∧ Reach (chil m plug) a l) ∧ (∀ l ∈ L, l ∈ labs m) ∧ L.Pairwise (· ≤ ·) := by
  obtain ⟨L, e, h⟩ := below_mem n m g hn plug hp a
  refine ⟨L, ?_, h⟩
  unfold scope_Below
  rw [scope_plugged_eq n m g hn plug hl, bind_some', e]
  rfl
theorem law41_ScopeBelow_true (m : MRS) (ch : List UInt8) (a : Int) : law41_ScopeBelow 100000 m ch a = some true := by
  unfold law41_ScopeBelow
  obtain ⟨b, h1, h2⟩ := valid41 m
  rw [h1, bind_some', ex41]
  by_cases hb : b = true
  · obtain ⟨g, _⟩ := h2 hb
    have hhl := hols_len g; have hll := labs_len g; have hnr := g.nr
    rw [if_neg (by simp [hb])]
    obtain ⟨o, e1, e2⟩ := labelled_L0_eq 100000 ch (labs m) (hols m) hhl (hols m) 100000 0 [] rfl (by omega) (by simp) (by simp)
    have e1' : law41_labelled 100000 m ch = some o := by
      unfold law41_labelled
      rw [r41_Labels_eq 100000 m g (by decide), bind_some', r41_Holes_eq 100000 m g (by decide), bind_some', e1]
    rw [e1', bind_some', r41_Holes_eq 100000 m g (by decide), bind_some']
    by_cases hlen : o.length = (hols m).length
    · have hp : ∀ l ∈ o, isLab m l := fun l hl => (mem_labs g).1 (e2 l hl)
      obtain ⟨L, f1, f2, f3, f4, f5⟩ := scope_Below_eq 100000 m g (by decide) o hp hlen a
      obtain ⟨L', g1, g2, g3, g4, g5⟩ := r41_Below_mem 100000 m g (by decide) o hp hlen a
      obtain rfl := Below_same (m := m) f2 f3 f5 g2 g3 g5
      have := nodup_len L (labs m) f2 f4
      rw [if_neg (by simp [hlen]), f1, bind_some', g1, bind_some', r41_Same_eq 100000 _ _ (by omega), bind_some', if_pos (by simp)]
      rfl
    · rw [if_pos hlen]
      rfl
  · rw [if_pos (by simp [hb])]
    rfl
theorem law41_ScopeValid_true (m : MRS) (plug : List Int) : law41_ScopeValid 100000 m plug = some true := by
  unfold law41_ScopeValid
  obtain ⟨b, h1, h2⟩ := valid41 m
  simp only [jn_def]
  rw [h1, bind_some', ex41]
  by_cases hb : b = true
  · obtain ⟨g, _⟩ := h2 hb
    rw [if_neg (by simp [hb])]
    by_cases hp : 20 < plug.length
    · rw [if_pos (by simp [hp])]
      rfl
    · obtain ⟨e, e1, e2⟩ := scope_Valid_eq 100000 m g (by decide) plug
      obtain ⟨f, f1, f2⟩ := r41_Valid_eq 100000 m g (by decide) plug
      obtain rfl := e2.unique f2
      rw [if_neg (by simp [hp]), e1, bind_some', f1, bind_some', if_pos rfl]
      rfl
  · rw [if_pos (by simp [hb])]
    rfl
theorem Constraints_L0_eq (n : Nat) (m : MRS) (g : Small m) (k : List Qeq → Option Bool) : ∀ (j q i : Nat) (out : List Qeq), i + j = m.Cons.length → j < q → out.length ≤ i → law41_ScopeConstraints_L0 n m k q i out = k (out ++ (m.Cons.take j).reverse)
  | 0, q + 1, i, out, h, _, _ => by
    rw [law41_ScopeConstraints_L0, if_neg (by omega)]
    simp
  | j + 1, q + 1, i, out, h, hq, ho => by
    have := g.nc
    have hj : j < m.Cons.length := by omega
    rw [law41_ScopeConstraints_L0, if_pos (by omega), chk_true (by omega), show ((((m.Cons.length : Nat) : Int) - 1) - ((i : Nat) : Int)) = ((j : Nat) : Int) by omega, ix_nat, List.getElem?_eq_getElem hj, bind_some', chk_true (by simp; omega), Constraints_L0_eq n m g k j q (i + 1) _ (by omega) (by omega) (by simp; omega)]
    have e : (m.Cons.take (j + 1)).reverse = m.Cons[j] :: (m.Cons.take j).reverse := by
      rw [List.take_add_one, List.getElem?_eq_getElem hj]
      simp only [Option.toList_some, List.reverse_append, List.reverse_cons, List.reverse_nil, List.nil_append, List.cons_append]
    rw [e, List.append_assoc]
    rfl
theorem VSpec.cons {m : MRS} {c : List Qeq} (h1 : ∀ x ∈ c, x ∈ m.Cons) (h2 : ∀ x ∈ m.Cons, x ∈ c) {plug : List Int} {e : Int} (h : VSpec (withCons m c) plug e) : VSpec m plug e := by
  have hS : ScopeP (withCons m c) plug ↔ ScopeP m plug := ⟨ScopeP.cons' h2, ScopeP.cons h1⟩
  unfold VSpec at h ⊢
  rw [ArgP.cons c, FormP.cons c, hS] at h
  exact h
theorem law41_ScopeConstraints_true (m : MRS) (plug : List Int) : law41_ScopeConstraints 100000 m plug = some true := by
  unfold law41_ScopeConstraints
  obtain ⟨b, h1, h2⟩ := valid41 m
  simp only [jn_def]
  rw [h1, bind_some', ex41]
  by_cases hb : b = true
  · obtain ⟨g, hs⟩ := h2 hb
    have hnc := hs.nc
    rw [if_neg (by simp [hb])]
    by_cases hp : 20 < plug.length
    · rw [if_pos (by simp [hp])]
      rfl
    · rw [if_neg (by simp [hp]), Constraints_L0_eq 100000 m hs _ m.Cons.length 100000 0 [] (by omega) (by omega) (by simp)]
      have e0 : [] ++ (m.Cons.take m.Cons.length).reverse = m.Cons.reverse := by simp
      rw [e0]
      show ((r39_Check 100000 (withCons m m.Cons.reverse)).bind _) = _
      obtain ⟨e, h3, h4⟩ := Check_tot 100000 (withCons m m.Cons.reverse) (hs.cons (by simp; omega)) (by decide)
      rw [h3, bind_some']
      by_cases he : e = 0
      · obtain ⟨x, x1, x2⟩ := scope_Valid_eq 100000 m g (by decide) plug
        obtain ⟨y, y1, y2⟩ := scope_Valid_eq 100000 (withCons m m.Cons.reverse) (h4 he) (by decide) plug
        obtain rfl := (VSpec.cons (fun x hx => List.mem_reverse.1 hx) (fun x hx => List.mem_reverse.2 hx) y2).unique x2
        rw [if_neg (by simp [he])]
        show ((scope_Valid 100000 (withCons m m.Cons.reverse) plug).bind _) = _
        rw [y1, bind_some', x1, bind_some', if_pos rfl]
        rfl
      · rw [if_pos he]
        rfl
  · rw [if_pos (by simp [hb])]
    rfl
theorem Trees_L0_eq (n : Nat) (m : MRS) (plug hs : List Int) (hp : plug.length = hs.length) (k : Int → Option Bool) : ∀ (t : List Int) (q i : Nat) (r : Int), hs.drop i = t → t.length < q → t.Nodup → law41_ScopeTrees_L0 n m plug hs k q r i = k (((t.zip (plug.drop i)).lookup m.Top).getD r)
  | [], q + 1, i, r, h, _, _ => by
    rw [law41_ScopeTrees_L0, if_neg (drop_nil' h)]
    simp
  | x :: t, q + 1, i, r, h, hq, hd => by
    obtain ⟨h1, h2, h3⟩ := drop_cons h
    obtain ⟨y, hy⟩ : ∃ y, plug[i]? = some y := ⟨_, List.getElem?_eq_getElem (by omega)⟩
    have hdr : plug.drop i = y :: plug.drop (i + 1) := by
      have := List.drop_eq_getElem_cons (l := plug) (i := i) (by omega)
      rw [this, ← (List.getElem?_eq_some_iff.1 hy).2]
    have ih := fun r' => Trees_L0_eq n m plug hs hp k t q (i + 1) r' h3 (by simpa using hq) (List.nodup_cons.1 hd).2
    rw [law41_ScopeTrees_L0, if_pos h1, h2, bind_some', hy, bind_some', hdr, List.zip_cons_cons, List.lookup_cons, ih, ih]
    by_cases hx : x = m.Top
    · have e1 : (m.Top == x) = true := by simp [hx]
      rw [if_pos hx, e1, lookup_none t _ (by rw [← hx]; exact (List.nodup_cons.1 hd).1)]
      rfl
    · have e1 : (m.Top == x) = false := by simpa using fun e => hx e.symm
      rw [if_neg hx, e1]
theorem Trees_L3_eq (n : Nat) (a : Int) (k : Bool → Option Bool) (x : EP) : ∀ (t : List Arg) (q i : Nat) (b : Bool), x.Args.drop i = t → t.length < q → law41_ScopeTrees_L3 n a k x q b i = k (b || decide (∃ c ∈ t, c.Var = a))
  | [], q + 1, i, b, h, _ => by
    rw [law41_ScopeTrees_L3, if_neg (drop_nil' h)]
    simp
  | c :: t, q + 1, i, b, h, hq => by
    obtain ⟨h1, h2, h3⟩ := drop_cons h
    simp only [List.length_cons] at hq
    rw [law41_ScopeTrees_L3, if_pos h1, h2, bind_some']
    cases b with
    | true => rw [if_pos rfl, Trees_L3_eq n a k x t q (i + 1) true h3 (by omega)]; simp
    | false =>
      rw [if_neg (by simp), Trees_L3_eq n a k x t q (i + 1) _ h3 (by omega)]
      by_cases hc : c.Var = a
      · simp [hc]
      · simp [hc]
theorem Trees_L2_eq (n : Nat) (m : MRS) (g : Good m) (hn : 1000 ≤ n) (a : Int) (k : Bool → Option Bool) : ∀ (t : List EP) (q i : Nat) (b : Bool), m.Rels.drop i = t → t.length < q → law41_ScopeTrees_L2 n m a k q b i = k (b || decide (∃ x ∈ t, ∃ c ∈ x.Args, c.Var = a))
  | [], q + 1, i, b, h, _ => by
    rw [law41_ScopeTrees_L2, if_neg (drop_nil' h)]
    simp
  | x :: t, q + 1, i, b, h, hq => by
    obtain ⟨h1, h2, h3⟩ := drop_cons h
    simp only [List.length_cons] at hq
    have hx := g.na x (List.mem_of_getElem? h2)
    rw [law41_ScopeTrees_L2, if_pos h1]
    simp only [jn_def, h2, bind_some']
    rw [Trees_L3_eq n a _ x x.Args n 0 b rfl (by omega), Trees_L2_eq n m g hn a k t q (i + 1) _ h3 (by omega)]
    congr 1
    rw [Bool.or_assoc]
    congr 1
    rw [← Bool.decide_or, decide_eq_decide]
    simp only [List.mem_cons, exists_eq_or_imp]
theorem Reach.rank {ch : Int → List Int} {S : List Int} {rank : Int → Nat} (hs : ∀ x ∈ S, ∀ y ∈ ch x, y ∈ S) (hr : ∀ x ∈ S, ∀ y ∈ ch x, rank x < rank y) {a b : Int} (ha : a ∈ S) (h : Reach ch a b) : b ∈ S ∧ (a = b ∨ rank a < rank b) := by
  induction h with
  | refl => exact ⟨ha, .inl rfl⟩
  | step _ hc ih =>
    refine ⟨hs _ ih.1 _ hc, .inr ?_⟩
    have := hr _ ih.1 _ hc
    rcases ih.2 with h | h
    · rw [h]; exact this
    · omega
theorem Trees_L4_eq (n : Nat) (m : MRS) (g : Good m) (hn : 1000 ≤ n) (plug : List Int) (hA : ArgP m plug) (hF : FormP m plug) (k : Option Bool) (a : Int) : ∀ (t : List Int) (q i : Nat), (labs m).drop i = t → t.length < q → law41_ScopeTrees_L4 n m plug (labs m) k a q i = k
  | [], q + 1, i, h, _ => by
    rw [law41_ScopeTrees_L4, if_neg (drop_nil' h)]
  | b :: t, q + 1, i, h, hq => by
    obtain ⟨h1, h2, h3⟩ := drop_cons h
    simp only [List.length_cons] at hq
    have hp : ∀ l ∈ plug, isLab m l := fun l hl => (mem_labs g).1 (hA.lab l hl)
    obtain ⟨rank, hr1, hr2⟩ := hF.rank g hp
    have hll := labs_len g; have hnr := g.nr
    obtain ⟨L, f1, f2, f3, f4, _⟩ := scope_Below_eq n m g hn plug hp hA.len a
    obtain ⟨L', g1, g2, g3, g4, _⟩ := scope_Below_eq n m g hn plug hp hA.len b
    have l1 := nodup_len L (labs m) f2 f4
    have l2 := nodup_len L' (labs m) g2 g4
    rw [law41_ScopeTrees_L4, if_pos h1, h2, bind_some']
    simp only [jn_def, f1, g1, bind_some', r41_Has_eq n L b (show L.length < n by omega), r41_Has_eq n L' a (show L'.length < n by omega)]
    have ih := Trees_L4_eq n m g hn plug hA hF k a t q (i + 1) h3 (by omega)
    rw [ih]
    by_cases hab : a = b
    · rw [if_neg (by simp [hab])]
      simp
    · rw [if_pos hab]
      by_cases hb : b ∈ L
      · rw [if_pos (by simp [hb])]
        have ha : ¬ a ∈ L' := fun ha => by
          obtain ⟨x1, x2⟩ := (f3 b).1 hb
          obtain ⟨y1, y2⟩ := (g3 a).1 ha
          have z1 := Reach.rank (fun x _ y hy => chil_lab g hp hy) hr2 x1 x2
          have z2 := Reach.rank (fun x _ y hy => chil_lab g hp hy) hr2 y1 y2
          rcases z1.2 with z | z
          · exact hab z
          · rcases z2.2 with z' | z'
            · exact hab z'.symm
            · omega
        simp [ha]
      · rw [if_neg (by simp [hb])]
        simp
theorem Trees_L1_eq (n : Nat) (m : MRS) (g : Good m) (hn : 1000 ≤ n) (plug : List Int) (hpl : plug.length ≤ 20) (hA : ArgP m plug) (hF : FormP m plug) (k : Option Bool) : ∀ (t : List Int) (q i : Nat), (labs m).drop i = t → t.length < q → law41_ScopeTrees_L1 n m plug (labs m) k q i = k
  | [], q + 1, i, h, _ => by
    rw [law41_ScopeTrees_L1, if_neg (drop_nil' h)]
  | a :: t, q + 1, i, h, hq => by
    obtain ⟨h1, h2, h3⟩ := drop_cons h
    simp only [List.length_cons] at hq
    have hnr := g.nr; have hll := labs_len g
    have hal := List.mem_of_getElem? h2
    rw [law41_ScopeTrees_L1, if_pos h1]
    simp only [jn_def, h2, bind_some']
    rw [Trees_L2_eq n m g hn a _ m.Rels n 0 _ rfl (by omega), r41_Has_eq n plug a (by omega), bind_some']
    have hv := valid_fre g hA hF a
    have hfr : a ∈ fre m ↔ ¬ isArg m a ∧ a ≠ m.Top := by
      unfold fre
      rw [List.mem_filter, decide_eq_true_eq]
      exact ⟨fun h => h.2, fun h => ⟨hal, h⟩⟩
    have hne : ((decide (a = m.Top) || decide (∃ x ∈ m.Rels, ∃ c ∈ x.Args, c.Var = a)) == decide (a ∈ plug)) = false := by
      by_cases hc : a ∈ plug
      · obtain ⟨x1, x2⟩ := hfr.1 (hv.1 hc)
        have x1' : ¬ ∃ x ∈ m.Rels, ∃ c ∈ x.Args, c.Var = a := x1
        rw [decide_eq_true hc, decide_eq_false x2, decide_eq_false x1']
        rfl
      · rw [decide_eq_false hc]
        have : a = m.Top ∨ ∃ x ∈ m.Rels, ∃ c ∈ x.Args, c.Var = a := by
          apply Decidable.byContradiction
          intro hn
          exact hc (hv.2 (hfr.2 ⟨fun h => hn (.inr h), fun h => hn (.inl h)⟩))
        rw [← Bool.decide_or, decide_eq_true this]
        rfl
    rw [hne, if_neg (by simp), Trees_L4_eq n m g hn plug hA hF _ a (labs m) n 0 rfl (by omega), Trees_L1_eq n m g hn plug hpl hA hF k t q (i + 1) h3 (by omega)]
theorem Trees_main (n : Nat) (hn : 1000 ≤ n) (m : MRS) (g : Good m) (plug : List Int) (hpl : ¬ 20 < plug.length) (hA : ArgP m plug) (hF : FormP m plug) (X : Option Bool) : ((r41_Labels n m).bind fun r28 => (r41_Holes n m).bind fun r31 => jn (fun (t_39 : Int) => (scope_Below n m plug t_39).bind fun r55 => (r41_Same n r55 r28).bind fun r58 => if (!(r58)) = true then some false else jn X (fun k66 => law41_ScopeTrees_L1 n m plug r28 k66 n 0)) (fun k38 => law41_ScopeTrees_L0 n m plug r31 k38 n m.Top 0)) = X := by
  simp only [jn_def]
  have hp : ∀ l ∈ plug, isLab m l := fun l hl => (mem_labs g).1 (hA.lab l hl)
  have hhl := hols_len g; have hll := labs_len g; have hnr := g.nr
  rw [r41_Labels_eq n m g hn, bind_some', r41_Holes_eq n m g hn, bind_some', Trees_L0_eq n m plug (hols m) hA.len _ (hols m) n 0 m.Top rfl (by omega) (hols_nodup m), List.drop_zero]
  have hroot : (((hols m).zip plug).lookup m.Top).getD m.Top = atv m plug m.Top := by
    cases hc : ((hols m).zip plug).lookup m.Top with
    | some l => unfold atv; rw [hc]; rfl
    | none =>
      have h0 := hF.root
      unfold atv at h0 ⊢
      rw [hc] at h0 ⊢
      by_cases hl : isLab m m.Top
      · simp [hl]
      · simp [hl] at h0
  rw [hroot]
  have hrl : atv m plug m.Top ∈ labs m := (mem_labs g).2 (atv_lab hp hF.root)
  obtain ⟨L, f1, f2, f3, f4, f5⟩ := scope_Below_eq n m g hn plug hp hA.len (atv m plug m.Top)
  have hL : L = labs m := by
    rw [below_same f2 f5 (fun _ => true) (fun l => by
      rw [f3]
      exact ⟨fun h => ⟨f4 l ((f3 l).2 h), rfl⟩, fun h => ⟨hrl, hF.all l h.1⟩⟩)]
    simp
  rw [f1, bind_some', hL, r41_Same_eq n _ _ (by omega), bind_some', if_neg (by simp), Trees_L1_eq n m g hn plug (by omega) hA hF _ (labs m) n 0 rfl (by omega)]
theorem law41_ScopeTrees_true (m : MRS) (plug : List Int) : law41_ScopeTrees 100000 m plug = some true := by
  unfold law41_ScopeTrees
  obtain ⟨b, h1, h2⟩ := valid41 m
  rw [jn_def, h1, bind_some']
  by_cases hb : b = true
  · obtain ⟨g, hs⟩ := h2 hb
    rw [if_neg (by simp [hb])]
    by_cases hpl : 20 < plug.length
    · rw [if_pos hpl]
      show (if (true : Bool) = true then (law41_exampleHolds 100000).bind (fun r23 => some r23) else _) = _
      rw [if_pos rfl, ex41]
      rfl
    · obtain ⟨e, e1, e2⟩ := scope_Valid_eq 100000 m g (by decide) plug
      rw [if_neg hpl, e1, bind_some']
      by_cases he : e = 0
      · subst he
        obtain ⟨hA, hF⟩ : ArgP m plug ∧ FormP m plug := by
          rcases e2 with ⟨_, h⟩ | ⟨_, _, h⟩ | ⟨_, _, _, h⟩ | ⟨a, b, c, _⟩
          · cases h
          · cases h
          · cases h
          · exact ⟨a, b⟩
        show (if decide ((0 : Int) ≠ 0) = true then _ else _) = _
        rw [if_neg (by simp), Trees_main 100000 (by decide) m g plug hpl hA hF, ex41]
        rfl
      · show (if decide (e ≠ 0) = true then (law41_exampleHolds 100000).bind (fun r23 => some r23) else _) = _
        rw [if_pos (by simp [he]), ex41]
        rfl
  · rw [if_pos (by simp [hb])]
    show (if (true : Bool) = true then (law41_exampleHolds 100000).bind (fun r23 => some r23) else _) = _
    rw [if_pos rfl, ex41]
    rfl
end Go.Proofs.YtegboboemepifaaGreatDoor

