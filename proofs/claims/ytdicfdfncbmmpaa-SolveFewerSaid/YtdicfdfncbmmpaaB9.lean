/- The laws without the reference -/
import Derived.Test.YtdicfdfncbmmpaaB0
import Derived.Test.YtdicfdfncbmmpaaB7
import Derived.Test.YtdicfdfncbmmpaaB8
namespace Go.Proofs.Ytdicfdfncbmmpaa
open Go.Gl
set_option linter.unusedVariables false
set_option linter.unusedSimpArgs false
/-! the four laws without the reference -/
theorem valid42 (m : MRS) : ∃ b, law42_valid 100000 m = some b ∧ (b = true → Good m ∧ Small m ∧ m.Rels.length ≤ 5) := by
  unfold law42_valid
  obtain ⟨l, h1, h2⟩ := Light_tot 100000 m 5 (by decide) (by decide)
  rw [h1, bind_some']
  by_cases hl : l = true
  · obtain ⟨hs, hr, _⟩ := h2 hl
    obtain ⟨e, h3, h4⟩ := Check_tot 100000 m hs (by decide)
    rw [if_pos hl, h3, bind_some']
    exact ⟨_, rfl, fun h => ⟨h4 (of_decide_eq_true h), hs, by omega⟩⟩
  · rw [if_neg hl]
    exact ⟨false, rfl, by simp⟩
theorem lists_L0_eq (n : Nat) (L : List Int) (hL : L.length ≤ 8) (b : List Int) (hb : b.length ≤ 100) (k : Nat) (hn : 1000 ≤ n) (self : List Int → List Int → Int → Option (List (List Int))) (hs : ∀ x ∈ L, self L (b ++ [x]) ((k : Int) + 1 - 1) = some (lls L k (b ++ [x]))) (hk : k ≤ 6) : ∀ (t : List Int) (q i : Nat) (out : List (List Int)), L.drop i = t → t.length < q → out.length + 300000 * t.length ≤ 10000000 →
    law42_lists_L0 n L b ((k : Int) + 1) self q out i = some (out ++ t.flatMap fun l => if l ∈ b then [] else lls L k (b ++ [l]))
  | [], q + 1, i, out, h, _, _ => by
    rw [law42_lists_L0, if_neg (drop_nil' h)]
    simp
  | x :: t, q + 1, i, out, h, hq, ho => by
    obtain ⟨h1, h2, h3⟩ := drop_cons h
    simp only [List.length_cons] at hq ho
    have hlen : (lls L k (b ++ [x])).length ≤ 262144 := by
      have h4 := lls_len L k (b ++ [x])
      have : L.length ^ k ≤ 262144 := by
        calc L.length ^ k ≤ 8 ^ k := Nat.pow_le_pow_left hL _
          _ ≤ 8 ^ 6 := Nat.pow_le_pow_right (by decide) hk
          _ = 262144 := by decide
      omega
    rw [law42_lists_L0, if_pos h1, h2, bind_some', r41_Has_eq n b x (by omega), bind_some', List.flatMap_cons]
    by_cases hx : x ∈ b
    · rw [if_neg (by simp [hx]), if_pos hx, lists_L0_eq n L hL b hb k hn self hs hk t q (i + 1) out h3 (by omega) (by omega)]
      simp
    · rw [if_pos (by simp [hx]), if_neg hx, chk_true (by omega), chk_true (by simp; omega), chk_true (by omega), hs x (List.mem_of_getElem? h2), bind_some', chk_true (by omega), lists_L0_eq n L hL b hb k hn self hs hk t q (i + 1) _ h3 (by omega) (by simp; omega)]
      simp
theorem lists_eq (L : List Int) (hL : L.length ≤ 8) : ∀ (k n : Nat) (b : List Int), k ≤ 6 → b.length + k ≤ 100 → 1000 + k ≤ n → law42_lists (n + 1) L b (k : Int) = some (lls L k b)
  | 0, n, b, _, _, _ => by
    rw [law42_lists]
    simp [lls]
  | k + 1, n, b, hk, hb, hn => by
    obtain ⟨n, rfl⟩ : ∃ n', n = n' + 1 := ⟨n - 1, by omega⟩
    rw [law42_lists, if_neg (by omega)]
    have hL0 := lists_L0_eq (n + 1) L hL b (by omega) k (by omega) (law42_lists (n + 1)) (fun x _ => by
      rw [show ((k : Int) + 1 - 1) = (k : Int) by omega]
      exact lists_eq L hL k n (b ++ [x]) (by omega) (by simp; omega) (by omega)) (by omega) L (n + 1) 0 [] rfl (by omega) (by simp; omega)
    rw [show (((k + 1 : Nat)) : Int) = (k : Int) + 1 by omega, hL0]
    simp [lls]
theorem Exact_L0_eq (m : MRS) (g : Good m) (r : List (List Int)) (k : List (List Int) → Option Bool) : ∀ (t : List (List Int)) (q i : Nat) (out : List (List Int)), r.drop i = t → t.length < q → out.length + t.length ≤ 10000000 → law42_SolveExact_L0 100000 m r k q out i = k (out ++ t.filter (V m))
  | [], q + 1, i, out, h, _, _ => by
    rw [law42_SolveExact_L0, if_neg (drop_nil' h)]
    simp
  | x :: t, q + 1, i, out, h, hq, ho => by
    obtain ⟨h1, h2, h3⟩ := drop_cons h
    simp only [List.length_cons] at hq ho
    obtain ⟨e, he, _⟩ := scope_Valid_eq 100000 m g (by decide) x
    have hVa : V m x = decide (e = 0) := by
      unfold V
      rw [he]
      simp
    rw [law42_SolveExact_L0, if_pos h1, h2, bind_some', he, bind_some', List.filter_cons, hVa]
    by_cases h0 : e = 0
    · rw [if_pos h0, if_pos (by simp [h0]), chk_true (by simp; omega), Exact_L0_eq m g r k t q (i + 1) _ h3 (by omega) (by simp; omega)]
      simp
    · rw [if_neg h0, if_neg (by simp [h0]), Exact_L0_eq m g r k t q (i + 1) _ h3 (by omega) (by omega)]
theorem law42_SolveExact_true (m : MRS) : law42_SolveExact 100000 m = some true := by
  unfold law42_SolveExact
  obtain ⟨b, h1, h2⟩ := valid42 m
  rw [h1, bind_some', ex42]
  by_cases hb : b = true
  · obtain ⟨g, _, h5⟩ := h2 hb
    rw [if_neg (by simp [hb]), All_eq m g 0 (by decide), bind_some', scope_Holes_eq 100000 m g (by decide), bind_some']
    by_cases h6 : 6 < (hols m).length
    · simp [h6]
    · rw [if_neg h6, if_neg h6, if_neg (by omega)]
      have hll := labs_len g
      have hlen : (lls (labs m) (hols m).length []).length ≤ 15625 := by
        have h4 := lls_len (labs m) (hols m).length []
        have : (labs m).length ^ (hols m).length ≤ 15625 := by
          calc (labs m).length ^ (hols m).length ≤ 5 ^ (hols m).length := Nat.pow_le_pow_left (by omega) _
            _ ≤ 5 ^ 6 := Nat.pow_le_pow_right (by decide) (by omega)
            _ = 15625 := by decide
        omega
      simp only [jn_def, scope_Labels_eq 100000 m g (by decide), bind_some', ne_eq, not_true_eq_false, if_false, Bool.false_eq_true]
      rw [lists_eq (labs m) (by omega) (hols m).length 99999 [] (by omega) (by simp; omega) (by omega), bind_some', Exact_L0_eq m g _ _ (lls (labs m) (hols m).length []) 100000 0 [] rfl (by omega) (by simp; omega)]
      have e : [] ++ (lls (labs m) (hols m).length []).filter (V m) = Rs m := rfl
      rw [e, r42_Same_self 100000 (Rs m) (fun x hx => by have := Rs_plen (by omega) x hx; omega) (by have := Rs_len g (by omega); omega)]
      simp
  · rw [if_pos (by simp [hb])]
    rfl
theorem First_eq (m : MRS) (g : Good m) : solve_First 100000 m = some (if 6 < (hols m).length then (([] : List Int), (7 : Int)) else match Rs m with | [] => (([] : List Int), (18 : Int)) | p :: _ => (p, (0 : Int))) := by
  unfold solve_First
  rw [search_eq m g 1, bind_some']
  by_cases h6 : 6 < (hols m).length
  · simp [h6]
  · simp only [h6, if_false]
    cases hR : Rs m with
    | nil => simp
    | cons p t =>
      by_cases ht : t = []
      · subst ht; simp
      · have : 0 < t.length := List.length_pos_iff.2 ht
        have h1 : (0 : Int) < 1 ∧ (1 : Int) < ((p :: t).length : Int) := ⟨by decide, by simp; omega⟩
        rw [if_pos h1]
        simp
theorem Count_eq (m : MRS) (g : Good m) : solve_Count 100000 m = some (if 6 < (hols m).length then (0, 7) else (((Rs m).length : Int), 0)) := by
  unfold solve_Count
  rw [search_eq m g 0, bind_some']
  by_cases h6 : 6 < (hols m).length
  · simp [h6]
  · simp [h6]
theorem law42_SolveBegins_true (m : MRS) (most : UInt8) : law42_SolveBegins 100000 m most = some true := by
  unfold law42_SolveBegins
  obtain ⟨b, h1, h2⟩ := valid42 m
  rw [h1, bind_some', ex42]
  by_cases hb : b = true
  · obtain ⟨g, _, h5⟩ := h2 hb
    rw [if_neg (by simp [hb]), All_eq m g 0 (by decide), bind_some', chk_true (by omega), All_eq m g ((1 + most.toNat % 10 : Nat) : Int) (by omega), bind_some', First_eq m g, bind_some', Count_eq m g, bind_some']
    generalize hk : 1 + most.toNat % 10 = k
    have hk1 : 1 ≤ k := by omega
    simp only [jn_def]
    by_cases h6 : 6 < (hols m).length
    · simp [h6]
    · simp only [h6, if_false]
      have hlen := Rs_len g (by omega)
      have hpl := Rs_plen (m := m) (by omega)
      have z0 : ¬ ((0 : Int) < 0 ∧ (0 : Int) < ((Rs m).length : Int)) := fun h => by have := h.1; omega
      rw [if_neg z0]
      by_cases hlt : k < (Rs m).length
      · have hif : (0 : Int) < ((k : Nat) : Int) ∧ ((k : Nat) : Int) < ((Rs m).length : Int) := ⟨by omega, by omega⟩
        simp only [if_pos hif]
        have e1 : ((k : Nat) : Int).toNat = k := by omega
        rw [e1]
        have e2 : min k (Rs m).length = k := by omega
        simp only [e2, hlt, decide_true, ne_eq, not_true_eq_false, if_false, Bool.false_eq_true, decide_false, BEq.rfl, Bool.not_true]
        rw [chk_true (by omega), r42_Same_self 100000 ((Rs m).take k) (fun x hx => by have := hpl x (List.mem_of_mem_take hx); omega) (by rw [List.length_take]; omega)]
        simp only [bind_some', Bool.not_true, Bool.false_eq_true, if_false, not_true_eq_false, decide_false]
        cases hR : Rs m with
        | nil => simp
        | cons p t =>
          have hp := hpl p (by rw [hR]; simp)
          simp [r41_Same_eq 100000 p p (by omega)]
      · have hif : ¬ ((0 : Int) < ((k : Nat) : Int) ∧ ((k : Nat) : Int) < ((Rs m).length : Int)) := fun h => by have := h.2; omega
        simp only [if_neg hif]
        have e2 : min k (Rs m).length = (Rs m).length := by omega
        simp only [e2, hlt, decide_false, ne_eq, not_true_eq_false, if_false, Bool.false_eq_true, BEq.rfl, Bool.not_true, List.take_length]
        rw [chk_true (Nat.le_refl _), r42_Same_self 100000 (Rs m) (fun x hx => by have := hpl x hx; omega) (by omega)]
        simp only [bind_some', Bool.not_true, Bool.false_eq_true, if_false, not_true_eq_false, decide_false]
        cases hR : Rs m with
        | nil => simp
        | cons p t =>
          have hp := hpl p (by rw [hR]; simp)
          simp [r41_Same_eq 100000 p p (by omega)]
  · rw [if_pos (by simp [hb])]
    rfl
/-! other constraints -/
def withCons (m : MRS) (c : List Qeq) : MRS := MRS.mk m.Top m.Index m.Vars m.Rels c
theorem RB.cons {m : MRS} (c : List Qeq) {plug : List Int} {lab v : Int} (h : RB m plug lab v) : RB (withCons m c) plug lab v := by
  induction h with
  | here h => exact .here h
  | down h1 h2 h3 h4 _ ih => exact .down h1 h2 h3 h4 ih
theorem RB.cons' {m : MRS} (c : List Qeq) {plug : List Int} {lab v : Int} (h : RB (withCons m c) plug lab v) : RB m plug lab v := by
  induction h with
  | here h => exact .here h
  | down h1 h2 h3 h4 _ ih => exact .down h1 h2 h3 h4 ih
theorem ArgP.cons {m : MRS} (c : List Qeq) {plug : List Int} : ArgP (withCons m c) plug ↔ ArgP m plug := ⟨fun h => ⟨h.len, h.lab, h.nodup⟩, fun h => ⟨h.len, h.lab, h.nodup⟩⟩
theorem FormP.cons {m : MRS} (c : List Qeq) {plug : List Int} : FormP (withCons m c) plug ↔ FormP m plug := ⟨fun h => ⟨h.root, h.all, h.cnt⟩, fun h => ⟨h.root, h.all, h.cnt⟩⟩
theorem ScopeP.cons {m : MRS} {c : List Qeq} (hc : ∀ x ∈ c, x ∈ m.Cons) {plug : List Int} (h : ScopeP m plug) : ScopeP (withCons m c) plug := ⟨fun x hx => (h.con x (hc x hx)).cons c, h.bnd⟩
theorem ScopeP.cons' {m : MRS} {c : List Qeq} (hc : ∀ x ∈ m.Cons, x ∈ c) {plug : List Int} (h : ScopeP (withCons m c) plug) : ScopeP m plug := ⟨fun x hx => (h.con x (hc x hx)).cons' c, h.bnd⟩
theorem OKP.cons {m : MRS} {c : List Qeq} (hc : ∀ x ∈ c, x ∈ m.Cons) {plug : List Int} (h : OKP m plug) : OKP (withCons m c) plug := ⟨(ArgP.cons c).2 h.1, (FormP.cons c).2 h.2.1, h.2.2.cons hc⟩
theorem OKP.cons' {m : MRS} {c : List Qeq} (hc : ∀ x ∈ m.Cons, x ∈ c) {plug : List Int} (h : OKP (withCons m c) plug) : OKP m plug := ⟨(ArgP.cons c).1 h.1, (FormP.cons c).1 h.2.1, h.2.2.cons' hc⟩
theorem Small.cons {m : MRS} (g : Small m) {c : List Qeq} (hc : c.length ≤ 8) : Small (withCons m c) := ⟨g.nv, g.nr, hc, g.na⟩
theorem Orders_L0_eq (n : Nat) (m : MRS) (g : Small m) (k : List Qeq → Option Bool) : ∀ (j q i : Nat) (out : List Qeq), i + j = m.Cons.length → j < q → out.length ≤ i → law42_SolveOrders_L0 n m k q i out = k (out ++ (m.Cons.take j).reverse)
  | 0, q + 1, i, out, h, _, _ => by
    rw [law42_SolveOrders_L0, if_neg (by omega)]
    simp
  | j + 1, q + 1, i, out, h, hq, ho => by
    have := g.nc
    have hj : j < m.Cons.length := by omega
    rw [law42_SolveOrders_L0, if_pos (by omega), chk_true (by omega), show ((((m.Cons.length : Nat) : Int) - 1) - ((i : Nat) : Int)) = ((j : Nat) : Int) by omega, ix_nat, List.getElem?_eq_getElem hj, bind_some', chk_true (by simp; omega), Orders_L0_eq n m g k j q (i + 1) _ (by omega) (by omega) (by simp; omega)]
    have e : (m.Cons.take (j + 1)).reverse = m.Cons[j] :: (m.Cons.take j).reverse := by
      rw [List.take_add_one, List.getElem?_eq_getElem hj]
      simp only [Option.toList_some, List.reverse_append, List.reverse_cons, List.reverse_nil, List.nil_append, List.cons_append]
    rw [e, List.append_assoc]
    rfl
theorem law42_SolveOrders_true (m : MRS) : law42_SolveOrders 100000 m = some true := by
  unfold law42_SolveOrders
  obtain ⟨b, h1, h2⟩ := valid42 m
  rw [h1, bind_some', ex42]
  by_cases hb : b = true
  · obtain ⟨g, hs, h5⟩ := h2 hb
    have hnc := hs.nc
    rw [if_neg (by simp [hb])]
    simp only [jn_def]
    rw [Orders_L0_eq 100000 m hs _ m.Cons.length 100000 0 [] (by omega) (by omega) (by simp)]
    have e0 : [] ++ (m.Cons.take m.Cons.length).reverse = m.Cons.reverse := by simp
    rw [e0]
    show ((r39_Check 100000 (withCons m m.Cons.reverse)).bind _) = _
    obtain ⟨e, h3, h4⟩ := Check_tot 100000 (withCons m m.Cons.reverse) (hs.cons (by simp; omega)) (by decide)
    rw [h3, bind_some']
    by_cases he : e = 0
    · have g' := h4 he
      rw [if_neg (by simp [he]), All_eq m g 0 (by decide), bind_some']
      show ((solve_All 100000 (withCons m m.Cons.reverse) 0).bind _) = _
      rw [All_eq _ g' 0 (by decide), bind_some']
      have eR : Rs (withCons m m.Cons.reverse) = Rs m := by
        have hf : V (withCons m m.Cons.reverse) = V m := by
          funext p
          rw [Bool.eq_iff_iff, V_iff g', V_iff g]
          exact ⟨OKP.cons' (fun x hx => List.mem_reverse.2 hx), OKP.cons (fun x hx => List.mem_reverse.1 hx)⟩
        show (lls (labs m) (hols m).length []).filter (V (withCons m m.Cons.reverse)) = _
        rw [hf]
        rfl
      have eH : hols (withCons m m.Cons.reverse) = hols m := rfl
      rw [eR, eH]
      show (if (if 6 < (hols m).length then (([] : List (List Int)), false, (7 : Int)) else if 0 < (0 : Int) ∧ (0 : Int) < ((Rs m).length : Int) then ((Rs m).take (0 : Int).toNat, true, 0) else (Rs m, false, 0)).2.2 = (if 6 < (hols m).length then (([] : List (List Int)), false, (7 : Int)) else if 0 < (0 : Int) ∧ (0 : Int) < ((Rs m).length : Int) then ((Rs m).take (0 : Int).toNat, true, 0) else (Rs m, false, 0)).2.2 then _ else _) = _
      rw [if_pos rfl]
      by_cases h6 : 6 < (hols m).length
      · simp only [h6, if_true]
        rw [r42_Same_self 100000 [] (by simp) (by simp)]
        rfl
      · have z0 : ¬ ((0 : Int) < 0 ∧ (0 : Int) < ((Rs m).length : Int)) := fun h => by have := h.1; omega
        simp only [h6, if_false, if_neg z0]
        rw [r42_Same_self 100000 (Rs m) (fun x hx => by have := Rs_plen (by omega) x hx; omega) (by have := Rs_len g (by omega); omega)]
        rfl
    · rw [if_pos he]
      rfl
  · rw [if_pos (by simp [hb])]
    rfl
theorem Fewer_L1 (A B : List (List Int) × Bool × Int) (hA : ∀ x ∈ A.1, x.length < 100000) (i : Nat) (x : List Int) (hx : A.1[i]? = some x) (s : List (List Int)) (k : Nat → Option Bool) (hB : B.1.length ≤ 1000000) : ∀ (u : List (List Int)) (q at' : Nat), B.1.drop at' = u → u.length < q → (x :: s).Sublist u → ∃ p, law42_SolveFewer_L1 100000 A B i k q at' = k p ∧ p < B.1.length ∧ s.Sublist (B.1.drop p)
  | [], q, at', h, _, hs => by simp at hs
  | y :: u, q + 1, at', h, hq, hs => by
    obtain ⟨h1, h2, h3⟩ := drop_cons h
    simp only [List.length_cons] at hq
    rw [law42_SolveFewer_L1]
    simp only [jn_def]
    rw [if_pos h1, hx, bind_some', h2, bind_some', r41_Same_eq 100000 x y (hA x (List.mem_of_getElem? hx)), bind_some']
    by_cases hxy : x = y
    · subst hxy
      refine ⟨at', by simp, h1, ?_⟩
      rw [h]
      exact (List.cons_sublist_cons.1 hs).cons _
    · have hs' : (x :: s).Sublist u := by
        cases hs with
        | cons _ h => exact h
        | cons_cons _ h => exact absurd rfl hxy
      obtain ⟨p, e1, e2, e3⟩ := Fewer_L1 A B hA i x hx s k hB u q (at' + 1) h3 (by omega) hs'
      exact ⟨p, by rw [if_pos (by simp [hxy]), chk_true (by omega), e1], e2, e3⟩
theorem Fewer_L0 (A B : List (List Int) × Bool × Int) (hA : ∀ x ∈ A.1, x.length < 100000) (k : Option Bool) (hB : B.1.length ≤ 90000) : ∀ (s : List (List Int)) (q at' i : Nat), A.1.drop i = s → s.length < q → s.Sublist (B.1.drop at') → law42_SolveFewer_L0 100000 A B k q at' i = k
  | [], q + 1, at', i, h, _, _ => by
    rw [law42_SolveFewer_L0, if_neg (drop_nil' h)]
  | x :: s, q + 1, at', i, h, hq, hs => by
    obtain ⟨h1, h2, h3⟩ := drop_cons h
    simp only [List.length_cons] at hq
    rw [law42_SolveFewer_L0, if_pos h1]
    simp only [jn_def]
    obtain ⟨p, e1, e2, e3⟩ := Fewer_L1 A B hA i x h2 s (fun t_65 => if t_65 = B.1.length then some false else law42_SolveFewer_L0 100000 A B k q t_65 (i + 1)) (by omega) (B.1.drop at') 100000 at' rfl (by rw [List.length_drop]; omega) hs
    rw [e1, if_neg (by omega), Fewer_L0 A B hA k hB s q p (i + 1) h3 (by omega) e3]
theorem law42_SolveFewer_true (m : MRS) (leave : UInt8) : law42_SolveFewer 100000 m leave = some true := by
  unfold law42_SolveFewer
  obtain ⟨b, h1, h2⟩ := valid42 m
  simp only [jn_def]
  rw [h1, bind_some', ex42]
  by_cases hb : b = true
  · obtain ⟨g, hs, h5⟩ := h2 hb
    have hnc := hs.nc
    rw [if_neg (by simp [hb])]
    by_cases hc : m.Cons.length = 0
    · rw [if_pos (by simp [hc])]
      rfl
    · have hk := Nat.mod_lt leave.toNat (show 0 < m.Cons.length by omega)
      rw [if_neg (by simp [hc]), chk_true (by omega), chk_true (by omega), chk_true (by rw [List.length_take]; omega), chk_true (by omega), chk_true (by omega), chk_true (by rw [List.length_take, List.length_drop]; omega)]
      generalize hc' : m.Cons.take (leave.toNat % m.Cons.length) ++ m.Cons.drop (leave.toNat % m.Cons.length + 1) = c'
      have hcl : c'.length ≤ 8 := by rw [← hc', List.length_append, List.length_take, List.length_drop]; omega
      have hsub : ∀ x ∈ c', x ∈ m.Cons := fun x hx => by
        rw [← hc'] at hx
        rcases List.mem_append.1 hx with h | h
        · exact List.mem_of_mem_take h
        · exact List.mem_of_mem_drop h
      show ((r39_Check 100000 (withCons m c')).bind _) = _
      obtain ⟨e, h3, h4⟩ := Check_tot 100000 (withCons m c') (hs.cons hcl) (by decide)
      rw [h3, bind_some']
      by_cases he : e = 0
      · have g' := h4 he
        rw [if_neg (by simp [he]), All_eq m g 0 (by decide), bind_some']
        show ((solve_All 100000 (withCons m c') 0).bind _) = _
        rw [All_eq _ g' 0 (by decide), bind_some']
        have z0 : ∀ n : Nat, ¬ ((0 : Int) < 0 ∧ (0 : Int) < (n : Int)) := fun n h => by have := h.1; omega
        have hh : (hols (withCons m c')) = hols m := rfl
        rw [hh]
        by_cases h6 : 6 < (hols m).length
        · simp only [h6, if_true, ne_eq, not_true_eq_false, if_false]
          rw [Fewer_L0 _ _ (by simp) _ (by simp) [] 100000 0 0 rfl (by simp) (by simp)]
          rfl
        · simp only [h6, if_false, z0, ne_eq, not_true_eq_false]
          have hsl : (Rs m).Sublist (Rs (withCons m c')) := by
            have e1 : Rs m = (Rs (withCons m c')).filter (V m) := by
              show _ = ((lls (labs m) (hols m).length []).filter (V (withCons m c'))).filter (V m)
              rw [List.filter_filter]
              unfold Rs
              apply List.filter_congr
              intro p _
              rw [Bool.eq_iff_iff, Bool.and_eq_true, V_iff g', V_iff g]
              exact ⟨fun h => ⟨h, h.cons hsub⟩, fun h => h.1⟩
            rw [e1]
            exact List.filter_sublist
          rw [Fewer_L0 (Rs m, false, 0) (Rs (withCons m c'), false, 0) (fun x hx => by have := Rs_plen (m := m) (by omega) x hx; omega) _ (by have := Rs_len g' (by rw [hh]; omega); show (Rs (withCons m c')).length ≤ _; omega) (Rs m) 100000 0 0 rfl (by have := Rs_len g (by omega); omega) hsl]
          rfl
      · rw [if_pos he]
        rfl
  · rw [if_pos (by simp [hb])]
    rfl
end Go.Proofs.Ytdicfdfncbmmpaa
