/- Chapter 31: plain lemmas: tasks that wait, as a multiset. -/
import Derived.Test.YtjklnbjblncgeaaC5
import Derived.Test.YtjklnbjblncgeaaGl9
namespace Go.Proofs.Ytjklnbjblncgeaa
open Go.Gl Go.RowKit
set_option linter.unusedVariables false
set_option linter.unusedSimpArgs false

theorem set_perm {α : Type} {x y : α} : ∀ {l : List α} {i : Nat}, l[i]? = some x → (x :: l.set i y).Perm (y :: l)
  | [], i, h => by simp at h
  | a :: t, 0, h => by
    simp at h
    subst h
    exact List.Perm.swap _ _ _
  | a :: t, i + 1, h => by
    have h' : t[i]? = some x := by simpa using h
    have ih := set_perm (y := y) h'
    exact (List.Perm.swap _ _ _).trans ((ih.cons a).trans (List.Perm.swap _ _ _))
theorem cut_perm {α : Type} {x y : α} {ws : List α} {i n : Nat} (hn : ws.length = n) (hi : ws[i]? = some x) (hy : ws[n - 1]? = some y) : (x :: (ws.set i y).take (n - 1)).Perm ws := by
  obtain ⟨h1, e1⟩ := List.getElem?_eq_some_iff.1 hi
  obtain ⟨h2, e2⟩ := List.getElem?_eq_some_iff.1 hy
  have hs : ws = ws.take (n - 1) ++ [y] := by
    have := List.take_succ_eq_append_getElem h2
    rw [e2, show n - 1 + 1 = ws.length by omega, List.take_length] at this
    exact this
  have hyl : (y :: ws.take (n - 1)).Perm ws := by
    conv => rhs; rw [hs]
    exact (List.perm_append_singleton _ _).symm
  rcases (by omega : i = n - 1 ∨ i < n - 1) with rfl | h
  · rw [hi] at hy
    obtain rfl : x = y := Option.some.inj hy
    rw [List.take_set]
    rw [List.set_eq_of_length_le (by simp; omega)]
    exact hyl
  · rw [List.take_set]
    exact (set_perm (l := ws.take (n - 1)) (by rw [List.getElem?_take_of_lt h]; exact hi)).trans hyl
theorem rest_perm {xs : List Queued} {i : Nat} {x : Queued} (h : xs[i]? = some x) : (x :: popRest xs i).Perm xs := by
  obtain ⟨h1, e1⟩ := List.getElem?_eq_some_iff.1 h
  have hs : xs = xs.take i ++ x :: xs.drop (i + 1) := by
    conv => lhs; rw [← List.take_append_drop i xs, List.drop_eq_getElem_cons h1, e1]
  conv => rhs; rw [hs]
  exact List.perm_middle.symm
theorem once_perm {ws : List Task} {xs : List Queued} {i j n : Nat} {x : Queued} {y : Task} (hp : ws.Perm (xs.map (·.1))) (hn : ws.length = n) (hi : ws[i]? = some x.1) (hy : ws[n - 1]? = some y) (hx : xs[j]? = some x) :
    ((ws.set i y).take (n - 1)).Perm ((popRest xs j).map (·.1)) := by
  have h1 := cut_perm hn hi hy
  have h2 := (rest_perm hx).map (·.1)
  have h3 := (h1.trans hp).trans h2.symm
  exact h3.cons_inv
theorem push_perm {ws : List Task} {xs : List Queued} (hp : ws.Perm (xs.map (·.1))) (t : Task) (b : Int) : (ws ++ [t]).Perm ((xs ++ [(t, b)]).map (·.1)) := by
  simpa using hp.append_right [t]
theorem once_mem {ws : List Task} {xs : List Queued} {j : Nat} {x : Queued} (hp : ws.Perm (xs.map (·.1))) (hx : xs[j]? = some x) : (x.1.1, x.1.2.1, x.1.2.2.1, x.1.2.2.2) ∈ ws :=
  hp.mem_iff.2 (List.mem_map.2 ⟨x, List.mem_of_getElem? hx, rfl⟩)
/-- births ascend, below b -/
def BAsc (b : Int) (xs : List Queued) : Prop := xs.Pairwise (fun x y => x.2 < y.2) ∧ ∀ x ∈ xs, x.2 < b
theorem BAsc.push {b : Int} {xs : List Queued} (h : BAsc b xs) (t : Task) : BAsc (b + 1) (xs ++ [(t, b)]) := by
  refine ⟨List.pairwise_append.2 ⟨h.1, List.pairwise_singleton _ _, fun x hx y hy => ?_⟩, fun x hx => ?_⟩
  · simp at hy
    subst hy
    exact h.2 x hx
  · rcases List.mem_append.1 hx with hx | hx
    · have := h.2 x hx; omega
    · simp at hx
      subst hx
      show b < b + 1
      omega
theorem BAsc.pushN {n : Nat} {xs : List Queued} (h : BAsc ((n : Nat) : Int) xs) (t : Task) : BAsc ((n + 1 : Nat) : Int) (xs ++ [(t, ((n : Nat) : Int))]) := by
  have := h.push t
  rwa [show ((n : Nat) : Int) + 1 = ((n + 1 : Nat) : Int) by omega] at this
theorem BAsc.rest {b : Int} {xs : List Queued} (h : BAsc b xs) (i : Nat) : BAsc b (popRest xs i) :=
  ⟨List.Pairwise.sublist (popRest_sub xs i) h.1, fun x hx => h.2 x ((popRest_sub xs i).subset hx)⟩
theorem BAsc.lt {b : Int} {xs : List Queued} (h : BAsc b xs) {i j : Nat} {x y : Queued} (hi : xs[i]? = some x) (hj : xs[j]? = some y) (hij : i < j) : x.2 < y.2 := by
  obtain ⟨h1, rfl⟩ := List.getElem?_eq_some_iff.1 hi
  obtain ⟨h2, rfl⟩ := List.getElem?_eq_some_iff.1 hj
  exact List.pairwise_iff_getElem.1 h.1 i j h1 h2 hij
theorem bAsc_nil : BAsc ((0 : Nat) : Int) [] := ⟨List.Pairwise.nil, fun x h => by cases h⟩
end Go.Proofs.Ytjklnbjblncgeaa
