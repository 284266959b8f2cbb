/- Chapter 31: plain lemmas: the order in which the policies pop. -/
import Derived.Test.YtjklnbjblncgeaaC4
namespace Go.Proofs.Ytjklnbjblncgeaa
open Go.Gl Go.RowKit
set_option linter.unusedVariables false
set_option linter.unusedSimpArgs false

def oq (ps : List Int) : List Queued := ps.zipIdx.map fun y => (((y.2 : Int), 0, 0, y.1), (y.2 : Int))
theorem oq_succ {ps : List Int} {k : Nat} {x : Int} (h : ps[k]? = some x) : oq (ps.take (k + 1)) = oq (ps.take k) ++ [((((k : Nat) : Int), 0, 0, x), ((k : Nat) : Int))] := by
  obtain ⟨hk, he⟩ := List.getElem?_eq_some_iff.1 h
  rw [List.take_succ_eq_append_getElem hk, he]
  simp [oq, List.zipIdx_append, Nat.min_eq_left (Nat.le_of_lt hk)]
def Asc (xs : List Queued) : Prop := xs.Pairwise fun x y => x.1.1 < y.1.1
theorem Asc.lt {xs : List Queued} (h : Asc xs) {i j : Nat} {x y : Queued} (hi : xs[i]? = some x) (hj : xs[j]? = some y) (hij : i < j) : x.1.1 < y.1.1 := by
  obtain ⟨h1, rfl⟩ := List.getElem?_eq_some_iff.1 hi
  obtain ⟨h2, rfl⟩ := List.getElem?_eq_some_iff.1 hj
  exact List.pairwise_iff_getElem.1 h i j h1 h2 hij
theorem asc_oq (ps : List Int) : Asc (oq ps) := by
  refine List.pairwise_iff_getElem.2 fun i j hi hj hij => ?_
  simp [oq]
  omega
theorem popRest_sub (xs : List Queued) (i : Nat) : (popRest xs i).Sublist xs := by
  have h : (xs.take i ++ xs.drop (i + 1)).Sublist (xs.take i ++ xs.drop i) := by
    refine List.Sublist.append (List.Sublist.refl _) ?_
    rw [← List.drop_drop]
    exact List.drop_sublist _ _
  rwa [List.take_append_drop] at h
theorem Asc.rest {xs : List Queued} (h : Asc xs) (i : Nat) : Asc (popRest xs i) := List.Pairwise.sublist (popRest_sub xs i) h
theorem mem_popRest {xs : List Queued} {i : Nat} {y : Queued} (hi : i < xs.length) (h : y ∈ popRest xs i) : ∃ j, j ≠ i ∧ xs[j]? = some y := by
  obtain ⟨k, hk⟩ := List.getElem?_of_mem h
  rcases Nat.lt_or_ge k i with h1 | h1
  · exact ⟨k, by omega, by rw [← popRest_lt h1 hi]; exact hk⟩
  · exact ⟨k + 1, by omega, by rw [← popRest_ge h1 hi]; exact hk⟩
theorem bestUp_min (xs : List Queued) : ∀ n, (∀ j, j < n → prioAt xs (bestUp xs n) ≤ prioAt xs j) ∧ ∀ j, j < bestUp xs n → prioAt xs (bestUp xs n) < prioAt xs j
  | 0 => ⟨fun j h => by omega, fun j h => by simp [bestUp] at h⟩
  | n + 1 => by
    obtain ⟨h1, h2⟩ := bestUp_min xs n
    have hle := bestUp_le xs n
    unfold bestUp
    split
    · rename_i hlt
      refine ⟨fun j hj => ?_, fun j hj => ?_⟩
      · rcases (by omega : j < n ∨ j = n) with h | rfl
        · have := h1 j h; omega
        · exact Int.le_refl _
      · have := h1 j hj; omega
    · rename_i hlt
      refine ⟨fun j hj => ?_, fun j hj => h2 j hj⟩
      rcases (by omega : j < n ∨ j = n) with h | rfl
      · exact h1 j h
      · omega
/-- y may be popped behind x -/
def Behind (p : Int) (x y : Task) : Prop := (p = 0 → x.1 < y.1) ∧ (p = 1 → y.1 < x.1) ∧ (p = 2 → x.2.2.2 < y.2.2.2 ∨ x.2.2.2 = y.2.2.2 ∧ x.1 < y.1)
theorem pop_behind {p s : Int} {xs : List Queued} {x : Queued} (ha : Asc xs) (hn : 0 < xs.length) (hx : xs[popIdx p s xs]? = some x) : ∀ y ∈ popRest xs (popIdx p s xs), Behind p x.1 y.1 := by
  intro y hym
  have hi := popIdx_lt p s xs hn
  obtain ⟨j, hj, hy⟩ := mem_popRest hi hym
  clear hym
  have hjl := (List.getElem?_eq_some_iff.1 hy).1
  refine ⟨?_, ?_, ?_⟩
  · rintro rfl
    exact ha.lt hx hy (by simp [popIdx] at hj ⊢; omega)
  · rintro rfl
    exact ha.lt hy hx (by simp [popIdx] at hj ⊢; omega)
  · rintro rfl
    have hm := bestUp_min xs xs.length
    have e : popIdx 2 s xs = bestUp xs xs.length := by simp [popIdx]
    rw [e] at hx hj
    have h1 := hm.1 j hjl
    rw [prioAt_of hx, prioAt_of hy] at h1
    rcases Nat.lt_or_ge j (bestUp xs xs.length) with h | h
    · have h2 := hm.2 j h
      rw [prioAt_of hx, prioAt_of hy] at h2
      exact .inl h2
    · have h3 := ha.lt hx hy (by omega)
      omega
theorem ord_cases {p : Int} {first : Bool} {la : Task} {xs : List Queued} {x : Queued} {i : Nat} (hp : 0 ≤ p ∧ p ≤ 2) (hf : first = false → ∀ y ∈ xs, Behind p la y.1) (hx : xs[i]? = some x) :
    first = true ∨ (first = false ∧ p = 0 ∧ la.1 < x.1.1) ∨ (first = false ∧ p = 1 ∧ x.1.1 < la.1) ∨ (first = false ∧ p = 2 ∧ la.2.2.2 < x.1.2.2.2) ∨ (first = false ∧ p = 2 ∧ la.2.2.2 = x.1.2.2.2 ∧ la.1 < x.1.1) := by
  cases first with
  | true => exact .inl rfl
  | false =>
    have hb := hf rfl x (List.mem_of_getElem? hx)
    rcases (by omega : p = 0 ∨ p = 1 ∨ p = 2) with rfl | rfl | rfl
    · exact .inr (.inl ⟨rfl, rfl, hb.1 rfl⟩)
    · exact .inr (.inr (.inl ⟨rfl, rfl, hb.2.1 rfl⟩))
    · rcases hb.2.2 rfl with h | h
      · exact .inr (.inr (.inr (.inl ⟨rfl, rfl, h⟩)))
      · exact .inr (.inr (.inr (.inr ⟨rfl, rfl, h⟩)))
theorem opens47 : Opens Try.prog 47 (Rep.int .i8) := Opens.int Try.underlying47 (by kernel_rfl)
end Go.Proofs.Ytjklnbjblncgeaa
