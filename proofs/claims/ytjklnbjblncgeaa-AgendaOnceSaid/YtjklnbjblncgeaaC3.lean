/- Chapter 31: plain lemmas: the queue that pushes make, and what remains of it. -/
import Derived.Test.YtjklnbjblncgeaaC2
namespace Go.Proofs.Ytjklnbjblncgeaa
open Go.Gl Go.RowKit
set_option linter.unusedVariables false
set_option linter.unusedSimpArgs false

def queue (ts : List Task) : List Queued := ts.zipIdx.map fun y => (y.1, (y.2 : Int))
theorem queue_len (ts : List Task) : (queue ts).length = ts.length := by simp [queue]
theorem queue_get {ts : List Task} {i : Nat} {x : Queued} (h : (queue ts)[i]? = some x) : ts[i]? = some x.1 ∧ x.2 = i := by
  simp only [queue, List.getElem?_map, List.getElem?_zipIdx, Option.map_map, Option.map_eq_some_iff, Function.comp] at h
  obtain ⟨a, h1, rfl⟩ := h
  simp [h1]
theorem queue_succ {ts : List Task} {k : Nat} {x : Task} (h : ts[k]? = some x) : queue (ts.take (k + 1)) = queue (ts.take k) ++ [((x.1, x.2.1, x.2.2.1, x.2.2.2), ((k : Nat) : Int))] := by
  obtain ⟨hk, he⟩ := List.getElem?_eq_some_iff.1 h
  rw [List.take_succ_eq_append_getElem hk, he]
  simp [queue, List.zipIdx_append, Nat.min_eq_left (Nat.le_of_lt hk)]
def Births (qs : List Queued) : Prop := ∀ i x, qs[i]? = some x → x.2 = ((i : Nat) : Int)
theorem births_queue (ts : List Task) : Births (queue ts) := fun i x h => (queue_get h).2
theorem popRest_lt {qs : List Queued} {d i : Nat} (h : i < d) (hd : d < qs.length) : (popRest qs d)[i]? = qs[i]? := by
  unfold popRest
  rw [List.getElem?_append_left (by simp; omega), List.getElem?_take_of_lt h]
theorem popRest_ge {qs : List Queued} {d i : Nat} (h : d ≤ i) (hd : d < qs.length) : (popRest qs d)[i]? = qs[i + 1]? := by
  unfold popRest
  rw [List.getElem?_append_right (by simp; omega), List.getElem?_drop]
  congr 1
  simp
  omega
theorem rest_lt {qs : List Queued} {d i : Nat} {x y : Queued} (hb : Births qs) (h1 : (popRest qs d)[i]? = some x) (h2 : qs[i]? = some y) (he : x = y) (hid : i ≤ d) (hd : d < qs.length) : i + 1 ≤ d := by
  rcases Nat.lt_or_ge i d with h | h
  · exact h
  · obtain rfl : i = d := by omega
    rw [popRest_ge h hd] at h1
    have e1 := hb _ _ h1
    have e2 := hb _ _ h2
    subst he
    omega
theorem rest_ne {qs : List Queued} {d i : Nat} {x y : Queued} (h1 : (popRest qs d)[i]? = some x) (h2 : qs[i]? = some y) (he : ¬ x = y) (hid : i ≤ d) (hd : d < qs.length) : i = d := by
  rcases Nat.lt_or_ge i d with h | h
  · rw [popRest_lt h hd, h2] at h1
    exact absurd (Option.some.inj h1).symm he
  · omega
theorem rest_above {qs : List Queued} {d j : Nat} {x y : Queued} (hj : d ≤ j) (hd : d < qs.length) (h1 : (popRest qs d)[j]? = some x) (h2 : qs[j + 1]? = some y) : x = y := by
  rw [popRest_ge hj hd, h2] at h1
  exact (Option.some.inj h1).symm
end Go.Proofs.Ytjklnbjblncgeaa
