/- Own lemmas, seventeenth part: a row of strings that a call of the library's has written over (sorted, compacted). -/
import Derived.Test.YtoeolfnjblibpaaGl16
import Derived.Sort.EncStr
import Derived.Sort.Grow
namespace Go.Gl
open Go.RowKit Go.Sort Go.Proofs
set_option linter.unusedVariables false
set_option linter.unusedSimpArgs false

def strs (l : List (List UInt8)) : List Value := l.map fun x => .string (bs x)
theorem strs_len (l : List (List UInt8)) : (strs l).length = l.length := by simp [strs]
theorem strs_of {M : Bs} {w : World} {cs : List Value} {xs : List (List UInt8)} (h : RdAll Rep.str M w cs xs) : cs = strs xs := by
  have hl : cs.length = xs.length := by rw [h.len]; exact Nat.mul_one _
  apply List.ext_getElem?
  intro i
  unfold strs
  rw [List.getElem?_map]
  cases hx : xs[i]? with
  | none =>
    rw [List.getElem?_eq_none_iff] at hx
    rw [List.getElem?_eq_none (by omega)]
    rfl
  | some x =>
    have h1 := (h.at_ i x hx).1
    have h2 : (cs.drop (i * 1)).take 1 = [.string (bs x)] := h1
    rw [Nat.mul_one] at h2
    exact take1 h2
theorem strs_rd {M : Bs} {w : World} {xs : List (List UInt8)} (h : ∀ x ∈ xs, x.length ≤ 9223372036854775807) : RdAll Rep.str M w (strs xs) xs := by
  refine ⟨by rw [strs_len]; exact (Nat.mul_one _).symm, fun i x hx => ⟨?_, h x (List.mem_of_getElem? hx)⟩⟩
  obtain ⟨hi, he⟩ := List.getElem?_eq_some_iff.1 hx
  show ((strs xs).drop (i * 1)).take 1 = _
  rw [Nat.mul_one, List.drop_eq_getElem_cons (by rw [strs_len]; exact hi)]
  simp [strs, he]
theorem strs_le {M : Bs} {w : World} {cs : List Value} {xs : List (List UInt8)} (h : RdAll Rep.str M w cs xs) : ∀ x ∈ xs, x.length ≤ 9223372036854775807 := fun x hx => by
  obtain ⟨i, hi⟩ := List.getElem?_of_mem hx
  exact (h.at_ i x hi).2
theorem putCells_take (d : List (List UInt8)) (c : Array Value) (m : Nat) (hm : m ≤ d.length) (hd : d.length ≤ c.size) : (putCells encStr 0 d.toArray c).toList.take m = strs (d.take m) := by
  apply List.ext_getElem?
  intro i
  rw [List.getElem?_take]
  unfold strs
  rw [List.getElem?_map, List.getElem?_take]
  split
  · rename_i hi
    have h1 : i < d.length := by omega
    have h2 : i < c.size := by omega
    unfold putCells
    simp only [Array.getElem?_toList, Array.getElem?_mapIdx]
    rw [Array.getElem?_eq_getElem h2, List.getElem?_eq_getElem h1]
    simp [h1, bs]
  · rfl
section
variable {M C : Bs} {w : World} {A : Option Addr} {n c k j : Nat} {e : TypeId} {x d : List (List UInt8)} {cs : List Value}
theorem row_some (hW : Wd ⟨0, M, C, w⟩ [(k, Ob.row A n c e 1 cs)] [(j, rdF Rep.str cs x)] w) (hx : x ≠ []) : ∃ b cur, A = some ⟨b, 0, none⟩ ∧ w.heap[b]? = some (.cells cur e (0, 0)) ∧ n ≤ c ∧ c ≤ maxLen ∧ cur.size = c ∧ cur.toList.take n = cs ∧ n = x.length ∧ cs = strs x := by
  have h' : w.ownsRow 0 e 1 (.slice A n c) n cs := hW.holds k _ (look_same _ _ _)
  have hr : RdAll Rep.str _ w cs x := hW.facts j _ (look_same _ _ _)
  have hcs := strs_of hr
  have hl := h'.1
  have hn : n = x.length := by rw [hcs, strs_len] at hl; omega
  rcases h'.2 with ⟨hv, h0⟩ | ⟨b, cap, cur, hv, hg, hh, hnc, hcm, hsz, htake⟩
  · subst h0
    exact absurd (List.length_eq_zero_iff.1 hn.symm) hx
  · injection hv with h1 h2 h3
    subst h1; subst h3
    exact ⟨b, cur, rfl, hh, hnc, hcm, by omega, by rw [Nat.mul_one] at htake; exact htake, hn, hcs⟩
theorem row_holds (hW : Wd ⟨0, M, C, w⟩ [(k, Ob.row A n c e 1 cs)] [(j, rdF Rep.str cs x)] w) {b : Nat} {cur : Array Value} (hh : w.heap[b]? = some (.cells cur e (0, 0))) (hsz : cur.size = c) (hnc : n ≤ c) (ht : cur.toList.take n = cs) (hn : n = x.length) (hcs : cs = strs x) : Holds encStr w b 0 x.toArray := by
  intro i hi
  have hi' : i < x.length := by simpa using hi
  have h1 : cur[i]? = some (encStr x[i]) := by
    have h2 : (cur.toList.take n)[i]? = (strs x)[i]? := by rw [ht, hcs]
    rw [List.getElem?_take, if_pos (by omega), Array.getElem?_toList] at h2
    rw [h2]
    simp [strs, hi', bs]
  refine ⟨?_, ?_⟩
  · unfold World.cell?
    simp only [hh, Nat.zero_add]
    rw [h1]
    simp [hi']
  · unfold World.frozen?
    simp [hh]
theorem row_wrote (hW : Wd ⟨0, M, C, w⟩ [(k, Ob.row A n c e 1 cs)] [(j, rdF Rep.str cs x)] w) {b : Nat} {cur : Array Value} (hA : A = some ⟨b, 0, none⟩) (hh : w.heap[b]? = some (.cells cur e (0, 0))) (hsz : cur.size = c) (hnc : n ≤ c) (hcm : c ≤ maxLen) (m q : Nat) (os : Array Obj) (hd : d.length = n) (hm : m ≤ n) (hlen : ∀ y ∈ d.take m, y.length ≤ 9223372036854775807) :
    Wd ⟨0, M, C, w⟩ [(k, Ob.row A m c e 1 (strs (d.take m)))] [(j, rdF Rep.str (strs (d.take m)) (d.take m))] (grow (putRow encStr (Sort.ahead w q) b 0 d.toArray) os) := by
  have hbl : b < w.heap.size := (Array.getElem?_eq_some_iff.1 hh).1
  have hsize : (putRow encStr (Sort.ahead w q) b 0 d.toArray).heap.size = w.heap.size := by simp [putRow, mapBlock, Sort.ahead]
  have hat : (grow (putRow encStr (Sort.ahead w q) b 0 d.toArray) os).heap[b]? = some (.cells (putCells encStr 0 d.toArray cur) e (0, 0)) := by
    show ((putRow encStr (Sort.ahead w q) b 0 d.toArray).heap ++ os)[b]? = _
    rw [Array.getElem?_append_left (by omega)]
    simp only [putRow, mapBlock, Sort.ahead, Array.getElem?_modify, if_true, hh, Option.map_some, onCells]
  have hk : Keeps (own [(k, Ob.row A n c e 1 cs)]) w (grow (putRow encStr (Sort.ahead w q) b 0 d.toArray) os) := by
    refine ⟨rfl, rfl, rfl, ?_, fun i hi hno => ?_⟩
    · show w.heap.size ≤ ((putRow encStr (Sort.ahead w q) b 0 d.toArray).heap ++ os).size
      rw [Array.size_append, hsize]; omega
    · have hne : b ≠ i := fun h => hno ⟨k, _, look_same _ _ _, ⟨_, hA, h⟩⟩
      show ((putRow encStr (Sort.ahead w q) b 0 d.toArray).heap ++ os)[i]? = _
      rw [Array.getElem?_append_left (by omega)]
      simp only [putRow, mapBlock, Sort.ahead, Array.getElem?_modify, if_neg hne]
  have hst : Wd ⟨0, M, C, w⟩ [(k, Ob.row A m c e 1 (strs (d.take m)))] [(j, rdF Rep.str cs x)] (grow (putRow encStr (Sort.ahead w q) b 0 d.toArray) os) := by
    refine hW.step hk (fun k' o ho => ?_) (fun k1 k2 o1 o2 b' h1 h2 i1 i2 => ?_) (fun b' hb' => ?_)
    · rcases look_cons ho with ⟨rfl, rfl⟩ | ⟨_, ho⟩
      · show World.ownsRow _ 0 e 1 (.slice A m c) m _
        refine ⟨by rw [strs_len, List.length_take]; omega, .inr ⟨b, c, _, by rw [hA], Nat.zero_le _, hat, by omega, hcm, ?_, ?_⟩⟩
        · simp [putCells, hsz]
        · rw [Nat.mul_one]
          exact putCells_take d cur m (by omega) (by omega)
      · cases ho
    · rcases look_cons h1 with ⟨rfl, _⟩ | ⟨_, h1⟩
      · rcases look_cons h2 with ⟨rfl, _⟩ | ⟨_, h2⟩
        · rfl
        · cases h2
      · cases h1
    · obtain ⟨k', o, ho, hi⟩ := hb'
      rcases look_cons ho with ⟨rfl, rfl⟩ | ⟨_, ho⟩
      · exact .inl ⟨_, _, look_same _ _ _, hi⟩
      · cases ho
  exact ⟨hst.kept, hst.holds, hst.apart, hst.mine, hst.old, hst.sep, fun k' f hf => by
    rcases look_cons hf with ⟨rfl, rfl⟩ | ⟨_, hf⟩
    · exact strs_rd hlen
    · cases hf⟩
end
end Go.Gl
