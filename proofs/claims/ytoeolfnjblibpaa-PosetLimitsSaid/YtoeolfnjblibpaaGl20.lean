/- Own lemmas, twentieth part: a part of a row of one-cell elements that a call of the library's has written over. -/
import Derived.Test.YtoeolfnjblibpaaGl19
namespace Go.Gl
open Go.RowKit Go.Sort Go.Proofs
set_option linter.unusedVariables false
set_option linter.unusedSectionVars false
set_option linter.unusedSimpArgs false
theorem y_wneg {Γ : Ctx} {l : Al Value} {L L1 : Al Ob} {D : Al Fact} {a : Act} {w : World} {P : Program} {x : Operand} {k : IntKind} {m : Int} {t ty : TypeId} {d : Option Tmp} {pos : String} {af : Array Edge} {g : Option (Nat × Bool)} (hS : St Γ l L D a w) (hx : ev l x = some (.int k m)) : Yl P L L1 ⟨d, .unOp .neg t x, ty, pos, af, g⟩ a w (.int k (k.wrap (-m))) := fun w' _ => by
  simp [execOp, hS.fr.eval hx, Op.unary, Op.intArith]
/-- elements of one cell each, written by 'enc' -/
structure One {α : Type} (R : Rep α) (enc : α → Value) : Prop where
  size : R.size = 1
  of : ∀ M w cs x, R.rd M w cs x → cs = [enc x]
theorem One.num (k : IntKind) : One (Rep.num k) (Value.int k) := ⟨rfl, fun _ _ _ _ h => h⟩
theorem One.str : One Rep.str encStr := ⟨rfl, fun _ _ _ _ h => h.1⟩
section
variable {α : Type} [Inhabited α] {R : Rep α} {enc : α → Value}
theorem One.cells (h1 : One R enc) {M : Bs} {w : World} {cs : List Value} {xs : List α} (h : RdAll R M w cs xs) : cs = xs.map enc := by
  have hl : cs.length = xs.length := by rw [h.len, h1.size]; exact Nat.mul_one _
  apply List.ext_getElem?
  intro i
  rw [List.getElem?_map]
  cases hx : xs[i]? with
  | none =>
    rw [List.getElem?_eq_none_iff] at hx
    rw [List.getElem?_eq_none (by omega)]
    rfl
  | some x =>
    have h2 := h1.of _ _ _ _ (h.at_ i x hx)
    rw [h1.size, Nat.mul_one] at h2
    exact take1 h2
theorem One.at (h1 : One R enc) {M : Bs} {w : World} {cs : List Value} {xs : List α} (h : RdAll R M w cs xs) : ∀ x ∈ xs, R.rd M w [enc x] x := fun x hx => by
  obtain ⟨i, hi⟩ := List.getElem?_of_mem hx
  have h2 := h.at_ i x hi
  have h3 := h1.of _ _ _ _ h2
  rw [h3] at h2
  exact h2
theorem One.rd (h1 : One R enc) {M : Bs} {w : World} {xs : List α} (h : ∀ x ∈ xs, R.rd M w [enc x] x) : RdAll R M w (xs.map enc) xs := by
  refine ⟨by rw [List.length_map, h1.size]; exact (Nat.mul_one _).symm, fun i x hx => ?_⟩
  obtain ⟨hi, he⟩ := List.getElem?_eq_some_iff.1 hx
  rw [h1.size, Nat.mul_one, List.drop_eq_getElem_cons (by rw [List.length_map]; exact hi)]
  have := h x (List.mem_of_getElem? hx)
  simpa [he] using this
theorem putCells_off (xs d : List α) (c : Array Value) (off n : Nat) (hn : n = xs.length) (hc : n ≤ c.size) (ht : c.toList.take n = xs.map enc) (hd : off + d.length ≤ n) : (putCells enc off d.toArray c).toList.take n = (xs.take off ++ d ++ xs.drop (off + d.length)).map enc := by
  apply List.ext_getElem?
  intro i
  rw [List.getElem?_take, List.getElem?_map]
  have hcell : ∀ i, i < n → c[i]? = (xs[i]?).map enc := fun i hi => by
    have h2 : (c.toList.take n)[i]? = (xs.map enc)[i]? := by rw [ht]
    rw [List.getElem?_take, if_pos hi, Array.getElem?_toList, List.getElem?_map] at h2
    exact h2
  by_cases hi : i < n
  · rw [if_pos hi]
    have hic : i < c.size := by omega
    unfold putCells
    simp only [Array.getElem?_toList, Array.getElem?_mapIdx, List.size_toArray]
    by_cases h1 : i < off
    · rw [List.getElem?_append_left (by simp; omega), List.getElem?_append_left (by simp; omega), List.getElem?_take_of_lt h1, ← hcell i hi]
      have : ¬ (off ≤ i ∧ i < off + d.length) := by omega
      simp [this]
    · by_cases h2 : i < off + d.length
      · have h3 : off ≤ i ∧ i < off + d.length := by omega
        have h4 : i - off < d.length := by omega
        rw [List.getElem?_append_left (by simp; omega), List.getElem?_append_right (by simp; omega)]
        simp only [List.length_take, h3, and_self, if_true]
        rw [Nat.min_eq_left (by omega), List.getElem?_eq_getElem h4, Array.getElem?_eq_getElem hic]
        simp [h4]
      · have h3 : ¬ (off ≤ i ∧ i < off + d.length) := by omega
        rw [List.getElem?_append_right (by simp; omega), List.getElem?_drop]
        simp only [List.length_append, List.length_take, h3, if_false]
        rw [show off + d.length + (i - (min off xs.length + d.length)) = i by omega, ← hcell i hi]
        simp
  · rw [if_neg hi, List.getElem?_eq_none (by simp; omega)]
    rfl
variable {M C : Bs} {w : World} {A : Option Addr} {n c k j : Nat} {e : TypeId} {x d : List α} {cs : List Value}
theorem rowG_n (h1 : One R enc) (hW : Wd ⟨0, M, C, w⟩ [(k, Ob.row A n c e 1 cs)] [(j, rdF R cs x)] w) : n = x.length := by
  have h' : w.ownsRow 0 e 1 (.slice A n c) n cs := hW.holds k _ (look_same _ _ _)
  have hr : RdAll R _ w cs x := hW.facts j _ (look_same _ _ _)
  have hl := h'.1
  rw [h1.cells hr, List.length_map] at hl
  omega
theorem rowG_some (h1 : One R enc) (hW : Wd ⟨0, M, C, w⟩ [(k, Ob.row A n c e 1 cs)] [(j, rdF R cs x)] w) (hx : x ≠ []) : ∃ b cur, A = some ⟨b, 0, none⟩ ∧ w.heap[b]? = some (.cells cur e (0, 0)) ∧ n ≤ c ∧ c ≤ maxLen ∧ cur.size = c ∧ cur.toList.take n = x.map enc ∧ n = x.length ∧ b < w.heap.size := by
  have h' : w.ownsRow 0 e 1 (.slice A n c) n cs := hW.holds k _ (look_same _ _ _)
  have hr : RdAll R _ w cs x := hW.facts j _ (look_same _ _ _)
  have hn := rowG_n h1 hW
  rcases h'.2 with ⟨hv, h0⟩ | ⟨b, cap, cur, hv, hg, hh, hnc, hcm, hsz, htake⟩
  · subst h0
    exact absurd (List.length_eq_zero_iff.1 hn.symm) hx
  · injection hv with e1 e2 e3
    subst e1; subst e3
    exact ⟨b, cur, rfl, hh, hnc, hcm, by omega, by rw [Nat.mul_one] at htake; rw [htake, h1.cells hr], hn, (Array.getElem?_eq_some_iff.1 hh).1⟩
theorem rowG_holds {b off : Nat} {cur : Array Value} (hh : w.heap[b]? = some (.cells cur e (0, 0))) (hsz : cur.size = c) (hnc : n ≤ c) (ht : cur.toList.take n = x.map enc) (hn : n = x.length) : Holds enc w b off (x.drop off).toArray := by
  intro i hi
  have hi' : off + i < x.length := by simp at hi; omega
  have e1 : cur[off + i]? = some (enc x[off + i]) := by
    have h2 : (cur.toList.take n)[off + i]? = (x.map enc)[off + i]? := by rw [ht]
    rw [List.getElem?_take, if_pos (by omega), Array.getElem?_toList, List.getElem?_map, List.getElem?_eq_getElem hi'] at h2
    exact h2
  refine ⟨?_, ?_⟩
  · unfold World.cell?
    simp only [hh]
    rw [e1]
    have hi2 : i < x.length - off := by omega
    simp [hi2]
  · unfold World.frozen?
    simp [hh]
theorem rowG_wrote (h1 : One R enc) (hW : Wd ⟨0, M, C, w⟩ [(k, Ob.row A n c e 1 cs)] [(j, rdF R cs x)] w) {b : Nat} {cur : Array Value} (hA : A = some ⟨b, 0, none⟩) (hh : w.heap[b]? = some (.cells cur e (0, 0))) (hsz : cur.size = c) (hnc : n ≤ c) (hcm : c ≤ maxLen) (ht : cur.toList.take n = x.map enc) (off q : Nat) (os : Array Obj) (hd : off + d.length ≤ n) (hin : ∀ y ∈ d, y ∈ x) :
    Wd ⟨0, M, C, w⟩ [(k, Ob.row A n c e 1 ((x.take off ++ d ++ x.drop (off + d.length)).map enc))] [(j, rdF R ((x.take off ++ d ++ x.drop (off + d.length)).map enc) (x.take off ++ d ++ x.drop (off + d.length)))] (grow (putRow enc (Sort.ahead w q) b off d.toArray) os) := by
  have hn := rowG_n h1 hW
  have hbl : b < w.heap.size := (Array.getElem?_eq_some_iff.1 hh).1
  have hsize : (putRow enc (Sort.ahead w q) b off d.toArray).heap.size = w.heap.size := by simp [putRow, mapBlock, Sort.ahead]
  have hat : (grow (putRow enc (Sort.ahead w q) b off d.toArray) os).heap[b]? = some (.cells (putCells enc off d.toArray cur) e (0, 0)) := by
    show ((putRow enc (Sort.ahead w q) b off d.toArray).heap ++ os)[b]? = _
    rw [Array.getElem?_append_left (by omega)]
    simp only [putRow, mapBlock, Sort.ahead, Array.getElem?_modify, if_true, hh, Option.map_some, onCells]
  have hk : Keeps (own [(k, Ob.row A n c e 1 cs)]) w (grow (putRow enc (Sort.ahead w q) b off d.toArray) os) := by
    refine ⟨rfl, rfl, rfl, ?_, fun i hi hno => ?_⟩
    · show w.heap.size ≤ ((putRow enc (Sort.ahead w q) b off d.toArray).heap ++ os).size
      rw [Array.size_append, hsize]; omega
    · have hne : b ≠ i := fun h => hno ⟨k, _, look_same _ _ _, ⟨_, hA, h⟩⟩
      show ((putRow enc (Sort.ahead w q) b off d.toArray).heap ++ os)[i]? = _
      rw [Array.getElem?_append_left (by omega)]
      simp only [putRow, mapBlock, Sort.ahead, Array.getElem?_modify, if_neg hne]
  have hr : RdAll R _ w cs x := hW.facts j _ (look_same _ _ _)
  have hst : Wd ⟨0, M, C, w⟩ [(k, Ob.row A n c e 1 ((x.take off ++ d ++ x.drop (off + d.length)).map enc))] [(j, rdF R cs x)] (grow (putRow enc (Sort.ahead w q) b off d.toArray) os) := by
    refine hW.step hk (fun k' o ho => ?_) (fun k1 k2 o1 o2 b' h1 h2 i1 i2 => ?_) (fun b' hb' => ?_)
    · rcases look_cons ho with ⟨rfl, rfl⟩ | ⟨_, ho⟩
      · show World.ownsRow _ 0 e 1 (.slice A n c) n _
        refine ⟨by simp; omega, .inr ⟨b, c, _, by rw [hA], Nat.zero_le _, hat, by omega, hcm, ?_, ?_⟩⟩
        · simp [putCells, hsz]
        · rw [Nat.mul_one]
          exact putCells_off x d cur off n hn (by omega) ht hd
      · cases ho
    · rcases look_cons h1 with ⟨rfl, _⟩ | ⟨_, h1⟩
      · rcases look_cons h2 with ⟨rfl, _⟩ | ⟨_, h2⟩
        · rfl
        · cases h2
      · cases h1
    · obtain ⟨k', o, ho, hi⟩ := hb'
      rcases look_cons ho with ⟨rfl, rfl⟩ | ⟨_, ho⟩
      · exact .inl ⟨_, _, look_same _ _ _, hi⟩
      · cases ho
  have hr2 : RdAll R _ _ cs x := hst.facts j _ (look_same _ _ _)
  exact ⟨hst.kept, hst.holds, hst.apart, hst.mine, hst.old, hst.sep, fun k' f hf => by
    rcases look_cons hf with ⟨rfl, rfl⟩ | ⟨_, hf⟩
    · refine h1.rd (fun y hy => h1.at hr2 y ?_)
      simp only [List.mem_append] at hy
      rcases hy with (hy | hy) | hy
      · exact List.mem_of_mem_take hy
      · exact hin y hy
      · exact List.mem_of_mem_drop hy
    · cases hf⟩
end
end Go.Gl
