/- Own lemmas, ninth part: rows of the call's own that are read and written in place. -/
import Derived.Test.YtoeolfnjblibpaaGl6
namespace Go.Gl
open Go.RowKit
set_option linter.unusedVariables false
set_option linter.unusedSimpArgs false

section
variable {P : Program} {Γ : Ctx} {l : Al Value} {L L1 : Al Ob} {D : Al Fact} {a : Act} {w : World} {d : Option Tmp} {ty : TypeId} {pos : String} {af : Array Edge} {g : Option (Nat × Bool)} {v u : Value} {x y c : Operand} {t t' : TypeId} {k : IntKind} {m : Int} {kk : Nat} {K : Act → World → Prop} {Q : Exit → Act → World → Prop} {α : Type} {R : Rep α} {M : Bs}
theorem rowN {A : Option Addr} {n c sz : Nat} {e : TypeId} {cs : List Value} {xs : List α} (h : (Ob.row A n c e sz cs).holds w) (hr : RdAll R M w cs xs) (hs : R.size = sz) (hpos : Nat.blt 0 sz = true) : xs.length = n := by
  have h' : w.ownsRow 0 e sz (.slice A n c) n cs := h
  have h1 := h'.1
  rw [hr.len, hs] at h1
  exact Nat.eq_of_mul_eq_mul_right (Nat.le_of_ble_eq_true hpos) h1
theorem get_of_lt {xs : List α} {i n : Nat} (hl : xs.length = n) (hi : i < n) : ∃ x, xs[i]? = some x := ⟨_, List.getElem?_eq_getElem (by omega)⟩
theorem splice_len {cs vs : List Value} {o : Nat} (h : o + vs.length ≤ cs.length) : (splice cs o vs).length = cs.length := by
  simp [splice]; omega
theorem splice_get {cs vs : List Value} {o : Nat} (h : o + vs.length ≤ cs.length) (q : Nat) : (splice cs o vs)[q]? = if q < o then cs[q]? else if q < o + vs.length then vs[q - o]? else cs[q]? := by
  unfold splice
  have e1 : (cs.take o).length = o := by simp; omega
  by_cases h1 : q < o
  · rw [if_pos h1, List.append_assoc, List.getElem?_append_left (by omega), List.getElem?_take_of_lt h1]
  · rw [if_neg h1, List.append_assoc, List.getElem?_append_right (by omega), e1]
    by_cases h2 : q < o + vs.length
    · rw [if_pos h2, List.getElem?_append_left (by omega)]
    · rw [if_neg h2, List.getElem?_append_right (by omega), List.getElem?_drop]
      congr 1
      omega
theorem row_put {A : Option Addr} {n c sz b o : Nat} {e : TypeId} {cs vs : List Value} (h : (Ob.row A n c e sz cs).holds w) (hA : A = some ⟨b, 0, none⟩) (hfit : o + vs.length ≤ n * sz) :
    ∃ cur : Array Value, w.heap[b]? = some (.cells cur e (0, 0)) ∧ o + vs.length ≤ cur.size ∧ (Ob.row A n c e sz (splice cs o vs)).holds (w.setRow b (splice cur.toList o vs).toArray) := by
  have h' : w.ownsRow 0 e sz (.slice A n c) n cs := h
  subst hA
  rcases h'.2 with ⟨hv, h0⟩ | ⟨g', cap, cur, hv, hg, hh, hnc, hcm, hcs, htake⟩
  · cases hv
  · injection hv with h1 h2 h3
    injection h1 with h1
    injection h1 with h1
    subst h1; subst h3
    have hle : n * sz ≤ c * sz := Nat.mul_le_mul_right _ hnc
    refine ⟨cur, hh, by omega, ?_, .inr ⟨b, c, (splice cur.toList o vs).toArray, rfl, hg, setRow_heap w b cur _ e _ hh, hnc, hcm, ?_, ?_⟩⟩
    · rw [splice_len (by rw [h'.1]; exact hfit)]
      exact h'.1
    · rw [List.size_toArray, splice_len (by simp; omega)]
      simpa using hcs
    · show (splice cur.toList o vs).take (n * sz) = splice cs o vs
      have hcl : cur.toList.length = c * sz := by simpa using hcs
      rw [← htake]
      refine List.ext_getElem? fun q => ?_
      rw [splice_get (by rw [List.length_take, hcl]; omega)]
      by_cases hq : q < n * sz
      · rw [List.getElem?_take_of_lt hq, splice_get (by rw [hcl]; omega), List.getElem?_take_of_lt hq]
      · rw [if_neg (by omega), if_neg (by omega), List.getElem?_eq_none (by simp; omega), List.getElem?_eq_none (by simp; omega)]
theorem l_storeRow {A : Option Addr} {n c sz b o N : Nat} {e : TypeId} {cs cs' : List Value} (hS : St Γ l L D a w) (kk : Nat) (hx : ev l x = some (.pointer (some ⟨b, o, none⟩))) (hy : ev l y = some v) (hb : look L kk = some (Ob.row A n c e sz cs)) (hA : A = some ⟨b, 0, none⟩)
    (hn : (P.info? t).map (·.size) = some N) (hv : v.cells.size = N) (hfit : o + N ≤ n * sz) (h1 : v.cells.toList.all (·.oneCell') = true) (hcs : splice cs o v.cells.toList = cs')
    (h : ∀ w', Keeps (Ob.row A n c e sz cs).ids w w' → St Γ l ((kk, Ob.row A n c e sz cs') :: L) D a w' → K a w') : Oper.wp P ⟨none, .store t x y, ty, pos, af, g⟩ a w K Q := by
  subst hcs
  obtain ⟨i, hi, hs⟩ := Option.map_eq_some_iff.1 hn
  obtain ⟨cur, hh, hfit', hrow⟩ := row_put (vs := v.cells.toList) (hS.wd.holds kk _ hb) hA (by rw [Array.length_toList, hv]; exact hfit)
  have hst := run_storeCells_at P b o e v.cells.toList 0 cur w hh (by simpa using hfit') (fun q hq => by simpa using List.all_eq_true.1 h1 q hq)
  refine wp_skipped (w' := w.setRow b (splice cur.toList o v.cells.toList).toArray) ?_ ?_
  · simp [execOp, Instr.storeAt, Instr.sureAddr, hS.fr.eval hx, hS.fr.eval hy, storeVar, sizeOf, typeInfo, hi, hs, hv]
    simp at hst
    rw [hst]
    simp [splice]
  · show K a _
    have hk : Keeps (Ob.row A n c e sz cs).ids w (w.setRow b (splice cur.toList o v.cells.toList).toArray) := keeps_setRow w b _ ⟨_, hA, rfl⟩
    exact h _ hk ⟨hS.fr, hS.wd.set hb hk hrow (fun q hq => .inl hq)⟩
theorem RdAll.drop {cs : List Value} {xs : List α} (h : RdAll R M w cs xs) (n : Nat) (hn : n ≤ xs.length) : RdAll R M w (cs.drop (n * R.size)) (xs.drop n) := by
  refine ⟨by rw [List.length_drop, List.length_drop, h.len, Nat.sub_mul], fun i x hx => ?_⟩
  rw [List.getElem?_drop] at hx
  have h1 := h.at_ _ _ hx
  rwa [List.drop_drop, ← Nat.add_mul]
theorem RdAll.put {cs vs : List Value} {xs : List α} {z : α} {i : Nat} (h : RdAll R M w cs xs) (hz : R.rd M w vs z) (hi : i < xs.length) : RdAll R M w (splice cs (i * R.size) vs) (xs.set i z) := by
  have hvl := R.len hz
  have hmul : (i + 1) * R.size ≤ xs.length * R.size := Nat.mul_le_mul_right _ hi
  have hcl := h.len
  rw [Nat.add_mul, Nat.one_mul] at hmul
  have e : xs.set i z = xs.take i ++ [z] ++ xs.drop (i + 1) := by
    rw [List.set_eq_take_append_cons_drop, if_pos hi]
    simp
  have e2 : splice cs (i * R.size) vs = cs.take (i * R.size) ++ vs ++ cs.drop ((i + 1) * R.size) := by
    unfold splice
    rw [hvl, Nat.add_mul, Nat.one_mul]
  rw [e, e2]
  exact ((h.take i (Nat.le_of_lt hi)).append (RdAll.single hz)).append (h.drop (i + 1) hi)
theorem St.lendLt {L' : Al Ob} (hS : St Γ l L D a w) (hL : SubA L' L) : ∀ b, mtb Γ L' b → b < w.heap.size := fun b hb => hS.lt b (mtb_sub hL hb)
end
end Go.Gl
