/- Own lemmas, ninth part: rows of the call's own that are read and written in place. -/
import Derived.Test.YtbhjplflnkidgaaGreatGl6
namespace Go.Gl
open Go.RowKit
set_option linter.unusedVariables false
set_option linter.unusedSimpArgs false

section
variable {P : Program} {Γ : Ctx} {l : Al Value} {L L1 : Al Ob} {D : Al Fact} {a : Act} {w : World} {d : Option Tmp} {ty : TypeId} {pos : String} {af : Array Edge} {g : Option (Nat × Bool)} {v u : Value} {x y c : Operand} {t t' : TypeId} {k : IntKind} {m : Int} {kk : Nat} {K : Act → World → Prop} {Q : Exit → Act → World → Prop} {α : Type} {R : Rep α} {M : Bs}
theorem rowN {A : Option Addr} {n c sz : Nat} {e : TypeId} {cs : List Value} {xs : List α} (h : (Ob.row A n c e sz cs).holds w) (hr : RdAll R M w cs xs) (hs : R.size = sz) (hpos : Nat.blt 0 sz = true) : xs.length = n := by
  have h' : w.ownsRow 0 e sz (.slice A n c) n cs := h
  have h1 := h'.1
  rw [hr.len, hs] at h1
  exact Nat.eq_of_mul_eq_mul_right (Nat.le_of_ble_eq_true hpos) h1
theorem RdAll.drop {cs : List Value} {xs : List α} (h : RdAll R M w cs xs) (n : Nat) (hn : n ≤ xs.length) : RdAll R M w (cs.drop (n * R.size)) (xs.drop n) := by
  refine ⟨by rw [List.length_drop, List.length_drop, h.len, Nat.sub_mul], fun i x hx => ?_⟩
  rw [List.getElem?_drop] at hx
  have h1 := h.at_ _ _ hx
  rwa [List.drop_drop, ← Nat.add_mul]
theorem RdAll.put {cs vs : List Value} {xs : List α} {z : α} {i : Nat} (h : RdAll R M w cs xs) (hz : R.rd M w vs z) (hi : i < xs.length) : RdAll R M w (splice cs (i * R.size) vs) (xs.set i z) := by
  have hvl := R.len hz
  have hmul : (i + 1) * R.size ≤ xs.length * R.size := Nat.mul_le_mul_right _ hi
  have hcl := h.len
  rw [Nat.add_mul, Nat.one_mul] at hmul
  have e : xs.set i z = xs.take i ++ [z] ++ xs.drop (i + 1) := by
    rw [List.set_eq_take_append_cons_drop, if_pos hi]
    simp
  have e2 : splice cs (i * R.size) vs = cs.take (i * R.size) ++ vs ++ cs.drop ((i + 1) * R.size) := by
    unfold splice
    rw [hvl, Nat.add_mul, Nat.one_mul]
  rw [e, e2]
  exact ((h.take i (Nat.le_of_lt hi)).append (RdAll.single hz)).append (h.drop (i + 1) hi)
theorem St.lendLt {L' : Al Ob} (hS : St Γ l L D a w) (hL : SubA L' L) : ∀ b, mtb Γ L' b → b < w.heap.size := fun b hb => hS.lt b (mtb_sub hL hb)
end
end Go.Gl

