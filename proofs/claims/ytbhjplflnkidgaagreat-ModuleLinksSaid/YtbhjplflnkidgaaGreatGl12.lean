/- Own lemmas, twelfth part: elements, bytes, closures, iterators over strings. -/
import Derived.Test.YtbhjplflnkidgaaGreatGl11
namespace Go.Gl
open Go.RowKit
set_option linter.unusedVariables false
set_option linter.unusedSimpArgs false
section
variable {α : Type} {R : Rep α} {M : Bs} {w : World} {A : Option Addr} {n c i : Nat} {xs : List α} {x : α}
theorem SlR.elemX (h : SlR R M w A n c xs) (hx : xs[i]? = some x) : ∃ p, ElemP A (i * R.size) p ∧ PtrR R M w p x := by
  have hi : i < n := by rw [← h.len]; exact lt_of_get hx
  obtain ⟨q, hq⟩ := h.some_ (by omega)
  exact ⟨_, ⟨q, hq, rfl⟩, h.at_ q hq i _ hx⟩
theorem SlR.mx (h : SlR R M w A n c xs) : n ≤ 9223372036854775807 := Nat.le_trans h.cap h.max
theorem row_mx {sz : Nat} {e : TypeId} {cs : List Value} (h : (Ob.row A n c e sz cs).holds w) : n ≤ 9223372036854775807 := by
  have h' : w.ownsRow 0 e sz (.slice A n c) n cs := h
  rcases h'.2 with ⟨hv, h0⟩ | ⟨g, cap, cur, hv, hg, hh, hnc, hcm, _⟩
  · omega
  · unfold maxLen at hcm; omega
theorem RdAll.cons {v : Value} {vs : List Value} {x : α} {xs : List α} (h : R.rd M w v.cells.toList x) (k : RdAll R M w (cellsOfL vs) xs) : RdAll R M w (cellsOfL (v :: vs)) (x :: xs) := by
  have := (RdAll.single h).append k
  simpa [cellsOfL] using this
theorem SlR.row1 {e : TypeId} {sz : Nat} {cs : List Value} (h : (Ob.row A n c e sz cs).holds w) (hr : RdAll R M w cs xs) (hs : R.size = sz) (hpos : Nat.blt 0 sz = true) (hx : xs[i]? = some x) : i < n ∧ ∃ b, A = some ⟨b, 0, none⟩ := by
  have hl := rowN h hr hs hpos
  have hi : i < n := by rw [← hl]; exact lt_of_get hx
  exact ⟨hi, row_form h (by omega)⟩
end
section
variable {P : Program} {Γ : Ctx} {l : Al Value} {L L1 : Al Ob} {D : Al Fact} {a : Act} {w : World} {dst : Option Tmp} {ty : TypeId} {pos : String} {af : Array Edge} {g : Option (Nat × Bool)} {v u : Value} {x y z c : Operand} {t t' : TypeId} {k : IntKind} {m n : Int} {o : Oper}
theorem yl_b {b b' : Bool} (h : Yl P L L1 o a w (.bool b)) (e : b = b') : Yl P L L1 o a w (.bool b') := e ▸ h
theorem y_makeFunc {f : FuncId} {xs : List Operand} {vs : List Value} (hS : St Γ l L D a w) (hx : evl l xs = some vs) : Yl P L L1 ⟨dst, .makeFunc (.func f) #[] xs.toArray, ty, pos, af, g⟩ a w (.func (.func f) #[] vs.toArray) := fun w' _ => by
  have h1 : xs.map a.eval = vs := evl_eval hS.fr hx
  simp [execOp, Instr.makeFunc, h1]
def toU8 (x : Int) : UInt8 := UInt8.ofNat (IntKind.u8.wrap x).toNat
def u8cells (xs : List UInt8) : List Value := xs.map fun b => .int .u8 ((b.toNat : Nat) : Int)
end
section
variable {P : Program} {Q : Exit → Act → World → Prop} {x : Code} {a : Act} {w : World}
theorem c_post {K : Act → World → Prop} (J : Act → World → Prop) (h1 : x.wp P (Exit.then J Q) a w) (h2 : ∀ a w, J a w → K a w) : x.wp P (Exit.then K Q) a w :=
  wp_mono h1 fun e a' w' hq => by cases e <;> first | exact h2 _ _ hq | exact hq
end
def runeAt (s : List UInt8) (p : Nat) : Int := ((Utf8.decode (bs s) p).1 : Int)
def runeLen (s : List UInt8) (p : Nat) : Nat := (Utf8.decode (bs s) p).2
section
variable {P : Program} {Γ : Ctx} {l : Al Value} {L L1 : Al Ob} {D : Al Fact} {a : Act} {w : World} {d : Tmp} {ty : TypeId} {pos : String} {af : Array Edge} {g : Option (Nat × Bool)} {x : Operand} {t : TypeId} {kk b p : Nat} {K : Act → World → Prop} {Q : Exit → Act → World → Prop} {s : List UInt8}
theorem keeps_setObj (w : World) (b : Nat) (ob : Obj) : Keeps (fun x => x = b) w { w with heap := w.heap.setIfInBounds b ob } :=
  ⟨rfl, rfl, rfl, by simp, fun k _ hm => by simp [Array.getElem?_setIfInBounds, Ne.symm hm]⟩
theorem row_new {C : Bs} {N : Nat} {M : Bs} {w0 : World} {A : Option Addr} {n c sz : Nat} {e : TypeId} {cs : List Value} (hS : St ⟨N, M, C, w0⟩ l L D a w) (hb : look L kk = some (Ob.row A n c e sz cs)) (hC : C = noB) : ∀ b, (Ob.row A n c e sz cs).ids b → w0.heap.size ≤ b := fun b hi => by
  subst hC
  rcases hS.wd.mine b ⟨kk, _, hb, hi⟩ with h | h
  · exact h
  · exact h.elim
end
end Go.Gl
