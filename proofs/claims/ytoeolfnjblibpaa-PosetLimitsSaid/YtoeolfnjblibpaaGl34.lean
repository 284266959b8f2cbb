/- Own lemmas, thirty-fourth part: the simple steps as links of a chain. -/
import Derived.Test.YtoeolfnjblibpaaGl33
namespace Go.Gl
open Go.RowKit
set_option linter.unusedVariables false
section
variable {Γ : Ctx} {l : Al Value} {L : Al Ob} {D : Al Fact} {w : World} {P : Program} {ops : Array Oper} {Q : Exit → Act → World → Prop} {rest : List Oper} {o oj : Oper} {K : Act → World → Prop} {v u : Value} {d dj j : Nat} {want : Bool} {c x y : Code}
theorem S {a : Act} {p : Act → Prop} (s : St Γ l L D a w) (h : ∀ a, St Γ l L D a w → p a) : p a := h a s
theorem yw (e : (o.dst, o.guard, Nat.blt d Γ.N) = (some d, none, true)) (hy : ∀ {a}, St Γ l L D a w → Yl P L L o a w v) (h : ∀ a, St Γ ((d, v) :: l) L D a w → wpList P ops Q rest a w) : ∀ a, St Γ l L D a w → wpList P ops Q (o :: rest) a w := fun a s => qq s e (hy s) h
theorem zw (e : (o.guard, ops[j]?, oj.dst, look l dj, o.dst, Nat.blt d Γ.N) = (some (j, want), some oj, some dj, some (.bool want), some d, true)) (hy : ∀ {a}, St Γ l L D a w → Yl P L L o a w v) (h : ∀ a, St Γ ((d, v) :: l) L D a w → wpList P ops Q rest a w) : ∀ a, St Γ l L D a w → wpList P ops Q (o :: rest) a w := fun a s => gy s e (hy s) h
theorem gw (e : (o.guard, ops[j]?, oj.dst, look l dj, isB u want, o.dst, Nat.blt d Γ.N) = (some (j, want), some oj, some dj, some u, false, some d, true)) (h : ∀ a, St Γ ((d, undef) :: l) L D a w → wpList P ops Q rest a w) : ∀ a, St Γ l L D a w → wpList P ops Q (o :: rest) a w := fun a s => gn s e h
theorem mw {x : Operand} {ty : TypeId} {pos : String} {af : Array Edge} {g : Option (Nat × Bool)} (e : (some d, g, Nat.blt d Γ.N, ev l x) = (some d, none, true, some v)) (h : ∀ a, St Γ ((d, v) :: l) L D a w → wpList P ops Q rest a w) : ∀ a, St Γ l L D a w → wpList P ops Q (⟨some d, .move x, ty, pos, af, g⟩ :: rest) a w := by
  injection e with e1 e; injection e with e2 e; injection e with e3 e4
  exact fun a s => mv s (by rw [e2, e3]) e4 h
theorem aw {x : Operand} {ty : TypeId} {pos : String} {af : Array Edge} {g : Option (Nat × Bool)} (e : (some d, g, Nat.blt d Γ.N, ev l x) = (some d, none, true, some v)) (h : ∀ a, St Γ ((d, v) :: l) L D a w → wpList P ops Q rest a w) : ∀ a, St Γ l L D a w → wpList P ops Q (⟨some d, .assign x, ty, pos, af, g⟩ :: rest) a w := by
  injection e with e1 e; injection e with e2 e; injection e with e3 e4
  exact fun a s => asg s (by rw [e2, e3]) e4 h
theorem hw {x : Operand} {ty : TypeId} {pos : String} {af : Array Edge} {g : Option (Nat × Bool)} (e : (g, ops[j]?, oj.dst, look l dj, some d, Nat.blt d Γ.N, ev l x) = (some (j, want), some oj, some dj, some (.bool want), some d, true, some v)) (h : ∀ a, St Γ ((d, v) :: l) L D a w → wpList P ops Q rest a w) : ∀ a, St Γ l L D a w → wpList P ops Q (⟨some d, .move x, ty, pos, af, g⟩ :: rest) a w := by
  injection e with e1 e; injection e with e2 e; injection e with e3 e; injection e with e4 e; injection e with e5 e; injection e with e6 e7
  exact fun a s => gm s (by rw [e1, e2, e3, e4, e6]) e7 h
theorem nw (h : ∀ a, St Γ l L D a w → K a w) : ∀ a, St Γ l L D a w → wpList P ops (Exit.then K Q) [] a w := fun a s => wN (h a s)
theorem ow (h : ∀ a, St Γ l L D a w → Q .normal a w) : ∀ a, St Γ l L D a w → wpList P ops Q [] a w := fun a s => wO (h a s)
theorem sw (h : ∀ a, St Γ l L D a w → x.wp P (Exit.then (y.wp P Q) Q) a w) : ∀ a, St Γ l L D a w → (Code.seq x y).wp P Q a w := fun a s => wQ (h a s)
theorem vw {id : Nat} {r : List Oper} (h : ∀ a, St Γ l L D a w → wpList P r.toArray (Exit.then (c.wp P Q) Q) r a w) : ∀ a, St Γ l L D a w → (Code.seq (Code.region id r.toArray false) c).wp P Q a w := fun a s => wR (h a s)
theorem lw {id : Nat} {r : List Oper} (h : ∀ a, St Γ l L D a w → wpList P r.toArray Q r a w) : ∀ a, St Γ l L D a w → (Code.region id r.toArray false).wp P Q a w := fun a s => wL (h a s)
theorem pw (h : ∀ a, St Γ l L D a w → K a w) : ∀ a, St Γ l L D a w → Exit.then K Q .normal a w := h
theorem kw (h : ∀ a, St Γ l L D a w → Q .normal a w) : ∀ a, St Γ l L D a w → Code.skip.wp P Q a w := fun a s => wp_skip (h a s)
theorem bw {id : Nat} (h : ∀ a, St Γ l L D a w → c.wp P (Exit.inBlock id Q) a w) : ∀ a, St Γ l L D a w → (Code.block id c).wp P Q a w := fun a s => wp_block (h a s)
end
section
open Go.RowKit
variable {Γ : Ctx} {l : Al Value} {L : Al Ob} {D : Al Fact} {w w0 : World} {p : Act → Prop} {A : Option Addr} {n c N : Nat} {α : Type} {R : Rep α} {xs : List α} {M C : Bs}
theorem nsw (k : Nat) (hp : SlR R (mtb Γ L) w A n c xs) (h : ∀ a, St Γ l L ((k, slF R A n c xs) :: D) a w → p a) : ∀ a, St Γ l L D a w → p a := fun a s => h a (s.ns k hp)
theorem esw (k : Nat) (hp : SlR R M w A n c xs) (h : ∀ a, St ⟨N, M, C, w0⟩ l [] ((k, slF R A n c xs) :: D) a w → p a) : ∀ a, St ⟨N, M, C, w0⟩ l [] D a w → p a := fun a s => h a (s.es k hp)
theorem alw {f : Fact} (k j : Nat) (hl : look D j = some f) (h : ∀ a, St Γ l L ((k, f) :: D) a w → p a) : ∀ a, St Γ l L D a w → p a := fun a s => h a (s.al k j hl)
end
end Go.Gl
