/- Own lemmas, thirty-sixth part: the commonest values of a walk under short names. -/
import Derived.Test.YtoeolfnjblibpaaGl35
namespace Go.Gl
open Go.RowKit
set_option linter.unusedVariables false
theorem q {α : Sort _} {a : α} : a = a := rfl
theorem si {α : Type} {x y : α} (h : some x = some y) : x = y := Option.some.inj h
theorem rN {α : Type} {R : Rep α} {M : Bs} {w : World} : RdAll R M w [] [] := RdAll.nil _ _ _
abbrev nS : Value := .slice none 0 0
section
variable {P : Program} {Γ : Ctx} {l : Al Value} {L L1 : Al Ob} {D : Al Fact} {a : Act} {w : World} {d : Option Tmp} {ty : TypeId} {pos : String} {af : Array Edge} {g : Option (Nat × Bool)} {v u : Value} {x y z c : Operand} {t t' : TypeId} {k : IntKind} {m : Int}
theorem bF (o' : Nat) {b o : Nat} {fs : Array Field} {f : Field} {i : Nat} (hS : St Γ l L D a w) (hu : P.underlying t = some (.struct fs)) (e : (ev l x, fs[i]?, Nat.blt 0 (P.cellsOf f.type), o + f.offset) = (some (.pointer (some ⟨b, o, none⟩)), some f, true, o')) : Yl P L L1 ⟨d, .fieldAddr t x i, ty, pos, af, g⟩ a w (.pointer (some ⟨b, o', none⟩)) := by
  injection e with e1 e; injection e with e2 e; injection e with e3 e4
  exact y_boxField hS e1 hu e2 e3 e4
theorem lB (kk : Nat) {b o : Nat} {cs : List Value} {tb : TypeId} {dd : TypeDesc} (hS : St Γ l L D a w) (hu : P.underlying t = some dd) (e : (ev l x, look L1 kk, cs[o]?, isAggT P t) = (some (.pointer (some ⟨b, o, none⟩)), some (Ob.box b cs tb), some v, false)) : Yl P L L1 ⟨d, .load t x, ty, pos, af, g⟩ a w v := by
  injection e with e1 e; injection e with e2 e; injection e with e3 e4
  exact y_loadBox1 hS e1 e2 e3 hu e4
theorem pF (o' : Nat) {p : Addr} {o i : Nat} {fs : Array Field} {f : Field} (hS : St Γ l L D a w) (hu : P.underlying t = some (.struct fs)) (e : (ev l x, fs[i]?, Nat.blt 0 (P.cellsOf f.type), o + f.offset) = (some (.pointer (some (p.add o))), some f, true, o')) : Yl P L L1 ⟨d, .fieldAddr t x i, ty, pos, af, g⟩ a w (.pointer (some (p.add o'))) := by
  injection e with e1 e; injection e with e2 e; injection e with e3 e4
  exact y_ptrField hS e1 hu e2 e3 e4
theorem eL (sz i : Nat) {A : Option Addr} {n c : Nat} {p : Addr} (hS : St Γ l L D a w) (hu : P.underlying t = some (.slice t')) (he : ElemP A (i * sz) p) (h1 : i < n) (e : (ev l x, ev l y, (P.info? t').map (·.size)) = (some (.slice A n c), some (.int k (i : Int)), some sz)) : Yl P L L1 ⟨d, .indexAddr t x y, ty, pos, af, g⟩ a w (.pointer (some (p.add 0))) := by
  injection e with e1 e; injection e with e2 e3
  exact y_elem hS e1 e2 hu e3 he rfl h1
theorem lP {p : Addr} {o : Nat} {dd : TypeDesc} (hS : St Γ l L D a w) (hp : p.block < w.heap.size) (hm : ¬ mtb Γ L p.block) (hc : w.cell? (p.add o) = some v) (hu : P.underlying t = some dd) (e : (ev l x, isAggT P t) = (some (.pointer (some (p.add o))), false)) : Yl P L L1 ⟨d, .load t x, ty, pos, af, g⟩ a w v := by
  injection e with e1 e2
  exact y_ldp1 hS e1 hp hm hc hu e2
theorem lD (cs : List Value) (o : Nat) {p : Addr} {cq : List Value} {dd : TypeDesc} (hS : St Γ l L D a w) (hp : p.block < w.heap.size) (hm : ¬ mtb Γ L p.block) (hc : ∀ j v, cq[j]? = some v → w.cell? (p.add j) = some v) (hu : P.underlying t = some dd) (e : ((cq.drop o).take cs.length, ev l x, isAggT P t, (P.info? t).map (·.size)) = (cs, some (.pointer (some (p.add o))), true, some cs.length)) : Yl P L L1 ⟨d, .load t x, ty, pos, af, g⟩ a w (.agg cs.toArray) := by
  injection e with e1 e; injection e with e2 e; injection e with e3 e4
  refine y_ldp hS e2 hp hm (fun j v hj => hc (o + j) v ?_) hu e3 e4
  rw [← e1, List.getElem?_take] at hj
  split at hj
  · rwa [List.getElem?_drop] at hj
  · cases hj
theorem lS {A : Option Addr} {n c : Nat} (hS : St Γ l L D a w) {e : TypeId} (hx : ev l x = some (.slice A n c)) (hu : P.underlying t = some (.slice e)) : Yl P L L1 ⟨d, .call ⟨.builtin .len, #[x], #[t]⟩, ty, pos, af, g⟩ a w (.int .i64 n) := y_lenSlice hS hx hu
theorem mo (hS : St Γ l L D a w) (hx : ev l x = some v) : Yl P L L1 ⟨d, .move x, ty, pos, af, g⟩ a w v := y_move hS hx
theorem pT (hS : St Γ l L D a w) (hc : ev l c = some (.bool true)) (hx : ev l x = some v) : Yl P L L1 ⟨d, .pick c x y, ty, pos, af, g⟩ a w v := y_pick_t hS hc hx
theorem pO (hS : St Γ l L D a w) (hc : ev l c = some (.bool false)) (hx : ev l y = some v) : Yl P L L1 ⟨d, .pick c x y, ty, pos, af, g⟩ a w v := y_pick_f hS hc hx
end
section
variable {Γ : Ctx} {l : Al Value} {L : Al Ob} {D : Al Fact} {w : World} {P : Program} {ops : Array Oper} {Q : Exit → Act → World → Prop} {rest : List Oper} {v u : Value} {dj j d : Nat} {c x y : Operand} {ty : TypeId} {pos : String} {af : Array Edge} {g : Option (Nat × Bool)}
theorem tw_ (e : (some d, g, Nat.blt d Γ.N, ev l c, ev l x) = (some d, none, true, some (.bool true), some v)) (h : ∀ a, St Γ ((d, v) :: l) L D a w → wpList P ops Q rest a w) : ∀ a, St Γ l L D a w → wpList P ops Q (⟨some d, .pick c x y, ty, pos, af, g⟩ :: rest) a w := by
  injection e with e1 e; injection e with e2 e; injection e with e3 e; injection e with e4 e5
  exact fun a s => qq s (by rw [e2, e3]) (y_pick_t s e4 e5) h
theorem fw (e : (some d, g, Nat.blt d Γ.N, ev l c, ev l y) = (some d, none, true, some (.bool false), some v)) (h : ∀ a, St Γ ((d, v) :: l) L D a w → wpList P ops Q rest a w) : ∀ a, St Γ l L D a w → wpList P ops Q (⟨some d, .pick c x y, ty, pos, af, g⟩ :: rest) a w := by
  injection e with e1 e; injection e with e2 e; injection e with e3 e; injection e with e4 e5
  exact fun a s => qq s (by rw [e2, e3]) (y_pick_f s e4 e5) h
end
section
variable {need : Nat → Bool} {L0 : Al Ob} {w w' wr : World} {N : Nat} {T : Prop} {Sg : Nat → World → Prop}
/-- over a call that keeps everything: what was held back stays -/
theorem gk (hE : Ext L0 (one L0 0) wr w) (hZ : N ≤ w.heap.size) (hK : Keeps noB w w') (h : Ext L0 (one L0 0) wr w' → N ≤ w'.heap.size → T) : (∀ g, need g = true → Ext L0 (one L0 g) wr w → Ext L0 (one L0 g) wr w') ∧ T := ⟨fun g _ h => h.grow hK, h (hE.grow hK) (Nat.le_trans hZ hK.size)⟩
theorem gz (hZ : N ≤ w.heap.size) (hK : Keeps noB w w') (h : N ≤ w'.heap.size → T) : (∀ g, need g = true → Ext L0 (one L0 g) wr w → Ext L0 (one L0 g) wr w') ∧ T := ⟨fun g _ h => h.grow hK, h (Nat.le_trans hZ hK.size)⟩
end
end Go.Gl
