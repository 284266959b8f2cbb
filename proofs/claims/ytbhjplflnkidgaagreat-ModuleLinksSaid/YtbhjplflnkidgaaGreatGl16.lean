/- Own lemmas, sixteenth part: slices held against nil; rows with a view. -/
import Derived.Test.YtbhjplflnkidgaaGreatGl14
namespace Go.Gl
open Go.RowKit
set_option linter.unusedVariables false
set_option linter.unusedSimpArgs false
section
variable {P : Program} {Γ : Ctx} {l : Al Value} {L L1 : Al Ob} {D : Al Fact} {a : Act} {w : World} {d : Option Tmp} {ty : TypeId} {pos : String} {af : Array Edge} {g : Option (Nat × Bool)} {x y : Operand} {t t' e : TypeId} {A : Option Addr} {n c : Nat}
theorem y_slnil (hS : St Γ l L D a w) (hx : ev l x = some (.slice A n c)) (hy : ev l y = some (.slice none 0 0)) (hu : P.underlying t = some (.slice e)) :
    Yl P L L1 ⟨d, .binOp .eql t x y t', ty, pos, af, g⟩ a w (.bool A.isNone) := fun w' _ => by
  have hg : (eqGuard .eql t x y (.slice A n c) (.slice none 0 0)).run P w' = .ok () w' := by
    unfold eqGuard
    split <;> simp
  have he : (Op.equal t (.slice A n c) (.slice none 0 0)).run P w' = .ok A.isNone w' := by
    simp only [Op.equal, Op.maxDepth]
    unfold Op.equalIn
    cases A <;> simp [run_underlying hu]
  simp only [execOp, hS.fr.eval hx, hS.fr.eval hy, hg, binOp, he, Sem.run_bind, Result.andThen_ok, Sem.run_pure]
theorem SlR.nil0 {α : Type} {R : Rep α} {M : Bs} {xs : List α} (h : SlR R M w A n c xs) (hA : A.isNone = true) : xs = [] := by
  have := h.nil (by simpa using hA)
  have h1 := h.cap
  have h2 := h.len
  exact List.eq_nil_of_length_eq_zero (by omega)
end
section
variable {Γ : Ctx} {l : Al Value} {L : Al Ob} {D : Al Fact} {a : Act} {w : World} {α : Type} {R : Rep α} {cs : List Value} {xs : List α} {k : Nat} {ob : Ob}
theorem St.eqs {l' : Al Value} {L' : Al Ob} (hS : St Γ l L D a w) (hl : l = l') (hL : L = L') : St Γ l' L' D a w := by subst hl; subst hL; exact hS
theorem RdAll.up2 (hS : St Γ l ((k, ob) :: L) D a w) (h : RdAll R (fun b => mtb Γ L b ∨ ob.ids b) w cs xs) : RdAll R (mtb Γ ((k, ob) :: L)) w cs xs :=
  ⟨h.len, fun i x hx => R.change (fun b _ hb => by
    rcases hb with hb | ⟨j, o, hj, hi⟩
    · exact .inl (.inl hb)
    · rcases look_cons hj with ⟨_, rfl⟩ | ⟨_, hj⟩
      · exact .inr hi
      · exact .inl (.inr ⟨j, o, hj, hi⟩)) (h.at_ i x hx)⟩
theorem RdAll.own {N : Nat} {M C : Bs} {w0 : World} {kk : Nat} (hS : St ⟨N, M, C, w0⟩ l L D a w) (hb : look L kk = some ob) (h : RdAll R (mtb ⟨N, M, C, w0⟩ L) w cs xs) : RdAll R (fun b => M b ∨ ob.ids b) w cs xs :=
  ⟨h.len, fun i x hx => R.change (fun b _ h => h.elim .inl fun h => .inr ⟨kk, _, hb, h⟩) (h.at_ i x hx)⟩
end
def viewOk (w : World) (V : Option Addr) (vs : List Value) : Prop := ∀ p, V = some p → p.block < w.heap.size ∧ ∀ j u, vs[j]? = some u → w.cell? (p.add j) = some u
def viewIn (A : Option Addr) (N : Nat) (V : Option Addr) (m : Nat) : Prop := ∀ p, V = some p → (∃ b o, A = some ⟨b, 0, none⟩ ∧ p = ⟨b, o, none⟩ ∧ o + m ≤ N) ∨ ∀ q, A = some q → q.block ≠ p.block
def Ob.rowV (A : Option Addr) (n c : Nat) (t : TypeId) (size : Nat) (xs : List Value) (V : Option Addr) (vs : List Value) : Ob where
  ids := fun k => (∃ p, A = some p ∧ p.block = k) ∨ ∃ p, V = some p ∧ p.block = k
  holds := fun w => (Ob.row A n c t size xs).holds w ∧ viewOk w V vs ∧ viewIn A xs.length V vs.length
  lt := fun {w b} h e => by
    rcases e with e | ⟨p, rfl, rfl⟩
    · exact (Ob.row A n c t size xs).lt h.1 e
    · exact (h.2.1 p rfl).1
  keep := fun {w w'} h hk => by
    refine ⟨(Ob.row A n c t size xs).keep h.1 fun b hb => hk b (.inl hb), fun p hp => ?_, h.2.2⟩
    have hb := hk p.block (.inr ⟨p, hp, rfl⟩)
    obtain ⟨h1, h2⟩ := h.2.1 p hp
    have e : ∀ j, w'.cell? (p.add j) = w.cell? (p.add j) := fun j => World.cell?_of_block (w := w) (by rw [add_block]; exact hb)
    refine ⟨?_, fun j u hj => (e j).trans (h2 j u hj)⟩
    rcases Nat.lt_or_ge p.block w'.heap.size with h3 | h3
    · exact h3
    · rw [Array.getElem?_eq_none h3] at hb
      have := Array.getElem?_eq_getElem h1
      rw [this] at hb
      cases hb
section
variable {P : Program} {Γ : Ctx} {l : Al Value} {L L1 : Al Ob} {D : Al Fact} {a : Act} {w : World} {d : Tmp} {dst : Option Tmp} {ty : TypeId} {pos : String} {af : Array Edge} {g : Option (Nat × Bool)} {v : Value} {x y z : Operand} {t t' e : TypeId} {A V : Option Addr} {n c sz kk : Nat} {k : IntKind} {m : Int} {cs vs : List Value} {K : Act → World → Prop} {Q : Exit → Act → World → Prop} {dd : TypeDesc}
end
end Go.Gl
