/- Own lemmas, thirteenth part: small operations for the printed walks. -/
import Derived.Test.YtbhjplflnkidgaaGreatGl12
namespace Go.Gl
open Go.RowKit
set_option linter.unusedVariables false
set_option linter.unusedSimpArgs false
theorem take1 {cs : List Value} {o : Nat} {v : Value} (h : (cs.drop o).take 1 = [v]) : cs[o]? = some v := by
  have h3 : ((cs.drop o).take 1)[0]? = cs[o]? := by
    rw [List.getElem?_take_of_lt (by omega), List.getElem?_drop]
    simp
  rw [← h3, h]
  rfl
section
variable {α : Type} {R : Rep α} {M : Bs} {w : World} {A : Option Addr} {n c i : Nat} {xs : List α} {x : α}
end
section
variable {P : Program} {Γ : Ctx} {l : Al Value} {L L1 : Al Ob} {D : Al Fact} {a : Act} {w : World} {d : Option Tmp} {ty : TypeId} {pos : String} {af : Array Edge} {g : Option (Nat × Bool)} {v u : Value} {x y z : Operand} {t t' : TypeId} {k k' : IntKind} {m n : Int} {o : Oper} {i j : Nat} {dd : TypeDesc}
variable {α : Type} {R : Rep α} {xs : List α} {A : Option Addr} {cp sz nn kk : Nat} {e : TypeId} {cs : List Value}
end
section
variable {P : Program} {Γ : Ctx} {l : Al Value} {L L0 : Al Ob} {D D0 : Al Fact} {a : Act} {w wr : World} {ops : Array Oper} {F : Act → World → Prop} {need : Nat → Nat → Bool} {o : Oper} {d : Nat} {S : Nat → World → Prop} {md : Region.Mode} {fuel : Nat} {listed : Array Bool}
theorem n_3 (i j q : Nat) {o' o'' : Oper} (hS : St Γ l L D a w) (hr : Region.ready md ops listed = [i, j, q]) (hi : ops[i]? = some o) (hg : Runs ops l o true) (hj : ops[j]? = some o') (hg' : Runs ops l o' true) (hq : ops[q]? = some o'') (hg'' : Runs ops l o'' true)
    (h : o.wp P a w (fun a' w' => (∀ g, need i g = true → S g w → S g w') ∧ wpAnyN P md ops F S need fuel (listed.setIfInBounds i true) a' w') (OnlyN F))
    (h' : o'.wp P a w (fun a' w' => (∀ g, need j g = true → S g w → S g w') ∧ wpAnyN P md ops F S need fuel (listed.setIfInBounds j true) a' w') (OnlyN F))
    (h'' : o''.wp P a w (fun a' w' => (∀ g, need q g = true → S g w → S g w') ∧ wpAnyN P md ops F S need fuel (listed.setIfInBounds q true) a' w') (OnlyN F)) : wpAnyN P md ops F S need (fuel + 1) listed a w := by
  refine ⟨fun h0 => (by rw [h0] at hr; cases hr), fun z hz => ?_⟩
  rw [hr] at hz
  have : z = i ∨ z = j ∨ z = q := by simpa using hz
  rcases this with rfl | rfl | rfl
  · exact wpOp_of hS hi hg h
  · exact wpOp_of hS hj hg' h'
  · exact wpOp_of hS hq hg'' h''
theorem n_pass (i : Nat) (hS : St Γ l L D a w) (hr : Region.ready md ops listed = [i]) (hi : ops[i]? = some o) (hg : Runs ops l o false) (ho : o.dst = some d) (hd : Nat.blt d Γ.N = true)
    (h : ∀ a', St Γ ((d, undef) :: l) L D a' w → wpAnyN P md ops F S need fuel (listed.setIfInBounds i true) a' w) : wpAnyN P md ops F S need (fuel + 1) listed a w := by
  refine ⟨fun h0 => (by rw [h0] at hr; cases hr), fun j hj => ?_⟩
  rw [hr] at hj
  obtain rfl : j = i := by simpa using hj
  exact wpOp_not hS hi hg ho hd fun a' hS' => ⟨fun _ _ h => h, h a' hS'⟩
end
end Go.Gl
