/- Own lemmas, eighteenth part: regions in any order: operations that look at no memory, taken at once behind a loud one. -/
import Derived.Test.YtoeolfnjblibpaaGl17
namespace Go.Gl
open Go.RowKit
set_option linter.unusedVariables false
set_option linter.unusedSimpArgs false
section
variable {Γ : Ctx} {l : Al Value} {L L0 L1 : Al Ob} {D D0 : Al Fact} {a : Act} {w wr : World} {P : Program} {ops : Array Oper} {o : Oper} {v : Value} {d : Nat} {md : Region.Mode} {fuel : Nat} {listed : Array Bool}
variable {F : Act → World → Prop} {need : Nat → Nat → Bool}
theorem pureSt {N : Nat} (h : Has N l a) (w : World) : St ⟨N, noB, noB, w⟩ l [] [] a w :=
  ⟨h, ⟨Keeps.refl _ _, fun k o hk => (by cases hk), fun k k1 o o1 b h1 => (by cases h1), fun b hb => (by obtain ⟨k, o, hk, _⟩ := hb; cases hk), fun b hb => hb.elim, fun b _ hm => hm, fun k f hf => (by cases hf)⟩⟩
theorem yl_pure {N : Nat} (hfr : Has N l a) (h : ∀ w', St ⟨N, noB, noB, w'⟩ l [] [] a w' → Yl P [] [] o a w' v) : Yl P L0 L1 o a wr v :=
  fun w' _ => h w' (pureSt hfr w') w' ⟨Keeps.refl _ _, fun k o hk => (by cases hk)⟩
theorem n_ql (i : Nat) (hS : St Γ l L D a w) (hE : Ext L0 (one L0 0) wr w) (hi : ops[i]? = some o) (hs : Region.noSelect ops = true) (hr : (Region.ready md ops listed).contains i = true) (hf : freeN md ops need listed i 0 = true) (ho : o.dst = some d) (hg : Runs ops l o true) (hd : Nat.blt d Γ.N = true) (hy : ∀ w', St ⟨Γ.N, noB, noB, w'⟩ l [] [] a w' → Yl P [] [] o a w' v)
    (h : ∀ a', St Γ ((d, v) :: l) L D a' w → wpAnyN P md ops F (fun g => Ext L0 (one L0 g) wr) need fuel (listed.setIfInBounds i true) a' w) : wpAnyN P md ops F (fun g => Ext L0 (one L0 g) wr) need (fuel + 1) listed a w := by
  refine wpAnyN_first (g := 0) hi (Region.noSelect_spec hs) fuel listed a w (freeN_spec hi hf) (by simpa using hr) (.inl ⟨runs_wanted hS.fr hg, yl_pure hS.fr hy⟩) hE ?_
  rw [ho]
  exact h _ (hS.put hd)
theorem n_qlpass (i : Nat) (hS : St Γ l L D a w) (hE : Ext L0 (one L0 0) wr w) (hi : ops[i]? = some o) (hs : Region.noSelect ops = true) (hr : (Region.ready md ops listed).contains i = true) (hf : freeN md ops need listed i 0 = true) (ho : o.dst = some d) (hg : Runs ops l o false) (hd : Nat.blt d Γ.N = true)
    (h : ∀ a', St Γ ((d, undef) :: l) L D a' w → wpAnyN P md ops F (fun g => Ext L0 (one L0 g) wr) need fuel (listed.setIfInBounds i true) a' w) : wpAnyN P md ops F (fun g => Ext L0 (one L0 g) wr) need (fuel + 1) listed a w := by
  refine wpAnyN_first (g := 0) hi (Region.noSelect_spec hs) fuel listed a w (freeN_spec hi hf) (by simpa using hr) (.inr ⟨runs_wanted hS.fr hg, rfl⟩) hE ?_
  rw [ho]
  exact h _ (hS.put hd)
end
end Go.Gl
