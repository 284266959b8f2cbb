/- Own lemmas, thirty-seventh part: regions in any order: a load behind a loud operation that sees what it would have seen at the region's beginning, taken at once. -/
import Derived.Test.YtoeolfnjblibpaaGl36
namespace Go.Gl
open Go.RowKit
set_option linter.unusedVariables false
set_option linter.unusedSimpArgs false
section
variable {P : Program} {md : Region.Mode} {ops : Array Oper} {F : Act → World → Prop} {need : Nat → Nat → Bool} {fuel : Nat} {listed : Array Bool} {Γ : Ctx} {l : Al Value} {L L0 : Al Ob} {D D0 : Al Fact} {a : Act} {w w' wr : World} {o : Oper} {v : Value} {d : Nat} {N : Nat} {T : Prop} {nd : Nat → Bool}
theorem n_qm (i g : Nat) (hS : St Γ l L D a w) (hR : Wd Γ L0 D0 wr) (hE : ∀ g, Ext L0 (one L0 g) wr w) (hi : ops[i]? = some o) (hs : Region.noSelect ops = true) (hr : (Region.ready md ops listed).contains i = true) (hf : freeN md ops need listed i g = true) (ho : o.dst = some d) (hg : Runs ops l o true) (hd : Nat.blt d Γ.N = true) (hy : St Γ l L0 D0 a wr → Yl P L0 (one L0 g) o a wr v)
    (h : ∀ a', St Γ ((d, v) :: l) L D a' w → wpAnyN P md ops F (fun g => Ext L0 (one L0 g) wr) need fuel (listed.setIfInBounds i true) a' w) : wpAnyN P md ops F (fun g => Ext L0 (one L0 g) wr) need (fuel + 1) listed a w := by
  refine wpAnyN_first (g := g) hi (Region.noSelect_spec hs) fuel listed a w (freeN_spec hi hf) (by simpa using hr) (.inl ⟨runs_wanted hS.fr hg, hy ⟨hS.fr, hR⟩⟩) (hE g) ?_
  rw [ho]
  exact h _ (hS.put hd)
theorem nmw (i g : Nat) (hR : Wd Γ L0 D0 wr) (hE : ∀ g, Ext L0 (one L0 g) wr w) (e : (ops[i]?, o.dst, rn ops l o, Nat.blt d Γ.N) = (some o, some d, some true, true)) (hy : ∀ {a}, St Γ l L0 D0 a wr → Yl P L0 (one L0 g) o a wr v)
    (h : ∀ a, St Γ ((d, v) :: l) L D a w → wpAnyN P md ops F (fun g => Ext L0 (one L0 g) wr) need fuel (listed.setIfInBounds i true) a w) (hr : (Region.noSelect ops && ((Region.ready md ops listed).contains i && freeN md ops need listed i g)) = true := by kernel_rfl) : ∀ a, St Γ l L D a w → wpAnyN P md ops F (fun g => Ext L0 (one L0 g) wr) need (fuel + 1) listed a w := by
  rw [Bool.and_eq_true, Bool.and_eq_true] at hr
  injection e with e1 e; injection e with e2 e; injection e with e3 e4
  exact fun a s => n_qm i g s hR hE e1 hr.1 hr.2.1 hr.2.2 e2 (rn_runs e3) e4 hy h
theorem gA (hE : ∀ g, Ext L0 (one L0 g) wr w) (hZ : N ≤ w.heap.size) (hK : Keeps noB w w') (h : (∀ g, Ext L0 (one L0 g) wr w') → N ≤ w'.heap.size → T) : (∀ g, nd g = true → Ext L0 (one L0 g) wr w → Ext L0 (one L0 g) wr w') ∧ T := ⟨fun g _ h => h.grow hK, h (fun g => (hE g).grow hK) (Nat.le_trans hZ hK.size)⟩
theorem fT (fn : Func) {t : Tmp} {u : Value} {post : Value → World → Prop} (hS : St Γ l L D a w) (hr : fn.results = #[.tmp t]) (h : look l t = some u) (hp : post u w) : bodyPost P fn (Ret Γ.C Γ.w0 post) .ret a w := fin1 hS hr (r_tmp hS h) hp
end
theorem zB : type_of% @bind_some := @bind_some
theorem zC : type_of% @chk_some := @chk_some
theorem zJ : type_of% @jn_some := @jn_some
theorem lz {a b : Nat} (h : Nat.ble a b = true := by rfl) : a ≤ b := Nat.le_of_ble_eq_true h
theorem rR : type_of% @rn_runs := @rn_runs
abbrev OA := Option Addr
abbrev bM (M : Bs) (w : World) : Prop := ∀ b, M b → b < w.heap.size
abbrev CA (P : Program) (f : FuncId) (vs : List Value) (w : World) (post : Value → World → Prop) : Prop := Calls P f vs.toArray w (Ret noB w post)
end Go.Gl
