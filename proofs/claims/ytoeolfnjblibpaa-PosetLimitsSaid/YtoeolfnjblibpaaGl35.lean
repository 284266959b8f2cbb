/- Own lemmas, thirty-fifth part: the steps of a region in any order, and calls, under short names and as links of a chain. -/
import Derived.Test.YtoeolfnjblibpaaGl34
import Derived.KernelRfl
namespace Go.Gl
open Go.RowKit
set_option linter.unusedVariables false
abbrev sR {α : Type} (R : Rep α) (M : Bs) (w : World) (A : Option Addr) (c : Nat) (xs : List α) : Prop := SlR R M w A xs.length c xs
/-- whether an operation runs, as a value -/
def rn (ops : Array Oper) (l : Al Value) (o : Oper) : Option Bool := match o.guard with
  | none => some true
  | some (j, want) => match ops[j]? with
    | none => none
    | some oj => match oj.dst with
      | none => none
      | some dj => match look l dj with
        | none => none
        | some u => some (isB u want)
theorem rn_runs {ops : Array Oper} {l : Al Value} {o : Oper} {b : Bool} (h : rn ops l o = some b) : Runs ops l o b := by
  unfold rn at h
  unfold Runs
  cases hg : o.guard with
  | none => rw [hg] at h; exact (Option.some.inj h).symm
  | some q =>
    obtain ⟨j, want⟩ := q
    rw [hg] at h
    simp only at h ⊢
    cases h1 : ops[j]? with
    | none => rw [h1] at h; cases h
    | some oj =>
      rw [h1] at h
      simp only at h
      cases h2 : oj.dst with
      | none => rw [h2] at h; cases h
      | some dj =>
        rw [h2] at h
        simp only at h
        cases h3 : look l dj with
        | none => rw [h3] at h; cases h
        | some u => rw [h3] at h; exact ⟨oj, dj, u, rfl, h2, h3, Option.some.inj h⟩
section
variable {P : Program} {md : Region.Mode} {ops : Array Oper} {F : Act → World → Prop} {Sg : Nat → World → Prop} {need : Nat → Nat → Bool} {fuel i : Nat} {listed : Array Bool} {Γ : Ctx} {l : Al Value} {L L0 : Al Ob} {D D0 : Al Fact} {a : Act} {w wr : World} {o : Oper} {v : Value} {d g : Nat} {r : List (Nat × Option Nat)} {K : Act → World → Prop} {Q : Exit → Act → World → Prop}
/-- the only operation that is ready, and it is quiet -/
theorem nzw (i : Nat) (e : (ops[i]?, o.dst, rn ops l o, Nat.blt d Γ.N) = (some o, some d, some true, true)) (hy : ∀ {a}, St Γ l L D a w → Yl P L L o a w v) (h : ∀ a, St Γ ((d, v) :: l) L D a w → wpAnyN P md ops F Sg need fuel (listed.setIfInBounds i true) a w) (hr : Region.ready md ops listed = [i] := by kernel_rfl) : ∀ a, St Γ l L D a w → wpAnyN P md ops F Sg need (fuel + 1) listed a w := by
  injection e with e1 e; injection e with e2 e; injection e with e3 e4
  exact fun a s => n_1 i s hr e1 (rn_runs e3) (l_quiet s e2 e4 (hy s) fun a s => ⟨fun g _ h => h, h a s⟩)
theorem npw (i : Nat) (e : (ops[i]?, o.dst, rn ops l o, Nat.blt d Γ.N) = (some o, some d, some false, true)) (h : ∀ a, St Γ ((d, undef) :: l) L D a w → wpAnyN P md ops F Sg need fuel (listed.setIfInBounds i true) a w) (hr : Region.ready md ops listed = [i] := by kernel_rfl) : ∀ a, St Γ l L D a w → wpAnyN P md ops F Sg need (fuel + 1) listed a w := by
  injection e with e1 e; injection e with e2 e; injection e with e3 e4
  exact fun a s => n_pass i s hr e1 (rn_runs e3) e2 e4 h
/-- a quiet operation that may come first -/
theorem nqw (i g : Nat) (hR : Wd Γ L0 D0 wr) (e : (ops[i]?, o.dst, rn ops l o, Nat.blt d Γ.N) = (some o, some d, some true, true)) (hy : ∀ {a}, St Γ l L D a wr → Yl P L0 (one L0 g) o a wr v)
    (h : ∀ a, St Γ ((d, v) :: l) L D a wr → wpAnyN P md ops F (fun g => Ext L0 (one L0 g) wr) need fuel (listed.setIfInBounds i true) a wr) (hr : (Region.noSelect ops && ((Region.ready md ops listed).contains i && freeN md ops need listed i g)) = true := by kernel_rfl) : ∀ a, St Γ l L D a wr → wpAnyN P md ops F (fun g => Ext L0 (one L0 g) wr) need (fuel + 1) listed a wr := by
  injection e with e1 e; injection e with e2 e; injection e with e3 e4
  exact fun a s => nq i g s hR e1 hr e2 (rn_runs e3) e4 (hy s) h
theorem new (i : Nat) (hE : Ext L0 (one L0 0) wr w) (e : (ops[i]?, o.dst, rn ops l o, Nat.blt d Γ.N) = (some o, some d, some true, true)) (hy : ∀ {a} w', St ⟨Γ.N, noB, noB, w'⟩ l [] [] a w' → Yl P [] [] o a w' v)
    (h : ∀ a, St Γ ((d, v) :: l) L D a w → wpAnyN P md ops F (fun g => Ext L0 (one L0 g) wr) need fuel (listed.setIfInBounds i true) a w) (hr : (Region.noSelect ops && ((Region.ready md ops listed).contains i && freeN md ops need listed i 0)) = true := by kernel_rfl) : ∀ a, St Γ l L D a w → wpAnyN P md ops F (fun g => Ext L0 (one L0 g) wr) need (fuel + 1) listed a w := by
  rw [Bool.and_eq_true, Bool.and_eq_true] at hr
  injection e with e1 e; injection e with e2 e; injection e with e3 e4
  exact fun a s => n_ql i s hE e1 hr.1 hr.2.1 hr.2.2 e2 (rn_runs e3) e4 hy h
theorem nfw (i : Nat) (hE : Ext L0 (one L0 0) wr w) (e : (ops[i]?, o.dst, rn ops l o, Nat.blt d Γ.N) = (some o, some d, some false, true))
    (h : ∀ a, St Γ ((d, undef) :: l) L D a w → wpAnyN P md ops F (fun g => Ext L0 (one L0 g) wr) need fuel (listed.setIfInBounds i true) a w) (hr : (Region.noSelect ops && ((Region.ready md ops listed).contains i && freeN md ops need listed i 0)) = true := by kernel_rfl) : ∀ a, St Γ l L D a w → wpAnyN P md ops F (fun g => Ext L0 (one L0 g) wr) need (fuel + 1) listed a w := by
  rw [Bool.and_eq_true, Bool.and_eq_true] at hr
  injection e with e1 e; injection e with e2 e; injection e with e3 e4
  exact fun a s => n_qlpass i s hE e1 hr.1 hr.2.1 hr.2.2 e2 (rn_runs e3) e4 h
/-- a quiet operation of a plan, its value held back -/
theorem qw (hR : Wd Γ L0 D0 wr) (e : (ops[i]?, o.dst, o.guard, Nat.blt d Γ.N) = (some o, some d, none, true)) (hy : ∀ {a}, St Γ l L D a wr → Yl P L0 (one L0 g) o a wr v)
    (h : ∀ a, St Γ ((d, v) :: l) L D a wr → wpPlan P ops F (fun g => Ext L0 (one L0 g) wr) need r a wr) : ∀ a, St Γ l L D a wr → wpPlan P ops F (fun g => Ext L0 (one L0 g) wr) need ((i, some g) :: r) a wr := fun a s => qt s hR e (hy s) h
theorem qpw (hR : Wd Γ L0 D0 wr) (e : (ops[i]?, o.dst, rn ops l o, Nat.blt d Γ.N) = (some o, some d, some false, true))
    (h : ∀ a, St Γ ((d, undef) :: l) L D a wr → wpPlan P ops F (fun g => Ext L0 (one L0 g) wr) need r a wr) : ∀ a, St Γ l L D a wr → wpPlan P ops F (fun g => Ext L0 (one L0 g) wr) need ((i, some g) :: r) a wr := by
  injection e with e1 e; injection e with e2 e; injection e with e3 e4
  exact fun a s => q_pass s hR e1 e2 (rn_runs e3) e4 h
/-- a quiet operation of a plan, carried out -/
theorem tw (e : (ops[i]?, o.dst, rn ops l o, Nat.blt d Γ.N) = (some o, some d, some true, true)) (hy : ∀ {a}, St Γ l L D a w → Yl P L L o a w v)
    (h : ∀ a, St Γ ((d, v) :: l) L D a w → wpPlan P ops F Sg need r a w) : ∀ a, St Γ l L D a w → wpPlan P ops F Sg need ((i, none) :: r) a w := by
  injection e with e1 e; injection e with e2 e; injection e with e3 e4
  exact fun a s => l_take s e1 (rn_runs e3) (l_quiet s e2 e4 (hy s) fun a s => ⟨fun g _ h => h, h a s⟩)
end
section
variable {Γ : Ctx} {l : Al Value} {L : Al Ob} {D : Al Fact} {a : Act} {w : World} {P : Program} {ops : Array Oper} {Q : Exit → Act → World → Prop} {rest : List Oper} {oj : Oper} {K : Act → World → Prop} {u : Value} {d dj j i : Nat} {want : Bool}
  {f : FuncId} {fn : Func} {cd : Code} {args : List Operand} {ats : Array TypeId} {vs : List Value} {post : Value → World → Prop} {fo : Operand} {ty : TypeId} {pos : String} {af : Array Edge} {g : Option (Nat × Bool)}
/-- a call -/
theorem lC (hS : St Γ l L D a w) (e : (g, ev l fo, fn.body, evl l args, Nat.blt d Γ.N) = (none, some (.func (.func f) #[] [].toArray), some cd, some vs, true)) (hf : P.funcs[f]? = some fn) (hc : Calls P f vs.toArray w (Ret noB w post))
    (h : ∀ v a' w', Keeps noB w w' → post v w' → St Γ ((d, v) :: l) L D a' w' → wpList P ops Q rest a' w') (hnm : (fn.name == "runtime.NumGoroutine") = false := by kernel_rfl) : wpList P ops Q (⟨some d, .call ⟨.value fo, args.toArray, ats⟩, ty, pos, af, g⟩ :: rest) a w := lc hS e hf hnm hc h
theorem lV {X : World → Value} (hS : St Γ l L D a w) (e : (g, ev l fo, fn.body, evl l args, Nat.blt d Γ.N) = (none, some (.func (.func f) #[] [].toArray), some cd, some vs, true)) (hf : P.funcs[f]? = some fn) (hc : Calls P f vs.toArray w (Ret noB w fun v w => v = X w))
    (h : ∀ a' w', Keeps noB w w' → St Γ ((d, X w') :: l) L D a' w' → wpList P ops Q rest a' w') (hnm : (fn.name == "runtime.NumGoroutine") = false := by kernel_rfl) : wpList P ops Q (⟨some d, .call ⟨.value fo, args.toArray, ats⟩, ty, pos, af, g⟩ :: rest) a w := lc hS e hf hnm hc fun v a w hK hp s => by subst hp; exact h a w hK s
/-- a call behind a guard -/
theorem gC (hS : St Γ l L D a w) (e : (g, ops[j]?, oj.dst, look l dj, ev l fo, fn.body, evl l args, Nat.blt d Γ.N) = (some (j, want), some oj, some dj, some (.bool want), some (.func (.func f) #[] [].toArray), some cd, some vs, true)) (hf : P.funcs[f]? = some fn) (hc : Calls P f vs.toArray w (Ret noB w post))
    (h : ∀ v a' w', Keeps noB w w' → post v w' → St Γ ((d, v) :: l) L D a' w' → wpList P ops Q rest a' w') (hnm : (fn.name == "runtime.NumGoroutine") = false := by kernel_rfl) : wpList P ops Q (⟨some d, .call ⟨.value fo, args.toArray, ats⟩, ty, pos, af, g⟩ :: rest) a w := by
  injection e with e1 e; injection e with e2 e; injection e with e3 e; injection e with e4 e; injection e with e5 e; injection e with e6 e; injection e with e7 e8
  exact g_yes hS e1 e2 e3 e4 (l_call (cap := []) hS e5 hf e6 hnm e7 e8 (by rw [List.append_nil]; exact hc) h)
theorem gV {X : World → Value} (hS : St Γ l L D a w) (e : (g, ops[j]?, oj.dst, look l dj, ev l fo, fn.body, evl l args, Nat.blt d Γ.N) = (some (j, want), some oj, some dj, some (.bool want), some (.func (.func f) #[] [].toArray), some cd, some vs, true)) (hf : P.funcs[f]? = some fn) (hc : Calls P f vs.toArray w (Ret noB w fun v w => v = X w))
    (h : ∀ a' w', Keeps noB w w' → St Γ ((d, X w') :: l) L D a' w' → wpList P ops Q rest a' w') (hnm : (fn.name == "runtime.NumGoroutine") = false := by kernel_rfl) : wpList P ops Q (⟨some d, .call ⟨.value fo, args.toArray, ats⟩, ty, pos, af, g⟩ :: rest) a w := gC hS e hf hc (fun v a w hK hp s => by subst hp; exact h a w hK s) hnm
end
section
variable {P : Program} {md : Region.Mode} {ops : Array Oper} {F : Act → World → Prop} {Sg : Nat → World → Prop} {need : Nat → Nat → Bool} {fuel d : Nat} {listed : Array Bool} {Γ : Ctx} {l : Al Value} {L : Al Ob} {D : Al Fact} {a : Act} {w : World}
  {f : FuncId} {fn : Func} {cd : Code} {args : List Operand} {ats : Array TypeId} {vs : List Value} {post : Value → World → Prop} {fo : Operand} {ty : TypeId} {pos : String} {af : Array Edge} {g : Option (Nat × Bool)}
theorem nV (i : Nat) {X : World → Value} (hS : St Γ l L D a w) (e1 : ops[i]? = some ⟨some d, .call ⟨.value fo, args.toArray, ats⟩, ty, pos, af, g⟩) (e : (rn ops l ⟨some d, .call ⟨.value fo, args.toArray, ats⟩, ty, pos, af, g⟩, ev l fo, fn.body, evl l args, Nat.blt d Γ.N) = (some true, some (.func (.func f) #[] [].toArray), some cd, some vs, true)) (hf : P.funcs[f]? = some fn) (hc : Calls P f vs.toArray w (Ret noB w fun v w => v = X w))
    (h : ∀ a' w', Keeps noB w w' → St Γ ((d, X w') :: l) L D a' w' → (∀ g, need i g = true → Sg g w → Sg g w') ∧ wpAnyN P md ops F Sg need fuel (listed.setIfInBounds i true) a' w') (hnm : (fn.name == "runtime.NumGoroutine") = false := by kernel_rfl) (hr : Region.ready md ops listed = [i] := by kernel_rfl) : wpAnyN P md ops F Sg need (fuel + 1) listed a w := by
  injection e with e2 e; injection e with e3 e; injection e with e4 e; injection e with e5 e6
  exact n_1 i hS hr e1 (rn_runs e2) (l_call (cap := []) hS e3 hf e4 hnm e5 e6 (by rw [List.append_nil]; exact hc) fun v a w hK hp s => by subst hp; exact h a w hK s)
/-- a call, the only operation that is ready -/
theorem nC (i : Nat) (hS : St Γ l L D a w) (e1 : ops[i]? = some ⟨some d, .call ⟨.value fo, args.toArray, ats⟩, ty, pos, af, g⟩) (e : (rn ops l ⟨some d, .call ⟨.value fo, args.toArray, ats⟩, ty, pos, af, g⟩, ev l fo, fn.body, evl l args, Nat.blt d Γ.N) = (some true, some (.func (.func f) #[] [].toArray), some cd, some vs, true)) (hf : P.funcs[f]? = some fn) (hc : Calls P f vs.toArray w (Ret noB w post))
    (h : ∀ v a' w', Keeps noB w w' → post v w' → St Γ ((d, v) :: l) L D a' w' → (∀ g, need i g = true → Sg g w → Sg g w') ∧ wpAnyN P md ops F Sg need fuel (listed.setIfInBounds i true) a' w') (hnm : (fn.name == "runtime.NumGoroutine") = false := by kernel_rfl) (hr : Region.ready md ops listed = [i] := by kernel_rfl) : wpAnyN P md ops F Sg need (fuel + 1) listed a w := by
  injection e with e2 e; injection e with e3 e; injection e with e4 e; injection e with e5 e6
  exact n_1 i hS hr e1 (rn_runs e2) (l_call (cap := []) hS e3 hf e4 hnm e5 e6 (by rw [List.append_nil]; exact hc) h)
end
end Go.Gl
