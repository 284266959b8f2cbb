/- Own lemmas, fourteenth part: calls that change objects of the caller's: handed over and handed back. -/
import Derived.Test.YtoeolfnjblibpaaGl13
namespace Go.Gl
open Go.RowKit
set_option linter.unusedVariables false
set_option linter.unusedSimpArgs false

def disj {α : Type} (L1 L2 : Al α) : Bool := L1.all fun p => (look L2 p.1).isNone
theorem disj_no {α : Type} {L1 L2 : Al α} (h : disj L1 L2 = true) {k : Nat} {o o' : α} (h1 : look L1 k = some o) (h2 : look L2 k = some o') : False := by
  induction L1 with
  | nil => cases h1
  | cons p r ih =>
    obtain ⟨j, u⟩ := p
    simp only [disj, List.all_cons, Bool.and_eq_true] at h
    rcases look_cons h1 with ⟨rfl, _⟩ | ⟨_, h1⟩
    · rw [h2] at h; cases h.1
    · exact ih h.2 h1
theorem look_app {α : Type} {L1 L2 : Al α} {k : Nat} {o : α} (h : look (L1 ++ L2) k = some o) : look L1 k = some o ∨ look L2 k = some o := by
  induction L1 with
  | nil => exact .inr h
  | cons p r ih =>
    obtain ⟨j, u⟩ := p
    rcases look_cons h with ⟨rfl, rfl⟩ | ⟨hne, h⟩
    · exact .inl (look_same _ _ _)
    · rw [look_other hne]
      exact ih h
section
variable {Γ : Ctx} {l : Al Value} {L L1 Lsub Lrest : Al Ob} {D D1 Dsub : Al Fact} {a : Act} {w w' : World}
theorem Wd.lendL (h : Wd Γ L D w) (Lsub Lrest : Al Ob) (Dsub : Al Fact) (hs : SubA Lsub L) (hr : SubA Lrest L) (hd : disj Lsub Lrest = true) (hD : SubA Dsub D) : Wd ⟨0, mtb Γ Lrest, own Lsub, w⟩ Lsub Dsub w := by
  refine ⟨Keeps.refl _ _, fun k o hk => h.holds k o (hs.look hk), fun k k' o o' b h1 h2 => h.apart k k' o o' b (hs.look h1) (hs.look h2), fun b hb => .inr hb, fun b hb => h.lt (mtb_sub hr hb), fun b hb hm => ?_, fun k f hf => f.change (fun b _ hb => ?_) (h.facts k f (hD.look hf))⟩
  · obtain ⟨k, o, hk, hi⟩ := hb
    rcases hm with hm | ⟨k', o', hk', hi'⟩
    · exact h.sep b ⟨k, o, hs.look hk, hi⟩ hm
    · have := h.apart k k' o o' b (hs.look hk) (hr.look hk') hi hi'
      subst this
      exact disj_no hd hk hk'
  · rcases hb with hb | hb
    · exact mtb_sub hr hb
    · exact .inr (own_sub hs hb)
theorem Wd.back (h : Wd Γ L D w) (hs : SubA Lsub L) (hr : SubA Lrest L) (hd : disj Lsub Lrest = true) (hW : Wd ⟨0, mtb Γ Lrest, own Lsub, w⟩ L1 D1 w') (hd1 : disj L1 Lrest = true) : Wd Γ (L1 ++ Lrest) (D1 ++ D) w' := by
  have hk : Keeps (own Lsub) w w' := hW.kept
  have hkL : Keeps (own L) w w' := hk.mono fun b _ hb => own_sub hs hb
  have keepR : ∀ k o, look Lrest k = some o → o.holds w' := fun k o ho => o.keep (h.holds k o (hr.look ho)) fun b hb => hk.block b (o.lt (h.holds k o (hr.look ho)) hb) fun ⟨k', o', hk', hi'⟩ => by
    have := h.apart k k' o o' b (hr.look ho) (hs.look hk') hb hi'
    subst this
    exact disj_no hd hk' ho
  have cross : ∀ k k' o o' b, look L1 k = some o → look Lrest k' = some o' → o.ids b → o'.ids b → False := fun k k' o o' b h1 h2 i1 i2 => by
    have hlt := o'.lt (h.holds k' o' (hr.look h2)) i2
    rcases hW.mine b ⟨k, o, h1, i1⟩ with h3 | ⟨q, oq, hq, hi⟩
    · have : w.heap.size ≤ b := h3
      omega
    · have := h.apart q k' oq o' b (hs.look hq) (hr.look h2) hi i2
      subst this
      exact disj_no hd hq h2
  have h2 : Wd Γ (L1 ++ Lrest) D w' := h.step hkL (fun k o ho => (look_app ho).elim (fun h1 => hW.holds k o h1) (fun h1 => keepR k o h1)) (fun k k' o o' b h1 h2 i1 i2 => by
      rcases look_app h1 with h1 | h1 <;> rcases look_app h2 with h2 | h2
      · exact hW.apart k k' o o' b h1 h2 i1 i2
      · exact (cross k k' o o' b h1 h2 i1 i2).elim
      · exact (cross k' k o' o b h2 h1 i2 i1).elim
      · exact h.apart k k' o o' b (hr.look h1) (hr.look h2) i1 i2) (fun b hb => by
      obtain ⟨k, o, ho, hi⟩ := hb
      rcases look_app ho with h1 | h1
      · rcases hW.mine b ⟨k, o, h1, hi⟩ with h3 | h3
        · exact .inr h3
        · exact .inl (own_sub hs h3)
      · exact .inl ⟨k, o, hr.look h1, hi⟩)
  refine ⟨h2.kept, h2.holds, h2.apart, h2.mine, h2.old, h2.sep, fun k f hf => ?_⟩
  rcases look_app hf with h3 | h3
  · refine f.change (fun b _ hb => ?_) (hW.facts k f h3)
    rcases hb with hb | ⟨k', o', hk', hi'⟩
    · exact .inl (.inl hb)
    · rcases look_app hk' with h4 | h4
      · exact .inr ⟨k', o', h4, hi'⟩
      · exact .inl (.inr ⟨k', o', h4, hi'⟩)
  · exact h2.facts k f h3
variable {P : Program}
theorem enterL {f : FuncId} {fn : Func} {cd : Code} {vs : List Value} {R : Ending → World → Prop} (M C : Bs) (hf : P.funcs[f]? = some fn) (hb : fn.body = some cd) (hn : Nat.ble vs.length fn.ntmps = true) (hW : Wd ⟨0, M, C, w⟩ L D w)
    (h : ∀ a, St ⟨fn.ntmps, M, C, w⟩ (slotsFrom 0 vs) L D a w → cd.wp P (bodyPost P fn R) a w) : Calls P f vs.toArray w R := by
  refine calls_of_wp hf hb (h _ ⟨⟨?_, rfl, fun k u hk => ?_⟩, ⟨hW.kept, hW.holds, hW.apart, hW.mine, hW.old, hW.sep, hW.facts⟩⟩)
  · have := Nat.le_of_ble_eq_true hn
    simp
    omega
  · obtain ⟨_, hk⟩ := look_slotsFrom hk
    have hlt : k < vs.length := (List.getElem?_eq_some_iff.1 hk).1
    rw [Array.getD_eq_getD_getElem?, Array.getElem?_append_left (by simpa using hlt)]
    simp at hk ⊢
    rw [hk]
    rfl
theorem St.outL {N : Nat} {M C : Bs} {w0 : World} (hS : St ⟨N, M, C, w0⟩ l L D a w) (hL : SubA L1 L) (hD : SubA D1 D) : Wd ⟨0, M, C, w0⟩ L1 D1 w := by
  have h := (hS.wd.subD hD).subL hL
  exact ⟨h.kept, h.holds, h.apart, h.mine, h.old, h.sep, h.facts⟩
variable {d : Tmp} {ty : TypeId} {pos : String} {af : Array Edge} {g : Option (Nat × Bool)} {K : Act → World → Prop} {Q : Exit → Act → World → Prop}
theorem l_callMut {f : FuncId} {fn : Func} {cd : Code} {args : List Operand} {ats : Array TypeId} {vs : List Value} {post : Value → World → Prop} {fo : Operand} {cap : List Value} (hS : St Γ l L D a w) (Lsub Lrest : Al Ob) (hs : SubA Lsub L) (hr : SubA Lrest L) (hd : disj Lsub Lrest = true)
    (hfo : ev l fo = some (.func (.func f) #[] cap.toArray)) (hf : P.funcs[f]? = some fn) (hb : fn.body = some cd) (hnm : (fn.name == "runtime.NumGoroutine") = false)
    (ha : evl l args = some vs) (hdd : Nat.blt d Γ.N = true) (hc : Calls P f (vs ++ cap).toArray w (Ret (own Lsub) w post))
    (h : ∀ v a' w', Keeps (own Lsub) w w' → post v w' → Has Γ.N ((d, v) :: l) a' → K a' w') : Oper.wp P ⟨some d, .call ⟨.value fo, args.toArray, ats⟩, ty, pos, af, g⟩ a w K Q := by
  have h1 : args.map a.eval = vs := evl_eval hS.fr ha
  have hr : (execOp a.eval (⟨some d, .call ⟨.value fo, args.toArray, ats⟩, ty, pos, af, g⟩ : Oper)).run P w = .ok (.enter f (vs ++ cap).toArray) w := by
    simp [execOp, resolve, hS.fr.eval hfo, Deferred.ofValue, invoke, h1, run_call_func hf hb hnm]
  unfold Oper.wp
  rw [hr]
  refine Calls.mono hc ?_
  rintro e w' ⟨v, rfl, hk, hp⟩
  exact h v _ w' hk hp (hS.fr.put hdd)
end
end Go.Gl
