/- Own lemmas for walks, sixth part: a region that draws its order: quiet operations are taken first; the others are carried out where they may come up. -/
import Derived.Test.YtoeolfnjblibpaaGl5
namespace Go.Gl
open Go.RowKit
set_option linter.unusedVariables false
set_option linter.unusedSimpArgs false

def OnlyN (K : Act → World → Prop) : Exit → Act → World → Prop
  | .normal, a, w => K a w
  | _, _, _ => False

section
variable {P : Program} {ops : Array Oper} {md : Region.Mode} {S : Nat → World → Prop} {need : Nat → Nat → Bool} {F : Act → World → Prop}

/-- whatever order is picked from here on; operation i keeps each condition S g for which it is said so ('need i g') -/
def wpAnyN (P : Program) (md : Region.Mode) (ops : Array Oper) (F : Act → World → Prop) (S : Nat → World → Prop) (need : Nat → Nat → Bool) : Nat → Array Bool → Act → World → Prop
  | 0, listed, a, w => Region.ready md ops listed = [] ∧ F a w
  | fuel + 1, listed, a, w =>
    (Region.ready md ops listed = [] → F a w) ∧
    ∀ i ∈ Region.ready md ops listed, wpOp P ops (OnlyN F) i (fun a' w' => (∀ g, need i g = true → S g w → S g w') ∧ wpAnyN P md ops F S need fuel (listed.setIfInBounds i true) a' w') a w
theorem wpAny_of_N : ∀ (fuel : Nat) (listed : Array Bool) (a : Act) (w : World), wpAnyN P md ops F S need fuel listed a w → wpAny P md ops (OnlyN F) fuel listed a w
  | 0, _, _, _, h => h
  | fuel + 1, _, _, _, h => ⟨h.1, fun i hi => wpOp_mono (fun a' w' h' => wpAny_of_N fuel _ a' w' h'.2) (h.2 i hi)⟩
theorem wpAnyN_first {i g : Nat} {oi : Oper} {v : Value} (hi : ops[i]? = some oi) (hsel : ∀ (j : Nat) (o : Oper) cs b, ops[j]? = some o → o.op ≠ .select cs b) :
    ∀ (fuel : Nat) (listed : Array Bool) (a : Act) (w : World),
      (∀ j oj, ops[j]? = some oj → j ≠ i → listed.getD j true = false → (∀ e ∈ oj.after, Region.binds md e = true → e.on ≠ i) → oi.apart ops oj = true ∧ need j g = true) →
      i ∈ Region.ready md ops listed → YieldsIf P ops (S g) oi v a → S g w →
      wpAnyN P md ops F S need fuel (listed.setIfInBounds i true) (a.put oi.dst v) w → wpAnyN P md ops F S need (fuel + 1) listed a w := by
  intro fuel
  induction fuel with
  | zero =>
    intro listed a w _ hr hy hS H
    refine ⟨fun h => (by rw [h] at hr; cases hr), fun j hj => ?_⟩
    by_cases hji : j = i
    · subst hji; exact hy.wpOp hi hS ⟨fun _ _ h => h, H⟩
    · have := ready_mono hj hji
      rw [H.1] at this
      cases this
  | succ fuel ih =>
    intro listed a w hfree hr hy hS H
    refine ⟨fun h => (by rw [h] at hr; cases hr), fun j hj => ?_⟩
    by_cases hji : j = i
    · subst hji; exact hy.wpOp hi hS ⟨fun _ _ h => h, H⟩
    · have h1 := H.2 j (ready_mono hj hji)
      obtain ⟨hjun, oj, hoj, hall⟩ := mem_ready.1 hj
      have hnot : ∀ e ∈ oj.after, Region.binds md e = true → e.on ≠ i := fun e he hb heq => by
        have h1 := hall e he hb
        have h0 := (mem_ready.1 hr).1
        rw [heq] at h1
        rcases Nat.lt_or_ge i listed.size with h' | h'
        · simp [h'] at h0 h1; rw [h0] at h1; cases h1
        · simp [Array.getElem?_eq_none h'] at h1
      obtain ⟨hap, hnj⟩ := hfree j oj hoj hji hjun hnot
      have h2 := wpOp_putIf hoj hap (fun cs b => hsel i oi cs b hi) (fun cs b => hsel j oj cs b hoj) (fun c a w (h : False) => h.elim) hy h1
      have hfree' : ∀ k ok, ops[k]? = some ok → k ≠ i → (listed.setIfInBounds j true).getD k true = false →
          (∀ e ∈ ok.after, Region.binds md e = true → e.on ≠ i) → oi.apart ops ok = true ∧ need k g = true := fun k ok hk hki hun hno => by
        refine hfree k ok hk hki ?_ hno
        by_cases hjk : j = k
        · subst hjk; exact hjun
        · rw [getD_set_ne true hjk] at hun; exact hun
      refine wpOp_mono (fun a' w' h3 => ⟨h3.2.1, ih (listed.setIfInBounds j true) a' w' hfree' (ready_mono hr (Ne.symm hji)) h3.1 (h3.2.1 g hnj hS) ?_⟩) h2
      rw [Array.setIfInBounds_comm _ _ hji]
      exact h3.2.2

def freeN (md : Region.Mode) (ops : Array Oper) (need : Nat → Nat → Bool) (listed : Array Bool) (i g : Nat) : Bool :=
  match ops[i]? with
  | none => false
  | some oi => (List.range ops.size).all fun j => j == i || listed.getD j true || match ops[j]? with
      | some oj => oj.after.any (fun e => Region.binds md e && e.on == i) || (oi.apart ops oj && need j g)
      | none => true
theorem freeN_spec {i g : Nat} {oi : Oper} {listed : Array Bool} (hi : ops[i]? = some oi) (h : freeN md ops need listed i g = true) (j : Nat) (oj : Oper)
    (hj : ops[j]? = some oj) (hne : j ≠ i) (hun : listed.getD j true = false) (hno : ∀ e ∈ oj.after, Region.binds md e = true → e.on ≠ i) : oi.apart ops oj = true ∧ need j g = true := by
  simp only [freeN, hi, List.all_eq_true, List.mem_range] at h
  have h1 := h j (Array.getElem?_eq_some_iff.1 hj).1
  simp only [hj, Bool.or_eq_true, beq_iff_eq, hne, false_or, hun, Bool.false_eq_true, Bool.and_eq_true] at h1
  rcases h1 with h1 | h1
  · obtain ⟨e, he, hb⟩ := Array.any_eq_true'.1 h1
    simp only [Bool.and_eq_true, beq_iff_eq] at hb
    exact absurd hb.2 (hno e he hb.1)
  · exact h1

/-- a plan: first quiet operations, each with the number of the condition that it leans on; then the others, in the only order in which they may come up -/
def wpPlan (P : Program) (ops : Array Oper) (F : Act → World → Prop) (S : Nat → World → Prop) (need : Nat → Nat → Bool) : List (Nat × Option Nat) → Act → World → Prop
  | [], a, w => F a w
  | (i, some g) :: r, a, w => ∃ o v, ops[i]? = some o ∧ YieldsIf P ops (S g) o v a ∧ S g w ∧ wpPlan P ops F S need r (a.put o.dst v) w
  | (i, none) :: r, a, w => wpOp P ops (OnlyN F) i (fun a' w' => (∀ g, need i g = true → S g w → S g w') ∧ wpPlan P ops F S need r a' w') a w
def planOk (md : Region.Mode) (ops : Array Oper) (need : Nat → Nat → Bool) : List (Nat × Option Nat) → Array Bool → Bool
  | [], listed => (Region.ready md ops listed).isEmpty
  | (i, some g) :: r, listed => (Region.ready md ops listed).contains i && freeN md ops need listed i g && planOk md ops need r (listed.setIfInBounds i true)
  | (i, none) :: r, listed => decide (Region.ready md ops listed = [i]) && planOk md ops need r (listed.setIfInBounds i true)
theorem wpAnyN_of_plan (hs : Region.noSelect ops = true) : ∀ (r : List (Nat × Option Nat)) (listed : Array Bool) (a : Act) (w : World), planOk md ops need r listed = true → wpPlan P ops F S need r a w →
    ∀ fuel, r.length ≤ fuel → wpAnyN P md ops F S need fuel listed a w
  | [], listed, a, w, hp, h, fuel, _ => by
    have hr : Region.ready md ops listed = [] := by simpa [planOk] using hp
    cases fuel with
    | zero => exact ⟨hr, h⟩
    | succ f => exact ⟨fun _ => h, by rw [hr]; simp⟩
  | (i, some g) :: r, listed, a, w, hp, h, fuel, hf => by
    obtain ⟨o, v, ho, hy, hS, h'⟩ := h
    simp only [planOk, Bool.and_eq_true] at hp
    obtain ⟨⟨h2, h3⟩, h4⟩ := hp
    cases fuel with
    | zero => simp at hf
    | succ f =>
      exact wpAnyN_first ho (Region.noSelect_spec hs) f listed a w (freeN_spec ho h3) (by simpa using h2) hy hS
        (wpAnyN_of_plan hs r _ _ w h4 h' f (by simpa using hf))
  | (i, none) :: r, listed, a, w, hp, h, fuel, hf => by
    simp only [planOk, Bool.and_eq_true, decide_eq_true_eq] at hp
    obtain ⟨h1, h2⟩ := hp
    cases fuel with
    | zero => simp at hf
    | succ f =>
      refine ⟨fun h0 => (by rw [h0] at h1; cases h1), fun j hj => ?_⟩
      rw [h1] at hj
      have hji : j = i := by simpa using hj
      subst hji
      exact wpOp_mono (fun a' w' h3 => ⟨h3.1, wpAnyN_of_plan hs r _ a' w' h2 h3.2 f (by simpa using hf)⟩) h
end

/-- which conditions an operation need not keep -/
def needF (nd : List (Nat × Nat)) (i g : Nat) : Bool := !nd.contains (i, g)
def one (L : Al Ob) (g : Nat) : Al Ob := match look L g with
  | some o => [(g, o)]
  | none => []
theorem look_one {L : Al Ob} {g k : Nat} {o : Ob} (h : look (one L g) k = some o) : k = g ∧ look L g = some o := by
  unfold one at h
  split at h
  · rename_i o' ho
    rcases look_cons h with ⟨rfl, rfl⟩ | ⟨_, h⟩
    · exact ⟨rfl, ho⟩
    · cases h
  · cases h

section
variable {P : Program} {Γ : Ctx} {l : Al Value} {L L0 L1 : Al Ob} {D D0 : Al Fact} {a : Act} {w wr w' : World} {ops : Array Oper} {F : Act → World → Prop} {need : Nat → Nat → Bool} {o : Oper} {v : Value} {d i g : Nat} {r : List (Nat × Option Nat)} {S : Nat → World → Prop}
theorem St.drew (hS : St Γ l L D a w) : St Γ l L D a w.drew := hS.ext (hS.wd.grown (Keeps.drew _ _))
theorem Ext.init (hR : Wd Γ L0 D0 wr) (g : Nat) : Ext L0 (one L0 g) wr wr := ⟨Keeps.refl _ _, fun k o ho => by obtain ⟨rfl, h⟩ := look_one ho; exact hR.holds _ _ h⟩
theorem Ext.grow (h : Ext L0 L1 wr w) (hk : Keeps noB w w') : Ext L0 L1 wr w' :=
  ⟨h.1.trans hk.all, fun k o ho => o.keep (h.2 k o ho) fun b hb => hk.block b (o.lt (h.2 k o ho) hb) id⟩
/-- an owned object was written, another one is asked for -/
theorem Ext.obj (h : Ext L0 (one L0 g) wr w) (hR : Wd Γ L0 D0 wr) {kk : Nat} {ob : Ob} (hk : look L0 kk = some ob) (hK : Keeps ob.ids w w') (hne : g ≠ kk) : Ext L0 (one L0 g) wr w' := by
  refine ⟨h.1.trans (hK.mono fun x _ e => ⟨kk, ob, hk, e⟩), fun k o ho => o.keep (h.2 k o ho) fun x hx => ?_⟩
  obtain ⟨rfl, ho'⟩ := look_one ho
  have hlt := o.lt (hR.holds _ _ ho') hx
  exact hK.block x (Nat.lt_of_lt_of_le hlt h.1.size) fun e => hne (hR.apart k kk o ob x ho' hk hx e)
/-- memory that was made in the region was written -/
theorem Ext.app (h : Ext L0 (one L0 g) wr w) (hR : Wd Γ L0 D0 wr) {ids : Bs} (hk : Keeps ids w w') (hn : ∀ b, ids b → wr.heap.size ≤ b) : Ext L0 (one L0 g) wr w' := by
  refine ⟨⟨hk.os.trans h.1.os, hk.tape.trans h.1.tape, hk.output.trans h.1.output, Nat.le_trans h.1.size hk.size, fun k hk' hm => ?_⟩, fun k o ho => o.keep (h.2 k o ho) fun b hb => ?_⟩
  · exact (hk.block k (Nat.lt_of_lt_of_le hk' h.1.size) fun hi => by have := hn k hi; omega).trans (h.1.block k hk' hm)
  · obtain ⟨rfl, ho'⟩ := look_one ho
    have := o.lt (hR.holds _ _ ho') hb
    exact hk.block b (Nat.lt_of_lt_of_le this h.1.size) fun hi => by have := hn b hi; omega
/-- where a row lies, seen from an earlier world -/
def NewA (wr : World) (A : Option Addr) : Prop := ∀ p, A = some p → wr.heap.size ≤ p.block
theorem NewA.lit {b : Nat} (hE : wr.heap.size ≤ w.heap.size) (hb : w.heap.size ≤ b) : NewA wr (some ⟨b, 0, none⟩) := fun p hp => by cases hp; exact Nat.le_trans hE hb
theorem NewA.grow {A : Option Addr} (hE : wr.heap.size ≤ w.heap.size) (hb : ∀ p, A = some p → w.heap.size ≤ p.block) : NewA wr A := fun p hp => Nat.le_trans hE (hb p hp)
theorem NewA.app {A A' : Option Addr} (hE : wr.heap.size ≤ w.heap.size) (h : NewA wr A) (hat : ∀ p, A' = some p → (∃ q, A = some q ∧ q.block = p.block) ∨ w.heap.size ≤ p.block) : NewA wr A' := fun p hp => by
  rcases hat p hp with ⟨q, hq, e⟩ | h1
  · rw [← e]; exact h q hq
  · exact Nat.le_trans hE h1
theorem NewA.ids {A : Option Addr} {n c : Nat} {t : TypeId} {sz : Nat} {xs : List Value} (h : NewA wr A) : ∀ b, (Ob.row A n c t sz xs).ids b → wr.heap.size ≤ b := by
  rintro b ⟨p, hp, rfl⟩
  exact h p hp

/-! whether a guard lets an operation run -/
def Runs (ops : Array Oper) (l : Al Value) (o : Oper) (b : Bool) : Prop := match o.guard with
  | none => b = true
  | some (j, want) => ∃ oj dj u, ops[j]? = some oj ∧ oj.dst = some dj ∧ look l dj = some u ∧ isB u want = b
theorem runs_wanted {N : Nat} (hF : Has N l a) {b : Bool} (h : Runs ops l o b) : Region.wanted o (yielded ops a.tmps) = b := by
  unfold Runs at h
  unfold Region.wanted
  cases hg : o.guard with
  | none => rw [hg] at h; simpa using h.symm
  | some jw =>
    obtain ⟨j, want⟩ := jw
    rw [hg] at h
    obtain ⟨oj, dj, u, hj, hdj, hu, hb⟩ := h
    have hs := hF.slots dj u hu
    simp only [yielded, hj, hdj, Option.bind_some]
    cases hx : a.tmps[dj]? with
    | none =>
      rw [Array.getD_eq_getD_getElem?, hx] at hs
      simp only [Option.getD_none] at hs
      subst hs
      subst hb
      rfl
    | some q =>
      rw [Array.getD_eq_getD_getElem?, hx] at hs
      simp only [Option.getD_some] at hs
      subst hs
      subst hb
      cases q <;> first | rfl | (rename_i b; cases b <;> cases want <;> rfl)

/-! the beginning -/
theorem d_plan {id : Nat} {Q : Exit → Act → World → Prop} {ls : List Oper} (hS : St Γ l L D a w) (nd : List (Nat × Nat)) (plan : List (Nat × Option Nat)) (hm : P.follows .mixedOrders = true) (hs : Region.noSelect ls.toArray = true)
    (hp : planOk .any ls.toArray (needF nd) plan (Array.replicate ls.length false) = true) (hl : Nat.ble plan.length ls.length = true)
    (h : ∀ wr, wr.heap.size ≤ wr.heap.size → St Γ l L D a wr → wpPlan P ls.toArray (Q .normal) (fun g => Ext L (one L g) wr) (needF nd) plan a wr) : (Code.region id ls.toArray true).wp P Q a w := by
  refine wp_mono (Q := OnlyN (Q .normal)) (wp_region_any hm (wpAny_of_N (S := fun g => Ext L (one L g) w.drew) (need := needF nd) _ _ _ _ ?_)) fun e a w hq => ?_
  · have := wpAnyN_of_plan hs plan _ a w.drew hp (h w.drew (Nat.le_refl _) hS.drew) ls.length (Nat.le_of_ble_eq_true hl)
    simpa using this
  · cases e <;> first | exact hq | exact hq.elim
theorem d_steps {id : Nat} {Q : Exit → Act → World → Prop} {ls : List Oper} (hS : St Γ l L D a w) (nd : List (Nat × Nat)) (hm : P.follows .mixedOrders = true)
    (h : ∀ wr, wr.heap.size ≤ wr.heap.size → St Γ l L D a wr → wpAnyN P .any ls.toArray (Q .normal) (fun g => Ext L (one L g) wr) (needF nd) ls.length (Array.replicate ls.length false) a wr) : (Code.region id ls.toArray true).wp P Q a w := by
  refine wp_mono (Q := OnlyN (Q .normal)) (wp_region_any hm (wpAny_of_N (S := fun g => Ext L (one L g) w.drew) (need := needF nd) _ _ _ _ (by simpa using h w.drew (Nat.le_refl _) hS.drew))) fun e a w hq => ?_
  cases e <;> first | exact hq | exact hq.elim

/-! the moves of a plan -/
theorem q_take (hS : St Γ l L D a wr) (hR : Wd Γ L0 D0 wr) (hi : ops[i]? = some o) (ho : o.dst = some d) (hg : Runs ops l o true) (hd : Nat.blt d Γ.N = true) (hy : Yl P L0 (one L0 g) o a wr v)
    (h : ∀ a', St Γ ((d, v) :: l) L D a' wr → wpPlan P ops F (fun g => Ext L0 (one L0 g) wr) need r a' wr) : wpPlan P ops F (fun g => Ext L0 (one L0 g) wr) need ((i, some g) :: r) a wr := by
  refine ⟨o, v, hi, .inl ⟨runs_wanted hS.fr hg, hy⟩, Ext.init hR g, ?_⟩
  rw [ho]
  exact h _ (hS.put hd)
theorem q_pass (hS : St Γ l L D a wr) (hR : Wd Γ L0 D0 wr) (hi : ops[i]? = some o) (ho : o.dst = some d) (hg : Runs ops l o false) (hd : Nat.blt d Γ.N = true)
    (h : ∀ a', St Γ ((d, undef) :: l) L D a' wr → wpPlan P ops F (fun g => Ext L0 (one L0 g) wr) need r a' wr) : wpPlan P ops F (fun g => Ext L0 (one L0 g) wr) need ((i, some g) :: r) a wr := by
  refine ⟨o, undef, hi, .inr ⟨runs_wanted hS.fr hg, rfl⟩, Ext.init hR g, ?_⟩
  rw [ho]
  exact h _ (hS.put hd)
theorem wpOp_of {Q : Exit → Act → World → Prop} {K : Act → World → Prop} (hS : St Γ l L D a w) (hi : ops[i]? = some o) (hg : Runs ops l o true) (h : o.wp P a w K Q) : wpOp P ops Q i K a w := by
  unfold wpOp
  simp only [hi]
  rw [if_pos (runs_wanted hS.fr hg)]
  exact .inl h
theorem wpOp_not {Q : Exit → Act → World → Prop} {K : Act → World → Prop} (hS : St Γ l L D a w) (hi : ops[i]? = some o) (hg : Runs ops l o false) (ho : o.dst = some d) (hd : Nat.blt d Γ.N = true) (h : ∀ a', St Γ ((d, undef) :: l) L D a' w → K a' w) : wpOp P ops Q i K a w := by
  unfold wpOp
  simp only [hi]
  rw [if_neg (by simp [runs_wanted hS.fr hg]), ho]
  exact h _ (hS.put hd)
theorem l_take (hS : St Γ l L D a w) (hi : ops[i]? = some o) (hg : Runs ops l o true) (h : o.wp P a w (fun a' w' => (∀ g, need i g = true → S g w → S g w') ∧ wpPlan P ops F S need r a' w') (OnlyN F)) : wpPlan P ops F S need ((i, none) :: r) a w :=
  wpOp_of hS hi hg h
theorem l_pass (hS : St Γ l L D a w) (hi : ops[i]? = some o) (hg : Runs ops l o false) (ho : o.dst = some d) (hd : Nat.blt d Γ.N = true) (h : ∀ a', St Γ ((d, undef) :: l) L D a' w → wpPlan P ops F S need r a' w) : wpPlan P ops F S need ((i, none) :: r) a w :=
  wpOp_not hS hi hg ho hd fun a' hS' => ⟨fun _ _ h => h, h a' hS'⟩
/-- a quiet operation, carried out where it stands -/
theorem l_quiet {K : Act → World → Prop} {Q : Exit → Act → World → Prop} (hS : St Γ l L D a w) (ho : o.dst = some d) (hd : Nat.blt d Γ.N = true) (hy : Yl P L L o a w v) (h : ∀ a', St Γ ((d, v) :: l) L D a' w → K a' w) : o.wp P a w K Q := by
  unfold Oper.wp
  rw [hy w hS.wd.refl]
  show K (a.put o.dst v) w
  rw [ho]
  exact h _ (hS.put hd)

/-! the same step by step, where more than one loud operation may come up -/
variable {md : Region.Mode} {fuel : Nat} {listed : Array Bool}
theorem n_q (i g : Nat) (hS : St Γ l L D a wr) (hR : Wd Γ L0 D0 wr) (hi : ops[i]? = some o) (hs : Region.noSelect ops = true) (hr : (Region.ready md ops listed).contains i = true) (hf : freeN md ops need listed i g = true) (ho : o.dst = some d) (hg : Runs ops l o true) (hd : Nat.blt d Γ.N = true) (hy : Yl P L0 (one L0 g) o a wr v)
    (h : ∀ a', St Γ ((d, v) :: l) L D a' wr → wpAnyN P md ops F (fun g => Ext L0 (one L0 g) wr) need fuel (listed.setIfInBounds i true) a' wr) : wpAnyN P md ops F (fun g => Ext L0 (one L0 g) wr) need (fuel + 1) listed a wr := by
  refine wpAnyN_first (g := g) hi (Region.noSelect_spec hs) fuel listed a wr (freeN_spec hi hf) (by simpa using hr) (.inl ⟨runs_wanted hS.fr hg, hy⟩) (Ext.init hR g) ?_
  rw [ho]
  exact h _ (hS.put hd)
theorem n_1 (i : Nat) (hS : St Γ l L D a w) (hr : Region.ready md ops listed = [i]) (hi : ops[i]? = some o) (hg : Runs ops l o true) (h : o.wp P a w (fun a' w' => (∀ g, need i g = true → S g w → S g w') ∧ wpAnyN P md ops F S need fuel (listed.setIfInBounds i true) a' w') (OnlyN F)) : wpAnyN P md ops F S need (fuel + 1) listed a w := by
  refine ⟨fun h0 => (by rw [h0] at hr; cases hr), fun j hj => ?_⟩
  rw [hr] at hj
  obtain rfl : j = i := by simpa using hj
  exact wpOp_of hS hi hg h
theorem n_2 (i j : Nat) {o' : Oper} (hS : St Γ l L D a w) (hr : Region.ready md ops listed = [i, j]) (hi : ops[i]? = some o) (hg : Runs ops l o true) (hj : ops[j]? = some o') (hg' : Runs ops l o' true)
    (h : o.wp P a w (fun a' w' => (∀ g, need i g = true → S g w → S g w') ∧ wpAnyN P md ops F S need fuel (listed.setIfInBounds i true) a' w') (OnlyN F))
    (h' : o'.wp P a w (fun a' w' => (∀ g, need j g = true → S g w → S g w') ∧ wpAnyN P md ops F S need fuel (listed.setIfInBounds j true) a' w') (OnlyN F)) : wpAnyN P md ops F S need (fuel + 1) listed a w := by
  refine ⟨fun h0 => (by rw [h0] at hr; cases hr), fun q hq => ?_⟩
  rw [hr] at hq
  have : q = i ∨ q = j := by simpa using hq
  rcases this with rfl | rfl
  · exact wpOp_of hS hi hg h
  · exact wpOp_of hS hj hg' h'
theorem n_end (hr : Region.ready md ops listed = []) (h : F a w) : wpAnyN P md ops F S need fuel listed a w := by
  cases fuel with
  | zero => exact ⟨hr, h⟩
  | succ f => exact ⟨fun _ => h, by rw [hr]; simp⟩
end
end Go.Gl
