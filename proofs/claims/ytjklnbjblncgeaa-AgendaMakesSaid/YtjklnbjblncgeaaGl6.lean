/- Own lemmas for walks, sixth part: a region that draws its order, walked by a plan: quiet operations as soon as they may come up, the others where they are the only ones left to come up. -/
import Derived.Test.YtjklnbjblncgeaaGl5
namespace Go.Gl
open Go.RowKit
set_option linter.unusedVariables false
set_option linter.unusedSimpArgs false

def OnlyN (K : Act → World → Prop) : Exit → Act → World → Prop
  | .normal, a, w => K a w
  | _, _, _ => False

section
variable {P : Program} {ops : Array Oper} {Q : Exit → Act → World → Prop} {md : Region.Mode} {S : World → Prop} {need : Nat → Bool} {F : Act → World → Prop}

def wpAnyN (P : Program) (md : Region.Mode) (ops : Array Oper) (F : Act → World → Prop) (S : World → Prop) (need : Nat → Bool) : Nat → Array Bool → Act → World → Prop
  | 0, listed, a, w => Region.ready md ops listed = [] ∧ F a w
  | fuel + 1, listed, a, w =>
    (Region.ready md ops listed = [] → F a w) ∧
    ∀ i ∈ Region.ready md ops listed, wpOp P ops (OnlyN F) i (fun a' w' => (need i = true → S w') ∧ wpAnyN P md ops F S need fuel (listed.setIfInBounds i true) a' w') a w
theorem wpAny_of_N : ∀ (fuel : Nat) (listed : Array Bool) (a : Act) (w : World), wpAnyN P md ops F S need fuel listed a w → wpAny P md ops (OnlyN F) fuel listed a w
  | 0, _, _, _, h => h
  | fuel + 1, _, _, _, h => ⟨h.1, fun i hi => wpOp_mono (fun a' w' h' => wpAny_of_N fuel _ a' w' h'.2) (h.2 i hi)⟩
theorem wpAnyN_first {i : Nat} {oi : Oper} {v : Value} (hi : ops[i]? = some oi) (hsel : ∀ (j : Nat) (o : Oper) cs b, ops[j]? = some o → o.op ≠ .select cs b) :
    ∀ (fuel : Nat) (listed : Array Bool) (a : Act) (w : World),
      (∀ j oj, ops[j]? = some oj → j ≠ i → listed.getD j true = false → (∀ e ∈ oj.after, Region.binds md e = true → e.on ≠ i) → oi.apart ops oj = true ∧ need j = true) →
      i ∈ Region.ready md ops listed → YieldsIf P ops S oi v a → S w →
      wpAnyN P md ops F S need fuel (listed.setIfInBounds i true) (a.put oi.dst v) w → wpAnyN P md ops F S need (fuel + 1) listed a w := by
  intro fuel
  induction fuel with
  | zero =>
    intro listed a w _ hr hy hS H
    refine ⟨fun h => (by rw [h] at hr; cases hr), fun j hj => ?_⟩
    by_cases hji : j = i
    · subst hji; exact hy.wpOp hi hS ⟨fun _ => hS, H⟩
    · have := ready_mono hj hji
      rw [H.1] at this
      cases this
  | succ fuel ih =>
    intro listed a w hfree hr hy hS H
    refine ⟨fun h => (by rw [h] at hr; cases hr), fun j hj => ?_⟩
    by_cases hji : j = i
    · subst hji; exact hy.wpOp hi hS ⟨fun _ => hS, H⟩
    · have h1 := H.2 j (ready_mono hj hji)
      obtain ⟨hjun, oj, hoj, hall⟩ := mem_ready.1 hj
      have hnot : ∀ e ∈ oj.after, Region.binds md e = true → e.on ≠ i := fun e he hb heq => by
        have h1 := hall e he hb
        have h0 := (mem_ready.1 hr).1
        rw [heq] at h1
        rcases Nat.lt_or_ge i listed.size with h' | h'
        · simp [h'] at h0 h1; rw [h0] at h1; cases h1
        · simp [Array.getElem?_eq_none h'] at h1
      obtain ⟨hap, hnj⟩ := hfree j oj hoj hji hjun hnot
      have h2 := wpOp_putIf hoj hap (fun cs b => hsel i oi cs b hi) (fun cs b => hsel j oj cs b hoj) (fun c a w (h : False) => h.elim) hy h1
      have hfree' : ∀ k ok, ops[k]? = some ok → k ≠ i → (listed.setIfInBounds j true).getD k true = false →
          (∀ e ∈ ok.after, Region.binds md e = true → e.on ≠ i) → oi.apart ops ok = true ∧ need k = true := fun k ok hk hki hun hno => by
        refine hfree k ok hk hki ?_ hno
        by_cases hjk : j = k
        · subst hjk; exact hjun
        · rw [getD_set_ne true hjk] at hun; exact hun
      refine wpOp_mono (fun a' w' h3 => ⟨h3.2.1, ih (listed.setIfInBounds j true) a' w' hfree' (ready_mono hr (Ne.symm hji)) h3.1 (h3.2.1 hnj) ?_⟩) h2
      rw [Array.setIfInBounds_comm _ _ hji]
      exact h3.2.2
end

/-- a plan: the operations in some order, each with the word whether it is taken as a quiet one -/
def wpPlan (P : Program) (ops : Array Oper) (F : Act → World → Prop) (S : World → Prop) (need : Nat → Bool) : List (Nat × Bool) → Act → World → Prop
  | [], a, w => F a w
  | (i, true) :: r, a, w => ∃ o v, ops[i]? = some o ∧ YieldsIf P ops S o v a ∧ wpPlan P ops F S need r (a.put o.dst v) w
  | (i, false) :: r, a, w => wpOp P ops (OnlyN F) i (fun a' w' => (need i = true → S w') ∧ wpPlan P ops F S need r a' w') a w
def freeN (md : Region.Mode) (ops : Array Oper) (need : Nat → Bool) (listed : Array Bool) (i : Nat) : Bool :=
  match ops[i]? with
  | none => false
  | some oi => (List.range ops.size).all fun j => j == i || listed.getD j true || match ops[j]? with
      | some oj => oj.after.any (fun e => Region.binds md e && e.on == i) || (oi.apart ops oj && need j)
      | none => true
theorem freeN_spec {md : Region.Mode} {ops : Array Oper} {need : Nat → Bool} {i : Nat} {oi : Oper} {listed : Array Bool} (hi : ops[i]? = some oi) (h : freeN md ops need listed i = true) (j : Nat) (oj : Oper)
    (hj : ops[j]? = some oj) (hne : j ≠ i) (hun : listed.getD j true = false) (hno : ∀ e ∈ oj.after, Region.binds md e = true → e.on ≠ i) : oi.apart ops oj = true ∧ need j = true := by
  simp only [freeN, hi, List.all_eq_true, List.mem_range] at h
  have h1 := h j (Array.getElem?_eq_some_iff.1 hj).1
  simp only [hj, Bool.or_eq_true, beq_iff_eq, hne, false_or, hun, Bool.false_eq_true, Bool.and_eq_true] at h1
  rcases h1 with h1 | h1
  · obtain ⟨e, he, hb⟩ := Array.any_eq_true'.1 h1
    simp only [Bool.and_eq_true, beq_iff_eq] at hb
    exact absurd hb.2 (hno e he hb.1)
  · exact h1
def planOk (md : Region.Mode) (ops : Array Oper) (need : Nat → Bool) : List (Nat × Bool) → Bool → Array Bool → Bool
  | [], _, listed => (Region.ready md ops listed).isEmpty
  | (i, true) :: r, s, listed => s && (Region.ready md ops listed).contains i && freeN md ops need listed i && planOk md ops need r s (listed.setIfInBounds i true)
  | (i, false) :: r, s, listed => decide (Region.ready md ops listed = [i]) && planOk md ops need r (s && need i) (listed.setIfInBounds i true)

section
variable {P : Program} {ops : Array Oper} {md : Region.Mode} {S : World → Prop} {need : Nat → Bool} {F : Act → World → Prop}
theorem wpAnyN_of_plan (hs : Region.noSelect ops = true) : ∀ (r : List (Nat × Bool)) (s : Bool) (listed : Array Bool) (a : Act) (w : World), planOk md ops need r s listed = true → (s = true → S w) → wpPlan P ops F S need r a w →
    ∀ fuel, r.length ≤ fuel → wpAnyN P md ops F S need fuel listed a w
  | [], s, listed, a, w, hp, _, h, fuel, _ => by
    have hr : Region.ready md ops listed = [] := by simpa [planOk] using hp
    cases fuel with
    | zero => exact ⟨hr, h⟩
    | succ f => exact ⟨fun _ => h, by rw [hr]; simp⟩
  | (i, true) :: r, s, listed, a, w, hp, hS, h, fuel, hf => by
    obtain ⟨o, v, ho, hy, h'⟩ := h
    simp only [planOk, Bool.and_eq_true] at hp
    obtain ⟨⟨⟨h1, h2⟩, h3⟩, h4⟩ := hp
    cases fuel with
    | zero => simp at hf
    | succ f =>
      exact wpAnyN_first ho (Region.noSelect_spec hs) f listed a w (freeN_spec ho h3) (by simpa using h2) hy (hS h1)
        (wpAnyN_of_plan hs r s _ _ w h4 hS h' f (by simpa using hf))
  | (i, false) :: r, s, listed, a, w, hp, hS, h, fuel, hf => by
    simp only [planOk, Bool.and_eq_true, decide_eq_true_eq] at hp
    obtain ⟨h1, h2⟩ := hp
    cases fuel with
    | zero => simp at hf
    | succ f =>
      refine ⟨fun h0 => (by rw [h0] at h1; cases h1), fun j hj => ?_⟩
      rw [h1] at hj
      have hji : j = i := by simpa using hj
      subst hji
      exact wpOp_mono (fun a' w' h3 => ⟨h3.1, wpAnyN_of_plan hs r (s && need j) _ a' w' h2 (fun hb => h3.1 (by simp at hb; exact hb.2)) h3.2 f (by simpa using hf)⟩) h
/-- the region: 'S' is what the quiet operations may lean on -/
theorem c_draw {id : Nat} {Q : Exit → Act → World → Prop} {a : Act} {w : World} {l : List Oper} (S : World → Prop) (nd : List Nat) (plan : List (Nat × Bool)) (hm : P.follows .mixedOrders = true) (hs : Region.noSelect l.toArray = true)
    (hp : planOk .any l.toArray (fun i => !nd.contains i) plan true (Array.replicate l.toArray.size false) = true) (hl : Nat.ble plan.length l.length = true) (hS : S w.drew)
    (h : wpPlan P l.toArray (Q .normal) S (fun i => !nd.contains i) plan a w.drew) : (Code.region id l.toArray true).wp P Q a w := by
  refine wp_mono (Q := OnlyN (Q .normal)) (wp_region_any hm (wpAny_of_N (S := S) (need := fun i => !nd.contains i) _ _ _ _ (wpAnyN_of_plan hs plan true _ a w.drew hp (fun _ => hS) h _ ?_))) fun e a w hq => ?_
  · simpa using Nat.le_of_ble_eq_true hl
  · cases e <;> first | exact hq | exact hq.elim
end

section
variable {P : Program} {Γ : Ctx} {l : Al Value} {L L0 L1 : Al Ob} {D D0 : Al Fact} {a : Act} {w wr w' : World} {ops : Array Oper} {F : Act → World → Prop} {need : Nat → Bool} {o : Oper} {v : Value} {d i : Nat} {r : List (Nat × Bool)} {S : World → Prop}
theorem St.drew (hS : St Γ l L D a w) : St Γ l L D a w.drew := hS.ext (hS.wd.grown (Keeps.drew _ _))
theorem Ext.grow (h : Ext L0 L1 wr w) (hw : ∀ k o, look L1 k = some o → o.holds w) (hk : Keeps noB w w') : Ext L0 L1 wr w' :=
  ⟨h.1.trans hk.all, fun k o ho => o.keep (hw k o ho) fun b hb => hk.block b (o.lt (hw k o ho) hb) id⟩
theorem Ext.grow' (h : Ext L0 L1 wr w) (hk : Keeps noB w w') : Ext L0 L1 wr w' := h.grow h.2 hk
theorem q_take (hS : St Γ l L D a w) (hi : ops[i]? = some o) (ho : o.dst = some d) (hg : o.guard = none) (hd : Nat.blt d Γ.N = true) (hy : Yl P L0 L1 o a wr v)
    (h : ∀ a', St Γ ((d, v) :: l) L D a' w → wpPlan P ops F (Ext L0 L1 wr) need r a' w) : wpPlan P ops F (Ext L0 L1 wr) need ((i, true) :: r) a w := by
  refine ⟨o, v, hi, .inl ⟨by simp [Region.wanted, hg], hy⟩, ?_⟩
  rw [ho]
  exact h _ (hS.put hd)
theorem l_take (hi : ops[i]? = some o) (hg : o.guard = none) (h : o.wp P a w (fun a' w' => (need i = true → S w') ∧ wpPlan P ops F S need r a' w') (OnlyN F)) : wpPlan P ops F S need ((i, false) :: r) a w := by
  unfold wpPlan wpOp
  simp only [hi]
  rw [if_pos (by simp [Region.wanted, hg])]
  exact .inl h
/-- a quiet operation, carried out where it stands -/
theorem l_quiet {K : Act → World → Prop} {Q : Exit → Act → World → Prop} (hS : St Γ l L D a w) (ho : o.dst = some d) (hd : Nat.blt d Γ.N = true) (hy : Yl P L L o a w v) (h : ∀ a', St Γ ((d, v) :: l) L D a' w → K a' w) : o.wp P a w K Q := by
  unfold Oper.wp
  rw [hy w hS.wd.refl]
  show K (a.put o.dst v) w
  rw [ho]
  exact h _ (hS.put hd)
/-! the same step by step, where more than one loud operation may come up -/
theorem c_drawN {id : Nat} {Q : Exit → Act → World → Prop} {ls : List Oper} (S : World → Prop) (nd : List Nat) (hm : P.follows .mixedOrders = true)
    (h : wpAnyN P .any ls.toArray (Q .normal) S (fun i => !nd.contains i) ls.length (Array.replicate ls.length false) a w.drew) : (Code.region id ls.toArray true).wp P Q a w := by
  refine wp_mono (Q := OnlyN (Q .normal)) (wp_region_any hm (wpAny_of_N (S := S) (need := fun i => !nd.contains i) _ _ _ _ (by simpa using h))) fun e a w hq => ?_
  cases e <;> first | exact hq | exact hq.elim
variable {md : Region.Mode} {fuel : Nat} {listed : Array Bool}
theorem n_q (i : Nat) (hS : St Γ l L D a w) (hE : Ext L0 L1 wr w) (hi : ops[i]? = some o) (hs : Region.noSelect ops = true) (hr : (Region.ready md ops listed).contains i = true) (hf : freeN md ops need listed i = true) (ho : o.dst = some d) (hg : o.guard = none) (hd : Nat.blt d Γ.N = true) (hy : Yl P L0 L1 o a wr v)
    (h : ∀ a', St Γ ((d, v) :: l) L D a' w → wpAnyN P md ops F (Ext L0 L1 wr) need fuel (listed.setIfInBounds i true) a' w) : wpAnyN P md ops F (Ext L0 L1 wr) need (fuel + 1) listed a w := by
  refine wpAnyN_first hi (Region.noSelect_spec hs) fuel listed a w (freeN_spec hi hf) (by simpa using hr) (.inl ⟨by simp [Region.wanted, hg], hy⟩) hE ?_
  rw [ho]
  exact h _ (hS.put hd)
theorem wpOp_of {Q : Exit → Act → World → Prop} {K : Act → World → Prop} (hi : ops[i]? = some o) (hg : o.guard = none) (h : o.wp P a w K Q) : wpOp P ops Q i K a w := by
  unfold wpOp
  simp only [hi]
  rw [if_pos (by simp [Region.wanted, hg])]
  exact .inl h
theorem n_1 (i : Nat) (hr : Region.ready md ops listed = [i]) (hi : ops[i]? = some o) (hg : o.guard = none) (h : o.wp P a w (fun a' w' => (need i = true → S w') ∧ wpAnyN P md ops F S need fuel (listed.setIfInBounds i true) a' w') (OnlyN F)) : wpAnyN P md ops F S need (fuel + 1) listed a w := by
  refine ⟨fun h0 => (by rw [h0] at hr; cases hr), fun j hj => ?_⟩
  rw [hr] at hj
  obtain rfl : j = i := by simpa using hj
  exact wpOp_of hi hg h
theorem n_2 (i j : Nat) {o' : Oper} (hr : Region.ready md ops listed = [i, j]) (hi : ops[i]? = some o) (hg : o.guard = none) (hj : ops[j]? = some o') (hg' : o'.guard = none)
    (h : o.wp P a w (fun a' w' => (need i = true → S w') ∧ wpAnyN P md ops F S need fuel (listed.setIfInBounds i true) a' w') (OnlyN F))
    (h' : o'.wp P a w (fun a' w' => (need j = true → S w') ∧ wpAnyN P md ops F S need fuel (listed.setIfInBounds j true) a' w') (OnlyN F)) : wpAnyN P md ops F S need (fuel + 1) listed a w := by
  refine ⟨fun h0 => (by rw [h0] at hr; cases hr), fun q hq => ?_⟩
  rw [hr] at hq
  have : q = i ∨ q = j := by simpa using hq
  rcases this with rfl | rfl
  · exact wpOp_of hi hg h
  · exact wpOp_of hj hg' h'
theorem n_end (hr : Region.ready md ops listed = []) (h : F a w) : wpAnyN P md ops F S need fuel listed a w := by
  cases fuel with
  | zero => exact ⟨hr, h⟩
  | succ f => exact ⟨fun _ => h, by rw [hr]; simp⟩
theorem d_plan {id : Nat} {Q : Exit → Act → World → Prop} {ls : List Oper} (hS : St Γ l L D a w) (L1 : Al Ob) (hL1 : SubA L1 L) (nd : List Nat) (plan : List (Nat × Bool)) (hm : P.follows .mixedOrders = true) (hs : Region.noSelect ls.toArray = true)
    (hp : planOk .any ls.toArray (fun i => !nd.contains i) plan true (Array.replicate ls.toArray.size false) = true) (hl : Nat.ble plan.length ls.length = true)
    (h : ∀ wr, Ext L L1 wr wr → St Γ l L D a wr → wpPlan P ls.toArray (Q .normal) (Ext L L1 wr) (fun i => !nd.contains i) plan a wr) : (Code.region id ls.toArray true).wp P Q a w :=
  have he : Ext L L1 w.drew w.drew := ⟨Keeps.refl _ _, fun k o hk => hS.drew.wd.holds k o (hL1.look hk)⟩
  c_draw (Ext L L1 w.drew) nd plan hm hs hp hl he (h _ he hS.drew)
theorem d_steps {id : Nat} {Q : Exit → Act → World → Prop} {ls : List Oper} (hS : St Γ l L D a w) (L1 : Al Ob) (hL1 : SubA L1 L) (nd : List Nat) (hm : P.follows .mixedOrders = true)
    (h : ∀ wr, Ext L L1 wr wr → St Γ l L D a wr → wpAnyN P .any ls.toArray (Q .normal) (Ext L L1 wr) (fun i => !nd.contains i) ls.length (Array.replicate ls.length false) a wr) : (Code.region id ls.toArray true).wp P Q a w :=
  c_drawN (Ext L L1 w.drew) nd hm (h _ ⟨Keeps.refl _ _, fun k o hk => hS.drew.wd.holds k o (hL1.look hk)⟩ hS.drew)
/-- a store into a box that the quiet operations do not read -/
theorem Ext.store (h : Ext L0 L1 wr w) (hR : Wd Γ L0 D0 wr) (hs : SubA L1 L0) {kk b : Nat} {cs : List Value} {t : TypeId} (hk : look L0 kk = some (Ob.box b cs t)) (hn : look L1 kk = none) (hK : Keeps (fun x => x = b) w w') : Ext L0 L1 wr w' := by
  have hb : own L0 b := ⟨kk, _, hk, rfl⟩
  refine ⟨h.1.trans (hK.mono fun x _ e => by cases e; exact hb), fun k o ho => o.keep (h.2 k o ho) fun x hx => ?_⟩
  have hlt := o.lt (hR.holds k o (hs.look ho)) hx
  refine hK.block x (Nat.lt_of_lt_of_le hlt h.1.size) fun e => ?_
  cases e
  have := hR.apart k kk o _ b (hs.look ho) hk hx rfl
  subst this
  rw [hn] at ho
  cases ho
theorem Ext.app (h : Ext L0 L1 wr w) (hR : Wd Γ L0 D0 wr) (hs : SubA L1 L0) {ids : Bs} (hk : Keeps ids w w') (hn : ∀ b, ids b → wr.heap.size ≤ b) : Ext L0 L1 wr w' := by
  refine ⟨⟨hk.os.trans h.1.os, hk.tape.trans h.1.tape, hk.output.trans h.1.output, Nat.le_trans h.1.size hk.size, fun k hk' hm => ?_⟩, fun k o ho => o.keep (h.2 k o ho) fun b hb => ?_⟩
  · exact (hk.block k (Nat.lt_of_lt_of_le hk' h.1.size) fun hi => by have := hn k hi; omega).trans (h.1.block k hk' hm)
  · have := o.lt (hR.holds k o (hs.look ho)) hb
    exact hk.block b (Nat.lt_of_lt_of_le this h.1.size) fun hi => by have := hn b hi; omega
/-- where a row lies, seen from an earlier world -/
def NewA (wr : World) (A : Option Addr) : Prop := ∀ p, A = some p → wr.heap.size ≤ p.block
theorem NewA.lit {b : Nat} (hE : Ext L0 L1 wr w) (hb : w.heap.size ≤ b) : NewA wr (some ⟨b, 0, none⟩) := fun p hp => by cases hp; exact Nat.le_trans hE.1.size hb
theorem NewA.grow {A : Option Addr} (hE : Ext L0 L1 wr w) (hb : ∀ p, A = some p → w.heap.size ≤ p.block) : NewA wr A := fun p hp => Nat.le_trans hE.1.size (hb p hp)
theorem NewA.app {A A' : Option Addr} (hE : Ext L0 L1 wr w) (h : NewA wr A) (hat : ∀ p, A' = some p → (∃ q, A = some q ∧ q.block = p.block) ∨ w.heap.size ≤ p.block) : NewA wr A' := fun p hp => by
  rcases hat p hp with ⟨q, hq, e⟩ | h1
  · rw [← e]; exact h q hq
  · exact Nat.le_trans hE.1.size h1
theorem NewA.ids {A : Option Addr} {n c : Nat} {t : TypeId} {sz : Nat} {xs : List Value} (h : NewA wr A) : ∀ b, (Ob.row A n c t sz xs).ids b → wr.heap.size ≤ b := by
  rintro b ⟨p, hp, rfl⟩
  exact h p hp
end
end Go.Gl
