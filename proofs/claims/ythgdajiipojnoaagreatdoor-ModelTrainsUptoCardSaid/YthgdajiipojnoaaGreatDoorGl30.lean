/- Own lemmas, thirtieth part: a range over a map that is not written meanwhile; the order of the rounds is anyone's. -/
import Derived.Test.YthgdajiipojnoaaGreatDoorGl26
import Derived.Maps.RangeRun
namespace Go.Gl
open Go.RowKit
open Go.ChangeMaps (setBlock)
set_option linter.unusedVariables false
set_option linter.unusedSimpArgs false

/-- one of a list is taken, the others stay -/
def Picks {β : Type} (l : List β) (p : β) (r : List β) : Prop := ∃ q, l[q]? = some p ∧ r = l.eraseIdx q
/-- the value that all of them have -/
def agreeL {γ : Type} [DecidableEq γ] : List (Option γ) → Option γ
  | [] => none
  | x :: t => if ∀ y ∈ t, y = x then x else none
def agree {β γ : Type} [DecidableEq γ] (l : List β) (f : β → List β → Option γ) : Option γ :=
  agreeL ((List.range l.length).map fun q => (l[q]?).bind fun p => f p (l.eraseIdx q))
theorem agree_at {β γ : Type} [DecidableEq γ] {l r : List β} {p : β} {f : β → List β → Option γ} {z : γ} (h : agree l f = some z) (hp : Picks l p r) : f p r = some z := by
  obtain ⟨q, h1, rfl⟩ := hp
  have key : ∀ (L : List (Option γ)), agreeL L = some z → ∀ y ∈ L, y = some z := by
    intro L hL y hy
    cases L with
    | nil => cases hL
    | cons x t =>
      replace hL : (if ∀ y ∈ t, y = x then x else none) = some z := hL
      split at hL
      · rename_i ht
        rcases List.mem_cons.1 hy with rfl | hy
        · exact hL
        · rw [ht y hy]; exact hL
      · cases hL
  have hq : q < l.length := (List.getElem?_eq_some_iff.1 h1).1
  have := key _ h _ (List.mem_map.2 ⟨q, List.mem_range.2 hq, rfl⟩)
  rwa [h1] at this
theorem agree_of {β γ : Type} [DecidableEq γ] {l : List β} {f : β → List β → Option γ} {z : γ} (h0 : 0 < l.length) (h : ∀ p r, Picks l p r → f p r = some z) : agree l f = some z := by
  have key : ∀ (L : List (Option γ)), L ≠ [] → (∀ y ∈ L, y = some z) → agreeL L = some z := by
    intro L h1 h2
    cases L with
    | nil => exact absurd rfl h1
    | cons x t =>
      have hx := h2 x (by simp)
      show (if ∀ y ∈ t, y = x then x else none) = some z
      rw [if_pos (fun y hy => by rw [h2 y (by simp [hy]), hx])]
      exact hx
  refine key _ (fun e => ?_) (fun y hy => ?_)
  · have := congrArg List.length e
    rw [List.length_map, List.length_range] at this
    simp only [List.length_nil] at this
    omega
  · obtain ⟨q, hq, rfl⟩ := List.mem_map.1 hy
    have hq := List.mem_range.1 hq
    rw [List.getElem?_eq_getElem hq]
    exact h _ _ ⟨q, List.getElem?_eq_getElem hq, rfl⟩

def Ob.obj (r : Nat) (o : Obj) : Ob where
  ids := fun k => k = r
  holds := fun w => w.heap[r]? = some o
  lt := fun h e => by rw [e]; exact block_lt h
  keep := fun h hk => (hk r rfl).trans h
def mapEF (b : Nat) (E : Array MapEntry) (clock : Nat) : Fact := ⟨fun M w => ¬ M b ∧ w.heap[b]? = some (.map E clock),
  fun hk h => ⟨h.1, (hk.block b (block_lt h.2) h.1).trans h.2⟩,
  fun hm h => ⟨fun hb => h.1 (hm b (block_lt h.2) hb), h.2⟩⟩
/-- the entries that have not come yet -/
def LeftIs {α : Type} (enc : α → Value) (E : Array MapEntry) (seen : Array Nat) (rest : List (List UInt8 × α)) : Prop :=
  (E.toList.filter fun e => !seen.contains e.born).map (fun e => (e.key, e.val)) = rest.map fun p => (Value.string (bs p.1), enc p.2)
/-- the entry that came last -/
def CurIs {α : Type} (enc : α → Value) (E : Array MapEntry) (seen : Array Nat) (p : List UInt8 × α) : Prop :=
  ∃ s e, seen = Array.push s e.born ∧ e ∈ E.toList ∧ e.key = .string (bs p.1) ∧ e.val = enc p.2
theorem filter_one {α : Type} (f : α → Nat) : ∀ (l : List α) (q : Nat) (x : α), (l.map f).Nodup → l[q]? = some x → l.filter (fun y => !(f y == f x)) = l.eraseIdx q
  | [], q, x, _, h => by simp at h
  | a :: l, 0, x, hn, h => by
    simp at h
    subst h
    simp only [List.map_cons, List.nodup_cons] at hn
    rw [List.filter_cons_of_neg (by simp)]
    simp only [List.eraseIdx_cons_zero]
    exact List.filter_eq_self.2 (fun y hy => by
      have : f y ≠ f a := fun e => hn.1 (e ▸ List.mem_map_of_mem hy)
      simpa using this)
  | a :: l, q + 1, x, hn, h => by
    simp only [List.getElem?_cons_succ] at h
    simp only [List.map_cons, List.nodup_cons] at hn
    have : f a ≠ f x := fun e => hn.1 (e ▸ List.mem_map_of_mem (List.mem_of_getElem? h))
    rw [List.filter_cons_of_pos (by simpa using this), filter_one f l q x hn.2 h]
    rfl
theorem inj_nodup {l : List MapEntry} (h : (l.map (·.born)).Nodup) {x y : MapEntry} (hx : x ∈ l) (hy : y ∈ l) (e : x.born = y.born) : x = y := by
  induction l with
  | nil => cases hx
  | cons a l ih =>
    simp only [List.map_cons, List.nodup_cons] at h
    rcases List.mem_cons.1 hx with hx' | hx' <;> rcases List.mem_cons.1 hy with hy' | hy'
    · rw [hx', hy']
    · subst hx'; exact absurd (List.mem_map.2 ⟨y, hy', e.symm⟩) h.1
    · subst hy'; exact absurd (List.mem_map.2 ⟨x, hx', e⟩) h.1
    · exact ih h.2 hx' hy'
theorem LeftIs.step {α : Type} {enc : α → Value} {E : Array MapEntry} {clock : Nat} {seen : Array Nat} {rest : List (List UInt8 × α)} (hs : MapKept.Stamped E clock) (h : LeftIs enc E seen rest) {e : MapEntry} (he : e ∈ (leftOf E seen).toList) :
    ∃ p rest', Picks rest p rest' ∧ LeftIs enc E (seen.push e.born) rest' ∧ CurIs enc E (seen.push e.born) p := by
  have e0 : (leftOf E seen).toList = E.toList.filter fun e => !seen.contains e.born := by simp [leftOf]
  rw [e0] at he
  obtain ⟨q, hq⟩ := List.getElem?_of_mem he
  have hnd : ((E.toList.filter fun e => !seen.contains e.born).map (·.born)).Nodup := List.Sublist.nodup (List.Sublist.map _ List.filter_sublist) ((MapKept.stamped_iff E clock).1 hs).2.1
  have h1 := congrArg (fun l => l[q]?) h
  simp only [List.getElem?_map, hq, Option.map_some] at h1
  cases hp : rest[q]? with
  | none => rw [hp] at h1; cases h1
  | some p =>
    rw [hp] at h1
    simp only [Option.map_some, Option.some.injEq, Prod.mk.injEq] at h1
    refine ⟨p, rest.eraseIdx q, ⟨q, hp, rfl⟩, ?_, seen, e, rfl, (List.mem_filter.1 he).1, h1.1, h1.2⟩
    unfold LeftIs
    have e1 : (E.toList.filter fun x => !(seen.push e.born).contains x.born) = (E.toList.filter fun e => !seen.contains e.born).filter (fun y => !(y.born == e.born)) := by
      rw [List.filter_filter]
      refine List.filter_congr fun x _ => ?_
      rw [Array.contains_push]
      cases seen.contains x.born <;> cases hb : (x.born == e.born) <;> cases hb' : (e.born == x.born) <;> simp_all
    rw [e1, filter_one (·.born) _ q e hnd hq, Go.ChangeMaps.map_eraseIdx, h, Go.ChangeMaps.map_eraseIdx]
theorem LeftIs.none {α : Type} {enc : α → Value} {E : Array MapEntry} {seen : Array Nat} {rest : List (List UInt8 × α)} (h : LeftIs enc E seen rest) : (leftOf E seen).size = rest.length := by
  have e0 : (leftOf E seen).toList = E.toList.filter fun e => !seen.contains e.born := by simp [leftOf]
  have := congrArg List.length h
  rw [List.length_map, List.length_map, ← e0] at this
  simpa using this
section
variable {P : Program} {Γ : Ctx} {l : Al Value} {L L1 : Al Ob} {D : Al Fact} {a : Act} {w : World} {d : Tmp} {ty : TypeId} {pos : String} {af : Array Edge} {g : Option (Nat × Bool)} {x : Operand} {t kt et : TypeId} {K : Act → World → Prop} {Q : Exit → Act → World → Prop} {b r clock st kk : Nat} {E : Array MapEntry} {seen : Array Nat}
theorem mapRF_num {k : IntKind} {M : Bs} {kx : List (List UInt8 × Int)} (h : (mapRF (Rep.num k) b kx).p M w) : ∃ E clock, (mapEF b E clock).p M w ∧ MapKept.Stamped E clock ∧ LeftIs (fun z => .int k z) E #[] kx := by
  obtain ⟨kvV, ⟨h1, E, clock, h2, h3, h4⟩, h5, h6⟩ := h
  refine ⟨E, clock, ⟨h1, h2⟩, h4, ?_⟩
  unfold LeftIs
  have e1 : (E.toList.filter fun e => !(#[] : Array Nat).contains e.born) = E.toList := List.filter_eq_self.2 (fun x _ => by simp)
  rw [e1, h3]
  refine List.ext_getElem? fun i => ?_
  rw [List.getElem?_map, List.getElem?_map]
  cases hk : kx[i]? with
  | none => rw [List.getElem?_eq_none (by have := List.getElem?_eq_none_iff.1 hk; omega)]; rfl
  | some p =>
    obtain ⟨v, q1, q2⟩ := h6 i p hk
    rw [q1]
    have q3 : [v] = [.int k p.2] := q2
    simp at q3
    simp [q3]
theorem l_rangeM {k : IntKind} {kx : List (List UInt8 × Int)} (hS : St Γ l L D a w) (kk kd : Nat) (hx : ev l x = some (.map (some b))) (hf : (mapRF (Rep.num k) b kx).p (mtb Γ L) w) (hu : P.underlying t = some (.map kt et)) (hk : look L kk = none) (hd : Nat.blt d Γ.N = true)
    (h : ∀ r E clock a' w', w.heap.size ≤ r → Keeps noB w w' → MapKept.Stamped E clock → LeftIs (fun z => .int k z) E #[] kx → St Γ ((d, .pointer (some ⟨r, 0, none⟩)) :: l) ((kk, Ob.obj r (.mapIter (some b) clock #[] clock)) :: L) ((kd, mapEF b E clock) :: D) a' w' → K a' w') : Oper.wp P ⟨some d, .range t x, ty, pos, af, g⟩ a w K Q := by
  obtain ⟨E, clock, h1, h2, h3⟩ := mapRF_num hf
  refine wp_value (v := .pointer (some ⟨w.heap.size, 0, none⟩)) (w' := w.alloc (.mapIter (some b) clock #[] clock)) ?_ ?_
  · simp [execOp, hS.fr.eval hx, Instr.range, run_underlying hu, getObj, Sem.run, h1.2]
  · have hS1 := hS.add kd (mapEF b E clock) h1
    have he := ext_alloc hS1 (.mapIter (some b) clock #[] clock)
    exact h w.heap.size E clock _ _ (Nat.le_refl _) (Keeps.alloc _ _ _) h2 h3 ⟨hS1.fr.put hd, hS1.wd.new he hk (by show (w.alloc _).heap[w.heap.size]? = _; rw [heap_new]) (fun b hb => by cases hb; exact Nat.le_refl _)⟩
theorem l_nextME {α : Type} {enc : α → Value} {rest : List (List UInt8 × α)} (hS : St Γ l L D a w) (kk : Nat) (hx : ev l x = some (.pointer (some ⟨r, 0, none⟩))) (hb : look L kk = some (Ob.obj r (.mapIter (some b) clock seen st))) (hf : (mapEF b E clock).p (mtb Γ L) w) (hs : MapKept.Stamped E clock) (hl : LeftIs enc E seen rest) (hst : clock ≤ st) (hp : ¬ 0 < rest.length) (hd : Nat.blt d Γ.N = true)
    (h : ∀ a', St Γ ((d, .tuple #[.bool false]) :: l) L D a' w → K a' w) : Oper.wp P ⟨some d, .next x false, ty, pos, af, g⟩ a w K Q := by
  have hr : w.heap[r]? = some (.mapIter (some b) clock seen st) := hS.wd.holds kk _ hb
  rcases run_next_at (P := P) w ty r b clock st seen E clock hr hf.2 ((MapKept.stamped_iff E clock).1 hs).1 hst with ⟨_, h2⟩ | ⟨e, he, _⟩
  · refine wp_value (v := .tuple #[.bool false]) (w' := w) ?_ (h _ (hS.put hd))
    simp [execOp, hS.fr.eval hx, h2]
  · have := hl.none
    have h3 : 0 < (leftOf E seen).toList.length := List.length_pos_of_mem he
    simp at h3
    omega
theorem l_nextM {α : Type} {enc : α → Value} {rest : List (List UInt8 × α)} (hS : St Γ l L D a w) (kk : Nat) (hx : ev l x = some (.pointer (some ⟨r, 0, none⟩))) (hb : look L kk = some (Ob.obj r (.mapIter (some b) clock seen st))) (hf : (mapEF b E clock).p (mtb Γ L) w) (hs : MapKept.Stamped E clock) (hl : LeftIs enc E seen rest) (hst : clock ≤ st) (hp : 0 < rest.length) (hd : Nat.blt d Γ.N = true)
    (h : ∀ p rest' seen' a' w', Picks rest p rest' → LeftIs enc E seen' rest' → CurIs enc E seen' p → St Γ ((d, .tuple #[.bool true, .string (bs p.1), enc p.2]) :: l) ((kk, Ob.obj r (.mapIter (some b) clock seen' clock)) :: L) D a' w' → K a' w') : Oper.wp P ⟨some d, .next x false, ty, pos, af, g⟩ a w K Q := by
  have hr : w.heap[r]? = some (.mapIter (some b) clock seen st) := hS.wd.holds kk _ hb
  rcases run_next_at (P := P) w ty r b clock st seen E clock hr hf.2 ((MapKept.stamped_iff E clock).1 hs).1 hst with ⟨h1, _⟩ | ⟨e, he, w1, hw1, hrun⟩
  · have := hl.none
    omega
  · obtain ⟨p, rest', q1, q2, q3⟩ := hl.step hs he
    obtain ⟨s', e', q4, q5, q6, q7⟩ := id q3
    have hee : e' = e := by
      have hb' : e'.born = e.born := by
        have := congrArg Array.back? q4
        simpa using this.symm
      have hem : e ∈ E.toList := by
        have e0 : (leftOf E seen).toList = E.toList.filter fun e => !seen.contains e.born := by simp [leftOf]
        rw [e0] at he
        exact (List.mem_filter.1 he).1
      have hn := ((MapKept.stamped_iff E clock).1 hs).2.1
      exact inj_nodup hn q5 hem hb'
    subst hee
    have hk1 : Keeps (fun x => x = r) w (setBlock w1 r (.mapIter (some b) clock (seen.push e'.born) clock)) := by
      rcases hw1 with rfl | rfl
      · exact keeps_setObj _ r _
      · have h0 : Keeps (fun x => x = r) w w.drew := ⟨rfl, rfl, rfl, Nat.le_refl _, fun _ _ _ => rfl⟩
        exact h0.trans (keeps_setObj w.drew r _)
    refine wp_value (v := .tuple #[.bool true, .string (bs p.1), enc p.2]) (w' := setBlock w1 r (.mapIter (some b) clock (seen.push e'.born) clock)) ?_ (h p rest' (seen.push e'.born) _ _ q1 q2 q3 ⟨hS.fr.put hd, hS.wd.set hb hk1 ?_ (fun q hq => .inl hq)⟩)
    · simp [execOp, hS.fr.eval hx, hrun, q6, q7]
    · show (setBlock w1 r _).heap[r]? = _
      have hl1 : r < w1.heap.size := by rcases hw1 with rfl | rfl <;> exact block_lt hr
      exact Array.getElem?_setIfInBounds_self_of_lt hl1
theorem y_entryM {α : Type} {enc : α → Value} {p : List UInt8 × α} (hS : St Γ l L D a w) (hx : ev l x = some (.pointer (some ⟨r, 0, none⟩))) (hb : look L kk = some (Ob.obj r (.mapIter (some b) clock seen clock))) (hf : (mapEF b E clock).p (mtb Γ L) w) (hs : MapKept.Stamped E clock) (hc : CurIs enc E seen p) (hd : Nat.blt d Γ.N = true)
    (h : ∀ a', St Γ ((d, .tuple #[.string (bs p.1), enc p.2]) :: l) L D a' w → K a' w) : Oper.wp P ⟨some d, .entry x, ty, pos, af, g⟩ a w K Q := by
  have hr : w.heap[r]? = some (.mapIter (some b) clock seen clock) := hS.wd.holds kk _ hb
  obtain ⟨s, e, rfl, h1, h2, h3⟩ := hc
  have h4 := run_entry_at (P := P) w r b clock s E clock e hr hf.2 h1 ((MapKept.stamped_iff E clock).1 hs).2.1
  refine wp_value (v := .tuple #[.string (bs p.1), enc p.2]) (w' := w) ?_ (h _ (hS.put hd))
  simp [execOp, hS.fr.eval hx, h4, h2, h3]
end
end Go.Gl
