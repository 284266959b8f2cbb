/- Own lemmas, twenty-eighth part: data of a type that holds rows of itself. -/
import Derived.Test.YtbhjplflnkidgaaGreatGl8
import Derived.Test.YtbhjplflnkidgaaGreatGl25
namespace Go.Gl
open Go.RowKit Go.ChangeShapes Go.WideShapes
set_option linter.unusedVariables false
set_option linter.unusedSimpArgs false
structure Cts {α β : Type} (G : Rep α → Rep β) : Prop where
  size : ∀ R S : Rep α, R.size = S.size → (G R).size = (G S).size
  mono : ∀ R S : Rep α, R.size = S.size → (∀ M w cs x, R.rd M w cs x → S.rd M w cs x) → ∀ M w cs x, (G R).rd M w cs x → (G S).rd M w cs x
  cont : ∀ (Q : Nat → Rep α) (S : Rep α), (∀ k, (Q k).size = S.size) → (∀ k M w cs x, (Q k).rd M w cs x → (Q (k + 1)).rd M w cs x) → (∀ M w cs x, S.rd M w cs x → ∃ k, (Q k).rd M w cs x) →
    ∀ M w cs x, (G S).rd M w cs x → ∃ k, (G (Q k)).rd M w cs x
section
variable {α β γ : Type}
theorem Cts.id : Cts (fun R : Rep α => R) := ⟨fun _ _ h => h, fun _ _ _ h => h, fun _ _ _ _ h => h⟩
theorem Cts.const (R0 : Rep β) : Cts (fun _ : Rep α => R0) := ⟨fun _ _ _ => rfl, fun _ _ _ _ _ _ _ _ h => h, fun _ _ _ _ _ _ _ _ _ h => ⟨0, h⟩⟩
theorem Cts.up {G : Rep α → Rep β} (h : Cts G) {Q : Nat → Rep α} {S : Rep α} (hs : ∀ k, (Q k).size = S.size) (hc : ∀ k M w cs x, (Q k).rd M w cs x → (Q (k + 1)).rd M w cs x) {k j : Nat} (hkj : k ≤ j) {M : Bs} {w : World} {cs : List Value} {x : β} (hx : (G (Q k)).rd M w cs x) : (G (Q j)).rd M w cs x := by
  induction hkj with
  | refl => exact hx
  | step _ ih => exact h.mono _ _ ((hs _).trans (hs _).symm) (hc _) _ _ _ _ ih
theorem Cts.prod {G : Rep α → Rep β} {H : Rep α → Rep γ} (g : Cts G) (h : Cts H) : Cts (fun R => Rep.prod (G R) (H R)) :=
  ⟨fun R S e => by show (G R).size + (H R).size = (G S).size + (H S).size; rw [g.size R S e, h.size R S e],
   fun R S e i M w cs x ⟨c1, c2, q, q1, q2⟩ => ⟨c1, c2, q, g.mono R S e i _ _ _ _ q1, h.mono R S e i _ _ _ _ q2⟩,
   fun Q S e i j M w cs x ⟨c1, c2, q, q1, q2⟩ => by
    obtain ⟨k1, h1⟩ := g.cont Q S e i j _ _ _ _ q1
    obtain ⟨k2, h2⟩ := h.cont Q S e i j _ _ _ _ q2
    exact ⟨max k1 k2, c1, c2, q, g.up e i (Nat.le_max_left _ _) h1, h.up e i (Nat.le_max_right _ _) h2⟩⟩
theorem Cts.via {G : Rep α → Rep β} (g : Cts G) (f : γ → β) : Cts (fun R => Rep.via (G R) f) :=
  ⟨g.size, fun R S e i M w cs x h => g.mono R S e i M w cs (f x) h, fun Q S e i j M w cs x h => g.cont Q S e i j M w cs (f x) h⟩
theorem Cts.list {G : Rep α → Rep β} (g : Cts G) : Cts (fun R => Rep.list (G R)) :=
  ⟨fun _ _ _ => rfl,
   fun R S e i M w cs x ⟨A, n, c, q, hs⟩ => ⟨A, n, c, q, hs.len, hs.cap, hs.max, hs.nil, fun p hp j y hy => by
    obtain ⟨h1, h2, cs', h3, h4⟩ := hs.at_ p hp j y hy
    rw [g.size R S e] at h1 h2 h4
    exact ⟨h1, h2, cs', g.mono R S e i _ _ _ _ h3, h4⟩⟩,
   fun Q S e i j M w cs xs ⟨A, n, c, q, hs⟩ => by
    have key : ∀ m : Nat, ∃ k, ∀ p, A = some p → ∀ (a : Nat) (y : β), a < m → xs[a]? = some y → PtrR (G (Q k)) M w (p.add (a * (G (Q k)).size)) y := by
      intro m
      induction m with
      | zero => exact ⟨0, fun p _ a y h => absurd h (Nat.not_lt_zero _)⟩
      | succ m ih =>
        obtain ⟨k, hk⟩ := ih
        cases hA : A with
        | none => exact ⟨k, fun p hp => by cases hp⟩
        | some p =>
          cases hx : xs[m]? with
          | none =>
            refine ⟨k, fun p' hp a y ha hy => ?_⟩
            by_cases e' : a < m
            · exact hk p' (hA.trans hp) a y e' hy
            · obtain rfl : a = m := by omega
              rw [hx] at hy; cases hy
          | some y0 =>
            obtain ⟨h1, h2, cs', h3, h4⟩ := hs.at_ p hA m y0 hx
            obtain ⟨k', hk'⟩ := g.cont Q S e i j _ _ _ _ h3
            refine ⟨max k k', fun p' hp a y ha hy => ?_⟩
            cases hp
            by_cases e' : a < m
            · obtain ⟨r1, r2, cs2, r3, r4⟩ := hk p hA a y e' hy
              rw [g.size (Q k) (Q (max k k')) ((e _).trans (e _).symm)] at r1 r2 r4
              exact ⟨r1, r2, cs2, g.up e i (Nat.le_max_left _ _) r3, r4⟩
            · obtain rfl : a = m := by omega
              rw [hx] at hy; cases hy
              rw [g.size S (Q (max k k')) (e _).symm] at h1 h2 h4
              exact ⟨h1, h2, cs', g.up e i (Nat.le_max_right _ _) hk', h4⟩
    obtain ⟨k, hk⟩ := key xs.length
    exact ⟨k, A, n, c, q, hs.len, hs.cap, hs.max, hs.nil, fun p hp a y hy => hk p hp a y (List.getElem?_eq_some_iff.1 hy).1 hy⟩⟩
def Rep.bot (α : Type) (n : Nat) : Rep α := ⟨n, fun _ _ _ _ => False, fun h => h.elim, fun h => h.elim, fun _ h => h, fun _ h => h⟩
def Rep.iter (F : Rep α → Rep α) (n : Nat) : Nat → Rep α
  | 0 => Rep.bot α n
  | k + 1 => F (Rep.iter F n k)
theorem Rep.iter_size {F : Rep α → Rep α} {n : Nat} (hF : ∀ R, R.size = n → (F R).size = n) : ∀ k, (Rep.iter F n k).size = n
  | 0 => rfl
  | k + 1 => hF _ (Rep.iter_size hF k)
def Rep.mu (F : Rep α → Rep α) (n : Nat) (hF : ∀ R, R.size = n → (F R).size = n) : Rep α where
  size := n
  rd := fun M w cs x => ∃ k, (Rep.iter F n k).rd M w cs x
  len := fun ⟨k, h⟩ => ((Rep.iter F n k).len h).trans (Rep.iter_size hF k)
  one := fun ⟨k, h⟩ => (Rep.iter F n k).one h
  keep := fun hk ⟨k, h⟩ => ⟨k, (Rep.iter F n k).keep hk h⟩
  change := fun hk ⟨k, h⟩ => ⟨k, (Rep.iter F n k).change hk h⟩
theorem Rep.mu_open {F : Rep α → Rep α} {n : Nat} {hF : ∀ R, R.size = n → (F R).size = n} (hc : Cts F) {M : Bs} {w : World} {cs : List Value} {x : α} (h : (Rep.mu F n hF).rd M w cs x) : (F (Rep.mu F n hF)).rd M w cs x := by
  obtain ⟨k, h⟩ := h
  cases k with
  | zero => exact h.elim
  | succ k => exact hc.mono (Rep.iter F n k) (Rep.mu F n hF) (Rep.iter_size hF k) (fun M w cs x h => ⟨k, h⟩) _ _ _ _ h
theorem Rep.iter_up {F : Rep α → Rep α} {n : Nat} (hF : ∀ R, R.size = n → (F R).size = n) (hc : Cts F) : ∀ (k : Nat) (M : Bs) (w : World) (cs : List Value) (x : α), (Rep.iter F n k).rd M w cs x → (Rep.iter F n (k + 1)).rd M w cs x
  | 0, _, _, _, _, h => h.elim
  | k + 1, M, w, cs, x, h => hc.mono (Rep.iter F n k) (Rep.iter F n (k + 1)) ((Rep.iter_size hF k).trans (Rep.iter_size hF (k + 1)).symm) (Rep.iter_up hF hc k) M w cs x h
theorem Rep.mu_mk {F : Rep α → Rep α} {n : Nat} {hF : ∀ R, R.size = n → (F R).size = n} (hc : Cts F) {M : Bs} {w : World} {cs : List Value} {x : α} (h : (F (Rep.mu F n hF)).rd M w cs x) : (Rep.mu F n hF).rd M w cs x := by
  obtain ⟨k, hk⟩ := hc.cont (Rep.iter F n) (Rep.mu F n hF) (Rep.iter_size hF) (Rep.iter_up hF hc) (fun _ _ _ _ h => h) _ _ _ _ h
  exact ⟨k + 1, hk⟩
end
structure OpensN {α : Type} (N : Nat) (P : Program) (t : TypeId) (R : Rep α) : Prop where
  size : P.cellsOf t = R.size
  op : ∀ {H : Type} {enc : TypeId × Value → H} {w : World} {sp : Nat → Bool} {held : Bool} {fuel : Nat} {cs : List Value} {x : DataW H × List MemPlace}, fuel < N → DataW.trod enc P w 0 sp held fuel t cs = some x → ∃ a, R.rd noB w cs a
section
variable {P : Program} {t e : TypeId} {α β : Type} {R : Rep α} {S : Rep β} {N : Nat}
theorem Opens.n (h : Opens P t R) (N : Nat) : OpensN N P t R := ⟨h.size, fun _ => h.op⟩
theorem OpensN.all (h : ∀ N, OpensN N P t R) : Opens P t R := ⟨(h 0).size, fun hx => (h _).op (Nat.lt_succ_self _) hx⟩
theorem OpensN.zero (hs : P.cellsOf t = R.size) : OpensN 0 P t R := ⟨hs, fun h => absurd h (Nat.not_lt_zero _)⟩
theorem OpensN.change (h : OpensN N P t R) (hs : R.size = S.size) (hf : ∀ w cs a, R.rd noB w cs a → ∃ b, S.rd noB w cs b) : OpensN N P t S := ⟨h.size.trans hs, fun hl hx => by
  obtain ⟨a, ha⟩ := h.op hl hx
  exact hf _ _ _ ha⟩
theorem OpensN.list (hO : OpensN N P e R) (hpos : 0 < R.size) (hu : P.underlying t = some (.slice e)) (hc : P.cellsOf t = 1) : OpensN N P t (Rep.list R) := ⟨hc, fun {H enc w sp held fuel cs x} hlt h => by
  rcases DataW.trod_slice hu h with ⟨rfl, _⟩ | ⟨a, len, cap, elems, rest, n, rfl, rfl, _, _, hl, hm, hel, hi, _⟩
  · exact ⟨[], none, 0, 0, rfl, SlR.nil_ R noB w⟩
  have key : ∀ i, i < len → ∃ x, PtrR R noB w (a.add (i * R.size)) x := fun i hil => by
    have h1 := hi i hil
    rw [List.getElem?_eq_getElem (by omega)] at h1
    obtain ⟨cs', hc, ht⟩ := Option.bind_eq_some_iff.1 h1
    obtain ⟨y, hy⟩ := hO.op (by omega) ht
    rw [hO.size] at hc
    obtain ⟨_, hcl, hat⟩ := World.cells?_some hc
    refine ⟨y, ?_, _root_.id, cs', hy, fun j v hj => ?_⟩
    · have h0 := hat 0 hpos
      rw [List.getElem?_eq_getElem (by omega)] at h0
      have := cell_lt h0
      rwa [add_block] at this
    · have hjl : j < R.size := by
        have := (List.getElem?_eq_some_iff.1 hj).1
        omega
      rw [hat j hjl, hj]
  have aux : ∀ len, (∀ i, i < len → ∃ x, PtrR R noB w (a.add (i * R.size)) x) → ∃ xs : List α, xs.length = len ∧ ∀ i x, xs[i]? = some x → PtrR R noB w (a.add (i * R.size)) x := by
    intro len key
    induction len with
    | zero => exact ⟨[], rfl, fun i x h => by simp at h⟩
    | succ k ih =>
      obtain ⟨xs, h1, h2⟩ := ih (fun i hi => key i (by omega))
      obtain ⟨y, hy⟩ := key k (by omega)
      refine ⟨xs ++ [y], by simp [h1], fun i x hx => ?_⟩
      by_cases hik : i < xs.length
      · rw [List.getElem?_append_left hik] at hx
        exact h2 i x hx
      · rw [List.getElem?_append_right (by omega)] at hx
        obtain rfl : i = k := by
          have := (List.getElem?_eq_some_iff.1 hx).1
          simp at this; omega
        simp [h1] at hx
        subst hx
        exact hy
  obtain ⟨xs, h1, h2⟩ := aux len key
  exact ⟨xs, some a, len, cap, rfl, h1, hl, by simpa [maxLen] using hm, fun h => (by cases h), fun p hp i x hx => by cases hp; exact h2 i x hx⟩⟩
def OpensFsN {α : Type} (N : Nat) (P : Program) (fs : List Field) (o : Nat) (R : Rep α) : Prop :=
  ∀ {H : Type} {enc : TypeId × Value → H} {w : World} {sp : Nat → Bool} {held : Bool} {fuel : Nat} {cs : List Value}, fuel < N → cs.length = R.size → (∀ f ∈ fs, o ≤ f.offset ∧ ∃ x : DataW H × List MemPlace, DataW.trod enc P w 0 sp held fuel f.type ((cs.drop (f.offset - o)).take (P.cellsOf f.type)) = some x) → ∃ a, R.rd noB w cs a
theorem OpensFsN.one {f : Field} {o : Nat} (ho : f.offset = o) (h : OpensN N P f.type R) : OpensFsN N P [f] o R := fun hlt hl hf => by
  obtain ⟨_, x, hx⟩ := hf f (by simp)
  rw [ho, Nat.sub_self, List.drop_zero, h.size, List.take_of_length_le (Nat.le_of_eq hl)] at hx
  exact h.op hlt hx
theorem OpensFsN.cons {f : Field} {fs : List Field} {o : Nat} (ho : f.offset = o) (h : OpensN N P f.type R) (hle : (fs.all fun g => decide (o + R.size ≤ g.offset)) = true) (hs : OpensFsN N P fs (o + R.size) S) : OpensFsN N P (f :: fs) o (Rep.prod R S) := fun {H enc w sp held fuel cs} hlt hl hf => by
  have hl' : cs.length = R.size + S.size := hl
  obtain ⟨_, x, hx⟩ := hf f (by simp)
  rw [ho, Nat.sub_self, List.drop_zero, h.size] at hx
  obtain ⟨a, ha⟩ := h.op hlt hx
  obtain ⟨b, hb⟩ := hs (H := H) (enc := enc) (w := w) (sp := sp) (held := held) (fuel := fuel) (cs := cs.drop R.size) hlt (by simp [hl']) (fun g hg => by
    have h1 : o + R.size ≤ g.offset := by simpa using List.all_eq_true.1 hle g hg
    obtain ⟨_, y, hy⟩ := hf g (by simp [hg])
    refine ⟨h1, y, ?_⟩
    rw [List.drop_drop, show R.size + (g.offset - (o + R.size)) = g.offset - o by omega]
    exact hy)
  exact ⟨(a, b), _, _, (List.take_append_drop R.size cs).symm, ha, hb⟩
theorem OpensN.struct {fs : Array Field} (hu : P.underlying t = some (.struct fs)) (hc : P.cellsOf t = R.size) (h : OpensFsN N P fs.toList 0 R) : OpensN (N + 1) P t R := ⟨hc, fun {H enc w sp held fuel cs x} hlt hx => by
  obtain ⟨xs, n, rfl, _, hl, hn, hf⟩ := DataW.trod_struct hu hx
  refine h (H := H) (enc := enc) (w := w) (sp := sp) (held := held) (fuel := n) (by omega) (hl.trans hc) (fun f hm => ⟨Nat.zero_le _, ?_⟩)
  obtain ⟨i, hi, he⟩ := List.getElem_of_mem hm
  have h1 := hf i f (by rw [← Array.getElem?_toList, List.getElem?_eq_getElem hi, he])
  have h2 : xs[i]? = some (xs[i]'(by simpa [hn] using hi)) := List.getElem?_eq_getElem _
  exact ⟨_, h1.trans h2⟩⟩
end
end Go.Gl
