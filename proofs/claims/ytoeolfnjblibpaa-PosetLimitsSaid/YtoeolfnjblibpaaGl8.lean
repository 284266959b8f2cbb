/- Own lemmas, eighth part: arguments opened by the shape of their type, to a representation. -/
import Derived.Test.YtoeolfnjblibpaaGl7
import Derived.Deep.Slices
import Derived.ChangeArms
namespace Go.Gl
open Go.RowKit Go.ChangeShapes Go.WideShapes
set_option linter.unusedVariables false
set_option linter.unusedSimpArgs false

/-- cells of the type, read as data, hold a value of the representation -/
structure Opens {α : Type} (P : Program) (t : TypeId) (R : Rep α) : Prop where
  size : P.cellsOf t = R.size
  op : ∀ {H : Type} {enc : TypeId × Value → H} {w : World} {sp : Nat → Bool} {held : Bool} {fuel : Nat} {cs : List Value} {x : DataW H × List MemPlace}, DataW.trod enc P w 0 sp held fuel t cs = some x → ∃ a, R.rd noB w cs a

section
variable {P : Program} {t e : TypeId} {α β : Type} {R : Rep α} {S : Rep β}
theorem inK_of_wf {k : IntKind} {n : Int} (h : (Lit.int k n).wf = true) : InK k n := by
  cases k <;> simp [Lit.wf, InK, IntKind.min, IntKind.max, IntKind.signed, IntKind.bits] at h ⊢ <;> omega
theorem Opens.int {k : IntKind} (hu : P.underlying t = some (.int k)) (hc : P.cellsOf t = 1) : Opens P t (Rep.int k) := ⟨hc, fun h => by
  obtain ⟨n, rfl, _, hw⟩ := DataW.trod_int hu h
  exact ⟨n, rfl, inK_of_wf hw⟩⟩
theorem Opens.bool (hu : P.underlying t = some .bool) (hc : P.cellsOf t = 1) : Opens P t Rep.bool := ⟨hc, fun h => by
  obtain ⟨n, rfl, _⟩ := DataW.trod_bool hu h
  exact ⟨n, rfl⟩⟩
theorem Opens.str (hu : P.underlying t = some .string) (hc : P.cellsOf t = 1) : Opens P t Rep.str := ⟨hc, fun h => by
  obtain ⟨s, rfl, _, hw⟩ := DataW.trod_string hu h
  refine ⟨s.data.toList, ?_, ?_⟩
  · simp [bs]
  · simpa [maxLen] using hw⟩
theorem Opens.change (h : Opens P t R) (hs : R.size = S.size) (hf : ∀ w cs a, R.rd noB w cs a → ∃ b, S.rd noB w cs b) : Opens P t S := ⟨h.size.trans hs, fun hx => by
  obtain ⟨a, ha⟩ := h.op hx
  exact hf _ _ _ ha⟩
theorem Opens.slR (hO : Opens P e R) (hpos : 0 < R.size) (hu : P.underlying t = some (.slice e)) {H : Type} {enc : TypeId × Value → H} {w : World} {sp : Nat → Bool} {held : Bool} {fuel : Nat} {cs : List Value} {x : DataW H × List MemPlace}
    (h : DataW.trod enc P w 0 sp held fuel t cs = some x) : ∃ A n c xs, cs = [.slice A n c] ∧ SlR R noB w A n c xs := by
  rcases Deep.open_slice hu h with ⟨rfl, _⟩ | ⟨a, len, cap, m, n, D, Pl, rfl, _, hl, hm, hmm, _, hi⟩
  · exact ⟨none, 0, 0, [], rfl, SlR.nil_ R noB w⟩
  have hle : len ≤ m := by rw [hmm]; split <;> omega
  have key : ∀ i, i < len → ∃ x, PtrR R noB w (a.add (i * R.size)) x := fun i hil => by
    obtain ⟨cs', hc, ht⟩ := hi i (by omega)
    obtain ⟨y, hy⟩ := hO.op ht
    rw [hO.size] at hc
    obtain ⟨_, hcl, hat⟩ := World.cells?_some hc
    refine ⟨y, ?_, id, cs', hy, fun j v hj => ?_⟩
    · have h0 := hat 0 hpos
      rw [List.getElem?_eq_getElem (by omega)] at h0
      have := cell_lt h0
      rwa [add_block] at this
    · have hjl : j < R.size := by
        have := (List.getElem?_eq_some_iff.1 hj).1
        omega
      rw [hat j hjl, hj]
  have aux : ∀ len, (∀ i, i < len → ∃ x, PtrR R noB w (a.add (i * R.size)) x) → ∃ xs : List α, xs.length = len ∧ ∀ i x, xs[i]? = some x → PtrR R noB w (a.add (i * R.size)) x := by
    intro len key
    induction len with
    | zero => exact ⟨[], rfl, fun i x h => by simp at h⟩
    | succ k ih =>
      obtain ⟨xs, h1, h2⟩ := ih (fun i hi => key i (by omega))
      obtain ⟨y, hy⟩ := key k (by omega)
      refine ⟨xs ++ [y], by simp [h1], fun i x hx => ?_⟩
      by_cases hik : i < xs.length
      · rw [List.getElem?_append_left hik] at hx
        exact h2 i x hx
      · rw [List.getElem?_append_right (by omega)] at hx
        obtain rfl : i = k := by
          have := (List.getElem?_eq_some_iff.1 hx).1
          simp at this; omega
        simp [h1] at hx
        subst hx
        exact hy
  obtain ⟨xs, h1, h2⟩ := aux len key
  exact ⟨some a, len, cap, xs, rfl, h1, hl, by simpa [maxLen] using hm, fun h => (by cases h), fun p hp i x hx => by cases hp; exact h2 i x hx⟩
theorem Opens.list (hO : Opens P e R) (hpos : 0 < R.size) (hu : P.underlying t = some (.slice e)) (hc : P.cellsOf t = 1) : Opens P t (Rep.list R) := ⟨hc, fun h => by
  obtain ⟨A, n, c, xs, rfl, hs⟩ := hO.slR hpos hu h
  exact ⟨xs, A, n, c, rfl, hs⟩⟩
/-- fields from an offset on -/
def OpensFs {α : Type} (P : Program) (fs : List Field) (o : Nat) (R : Rep α) : Prop :=
  ∀ {H : Type} {enc : TypeId × Value → H} {w : World} {sp : Nat → Bool} {held : Bool} {fuel : Nat} {cs : List Value}, cs.length = R.size → (∀ f ∈ fs, o ≤ f.offset ∧ ∃ x : DataW H × List MemPlace, DataW.trod enc P w 0 sp held fuel f.type ((cs.drop (f.offset - o)).take (P.cellsOf f.type)) = some x) → ∃ a, R.rd noB w cs a
theorem OpensFs.one {f : Field} {o : Nat} (ho : f.offset = o) (h : Opens P f.type R) : OpensFs P [f] o R := fun hl hf => by
  obtain ⟨_, x, hx⟩ := hf f (by simp)
  rw [ho, Nat.sub_self, List.drop_zero, h.size, List.take_of_length_le (Nat.le_of_eq hl)] at hx
  exact h.op hx
theorem OpensFs.cons {f : Field} {fs : List Field} {o : Nat} (ho : f.offset = o) (h : Opens P f.type R) (hle : (fs.all fun g => decide (o + R.size ≤ g.offset)) = true) (hs : OpensFs P fs (o + R.size) S) : OpensFs P (f :: fs) o (Rep.prod R S) := fun {H enc w sp held fuel cs} hl hf => by
  have hl' : cs.length = R.size + S.size := hl
  obtain ⟨_, x, hx⟩ := hf f (by simp)
  rw [ho, Nat.sub_self, List.drop_zero, h.size] at hx
  obtain ⟨a, ha⟩ := h.op hx
  obtain ⟨b, hb⟩ := hs (H := H) (enc := enc) (w := w) (sp := sp) (held := held) (fuel := fuel) (cs := cs.drop R.size) (by simp [hl']) (fun g hg => by
    have h1 : o + R.size ≤ g.offset := by simpa using List.all_eq_true.1 hle g hg
    obtain ⟨_, y, hy⟩ := hf g (by simp [hg])
    refine ⟨h1, y, ?_⟩
    rw [List.drop_drop, show R.size + (g.offset - (o + R.size)) = g.offset - o by omega]
    exact hy)
  exact ⟨(a, b), _, _, (List.take_append_drop R.size cs).symm, ha, hb⟩
theorem Opens.struct {fs : Array Field} (hu : P.underlying t = some (.struct fs)) (hc : P.cellsOf t = R.size) (h : OpensFs P fs.toList 0 R) : Opens P t R := ⟨hc, fun {H enc w sp held fuel cs x} hx => by
  obtain ⟨xs, n, rfl, _, hl, hn, hf⟩ := DataW.trod_struct hu hx
  refine h (H := H) (enc := enc) (w := w) (sp := sp) (held := held) (fuel := n) (hl.trans hc) (fun f hm => ⟨Nat.zero_le _, ?_⟩)
  obtain ⟨i, hi, he⟩ := List.getElem_of_mem hm
  have h1 := hf i f (by rw [← Array.getElem?_toList, List.getElem?_eq_getElem hi, he])
  have h2 : xs[i]? = some (xs[i]'(by simpa [hn] using hi)) := List.getElem?_eq_getElem _
  exact ⟨_, h1.trans h2⟩⟩
theorem Opens.array2 (hO : Opens P e R) (hu : P.underlying t = some (.array 2 e)) (hc : P.cellsOf t = R.size + R.size) : Opens P t (Rep.prod R R) := ⟨hc, fun {H enc w sp held fuel cs x} hx => by
  obtain ⟨xs, m, rfl, _, hl, hn, hf⟩ := DataW.trod_array hu hx
  have hl' : cs.length = R.size + R.size := hl.trans hc
  have h0 := hf 0 (by omega)
  have h1 := hf 1 (by omega)
  rw [List.getElem?_eq_getElem (by omega), hO.size] at h0 h1
  rw [Nat.zero_mul, List.drop_zero] at h0
  rw [Nat.one_mul, List.take_of_length_le (by simp [hl'])] at h1
  obtain ⟨a, ha⟩ := hO.op h0
  obtain ⟨b, hb⟩ := hO.op h1
  exact ⟨(a, b), _, _, (List.take_append_drop R.size cs).symm, ha, hb⟩⟩
/-- an argument that is a slice -/
theorem Opens.argSlice (hO : Opens P e R) (hpos : 0 < R.size) (hu : P.underlying t = some (.slice e)) {H : Type} {enc : TypeId × Value → H} {w : World} {v : Value} {d : DataW H} {ps : List MemPlace} {r : Reach} {b0 : Nat} (hv : Value.okWide P w r b0 t v)
    (h : DataW.Trod enc P w 0 (fun _ => true) true t v d ps) : ∃ A n c xs, v = .slice A n c ∧ SlR R noB w A n c xs := by
  obtain ⟨A, n, c, rfl⟩ := okWide_slice hu hv
  obtain ⟨fuel, hf⟩ := h
  obtain ⟨A', n', c', xs, he, hs⟩ := hO.slR hpos hu hf
  simp [Value.cells] at he
  obtain ⟨rfl, rfl, rfl⟩ := he
  exact ⟨A, n, c, xs, rfl, hs⟩
/-- an argument that is a struct, an array, a string -/
theorem Opens.argStruct {fs : Array Field} (hO : Opens P t R) (hu : P.underlying t = some (.struct fs)) {H : Type} {enc : TypeId × Value → H} {w : World} {v : Value} {d : DataW H} {ps : List MemPlace} {r : Reach} {b0 : Nat} (hv : Value.okWide P w r b0 t v) (h : DataW.Trod enc P w 0 (fun _ => true) true t v d ps) :
    ∃ cs x, v = .agg cs ∧ R.rd noB w cs.toList x := by
  obtain ⟨cs, rfl, _⟩ := okWide_struct hu hv
  obtain ⟨fuel, hf⟩ := h
  obtain ⟨x, hx⟩ := hO.op hf
  exact ⟨cs, x, rfl, hx⟩
theorem Opens.argArray {n : Nat} (hO : Opens P t R) (hu : P.underlying t = some (.array n e)) {H : Type} {enc : TypeId × Value → H} {w : World} {v : Value} {d : DataW H} {ps : List MemPlace} {r : Reach} {b0 : Nat} (hv : Value.okWide P w r b0 t v) (h : DataW.Trod enc P w 0 (fun _ => true) true t v d ps) :
    ∃ cs x, v = .agg cs ∧ R.rd noB w cs.toList x := by
  simp only [Value.okWide, hu] at hv
  obtain ⟨cs, rfl, _⟩ := hv
  obtain ⟨fuel, hf⟩ := h
  obtain ⟨x, hx⟩ := hO.op hf
  exact ⟨cs, x, rfl, hx⟩
theorem argStr (hu : P.underlying t = some .string) {H : Type} {enc : TypeId × Value → H} {w : World} {v : Value} {d : DataW H} {ps : List MemPlace} {r : Reach} {b0 : Nat} (hv : Value.okWide P w r b0 t v) (h : DataW.Trod enc P w 0 (fun _ => true) true t v d ps) :
    ∃ x : List UInt8, v = .string (bs x) ∧ x.length ≤ 9223372036854775807 := by
  obtain ⟨s, rfl⟩ := okWide_string hu hv
  obtain ⟨fuel, hf⟩ := h
  obtain ⟨s', he, _, hw⟩ := DataW.trod_string hu hf
  simp [Value.cells] at he
  subst he
  refine ⟨s.data.toList, ?_, ?_⟩
  · simp [bs]
  · simpa [maxLen] using hw
theorem agg_eq {cs : Array Value} {l : List Value} (h : cs.toList = l) : (Value.agg cs) = .agg l.toArray := by rw [← h]
end
end Go.Gl
