/- Own lemmas, thirty-first part: arguments opened, with a bound of their size out of the bulk of what was read. -/
import Derived.Test.YthgdajiipojnoaaGreatDoorGl28
import Derived.Test.YthgdajiipojnoaaGreatDoorRows
namespace Go.Gl
open Go.RowKit Go.ChangeShapes Go.WideShapes
open Go.Proofs.YthgdajiipojnoaaGreatDoor.Rows (uptoBulk uptoBulkAll uptoSmall)
set_option linter.unusedVariables false
set_option linter.unusedSimpArgs false

structure OpensU {α : Type} (N : Nat) (P : Program) (t : TypeId) (R : Rep α) (μ : α → Nat) : Prop where
  size : P.cellsOf t = R.size
  op : ∀ {H : Type} {enc : TypeId × Value → H} {w : World} {sp : Nat → Bool} {held : Bool} {fuel : Nat} {cs : List Value} {x : DataW H × List MemPlace}, fuel < N → DataW.trod enc P w 0 sp held fuel t cs = some x → ∃ a, R.rd noB w cs a ∧ μ a ≤ uptoBulk x.1
section
variable {P : Program} {t e : TypeId} {α β : Type} {R : Rep α} {S : Rep β} {N : Nat} {μ : α → Nat} {ν : β → Nat}
theorem bulk_one {H : Type} (d : DataW H) : 1 ≤ uptoBulk d := by
  cases d with
  | lit l => cases l <;> simp [uptoBulk]
  | nil => simp [uptoBulk]
  | ptr d => simp [uptoBulk]
  | slice elems spare => simp [uptoBulk]
  | agg parts => simp [uptoBulk]
  | iface t d => simp [uptoBulk]
  | map entries => simp [uptoBulk]
  | held h => simp [uptoBulk]
theorem OpensU.of (h : Opens P t R) (hμ : ∀ a, μ a ≤ 1) (N : Nat) : OpensU N P t R μ := ⟨h.size, fun {H enc w sp held fuel cs x} _ hx => by
  obtain ⟨a, ha⟩ := h.op hx
  exact ⟨a, ha, Nat.le_trans (hμ a) (bulk_one x.1)⟩⟩
theorem OpensU.str (hu : P.underlying t = some .string) (hc : P.cellsOf t = 1) (N : Nat) : OpensU N P t Rep.str (fun s => s.length + 1) := ⟨hc, fun _ h => by
  obtain ⟨s, rfl, rfl, hw⟩ := DataW.trod_string hu h
  refine ⟨s.data.toList, ⟨?_, ?_⟩, ?_⟩
  · simp [bs]
  · simpa [maxLen] using hw
  · simp [uptoBulk]⟩
theorem OpensU.change (h : OpensU N P t R μ) (hs : R.size = S.size) (hf : ∀ w cs a, R.rd noB w cs a → ∃ b, S.rd noB w cs b ∧ ν b ≤ μ a) : OpensU N P t S ν := ⟨h.size.trans hs, fun hl hx => by
  obtain ⟨a, ha, hm⟩ := h.op hl hx
  obtain ⟨b, hb, hn⟩ := hf _ _ _ ha
  exact ⟨b, hb, Nat.le_trans hn hm⟩⟩
theorem OpensU.zero (hs : P.cellsOf t = R.size) : OpensU 0 P t R μ := ⟨hs, fun h => absurd h (Nat.not_lt_zero _)⟩
theorem OpensU.list (hO : OpensU N P e R μ) (hpos : 0 < R.size) (hu : P.underlying t = some (.slice e)) (hc : P.cellsOf t = 1) : OpensU N P t (Rep.list R) (fun l => (l.map μ).sum + 1) := ⟨hc, fun {H enc w sp held fuel cs x} hlt h => by
  rcases DataW.trod_slice hu h with ⟨rfl, rfl⟩ | ⟨a, len, cap, elems, rest, n, rfl, rfl, rfl, _, hl, hm, hel, hi, _⟩
  · exact ⟨[], ⟨none, 0, 0, rfl, SlR.nil_ R noB w⟩, by simp [uptoBulk]⟩
  have key : ∀ i y, elems[i]? = some y → ∃ x, PtrR R noB w (a.add (i * R.size)) x ∧ μ x ≤ uptoBulk y.1 := fun i y hy => by
    have hil : i < len := by rw [← hel]; exact (List.getElem?_eq_some_iff.1 hy).1
    have h1 := hi i hil
    rw [hy] at h1
    obtain ⟨cs', hc, ht⟩ := Option.bind_eq_some_iff.1 h1
    obtain ⟨y', hy', hm'⟩ := hO.op (by omega) ht
    rw [hO.size] at hc
    obtain ⟨_, hcl, hat⟩ := World.cells?_some hc
    refine ⟨y', ⟨?_, _root_.id, cs', hy', fun j v hj => ?_⟩, hm'⟩
    · have h0 := hat 0 hpos
      rw [List.getElem?_eq_getElem (by omega)] at h0
      have := cell_lt h0
      rwa [add_block] at this
    · have hjl : j < R.size := by
        have := (List.getElem?_eq_some_iff.1 hj).1
        omega
      rw [hat j hjl, hj]
  have aux : ∀ (l : List (DataW H × List MemPlace)) (k : Nat), (∀ i y, l[i]? = some y → ∃ x, PtrR R noB w (a.add ((k + i) * R.size)) x ∧ μ x ≤ uptoBulk y.1) → ∃ xs : List α, xs.length = l.length ∧ (∀ i x, xs[i]? = some x → PtrR R noB w (a.add ((k + i) * R.size)) x) ∧ (xs.map μ).sum ≤ uptoBulkAll (l.map (·.1)) := by
    intro l
    induction l with
    | nil => exact fun k _ => ⟨[], rfl, fun i x h => by simp at h, by simp [uptoBulkAll]⟩
    | cons y l ih =>
      intro k hk
      obtain ⟨x, hx, hm⟩ := hk 0 y rfl
      obtain ⟨xs, h1, h2, h3⟩ := ih (k + 1) (fun i y' hy' => by
        have := hk (i + 1) y' hy'
        rwa [show k + (i + 1) = k + 1 + i by omega] at this)
      refine ⟨x :: xs, by simp [h1], fun i z hz => ?_, ?_⟩
      · cases i with
        | zero => simp at hz; subst hz; exact hx
        | succ i =>
          have := h2 i z hz
          rwa [show k + (i + 1) = k + 1 + i by omega]
      · simp only [List.map_cons, List.sum_cons, uptoBulkAll]
        omega
  obtain ⟨xs, h1, h2, h3⟩ := aux elems 0 (fun i y hy => by rw [Nat.zero_add]; exact key i y hy)
  refine ⟨xs, ⟨some a, len, cap, rfl, h1.trans hel, hl, by simpa [maxLen] using hm, fun h => (by cases h), fun p hp i x hx => by cases hp; have := h2 i x hx; rwa [Nat.zero_add] at this⟩, ?_⟩
  simp only [uptoBulk]
  omega⟩
def OpensFsU {α : Type} (N : Nat) (P : Program) (fs : List Field) (o : Nat) (R : Rep α) (μ : α → Nat) : Prop :=
  ∀ {H : Type} {enc : TypeId × Value → H} {w : World} {sp : Nat → Bool} {held : Bool} {fuel : Nat} {cs : List Value} (ys : List (DataW H × List MemPlace)), fuel < N → cs.length = R.size → ys.length = fs.length → (∀ (i : Nat) (f : Field), fs[i]? = some f → o ≤ f.offset ∧ DataW.trod enc P w 0 sp held fuel f.type ((cs.drop (f.offset - o)).take (P.cellsOf f.type)) = ys[i]?) → ∃ a, R.rd noB w cs a ∧ μ a ≤ uptoBulkAll (ys.map (·.1))
theorem OpensFsU.one {f : Field} {o : Nat} (ho : f.offset = o) (h : OpensU N P f.type R μ) : OpensFsU N P [f] o R μ := fun ys hlt hl hy hf => by
  match ys, hy with
  | [y], _ =>
    obtain ⟨_, hx⟩ := hf 0 f rfl
    rw [ho, Nat.sub_self, List.drop_zero, h.size, List.take_of_length_le (Nat.le_of_eq hl)] at hx
    obtain ⟨a, ha, hm⟩ := h.op hlt hx
    exact ⟨a, ha, by simpa [uptoBulkAll] using hm⟩
theorem OpensFsU.cons {f : Field} {fs : List Field} {o : Nat} (ho : f.offset = o) (h : OpensU N P f.type R μ) (hle : (fs.all fun g => decide (o + R.size ≤ g.offset)) = true) (hs : OpensFsU N P fs (o + R.size) S ν) : OpensFsU N P (f :: fs) o (Rep.prod R S) (fun p => μ p.1 + ν p.2) := fun {H enc w sp held fuel cs} ys hlt hl hy hf => by
  have hl' : cs.length = R.size + S.size := hl
  match ys, hy with
  | y :: ys, hy =>
    obtain ⟨_, hx⟩ := hf 0 f rfl
    rw [ho, Nat.sub_self, List.drop_zero, h.size] at hx
    obtain ⟨a, ha, hm⟩ := h.op hlt hx
    obtain ⟨b, hb, hn⟩ := hs (H := H) (enc := enc) (w := w) (sp := sp) (held := held) (fuel := fuel) (cs := cs.drop R.size) ys hlt (by simp [hl']) (by simpa using hy) (fun i g hg => by
      have h1 : o + R.size ≤ g.offset := by simpa using List.all_eq_true.1 hle g (List.mem_of_getElem? hg)
      obtain ⟨_, hy'⟩ := hf (i + 1) g hg
      refine ⟨h1, ?_⟩
      rw [List.drop_drop, show R.size + (g.offset - (o + R.size)) = g.offset - o by omega]
      exact hy')
    refine ⟨(a, b), ⟨_, _, (List.take_append_drop R.size cs).symm, ha, hb⟩, ?_⟩
    simp only [List.map_cons, uptoBulkAll]
    have hm' : μ a ≤ uptoBulk y.1 := hm
    omega
theorem OpensU.struct {fs : Array Field} (hu : P.underlying t = some (.struct fs)) (hc : P.cellsOf t = R.size) (h : OpensFsU N P fs.toList 0 R μ) : OpensU (N + 1) P t R (fun a => μ a + 1) := ⟨hc, fun {H enc w sp held fuel cs x} hlt hx => by
  obtain ⟨xs, n, rfl, rfl, hl, hn, hf⟩ := DataW.trod_struct hu hx
  obtain ⟨a, ha, hm⟩ := h (H := H) (enc := enc) (w := w) (sp := sp) (held := held) (fuel := n) (cs := cs) xs (by omega) (hl.trans hc) (by simpa using hn) (fun i f hf' => ⟨Nat.zero_le _, hf i f (by rw [← Array.getElem?_toList]; exact hf')⟩)
  exact ⟨a, ha, by simp only [uptoBulk]; omega⟩⟩
theorem OpensU.argSlice (hO : ∀ N, OpensU N P e R μ) (hpos : 0 < R.size) (hu : P.underlying t = some (.slice e)) (hc : P.cellsOf t = 1) {H : Type} {enc : TypeId × Value → H} {w : World} {v : Value} {d : DataW H} {ps : List MemPlace} {r : Reach} {b0 : Nat} (hv : Value.okWide P w r b0 t v)
    (h : DataW.Trod enc P w 0 (fun _ => true) true t v d ps) : ∃ A n c xs, v = .slice A n c ∧ SlR R noB w A n c xs ∧ (xs.map μ).sum + 1 ≤ uptoBulk d := by
  obtain ⟨A, n, c, rfl⟩ := okWide_slice hu hv
  obtain ⟨fuel, hf⟩ := h
  obtain ⟨xs, ⟨A', n', c', he, hs⟩, hm⟩ := ((hO (fuel + 1)).list hpos hu hc).op (Nat.lt_succ_self _) hf
  simp [Value.cells] at he
  obtain ⟨rfl, rfl, rfl⟩ := he
  exact ⟨A, n, c, xs, rfl, hs, hm⟩
theorem OpensU.argStruct {fs : Array Field} (hO : ∀ N, OpensU N P t R μ) (hu : P.underlying t = some (.struct fs)) {H : Type} {enc : TypeId × Value → H} {w : World} {v : Value} {d : DataW H} {ps : List MemPlace} {r : Reach} {b0 : Nat} (hv : Value.okWide P w r b0 t v) (h : DataW.Trod enc P w 0 (fun _ => true) true t v d ps) :
    ∃ cs x, v = .agg cs ∧ R.rd noB w cs.toList x ∧ μ x ≤ uptoBulk d := by
  obtain ⟨cs, rfl, _⟩ := okWide_struct hu hv
  obtain ⟨fuel, hf⟩ := h
  obtain ⟨x, hx, hm⟩ := (hO (fuel + 1)).op (Nat.lt_succ_self _) hf
  exact ⟨cs, x, rfl, hx, hm⟩
theorem bulk_le {H : Type} {l : List (DataW H)} (hk : uptoSmall H l = true) : uptoBulkAll l ≤ 1048576 := of_decide_eq_true hk
end
end Go.Gl
