/- Own lemmas for walks, third part: how data lie in memory, as stable facts; the operations that read them. -/
import Derived.Test.YtoeolfnjblibpaaGl2
namespace Go.Gl
open Go.RowKit
set_option linter.unusedVariables false
set_option linter.unusedSimpArgs false

/-- how a datum of type α lies in cells -/
structure Rep (α : Type) where
  size : Nat
  rd : Bs → World → List Value → α → Prop
  len : ∀ {M : Bs} {w : World} {cs : List Value} {x : α}, rd M w cs x → cs.length = size
  one : ∀ {M : Bs} {w : World} {cs : List Value} {x : α}, rd M w cs x → ∀ v ∈ cs, v.oneCell' = true
  keep : ∀ {M : Bs} {w w' : World} {cs : List Value} {x : α}, Keeps M w w' → rd M w cs x → rd M w' cs x
  change : ∀ {M M' : Bs} {w : World} {cs : List Value} {x : α}, (∀ b, b < w.heap.size → M' b → M b) → rd M w cs x → rd M' w cs x

def Rep.fact {α : Type} (R : Rep α) (cs : List Value) (x : α) : Fact := ⟨fun M w => R.rd M w cs x, R.keep, R.change⟩

/-- an address at which a datum lies, outside the blocks that are written -/
def PtrR {α : Type} (R : Rep α) (M : Bs) (w : World) (p : Addr) (x : α) : Prop :=
  p.block < w.heap.size ∧ ¬ M p.block ∧ ∃ cs, R.rd M w cs x ∧ ∀ j v, cs[j]? = some v → w.cell? (p.add j) = some v
theorem PtrR.keep {α : Type} {R : Rep α} {M : Bs} {w w' : World} {p : Addr} {x : α} (hk : Keeps M w w') (h : PtrR R M w p x) : PtrR R M w' p x := by
  obtain ⟨h1, h2, cs, h3, h4⟩ := h
  refine ⟨Nat.lt_of_lt_of_le h1 hk.size, h2, cs, R.keep hk h3, fun j v hj => ?_⟩
  rw [hk.cell (by rw [add_block]; exact h1) (by rw [add_block]; exact h2)]
  exact h4 j v hj
theorem PtrR.change {α : Type} {R : Rep α} {M M' : Bs} {w : World} {p : Addr} {x : α} (hm : ∀ b, b < w.heap.size → M' b → M b) (h : PtrR R M w p x) : PtrR R M' w p x := by
  obtain ⟨h1, h2, cs, h3, h4⟩ := h
  exact ⟨h1, fun hb => h2 (hm _ h1 hb), cs, R.change hm h3, h4⟩
def ptF {α : Type} (R : Rep α) (p : Addr) (x : α) : Fact := ⟨fun M w => PtrR R M w p x, PtrR.keep, PtrR.change⟩

/-- a slice's three parts: it holds the list xs -/
structure SlR {α : Type} (R : Rep α) (M : Bs) (w : World) (A : Option Addr) (n c : Nat) (xs : List α) : Prop where
  len : xs.length = n
  cap : n ≤ c
  max : c ≤ 9223372036854775807
  nil : A = none → c = 0
  at_ : ∀ p, A = some p → ∀ i x, xs[i]? = some x → PtrR R M w (p.add (i * R.size)) x
theorem SlR.keep {α : Type} {R : Rep α} {M : Bs} {w w' : World} {A : Option Addr} {n c : Nat} {xs : List α} (hk : Keeps M w w') (h : SlR R M w A n c xs) : SlR R M w' A n c xs :=
  ⟨h.len, h.cap, h.max, h.nil, fun p hp i x hx => (h.at_ p hp i x hx).keep hk⟩
theorem SlR.change {α : Type} {R : Rep α} {M M' : Bs} {w : World} {A : Option Addr} {n c : Nat} {xs : List α} (hm : ∀ b, b < w.heap.size → M' b → M b) (h : SlR R M w A n c xs) : SlR R M' w A n c xs :=
  ⟨h.len, h.cap, h.max, h.nil, fun p hp i x hx => (h.at_ p hp i x hx).change hm⟩
def slF {α : Type} (R : Rep α) (A : Option Addr) (n c : Nat) (xs : List α) : Fact := ⟨fun M w => SlR R M w A n c xs, SlR.keep, SlR.change⟩
theorem SlR.nil_ {α : Type} (R : Rep α) (M : Bs) (w : World) : SlR R M w none 0 0 [] :=
  ⟨rfl, Nat.le_refl _, by omega, fun _ => rfl, fun _ h => by cases h⟩

/-! ### the representations -/
def Rep.int (k : IntKind) : Rep Int where
  size := 1
  rd := fun _ _ cs x => cs = [.int k x] ∧ InK k x
  len := fun h => by rw [h.1]; rfl
  one := fun h v hv => by rw [h.1] at hv; simp at hv; subst hv; rfl
  keep := fun _ h => h
  change := fun _ h => h
def Rep.bool : Rep Bool where
  size := 1
  rd := fun _ _ cs x => cs = [.bool x]
  len := fun h => by rw [h]; rfl
  one := fun h v hv => by rw [h] at hv; simp at hv; subst hv; rfl
  keep := fun _ h => h
  change := fun _ h => h
def Rep.str : Rep (List UInt8) where
  size := 1
  rd := fun _ _ cs x => cs = [.string (bs x)] ∧ x.length ≤ 9223372036854775807
  len := fun h => by rw [h.1]; rfl
  one := fun h v hv => by rw [h.1] at hv; simp at hv; subst hv; rfl
  keep := fun _ h => h
  change := fun _ h => h
/-- a struct of plain cells -/
def Rep.flat {α : Type} (n : Nat) (enc : α → List Value) (ok : α → Prop) (hl : ∀ x, (enc x).length = n) (h1 : ∀ x, (enc x).all (·.oneCell') = true) : Rep α where
  size := n
  rd := fun _ _ cs x => cs = enc x ∧ ok x
  len := fun h => by rw [h.1]; exact hl _
  one := fun {_ _ _ x} h v hv => by rw [h.1] at hv; exact List.all_eq_true.1 (h1 x) v hv
  keep := fun _ h => h
  change := fun _ h => h
def Rep.prod {α β : Type} (R : Rep α) (S : Rep β) : Rep (α × β) where
  size := R.size + S.size
  rd := fun M w cs x => ∃ c1 c2, cs = c1 ++ c2 ∧ R.rd M w c1 x.1 ∧ S.rd M w c2 x.2
  len := fun ⟨c1, c2, h, h1, h2⟩ => by rw [h, List.length_append, R.len h1, S.len h2]
  one := fun ⟨c1, c2, h, h1, h2⟩ v hv => by
    rw [h] at hv
    rcases List.mem_append.1 hv with hv | hv
    · exact R.one h1 v hv
    · exact S.one h2 v hv
  keep := fun hk ⟨c1, c2, h, h1, h2⟩ => ⟨c1, c2, h, R.keep hk h1, S.keep hk h2⟩
  change := fun hk ⟨c1, c2, h, h1, h2⟩ => ⟨c1, c2, h, R.change hk h1, S.change hk h2⟩
def Rep.via {α β : Type} (R : Rep α) (f : β → α) : Rep β where
  size := R.size
  rd := fun M w cs x => R.rd M w cs (f x)
  len := R.len
  one := R.one
  keep := R.keep
  change := R.change
def Rep.list {α : Type} (R : Rep α) : Rep (List α) where
  size := 1
  rd := fun M w cs xs => ∃ A n c, cs = [.slice A n c] ∧ SlR R M w A n c xs
  len := fun ⟨A, n, c, h, _⟩ => by rw [h]; rfl
  one := fun ⟨A, n, c, h, _⟩ v hv => by rw [h] at hv; simp at hv; subst hv; rfl
  keep := fun hk ⟨A, n, c, h, hs⟩ => ⟨A, n, c, h, hs.keep hk⟩
  change := fun hk ⟨A, n, c, h, hs⟩ => ⟨A, n, c, h, hs.change hk⟩

/-- many data, one behind the other in a list of cells -/
structure RdAll {α : Type} (R : Rep α) (M : Bs) (w : World) (cs : List Value) (xs : List α) : Prop where
  len : cs.length = xs.length * R.size
  at_ : ∀ i x, xs[i]? = some x → R.rd M w ((cs.drop (i * R.size)).take R.size) x
def rdF {α : Type} (R : Rep α) (cs : List Value) (xs : List α) : Fact :=
  ⟨fun M w => RdAll R M w cs xs, fun hk h => ⟨h.len, fun i x hx => R.keep hk (h.at_ i x hx)⟩, fun hk h => ⟨h.len, fun i x hx => R.change hk (h.at_ i x hx)⟩⟩
theorem RdAll.nil {α : Type} (R : Rep α) (M : Bs) (w : World) : RdAll R M w [] [] := ⟨by simp, fun i x h => by simp at h⟩
theorem RdAll.append {α : Type} {R : Rep α} {M : Bs} {w : World} {cs ds : List Value} {xs ys : List α} (h : RdAll R M w cs xs) (k : RdAll R M w ds ys) : RdAll R M w (cs ++ ds) (xs ++ ys) := by
  refine ⟨by simp [h.len, k.len, Nat.add_mul], fun i x hx => ?_⟩
  by_cases hi : i < xs.length
  · rw [List.getElem?_append_left hi] at hx
    have h1 := h.at_ i x hx
    have hle : i * R.size + R.size ≤ cs.length := by
      rw [h.len, ← Nat.succ_mul]
      exact Nat.mul_le_mul_right _ hi
    rw [List.drop_append_of_le_length (by omega), List.take_append_of_le_length (by rw [List.length_drop]; omega)]
    exact h1
  · rw [List.getElem?_append_right (by omega)] at hx
    have h1 := k.at_ _ x hx
    have he : (cs ++ ds).drop (i * R.size) = ds.drop ((i - xs.length) * R.size) := by
      rw [List.drop_append]
      have h2 : cs.length ≤ i * R.size := by rw [h.len]; exact Nat.mul_le_mul_right _ (by omega)
      rw [List.drop_of_length_le h2, h.len, ← Nat.sub_mul, List.nil_append]
    rw [he]
    exact h1
theorem RdAll.single {α : Type} {R : Rep α} {M : Bs} {w : World} {cs : List Value} {x : α} (h : R.rd M w cs x) : RdAll R M w cs [x] := by
  refine ⟨by simp [R.len h], fun i y hy => ?_⟩
  cases i with
  | zero =>
    simp at hy
    subst hy
    simp only [Nat.zero_mul, List.drop_zero]
    rw [List.take_of_length_le (by rw [R.len h]; exact Nat.le_refl _)]
    exact h
  | succ i => simp at hy
theorem RdAll.one {α : Type} {R : Rep α} {M : Bs} {w : World} {cs : List Value} {xs : List α} (h : RdAll R M w cs xs) : ∀ v ∈ cs, v.oneCell' = true := by
  intro v hv
  obtain ⟨j, hj, he⟩ := List.getElem_of_mem hv
  have hpos : 0 < R.size := by
    rcases Nat.eq_zero_or_pos R.size with h0 | h0
    · rw [h.len, h0] at hj; omega
    · exact h0
  have hi : j / R.size < xs.length := by rw [h.len, Nat.mul_comm] at hj; exact Nat.div_lt_of_lt_mul hj
  refine R.one (h.at_ (j / R.size) _ (List.getElem?_eq_getElem hi)) v ?_
  refine List.mem_of_getElem? (i := j % R.size) ?_
  rw [List.getElem?_take, if_pos (Nat.mod_lt _ hpos), List.getElem?_drop]
  have : j / R.size * R.size + j % R.size = j := by rw [Nat.mul_comm]; exact Nat.div_add_mod j R.size
  rw [this, ← he]
  exact List.getElem?_eq_getElem hj
theorem RdAll.take {α : Type} {R : Rep α} {M : Bs} {w : World} {cs : List Value} {xs : List α} (h : RdAll R M w cs xs) (n : Nat) (hn : n ≤ xs.length) : RdAll R M w (cs.take (n * R.size)) (xs.take n) := by
  refine ⟨?_, fun i x hx => ?_⟩
  · rw [List.length_take, List.length_take, h.len, Nat.min_eq_left hn, Nat.min_eq_left (Nat.mul_le_mul_right _ hn)]
  · rw [List.getElem?_take] at hx
    split at hx
    · rename_i hi
      have h1 := h.at_ i x hx
      have hle : i * R.size + R.size ≤ n * R.size := by rw [← Nat.succ_mul]; exact Nat.mul_le_mul_right _ hi
      rw [List.drop_take, List.take_take, Nat.min_eq_left (by omega)]
      exact h1
    · cases hx
/-- a slice's cells, all of them -/
theorem SlR.cells {α : Type} {R : Rep α} {M : Bs} {w : World} {p : Addr} {n c : Nat} {xs : List α} (h : SlR R M w (some p) n c xs) :
    ∃ cs, RdAll R M w cs xs ∧ cs.length = n * R.size ∧ (∀ j v, cs[j]? = some v → w.cell? (p.add j) = some v) ∧ ∀ v ∈ cs, v.oneCell' = true := by
  obtain ⟨hlen, _, _, _, hat⟩ := h
  subst hlen
  have key : ∀ k, k ≤ xs.length → ∃ cs, RdAll R M w cs (xs.take k) ∧ cs.length = k * R.size ∧ (∀ j v, cs[j]? = some v → w.cell? (p.add j) = some v) ∧ ∀ v ∈ cs, v.oneCell' = true := by
    intro k
    induction k with
    | zero => exact fun _ => ⟨[], by simpa using RdAll.nil R M w, by simp, fun j v h => by simp at h, fun v h => by simp at h⟩
    | succ k ih =>
      intro hk
      obtain ⟨cs, h1, h2, h3, h4⟩ := ih (by omega)
      obtain ⟨_, _, ds, k1, k2⟩ := hat p rfl k xs[k] (List.getElem?_eq_getElem (by omega))
      refine ⟨cs ++ ds, ?_, by simp [h2, R.len k1, Nat.add_mul], fun j v hj => ?_, fun v hv => ?_⟩
      · rw [List.take_succ_eq_append_getElem (by omega)]
        exact h1.append (RdAll.single k1)
      · by_cases hjl : j < cs.length
        · rw [List.getElem?_append_left hjl] at hj; exact h3 j v hj
        · rw [List.getElem?_append_right (by omega)] at hj
          have := k2 _ v hj
          rw [add_add] at this
          rw [← this]
          congr 2
          omega
      · rcases List.mem_append.1 hv with hv | hv
        · exact h4 v hv
        · exact R.one k1 v hv
  simpa using key xs.length (Nat.le_refl _)

section
variable {P : Program} {Γ : Ctx} {l : Al Value} {L L1 : Al Ob} {D : Al Fact} {a : Act} {w : World} {d : Option Tmp} {ty : TypeId} {pos : String} {af : Array Edge} {g : Option (Nat × Bool)} {v u : Value} {x y z : Operand} {t t' : TypeId} {k : IntKind} {m : Int}
variable {α : Type} {R : Rep α}

theorem mtb_own {b : Nat} (h : ¬ mtb Γ L b) : ¬ own L b := fun ho => h (.inr ho)
/-- the address of an element -/
theorem y_indexAddr {A : Option Addr} {n c kk : Nat} {xs : List α} {q : Addr} {xi : α} (hS : St Γ l L D a w) (hx : ev l x = some (.slice A n c)) (hy : ev l y = some (.int k m)) (hu : P.underlying t = some (.slice t'))
    (hsz : (P.info? t').map (·.size) = some R.size) (hA : A = some q) (h0 : 0 ≤ m) (h1 : m < n) :
    Yl P L L1 ⟨d, .indexAddr t x y, ty, pos, af, g⟩ a w (.pointer (some (q.add (m.toNat * R.size)))) := fun w' _ => by
  subst hA
  obtain ⟨i, hi, hs⟩ := Option.map_eq_some_iff.1 hsz
  simp [execOp, hS.fr.eval hx, hS.fr.eval hy, Instr.indexAt, asIntOf, run_underlying hu, h0, h1, sizeOf, typeInfo, hi, hs]
theorem SlR.some_ {M : Bs} {A : Option Addr} {n c : Nat} {xs : List α} (h : SlR R M w A n c xs) (hn : 0 < n) : ∃ q, A = some q := by
  cases A with
  | none => have := h.nil rfl; have := h.cap; omega
  | some q => exact ⟨q, rfl⟩
/-- a load of a datum in memory -/
theorem y_loadPt {q : Addr} {xi : α} {cs : List Value} {dd : TypeDesc} (hS : St Γ l L D a w) (hx : ev l x = some (.pointer (some q))) (hp : q.block < w.heap.size) (hm : ¬ mtb Γ L q.block) (hc : ∀ j v, cs[j]? = some v → w.cell? (q.add j) = some v)
    (hu : P.underlying t = some dd) (ha : isAggT P t = true) (hn : (P.info? t).map (·.size) = some cs.length) : Yl P L L1 ⟨d, .load t x, ty, pos, af, g⟩ a w (.agg cs.toArray) := fun w' he => by
  obtain ⟨i, hi, hs⟩ := Option.map_eq_some_iff.1 hn
  have h3 := run_loadCells_list (P := P) w' q cs (fun j v hj => by
    rw [he.1.cell (by rw [add_block]; exact hp) (by rw [add_block]; exact mtb_own hm)]; exact hc j v hj)
  simp [execOp, hS.fr.eval hx, Instr.loadAt, Instr.sureAddr, loadVar, run_isAgg hu, ha, sizeOf, typeInfo, hi, hs, h3]
theorem y_loadPt1 {q : Addr} {dd : TypeDesc} (hS : St Γ l L D a w) (hx : ev l x = some (.pointer (some q))) (hp : q.block < w.heap.size) (hm : ¬ mtb Γ L q.block) (hc : w.cell? q = some v)
    (hu : P.underlying t = some dd) (ha : isAggT P t = false) : Yl P L L1 ⟨d, .load t x, ty, pos, af, g⟩ a w v := fun w' he => by
  have h3 : w'.cell? q = some v := by rw [he.1.cell hp (mtb_own hm)]; exact hc
  simp [execOp, hS.fr.eval hx, Instr.loadAt, Instr.sureAddr, loadVar, run_isAgg hu, ha, load, Sem.run, h3]
/-- 's[lo:hi]' and its kin on a slice -/
theorem y_slice {A : Option Addr} {n c sz : Nat} {lo hi mx : Option Operand} {vl vh vm : Option Value} {i j e : Nat} (hS : St Γ l L D a w) (hx : ev l x = some (.slice A n c)) (hu : P.underlying t = some (.slice t')) (hsz : (P.info? t').map (·.size) = some sz)
    (hl : lo.map a.eval = vl) (hh : hi.map a.eval = vh) (hm : mx.map a.eval = vm) (hb : ∀ w', (Instr.sliceBounds true n c vl vh vm).run P w' = .ok (i, j, e) w') :
    Yl P L L1 ⟨d, .slice t x lo hi mx, ty, pos, af, g⟩ a w (.slice (if e = i then A else A.map (·.add (i * sz))) (j - i) (e - i)) := fun w' _ => by
  obtain ⟨ii, hii, hs⟩ := Option.map_eq_some_iff.1 hsz
  simp [execOp, hS.fr.eval hx, Instr.sliceAt, Instr.slice, run_underlying hu, hl, hh, hm, hb, sizeOf, typeInfo, hii, hs]
theorem run_bound_ok {kk : IntKind} {i : Int} {y : Nat} (code : BoundsCode) (h0 : 0 ≤ i) (h1 : i ≤ y) (w' : World) : (Instr.sliceBound (.int kk i) y code).run P w' = .ok i.toNat w' := by
  simp [Instr.sliceBound, asIntOf, h0, h1]
theorem y_sliceH {A : Option Addr} {n c sz : Nat} (hS : St Γ l L D a w) (hx : ev l x = some (.slice A n c)) (hy : ev l y = some (.int k m)) (hu : P.underlying t = some (.slice t')) (hsz : (P.info? t').map (·.size) = some sz) (h0 : 0 ≤ m) (h1 : m ≤ c) :
    Yl P L L1 ⟨d, .slice t x none (some y) none, ty, pos, af, g⟩ a w (.slice A m.toNat c) := by
  have := y_slice (P := P) (L1 := L1) (d := d) (ty := ty) (pos := pos) (af := af) (g := g) (lo := none) (hi := some y) (mx := none) (i := 0) (j := m.toNat) (e := c) hS hx hu hsz rfl rfl rfl (fun w' => by
    simp [Instr.sliceBounds, hS.fr.eval hy, run_bound_ok _ h0 h1])
  have e1 : (if c = 0 then A else A.map (·.add (0 * sz))) = A := by cases A <;> simp [add_zero]
  rw [e1, Nat.sub_zero, Nat.sub_zero] at this
  exact this
theorem y_sliceHM {A : Option Addr} {n c sz : Nat} {m2 : Int} {k2 : IntKind} (hS : St Γ l L D a w) (hx : ev l x = some (.slice A n c)) (hy : ev l y = some (.int k m)) (hz : ev l z = some (.int k2 m2)) (hu : P.underlying t = some (.slice t')) (hsz : (P.info? t').map (·.size) = some sz) (h0 : 0 ≤ m) (h1 : m ≤ m2) (h2 : m2 ≤ c) :
    Yl P L L1 ⟨d, .slice t x none (some y) (some z), ty, pos, af, g⟩ a w (.slice A m.toNat m2.toNat) := by
  have := y_slice (P := P) (L1 := L1) (d := d) (ty := ty) (pos := pos) (af := af) (g := g) (lo := none) (hi := some y) (mx := some z) (i := 0) (j := m.toNat) (e := m2.toNat) hS hx hu hsz rfl rfl rfl (fun w' => by
    have h3 := run_bound_ok (P := P) (kk := k2) (i := m2) (y := c) .slice3Acap (by omega) h2 w'
    have h4 := run_bound_ok (P := P) (kk := k) (i := m) (y := m2.toNat) .slice3B h0 (by omega) w'
    simp [Instr.sliceBounds, hS.fr.eval hy, hS.fr.eval hz, h3, h4])
  have e1 : (if m2.toNat = 0 then A else A.map (·.add (0 * sz))) = A := by cases A <;> simp [add_zero]
  rw [e1, Nat.sub_zero, Nat.sub_zero] at this
  exact this
theorem y_sliceL {A : Option Addr} {n c sz : Nat} (hS : St Γ l L D a w) (hx : ev l x = some (.slice A n c)) (hy : ev l y = some (.int k m)) (hu : P.underlying t = some (.slice t')) (hsz : (P.info? t').map (·.size) = some sz) (h0 : 0 ≤ m) (h1 : m ≤ n) (h2 : n ≤ c) :
    Yl P L L1 ⟨d, .slice t x (some y) none none, ty, pos, af, g⟩ a w (.slice (if c = m.toNat then A else A.map (·.add (m.toNat * sz))) (n - m.toNat) (c - m.toNat)) :=
  y_slice (P := P) (L1 := L1) (d := d) (ty := ty) (pos := pos) (af := af) (g := g) (lo := some y) (hi := none) (mx := none) (i := m.toNat) (j := n) (e := c) hS hx hu hsz rfl rfl rfl (fun w' => by
    simp [Instr.sliceBounds, hS.fr.eval hy, run_bound_ok _ h0 h1])
theorem y_sliceLH {A : Option Addr} {n c sz : Nat} {m2 : Int} {k2 : IntKind} (hS : St Γ l L D a w) (hx : ev l x = some (.slice A n c)) (hy : ev l y = some (.int k m)) (hz : ev l z = some (.int k2 m2)) (hu : P.underlying t = some (.slice t')) (hsz : (P.info? t').map (·.size) = some sz) (h0 : 0 ≤ m) (h1 : m ≤ m2) (h2 : m2 ≤ c) :
    Yl P L L1 ⟨d, .slice t x (some y) (some z) none, ty, pos, af, g⟩ a w (.slice (if c = m.toNat then A else A.map (·.add (m.toNat * sz))) (m2.toNat - m.toNat) (c - m.toNat)) :=
  y_slice (P := P) (L1 := L1) (d := d) (ty := ty) (pos := pos) (af := af) (g := g) (lo := some y) (hi := some z) (mx := none) (i := m.toNat) (j := m2.toNat) (e := c) hS hx hu hsz rfl rfl rfl (fun w' => by
    have h3 := run_bound_ok (P := P) (kk := k2) (i := m2) (y := c) .sliceAcap (by omega) h2 w'
    have h4 := run_bound_ok (P := P) (kk := k) (i := m) (y := m2.toNat) .sliceB h0 (by omega) w'
    simp [Instr.sliceBounds, hS.fr.eval hy, hS.fr.eval hz, h3, h4])
/-- cuts of a slice -/
theorem SlR.takeCut {M : Bs} {A : Option Addr} {n c : Nat} {xs : List α} (h : SlR R M w A n c xs) {i e : Nat} (hi : i ≤ n) (h1 : i ≤ e) (h2 : e ≤ c) : SlR R M w A i e (xs.take i) :=
  ⟨by rw [List.length_take, h.len]; omega, h1, by have := h.max; omega, fun hA => by have := h.nil hA; omega, fun p hp j x hx => h.at_ p hp j x (by
    rw [List.getElem?_take] at hx
    split at hx
    · exact hx
    · cases hx)⟩
theorem SlR.dropCut {M : Bs} {A : Option Addr} {n c : Nat} {xs : List α} (h : SlR R M w A n c xs) {i : Nat} (hi : i ≤ n) :
    SlR R M w (if c = i then A else A.map (·.add (i * R.size))) (n - i) (c - i) (xs.drop i) := by
  have hc := h.cap
  refine ⟨by rw [List.length_drop, h.len], by omega, by have := h.max; omega, fun hA => ?_, fun p hp j x hx => ?_⟩
  · split at hA
    · omega
    · cases A with
      | none => have := h.nil rfl; omega
      | some q => cases hA
  · have hj : i + j < n := by
      rw [List.getElem?_drop] at hx
      rw [← h.len]
      exact (List.getElem?_eq_some_iff.1 hx).1
    rw [if_neg (by omega)] at hp
    cases A with
    | none => cases hp
    | some q =>
      simp only [Option.map_some, Option.some.injEq] at hp
      subst hp
      rw [add_add, ← Nat.add_mul]
      exact h.at_ q rfl (i + j) x (by rw [← hx, List.getElem?_drop])
/-! element by element -/
def ElemP (A : Option Addr) (k : Nat) (p : Addr) : Prop := ∃ q, A = some q ∧ p = q.add k
theorem SlR.elemAt {M : Bs} {A : Option Addr} {n c : Nat} {xs : List α} (h : SlR R M w A n c xs) {i : Nat} (hi : i < n) : ∃ x, xs[i]? = some x ∧ ∃ p, ElemP A (i * R.size) p ∧ PtrR R M w p x := by
  obtain ⟨q, hq⟩ := h.some_ (by omega)
  have hx : xs[i]? = some (xs[i]'(by rw [h.len]; exact hi)) := List.getElem?_eq_getElem _
  exact ⟨_, hx, _, ⟨q, hq, rfl⟩, h.at_ q hq i _ hx⟩
theorem Wd.fact (h : Wd Γ L D w) {k : Nat} {f : Fact} (hk : look D k = some f) : f.p (mtb Γ L) w := h.facts k f hk
theorem y_elem {A : Option Addr} {n c sz i : Nat} {p : Addr} (hS : St Γ l L D a w) (hx : ev l x = some (.slice A n c)) (hy : ev l y = some (.int k m)) (hu : P.underlying t = some (.slice t'))
    (hsz : (P.info? t').map (·.size) = some sz) (he : ElemP A (i * sz) p) (hi : m = i) (h1 : i < n) :
    Yl P L L1 ⟨d, .indexAddr t x y, ty, pos, af, g⟩ a w (.pointer (some (p.add 0))) := fun w' _ => by
  obtain ⟨q, rfl, rfl⟩ := he
  subst hi
  obtain ⟨j, hj, hs⟩ := Option.map_eq_some_iff.1 hsz
  simp [execOp, hS.fr.eval hx, hS.fr.eval hy, Instr.indexAt, asIntOf, run_underlying hu, h1, sizeOf, typeInfo, hj, hs, add_zero]
theorem y_ptrField {p : Addr} {o o' i : Nat} {fs : Array Field} {f : Field} (hS : St Γ l L D a w) (hx : ev l x = some (.pointer (some (p.add o)))) (hu : P.underlying t = some (.struct fs)) (hf : fs[i]? = some f) (hz : Nat.blt 0 (P.cellsOf f.type) = true) (ho : o + f.offset = o') :
    Yl P L L1 ⟨d, .fieldAddr t x i, ty, pos, af, g⟩ a w (.pointer (some (p.add o'))) := by
  subst ho
  have := y_fieldAddr (P := P) (L1 := L1) (d := d) (ty := ty) (pos := pos) (af := af) (g := g) hS hx hu hf hz
  rwa [add_add] at this
theorem y_ldp1 {p : Addr} {o : Nat} {dd : TypeDesc} (hS : St Γ l L D a w) (hx : ev l x = some (.pointer (some (p.add o)))) (hp : p.block < w.heap.size) (hm : ¬ mtb Γ L p.block) (hc : w.cell? (p.add o) = some v)
    (hu : P.underlying t = some dd) (ha : isAggT P t = false) : Yl P L L1 ⟨d, .load t x, ty, pos, af, g⟩ a w v :=
  y_loadPt1 hS hx (by rw [add_block]; exact hp) (by rw [add_block]; exact hm) hc hu ha
theorem y_ldp {p : Addr} {o : Nat} {cs : List Value} {dd : TypeDesc} (hS : St Γ l L D a w) (hx : ev l x = some (.pointer (some (p.add o)))) (hp : p.block < w.heap.size) (hm : ¬ mtb Γ L p.block) (hc : ∀ j v, cs[j]? = some v → w.cell? (p.add (o + j)) = some v)
    (hu : P.underlying t = some dd) (ha : isAggT P t = true) (hn : (P.info? t).map (·.size) = some cs.length) : Yl P L L1 ⟨d, .load t x, ty, pos, af, g⟩ a w (.agg cs.toArray) :=
  y_loadPt (xi := ()) hS hx (by rw [add_block]; exact hp) (by rw [add_block]; exact hm) (fun j v hj => by rw [add_add]; exact hc j v hj) hu ha hn
theorem y_addN {i j : Nat} (hS : St Γ l L D a w) (hx : ev l x = some (.int k (i : Int))) (hy : ev l y = some (.int k (j : Int))) (hr : InK k ((i + j : Nat) : Int)) :
    Yl P L L1 ⟨d, .binOp .add t x y t', ty, pos, af, g⟩ a w (.int k ((i + j : Nat) : Int)) := by
  have := y_add (P := P) (L1 := L1) (d := d) (ty := ty) (pos := pos) (af := af) (g := g) (t := t) (t' := t') hS hx hy (by simpa using hr)
  simpa using this
theorem y_sliceHN {A : Option Addr} {n c sz i : Nat} (hS : St Γ l L D a w) (hx : ev l x = some (.slice A n c)) (hy : ev l y = some (.int k m)) (hu : P.underlying t = some (.slice t')) (hsz : (P.info? t').map (·.size) = some sz) (hi : m = i) (h1 : i ≤ c) :
    Yl P L L1 ⟨d, .slice t x none (some y) none, ty, pos, af, g⟩ a w (.slice A i c) := by
  subst hi
  simpa using y_sliceH (P := P) (L1 := L1) (d := d) (ty := ty) (pos := pos) (af := af) (g := g) hS hx hy hu hsz (by omega) (by omega)
theorem y_sliceHMN {A : Option Addr} {n c sz i j : Nat} {m2 : Int} {k2 : IntKind} (hS : St Γ l L D a w) (hx : ev l x = some (.slice A n c)) (hy : ev l y = some (.int k m)) (hz : ev l z = some (.int k2 m2)) (hu : P.underlying t = some (.slice t')) (hsz : (P.info? t').map (·.size) = some sz) (hi : m = i) (hj : m2 = j) (h1 : i ≤ j) (h2 : j ≤ c) :
    Yl P L L1 ⟨d, .slice t x none (some y) (some z), ty, pos, af, g⟩ a w (.slice A i j) := by
  subst hi; subst hj
  simpa using y_sliceHM (P := P) (L1 := L1) (d := d) (ty := ty) (pos := pos) (af := af) (g := g) hS hx hy hz hu hsz (by omega) (by omega) (by omega)
theorem y_sliceLN {A : Option Addr} {n c sz i : Nat} (hS : St Γ l L D a w) (hx : ev l x = some (.slice A n c)) (hy : ev l y = some (.int k m)) (hu : P.underlying t = some (.slice t')) (hsz : (P.info? t').map (·.size) = some sz) (hi : m = i) (h1 : i ≤ n) (h2 : n ≤ c) :
    Yl P L L1 ⟨d, .slice t x (some y) none none, ty, pos, af, g⟩ a w (.slice (if c = i then A else A.map (·.add (i * sz))) (n - i) (c - i)) := by
  subst hi
  simpa using y_sliceL (P := P) (L1 := L1) (d := d) (ty := ty) (pos := pos) (af := af) (g := g) hS hx hy hu hsz (by omega) (by omega) h2
end
end Go.Gl
