/- Own lemmas, eleventh part: plain programs as Option-valued functions; further representations; boxes that are no longer written; function values. -/
import Derived.Test.YtoeolfnjblibpaaGl10
import Derived.Test.YtoeolfnjblibpaaGl8
namespace Go.Gl
open Go.RowKit
set_option linter.unusedVariables false
set_option linter.unusedSimpArgs false

/-! ### plain programs -/
section
variable {α β ρ σ : Type}
def jn (k : σ) (b : σ → Option ρ) : Option ρ := b k
theorem jn_some {k : σ} {b : σ → Option ρ} {r : ρ} (h : jn k b = some r) : ∃ k', b k' = some r ∧ k' = k := ⟨k, h, rfl⟩
def chk (p : Prop) [Decidable p] (x : Option ρ) : Option ρ := if p then x else none
theorem chk_some {p : Prop} [Decidable p] {x : Option ρ} {r : ρ} (h : chk p x = some r) : p ∧ x = some r := by
  unfold chk at h
  split at h
  · exact ⟨by assumption, h⟩
  · cases h
theorem chk_pos {p : Prop} [Decidable p] {x : Option ρ} (h : p) : chk p x = x := if_pos h
theorem bind_some {x : Option α} {f : α → Option β} {r : β} (h : x.bind f = some r) : ∃ u, x = some u ∧ f u = some r := by
  cases x with
  | none => cases h
  | some u => exact ⟨u, rfl, h⟩
theorem br_t {p : Prop} [Decidable p] {x y : Option ρ} {r : ρ} (h : (if p then x else y) = some r) (hp : p) : x = some r := (if_pos hp).symm.trans h
theorem br_f {p : Prop} [Decidable p] {x y : Option ρ} {r : ρ} (h : (if p then x else y) = some r) (hp : ¬ p) : y = some r := (if_neg hp).symm.trans h
theorem none_no {r : ρ} (h : (none : Option ρ) = some r) {q : Prop} : q := by cases h
/-- an element at a whole number -/
def ix (xs : List α) (i : Int) : Option α := if 0 ≤ i then xs[i.toNat]? else none
theorem ix_some {xs : List α} {i : Int} {x : α} (h : ix xs i = some x) : xs[i.toNat]? = some x ∧ i = (i.toNat : Nat) ∧ i.toNat < xs.length := by
  unfold ix at h
  split at h
  · exact ⟨h, by omega, (List.getElem?_eq_some_iff.1 h).1⟩
  · cases h
theorem ix_nat (xs : List α) (i : Nat) : ix xs (i : Int) = xs[i]? := by simp [ix]
theorem lt_of_get {xs : List α} {i : Nat} {x : α} (h : xs[i]? = some x) : i < xs.length := (List.getElem?_eq_some_iff.1 h).1
end

/-! ### representations without ranges -/
def Rep.num (k : IntKind) : Rep Int where
  size := 1
  rd := fun _ _ cs x => cs = [.int k x]
  len := fun h => by rw [h]; rfl
  one := fun h v hv => by rw [h] at hv; simp at hv; subst hv; rfl
  keep := fun _ h => h
  change := fun _ h => h
def Rep.u8 : Rep UInt8 where
  size := 1
  rd := fun _ _ cs x => cs = [.int .u8 (x.toNat : Int)]
  len := fun h => by rw [h]; rfl
  one := fun h v hv => by rw [h] at hv; simp at hv; subst hv; rfl
  keep := fun _ h => h
  change := fun _ h => h

/-! ### more comparisons: whole numbers that are natural -/
section
variable {P : Program} {Γ : Ctx} {l : Al Value} {L L1 : Al Ob} {D : Al Fact} {a : Act} {w : World} {d : Option Tmp} {ty : TypeId} {pos : String} {af : Array Edge} {g : Option (Nat × Bool)} {v u : Value} {x y z c : Operand} {t t' : TypeId} {k : IntKind} {m n : Int} {i j : Nat}
theorem y_lssN (hS : St Γ l L D a w) (hx : ev l x = some (.int k (i : Int))) (hy : ev l y = some (.int k (j : Int))) : Yl P L L1 ⟨d, .binOp .lss t x y t', ty, pos, af, g⟩ a w (.bool (decide (i < j))) := by
  have := y_lss (P := P) (L1 := L1) (d := d) (ty := ty) (pos := pos) (af := af) (g := g) (t := t) (t' := t') hS hx hy
  rwa [show decide ((i : Int) < (j : Int)) = decide (i < j) from decide_eq_decide.2 (by omega)] at this
theorem y_leqN (hS : St Γ l L D a w) (hx : ev l x = some (.int k (i : Int))) (hy : ev l y = some (.int k (j : Int))) : Yl P L L1 ⟨d, .binOp .leq t x y t', ty, pos, af, g⟩ a w (.bool (decide (i ≤ j))) := by
  have := y_leq (P := P) (L1 := L1) (d := d) (ty := ty) (pos := pos) (af := af) (g := g) (t := t) (t' := t') hS hx hy
  rwa [show decide ((i : Int) ≤ (j : Int)) = decide (i ≤ j) from decide_eq_decide.2 (by omega)] at this
theorem y_gtrN (hS : St Γ l L D a w) (hx : ev l x = some (.int k (i : Int))) (hy : ev l y = some (.int k (j : Int))) : Yl P L L1 ⟨d, .binOp .gtr t x y t', ty, pos, af, g⟩ a w (.bool (decide (j < i))) := by
  have := y_gtr (P := P) (L1 := L1) (d := d) (ty := ty) (pos := pos) (af := af) (g := g) (t := t) (t' := t') hS hx hy
  rwa [show decide ((j : Int) < (i : Int)) = decide (j < i) from decide_eq_decide.2 (by omega)] at this
theorem y_geqN (hS : St Γ l L D a w) (hx : ev l x = some (.int k (i : Int))) (hy : ev l y = some (.int k (j : Int))) : Yl P L L1 ⟨d, .binOp .geq t x y t', ty, pos, af, g⟩ a w (.bool (decide (j ≤ i))) := by
  have := y_geq (P := P) (L1 := L1) (d := d) (ty := ty) (pos := pos) (af := af) (g := g) (t := t) (t' := t') hS hx hy
  rwa [show decide ((j : Int) ≤ (i : Int)) = decide (j ≤ i) from decide_eq_decide.2 (by omega)] at this
theorem y_eqlN (hS : St Γ l L D a w) (hx : ev l x = some (.int k (i : Int))) (hy : ev l y = some (.int k (j : Int))) : Yl P L L1 ⟨d, .binOp .eql t x y t', ty, pos, af, g⟩ a w (.bool (decide (i = j))) := by
  have := y_eql (P := P) (L1 := L1) (d := d) (ty := ty) (pos := pos) (af := af) (g := g) (t := t) (t' := t') hS hx hy
  rwa [show decide ((i : Int) = (j : Int)) = decide (i = j) from decide_eq_decide.2 (by omega)] at this
theorem y_neqN (hS : St Γ l L D a w) (hx : ev l x = some (.int k (i : Int))) (hy : ev l y = some (.int k (j : Int))) : Yl P L L1 ⟨d, .binOp .neq t x y t', ty, pos, af, g⟩ a w (.bool (decide (i ≠ j))) := by
  have := y_neq (P := P) (L1 := L1) (d := d) (ty := ty) (pos := pos) (af := af) (g := g) (t := t) (t' := t') hS hx hy
  rwa [show decide ((i : Int) ≠ (j : Int)) = decide (i ≠ j) from decide_eq_decide.2 (by omega)] at this
theorem y_subN (hS : St Γ l L D a w) (hx : ev l x = some (.int k (i : Int))) (hy : ev l y = some (.int k (j : Int))) (h : j ≤ i) (hr : InK k ((i - j : Nat) : Int)) :
    Yl P L L1 ⟨d, .binOp .sub t x y t', ty, pos, af, g⟩ a w (.int k ((i - j : Nat) : Int)) := by
  have e : ((i - j : Nat) : Int) = (i : Int) - (j : Int) := by omega
  rw [e] at hr ⊢
  exact y_sub hS hx hy hr
theorem y_lenStrN {s : List UInt8} (hS : St Γ l L D a w) (hx : ev l x = some (.string (bs s))) (hu : P.underlying t = some .string) : Yl P L L1 ⟨d, .call ⟨.builtin .len, #[x], #[t]⟩, ty, pos, af, g⟩ a w (.int .i64 ((s.length : Nat) : Int)) := by
  have := y_lenStr (P := P) (L1 := L1) (d := d) (ty := ty) (pos := pos) (af := af) (g := g) hS hx hu
  rwa [bs_size] at this
theorem y_indexN {s : List UInt8} {c0 : UInt8} (hS : St Γ l L D a w) (hx : ev l x = some (.string (bs s))) (hy : ev l y = some (.int k m)) (hu : P.underlying t = some .string) (hm : m = (i : Nat)) (hc : s[i]? = some c0) :
    Yl P L L1 ⟨d, .index t x y, ty, pos, af, g⟩ a w (.int .u8 (c0.toNat : Int)) := by
  subst hm
  exact y_index hS hx hy hu (by omega) (by simpa using hc)
/-! slices cut, the lengths written as lengths -/
variable {α : Type} {R : Rep α} {xs : List α} {A : Option Addr} {cp sz : Nat}
theorem y_cutH (hS : St Γ l L D a w) (hx : ev l x = some (.slice A xs.length cp)) (hy : ev l y = some (.int k m)) (hu : P.underlying t = some (.slice t')) (hsz : (P.info? t').map (·.size) = some sz) (hm : m = (i : Nat)) (h1 : i ≤ xs.length) (hc : xs.length ≤ cp) :
    Yl P L L1 ⟨d, .slice t x none (some y) none, ty, pos, af, g⟩ a w (.slice A (xs.take i).length cp) := by
  rw [List.length_take, Nat.min_eq_left h1]
  exact y_sliceHN hS hx hy hu hsz hm (by omega)
theorem y_cutHM {m2 : Int} {k2 : IntKind} (hS : St Γ l L D a w) (hx : ev l x = some (.slice A xs.length cp)) (hy : ev l y = some (.int k m)) (hz : ev l z = some (.int k2 m2)) (hu : P.underlying t = some (.slice t')) (hsz : (P.info? t').map (·.size) = some sz) (hm : m = (i : Nat)) (hj : m2 = (j : Nat)) (h1 : i ≤ xs.length) (h2 : i ≤ j) (h3 : j ≤ cp) :
    Yl P L L1 ⟨d, .slice t x none (some y) (some z), ty, pos, af, g⟩ a w (.slice A (xs.take i).length j) := by
  rw [List.length_take, Nat.min_eq_left h1]
  exact y_sliceHMN hS hx hy hz hu hsz hm hj h2 h3
theorem y_cutL (hS : St Γ l L D a w) (hx : ev l x = some (.slice A xs.length cp)) (hy : ev l y = some (.int k m)) (hu : P.underlying t = some (.slice t')) (hsz : (P.info? t').map (·.size) = some sz) (hm : m = (i : Nat)) (h1 : i ≤ xs.length) (hc : xs.length ≤ cp) :
    Yl P L L1 ⟨d, .slice t x (some y) none none, ty, pos, af, g⟩ a w (.slice (if cp = i then A else A.map (·.add (i * sz))) (xs.drop i).length (cp - i)) := by
  rw [List.length_drop]
  exact y_sliceLN hS hx hy hu hsz hm h1 hc
theorem y_cutLH {m2 : Int} {k2 : IntKind} (hS : St Γ l L D a w) (hx : ev l x = some (.slice A xs.length cp)) (hy : ev l y = some (.int k m)) (hz : ev l z = some (.int k2 m2)) (hu : P.underlying t = some (.slice t')) (hsz : (P.info? t').map (·.size) = some sz) (hm : m = (i : Nat)) (hj : m2 = (j : Nat)) (h1 : i ≤ j) (h2 : j ≤ xs.length) (hc : xs.length ≤ cp) :
    Yl P L L1 ⟨d, .slice t x (some y) (some z) none, ty, pos, af, g⟩ a w (.slice (if cp = i then A else A.map (·.add (i * sz))) ((xs.drop i).take (j - i)).length (cp - i)) := by
  have e : ((xs.drop i).take (j - i)).length = j - i := by rw [List.length_take, List.length_drop]; omega
  rw [e]
  subst hm; subst hj
  have := y_sliceLH (P := P) (L1 := L1) (d := d) (ty := ty) (pos := pos) (af := af) (g := g) hS hx hy hz hu hsz (by omega) (by omega) (by omega)
  simpa using this
theorem SlR.cutH {M : Bs} (h : SlR R M w A xs.length cp xs) (i : Nat) (hi : i ≤ xs.length) : SlR R M w A (xs.take i).length cp (xs.take i) := by
  have := h.takeCut (i := i) (e := cp) hi (by have := h.cap; omega) (Nat.le_refl _)
  rwa [show (xs.take i).length = i by rw [List.length_take]; omega]
theorem SlR.cutHM {M : Bs} (h : SlR R M w A xs.length cp xs) (i j : Nat) (hi : i ≤ xs.length) (h1 : i ≤ j) (h2 : j ≤ cp) : SlR R M w A (xs.take i).length j (xs.take i) := by
  have := h.takeCut (i := i) (e := j) hi h1 h2
  rwa [show (xs.take i).length = i by rw [List.length_take]; omega]
theorem SlR.cutL {M : Bs} (h : SlR R M w A xs.length cp xs) (i : Nat) (hi : i ≤ xs.length) : SlR R M w (if cp = i then A else A.map (·.add (i * R.size))) (xs.drop i).length (cp - i) (xs.drop i) := by
  have := h.dropCut (i := i) hi
  rwa [show (xs.drop i).length = xs.length - i by rw [List.length_drop]]
theorem SlR.cutLH {M : Bs} (h : SlR R M w A xs.length cp xs) (i j : Nat) (hi : i ≤ j) (hj : j ≤ xs.length) : SlR R M w (if cp = i then A else A.map (·.add (i * R.size))) ((xs.drop i).take (j - i)).length (cp - i) ((xs.drop i).take (j - i)) := by
  have h1 := h.cutL i (by omega)
  exact h1.cutH (j - i) (by rw [List.length_drop]; omega)
theorem SlR.norm {M : Bs} {n : Nat} (h : SlR R M w A n cp xs) : SlR R M w A xs.length cp xs := by
  have := h.len
  subst this
  exact h
/-! strings cut -/
theorem bs_cut (p : List UInt8) (i j : Nat) : (bs p).extract i j = bs ((p.drop i).take (j - i)) := bs_extract p i j
theorem y_strCut {p : List UInt8} {lo hi : Option Operand} {vl vh : Option Value} (hS : St Γ l L D a w) (hx : ev l x = some (.string (bs p))) (hu : P.underlying t = some .string)
    (hl : lo.map a.eval = vl) (hh : hi.map a.eval = vh) (hb : ∀ w', (Instr.sliceBounds false p.length p.length vl vh none).run P w' = .ok (i, j, p.length) w') :
    Yl P L L1 ⟨d, .slice t x lo hi none, ty, pos, af, g⟩ a w (.string (bs ((p.drop i).take (j - i)))) := fun w' _ => by
  have hb' := hb w'
  rw [← bs_size] at hb'
  simp [execOp, hS.fr.eval hx, Instr.sliceAt, Instr.slice, run_underlying hu, hl, hh, hb', bs_extract]
theorem y_strH {p : List UInt8} (hS : St Γ l L D a w) (hx : ev l x = some (.string (bs p))) (hy : ev l y = some (.int k m)) (hu : P.underlying t = some .string) (hm : m = (i : Nat)) (h1 : i ≤ p.length) :
    Yl P L L1 ⟨d, .slice t x none (some y) none, ty, pos, af, g⟩ a w (.string (bs (p.take i))) := by
  subst hm
  have := y_strCut (P := P) (L1 := L1) (d := d) (ty := ty) (pos := pos) (af := af) (g := g) (lo := none) (hi := some y) (i := 0) (j := i) hS hx hu rfl rfl (fun w' => by
    simp [Instr.sliceBounds, hS.fr.eval hy, run_bound_ok _ (show 0 ≤ (i : Int) by omega) (show (i : Int) ≤ p.length by omega)])
  simpa using this
theorem y_strL {p : List UInt8} (hS : St Γ l L D a w) (hx : ev l x = some (.string (bs p))) (hy : ev l y = some (.int k m)) (hu : P.underlying t = some .string) (hm : m = (i : Nat)) (h1 : i ≤ p.length) :
    Yl P L L1 ⟨d, .slice t x (some y) none none, ty, pos, af, g⟩ a w (.string (bs (p.drop i))) := by
  subst hm
  have := y_strCut (P := P) (L1 := L1) (d := d) (ty := ty) (pos := pos) (af := af) (g := g) (lo := some y) (hi := none) (i := i) (j := p.length) hS hx hu rfl rfl (fun w' => by
    simp [Instr.sliceBounds, hS.fr.eval hy, run_bound_ok _ (show 0 ≤ (i : Int) by omega) (show (i : Int) ≤ p.length by omega)])
  rwa [List.take_of_length_le (by rw [List.length_drop]; exact Nat.le_refl _)] at this
theorem y_strLH {p : List UInt8} {m2 : Int} {k2 : IntKind} (hS : St Γ l L D a w) (hx : ev l x = some (.string (bs p))) (hy : ev l y = some (.int k m)) (hz : ev l z = some (.int k2 m2)) (hu : P.underlying t = some .string) (hm : m = (i : Nat)) (hj : m2 = (j : Nat)) (h1 : i ≤ j) (h2 : j ≤ p.length) :
    Yl P L L1 ⟨d, .slice t x (some y) (some z) none, ty, pos, af, g⟩ a w (.string (bs ((p.drop i).take (j - i)))) := by
  subst hm; subst hj
  exact y_strCut (P := P) (L1 := L1) (d := d) (ty := ty) (pos := pos) (af := af) (g := g) (lo := some y) (hi := some z) (i := i) (j := j) hS hx hu rfl rfl (fun w' => by
    have h3 := run_bound_ok (P := P) (kk := k2) (i := (j : Int)) (y := p.length) .sliceAlen (by omega) (by omega) w'
    have h4 := run_bound_ok (P := P) (kk := k) (i := (i : Int)) (y := j) .sliceB (by omega) (by omega) w'
    simp [Instr.sliceBounds, hS.fr.eval hy, hS.fr.eval hz, h3, h4])
end

/-! ### boxes that are no longer written -/
def BoxR (b : Nat) (cs : List Value) (t : TypeId) (M : Bs) (w : World) : Prop := ¬ M b ∧ w.heap[b]? = some (.cells cs.toArray t (0, 0))
def boxF (b : Nat) (cs : List Value) (t : TypeId) : Fact := ⟨BoxR b cs t, fun hk h => ⟨h.1, (hk.block b (block_lt h.2) h.1).trans h.2⟩, fun hm h => ⟨fun hb => h.1 (hm b (block_lt h.2) hb), h.2⟩⟩
section
variable {P : Program} {Γ : Ctx} {l : Al Value} {L L1 L' : Al Ob} {D : Al Fact} {a : Act} {w : World} {d : Option Tmp} {ty : TypeId} {pos : String} {af : Array Edge} {g : Option (Nat × Bool)} {v u : Value} {x y z c : Operand} {t t' tb : TypeId} {b o kk n : Nat} {cs vs : List Value} {dd : TypeDesc}
theorem St.freezeBox (hS : St Γ l L D a w) (j kk : Nat) (hb : look L kk = some (Ob.box b cs tb)) (hL : SubA L' L) (hk : look L' kk = none) : St Γ l L' ((j, boxF b cs tb) :: D) a w := by
  have h1 := hS.wd.subL hL
  refine ⟨hS.fr, h1.add j _ ⟨fun hm => ?_, hS.wd.holds kk _ hb⟩⟩
  rcases hm with hm | ⟨k', o', hk', hi'⟩
  · exact hS.wd.sep b ⟨kk, _, hb, rfl⟩ hm
  · have := hS.wd.apart kk k' _ o' b hb (hL.look hk') rfl hi'
    subst this
    rw [hk] at hk'
    cases hk'
theorem y_loadF1 (hS : St Γ l L D a w) (hx : ev l x = some (.pointer (some ⟨b, o, none⟩))) (hb : BoxR b cs tb (mtb Γ L) w) (hv : cs[o]? = some v) (hu : P.underlying t = some dd) (ha : isAggT P t = false) : Yl P L L1 ⟨d, .load t x, ty, pos, af, g⟩ a w v := fun w' he => by
  have h1 : w'.heap[b]? = some (.cells cs.toArray tb (0, 0)) := (he.1.block b (block_lt hb.2) (mtb_own hb.1)).trans hb.2
  have h2 : w'.cell? ⟨b, o, none⟩ = some v := by simp [World.cell?, h1, hv]
  simp [execOp, hS.fr.eval hx, Instr.loadAt, Instr.sureAddr, loadVar, run_isAgg hu, ha, load, Sem.run, h2]
theorem y_loadF (hS : St Γ l L D a w) (hx : ev l x = some (.pointer (some ⟨b, o, none⟩))) (hb : BoxR b cs tb (mtb Γ L) w) (hu : P.underlying t = some dd) (ha : isAggT P t = true) (hn : (P.info? t).map (·.size) = some n) (hv : (cs.drop o).take n = vs) (hl : vs.length = n) : Yl P L L1 ⟨d, .load t x, ty, pos, af, g⟩ a w (.agg vs.toArray) := fun w' he => by
  have h1 : w'.heap[b]? = some (.cells cs.toArray tb (0, 0)) := (he.1.block b (block_lt hb.2) (mtb_own hb.1)).trans hb.2
  have h2 : ∀ j u, vs[j]? = some u → w'.cell? ((⟨b, o, none⟩ : Addr).add j) = some u := by
    intro j u hj
    rw [add_lit]
    have hjn : j < n := by rw [← hl]; exact (List.getElem?_eq_some_iff.1 hj).1
    rw [← hv, List.getElem?_take, if_pos hjn, List.getElem?_drop] at hj
    simp [World.cell?, h1, hj]
  obtain ⟨i, hi, hsz⟩ := Option.map_eq_some_iff.1 hn
  have h3 := run_loadCells_list (P := P) w' ⟨b, o, none⟩ vs h2
  rw [hl] at h3
  simp [execOp, hS.fr.eval hx, Instr.loadAt, Instr.sureAddr, loadVar, run_isAgg hu, ha, sizeOf, typeInfo, hi, hsz, h3]
end

/-! ### function values -/
/-- what is called: a function with captured values, as a plain function -/
structure FnR {α β : Type} (P : Program) (f : FuncId) (caps : List Value) (pre : Bs → World → List Value → α → Prop) (post : Bs → World → Value → β → Prop) (F : α → Option β) (M : Bs) (w : World) : Prop where
  known : ∃ fn cd, P.funcs[f]? = some fn ∧ fn.body = some cd ∧ (fn.name == "runtime.NumGoroutine") = false
  call : ∀ M1 w1, Keeps M w w1 → (∀ b, b < w.heap.size → M1 b → M b) → (∀ b, M1 b → b < w1.heap.size) → ∀ vs x r, pre M1 w1 vs x → F x = some r → Calls P f (vs ++ caps).toArray w1 (Ret noB w1 fun v w' => post M1 w' v r)
def fnF {α β : Type} (P : Program) (f : FuncId) (caps : List Value) (pre : Bs → World → List Value → α → Prop) (post : Bs → World → Value → β → Prop) (F : α → Option β) : Fact :=
  ⟨FnR P f caps pre post F, fun hk h => ⟨h.known, fun M1 w1 h1 h2 h3 => h.call M1 w1 (hk.trans h1) (fun b hb => h2 b (Nat.lt_of_lt_of_le hb hk.size)) h3⟩,
    fun hm h => ⟨h.known, fun M1 w1 h1 h2 h3 => h.call M1 w1 (h1.mono fun b hb h => hm b hb h) (fun b hb hb' => hm b hb (h2 b hb hb')) h3⟩⟩
theorem Fact.move (f : Fact) {M M1 : Bs} {w w1 : World} (hk : Keeps M w w1) (hm : ∀ b, b < w.heap.size → M1 b → M b) (h : f.p M w) : f.p M1 w1 := by
  have h2 : f.p (fun b => M b ∨ (w.heap.size ≤ b ∧ M1 b)) w := f.change (fun b hb h => h.elim id fun h => by omega) h
  refine f.change (fun b hb h => ?_) (f.keep (hk.mono fun b _ h => .inl h) h2)
  rcases Nat.lt_or_ge b w.heap.size with h3 | h3
  · exact .inl (hm b h3 h)
  · exact .inr ⟨h3, h⟩
def Rep.fn {α β : Type} (P : Program) (pre : Bs → World → List Value → α → Prop) (post : Bs → World → Value → β → Prop) : Rep (α → Option β) where
  size := 1
  rd := fun M w cs F => ∃ f caps, cs = [.func (.func f) #[] (List.toArray caps)] ∧ FnR P f caps pre post F M w
  len := fun ⟨f, caps, h, _⟩ => by rw [h]; rfl
  one := fun ⟨f, caps, h, _⟩ v hv => by rw [h] at hv; simp at hv; subst hv; rfl
  keep := fun hk ⟨f, caps, h, hf⟩ => ⟨f, caps, h, (fnF P f caps pre post _).keep hk hf⟩
  change := fun hk ⟨f, caps, h, hf⟩ => ⟨f, caps, h, (fnF P f caps pre post _).change hk hf⟩
section
variable {P : Program} {Γ : Ctx} {l : Al Value} {L L' : Al Ob} {D : Al Fact} {a : Act} {w : World} {d : Tmp} {ty : TypeId} {pos : String} {af : Array Edge} {g : Option (Nat × Bool)} {K : Act → World → Prop} {Q : Exit → Act → World → Prop} {α β : Type}
theorem l_callFn {f : FuncId} {args : List Operand} {ats : Array TypeId} {vs : List Value} {fo : Operand} {cap : List Value} {pre : Bs → World → List Value → α → Prop} {post : Bs → World → Value → β → Prop} {F : α → Option β} {x : α} {r : β} (hS : St Γ l L D a w) (hfo : ev l fo = some (.func (.func f) #[] cap.toArray)) (hfn : FnR P f cap pre post F (mtb Γ L) w)
    (ha : evl l args = some vs) (hd : Nat.blt d Γ.N = true) (hp : pre (mtb Γ L) w vs x) (hr : F x = some r)
    (h : ∀ v a' w', Keeps noB w w' → post (mtb Γ L) w' v r → St Γ ((d, v) :: l) L D a' w' → K a' w') : Oper.wp P ⟨some d, .call ⟨.value fo, args.toArray, ats⟩, ty, pos, af, g⟩ a w K Q := by
  obtain ⟨fn, cd, h1, h2, h3⟩ := hfn.known
  exact l_call hS hfo h1 h2 h3 ha hd (hfn.call _ w (Keeps.refl _ _) (fun _ _ h => h) hS.lt vs x r hp hr) h
/-- a closure made -/
def evc (l : Al Value) (xs : List Operand) : Option (List Value) := evl l xs
/-- an owned object under another key -/
def RenL : Al Ob → List Nat → Al Ob → Prop
  | [], [], _ => True
  | (_, o) :: r, j :: js, L => look L j = some o ∧ RenL r js L
  | _, _, _ => False
theorem RenL.look {k : Nat} {o : Ob} : ∀ {L' : Al Ob} {js : List Nat} {L : Al Ob}, RenL L' js L → look L' k = some o → ∃ i : Nat, ∃ j, (L'.map (·.1))[i]? = some k ∧ js[i]? = some j ∧ Gl.look L j = some o
  | [], js, L, h, hk => by cases hk
  | (k', o') :: r, [], L, h, hk => by cases h
  | (k', o') :: r, j :: js, L, h, hk => by
    rcases look_cons hk with ⟨rfl, rfl⟩ | ⟨hne, hk⟩
    · exact ⟨0, j, by simp, by simp, h.1⟩
    · obtain ⟨i, q, h1, h2, h3⟩ := RenL.look h.2 hk
      exact ⟨i + 1, q, by simpa using h1, by simpa using h2, h3⟩
theorem St.ren (hS : St Γ l L D a w) (L' : Al Ob) (js : List Nat) (h : RenL L' js L) (hn : js.Nodup) : St Γ l L' D a w := by
  refine ⟨hS.fr, hS.wd.step (Keeps.refl _ _) (fun k o hk => ?_) (fun k k' o o' b h1 h2 i1 i2 => ?_) (fun b hb => .inl ?_)⟩
  · obtain ⟨_, j, _, _, h3⟩ := h.look hk
    exact hS.wd.holds j o h3
  · obtain ⟨i, j, p1, p2, p3⟩ := h.look h1
    obtain ⟨i', j', q1, q2, q3⟩ := h.look h2
    have hj := hS.wd.apart j j' o o' b p3 q3 i1 i2
    subst hj
    obtain ⟨e1, g1⟩ := List.getElem?_eq_some_iff.1 p2
    obtain ⟨e2, g2⟩ := List.getElem?_eq_some_iff.1 q2
    have : i = i' := by
      have hp := List.pairwise_iff_getElem.1 hn
      rcases Nat.lt_trichotomy i i' with h0 | h0 | h0
      · exact absurd (g1.trans g2.symm) (hp i i' e1 e2 h0)
      · exact h0
      · exact absurd (g2.trans g1.symm) (hp i' i e2 e1 h0)
    subst this
    rw [p1] at q1
    exact Option.some.inj q1
  · obtain ⟨k, o, hk, hi⟩ := hb
    obtain ⟨_, j, _, _, h3⟩ := h.look hk
    exact ⟨j, o, h3, hi⟩
end
end Go.Gl
