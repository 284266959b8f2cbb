/- Own lemmas, thirteenth part: small operations for the printed walks. -/
import Derived.Test.YtoeolfnjblibpaaGl12
namespace Go.Gl
open Go.RowKit
set_option linter.unusedVariables false
set_option linter.unusedSimpArgs false

theorem take1 {cs : List Value} {o : Nat} {v : Value} (h : (cs.drop o).take 1 = [v]) : cs[o]? = some v := by
  have h3 : ((cs.drop o).take 1)[0]? = cs[o]? := by
    rw [List.getElem?_take_of_lt (by omega), List.getElem?_drop]
    simp
  rw [← h3, h]
  rfl
theorem row_part {cs vs us : List Value} {i m o n : Nat} (h : (cs.drop i).take m = vs) (hv : (vs.drop o).take n = us) (hn : o + n ≤ m) : (cs.drop (i + o)).take n = us := by
  subst h; subst hv
  rw [List.drop_take, List.take_take, List.drop_drop, Nat.min_eq_left (by omega)]
section
variable {α : Type} {R : Rep α} {M : Bs} {w : World} {A : Option Addr} {n c i : Nat} {xs : List α} {x : α}
theorem row_len1 {e : TypeId} {cs : List Value} {xs : List UInt8} (h : (Ob.row A n c e 1 cs).holds w) (hr : RdAll Rep.u8 M w cs xs) : xs.length ≤ 9223372036854775807 := by
  have h1 := rowN h hr rfl rfl
  have := row_mx h
  omega
end
section
variable {P : Program} {Γ : Ctx} {l : Al Value} {L L1 : Al Ob} {D : Al Fact} {a : Act} {w : World} {d : Option Tmp} {ty : TypeId} {pos : String} {af : Array Edge} {g : Option (Nat × Bool)} {v u : Value} {x y z : Operand} {t t' : TypeId} {k k' : IntKind} {m n : Int} {o : Oper} {i j : Nat} {dd : TypeDesc}
theorem y_convSame (hS : St Γ l L D a w) (hx : ev l x = some (.int k m)) (hs : P.underlying t = some dd) (hu : P.underlying t' = some (.int k)) (hr : InK k m) : Yl P L L1 ⟨d, .convert t t' x, ty, pos, af, g⟩ a w (.int k m) := y_conv hS hx hs hu hr
theorem y_remN (hS : St Γ l L D a w) (hx : ev l x = some (.int k (i : Int))) (hy : ev l y = some (.int k (j : Int))) (hr : 0 < j) :
    Yl P L L1 ⟨d, .binOp .rem t x y t', ty, pos, af, g⟩ a w (.int k ((i % j : Nat) : Int)) := by
  have := y_rem (P := P) (L1 := L1) (d := d) (ty := ty) (pos := pos) (af := af) (g := g) (t := t) (t' := t') hS hx hy (by omega)
  rwa [Int.tmod_eq_emod_of_nonneg (by omega), ← Int.natCast_emod] at this
theorem y_quoN (hS : St Γ l L D a w) (hx : ev l x = some (.int k (i : Int))) (hy : ev l y = some (.int k (j : Int))) (hr : 0 < j) (hk : InK k (i : Int)) :
    Yl P L L1 ⟨d, .binOp .quo t x y t', ty, pos, af, g⟩ a w (.int k ((i / j : Nat) : Int)) := by
  have := y_quo (P := P) (L1 := L1) (d := d) (ty := ty) (pos := pos) (af := af) (g := g) (t := t) (t' := t') hS hx hy (by omega)
  rw [Int.tdiv_eq_ediv_of_nonneg (by omega), ← Int.natCast_ediv] at this
  rwa [wrap_of_in] at this
  have h1 : i / j ≤ i := Nat.div_le_self _ _
  have h0 : k.min ≤ 0 := by cases k <;> decide
  exact ⟨Int.le_trans h0 (Int.natCast_nonneg _), Int.le_trans (Int.ofNat_le.2 h1) hk.2⟩
theorem y_bytesSl {A : Option Addr} {nn cp : Nat} {te : TypeId} {xs : List UInt8} (hS : St Γ l L D a w) (hx : ev l x = some (.slice A nn cp)) (hr : SlR Rep.u8 (mtb Γ L) w A nn cp xs)
    (hs : P.underlying t = some (.slice te)) (he : P.underlying te = some (.int .u8)) (hu : P.underlying t' = some .string) : Yl P L L1 ⟨d, .convert t t' x, ty, pos, af, g⟩ a w (.string (bs xs)) := fun w' hE => by
  obtain rfl := hr.len
  cases A with
  | none =>
    have h0 := hr.nil rfl
    have h1 := hr.cap
    have : xs = [] := List.eq_nil_of_length_eq_zero (by omega)
    subst this
    simp [execOp, hS.fr.eval hx, convert, run_underlying hs, run_underlying hu, run_underlying he, Conv.bytesToString]
    rfl
  | some q =>
    obtain ⟨cs, h1, h2, h3, h4⟩ := hr.cells
    have hcs := rdAll_u8 h1
    have h5 := run_bytes P w' q cp xs (fun j v hj => by
      have hjl : j < xs.length := by have := (List.getElem?_eq_some_iff.1 hj).1; simpa [u8cells] using this
      obtain ⟨hp1, hp2, _⟩ := hr.at_ q rfl j xs[j] (List.getElem?_eq_getElem hjl)
      rw [add_block] at hp1 hp2
      rw [hE.1.cell (by rw [add_block]; exact hp1) (by rw [add_block]; exact mtb_own hp2)]
      exact h3 j v (by rw [hcs]; exact hj))
    simp [execOp, hS.fr.eval hx, convert, run_underlying hs, run_underlying hu, run_underlying he, h5]
theorem y_field1 {cs : List Value} {fs : Array Field} {f : Field} {q : Nat} (hS : St Γ l L D a w) (hx : ev l x = some (.agg cs.toArray)) (hu : P.underlying t = some (.struct fs)) (hf : fs[q]? = some f) (hf' : P.underlying f.type = some dd) (ha : isAggT P f.type = false) (hv : cs[f.offset]? = some v) :
    Yl P L L1 ⟨d, .field t x q, ty, pos, af, g⟩ a w v := fun w' _ => by
  have := part1 (P := P) (cs := cs.toArray) (o := f.offset) hf' ha (by simpa using hv) w'
  simp [execOp, hS.fr.eval hx, Instr.field, run_underlying hu, hf, asAgg, this]
theorem y_fieldS {cs vs : List Value} {fs : Array Field} {f : Field} {q nn : Nat} (hS : St Γ l L D a w) (hx : ev l x = some (.agg cs.toArray)) (hu : P.underlying t = some (.struct fs)) (hf : fs[q]? = some f) (hf' : P.underlying f.type = some dd) (ha : isAggT P f.type = true) (hn : (P.info? f.type).map (·.size) = some nn) (hv : (cs.drop f.offset).take nn = vs) :
    Yl P L L1 ⟨d, .field t x q, ty, pos, af, g⟩ a w (.agg vs.toArray) := fun w' _ => by
  have := partS (P := P) (cs := cs.toArray) (o := f.offset) hf' ha hn w'
  have e : cs.toArray.extract f.offset (f.offset + nn) = vs.toArray := by
    apply Array.ext'
    simp [← hv, List.drop_take]
  simp [execOp, hS.fr.eval hx, Instr.field, run_underlying hu, hf, asAgg, this, e]
/-! rows cut back -/
variable {α : Type} {R : Rep α} {xs : List α} {A : Option Addr} {cp sz nn kk : Nat} {e : TypeId} {cs : List Value}
theorem y_cutRow (hS : St Γ l L D a w) (hx : ev l x = some (.slice A nn cp)) (hy : ev l y = some (.int k m)) (hu : P.underlying t = some (.slice t')) (hsz : (P.info? t').map (·.size) = some sz) (hm : m = (i : Nat)) (h1 : i ≤ xs.length) (hl : xs.length = nn) (hc : nn ≤ cp) :
    Yl P L L1 ⟨d, .slice t x none (some y) none, ty, pos, af, g⟩ a w (.slice A (xs.take i).length cp) := by
  rw [List.length_take, Nat.min_eq_left h1]
  exact y_sliceHN hS hx hy hu hsz hm (by omega)
theorem St.rowCutL (hS : St Γ l L D a w) (hb : look L kk = some (Ob.row A nn cp e sz cs)) (hl : xs.length = nn) (hi : i ≤ xs.length) : St Γ l ((kk, Ob.row A (xs.take i).length cp e sz (cs.take (i * sz))) :: L) D a w := by
  have := hS.rowCut hb (i := i) (by omega)
  rwa [show (xs.take i).length = i by rw [List.length_take]; omega]
theorem RdAll.up {M : Bs} (hS : St Γ l L D a w) (h : RdAll R M w cs xs) (hM : ∀ b, b < w.heap.size → mtb Γ L b → M b) : RdAll R (mtb Γ L) w cs xs := ⟨h.len, fun i x hx => R.change hM (h.at_ i x hx)⟩
end

/-! drawn regions: more ready at once; what does not run -/
section
variable {P : Program} {Γ : Ctx} {l : Al Value} {L L0 : Al Ob} {D D0 : Al Fact} {a : Act} {w wr : World} {ops : Array Oper} {F : Act → World → Prop} {need : Nat → Nat → Bool} {o : Oper} {d : Nat} {S : Nat → World → Prop} {md : Region.Mode} {fuel : Nat} {listed : Array Bool}
theorem n_3 (i j q : Nat) {o' o'' : Oper} (hS : St Γ l L D a w) (hr : Region.ready md ops listed = [i, j, q]) (hi : ops[i]? = some o) (hg : Runs ops l o true) (hj : ops[j]? = some o') (hg' : Runs ops l o' true) (hq : ops[q]? = some o'') (hg'' : Runs ops l o'' true)
    (h : o.wp P a w (fun a' w' => (∀ g, need i g = true → S g w → S g w') ∧ wpAnyN P md ops F S need fuel (listed.setIfInBounds i true) a' w') (OnlyN F))
    (h' : o'.wp P a w (fun a' w' => (∀ g, need j g = true → S g w → S g w') ∧ wpAnyN P md ops F S need fuel (listed.setIfInBounds j true) a' w') (OnlyN F))
    (h'' : o''.wp P a w (fun a' w' => (∀ g, need q g = true → S g w → S g w') ∧ wpAnyN P md ops F S need fuel (listed.setIfInBounds q true) a' w') (OnlyN F)) : wpAnyN P md ops F S need (fuel + 1) listed a w := by
  refine ⟨fun h0 => (by rw [h0] at hr; cases hr), fun z hz => ?_⟩
  rw [hr] at hz
  have : z = i ∨ z = j ∨ z = q := by simpa using hz
  rcases this with rfl | rfl | rfl
  · exact wpOp_of hS hi hg h
  · exact wpOp_of hS hj hg' h'
  · exact wpOp_of hS hq hg'' h''
theorem n_pass (i : Nat) (hS : St Γ l L D a w) (hr : Region.ready md ops listed = [i]) (hi : ops[i]? = some o) (hg : Runs ops l o false) (ho : o.dst = some d) (hd : Nat.blt d Γ.N = true)
    (h : ∀ a', St Γ ((d, undef) :: l) L D a' w → wpAnyN P md ops F S need fuel (listed.setIfInBounds i true) a' w) : wpAnyN P md ops F S need (fuel + 1) listed a w := by
  refine ⟨fun h0 => (by rw [h0] at hr; cases hr), fun j hj => ?_⟩
  rw [hr] at hj
  obtain rfl : j = i := by simpa using hj
  exact wpOp_not hS hi hg ho hd fun a' hS' => ⟨fun _ _ h => h, h a' hS'⟩
theorem n_qpass (i : Nat) (hS : St Γ l L D a wr) (hR : Wd Γ L0 D0 wr) (hi : ops[i]? = some o) (hs : Region.noSelect ops = true) (hr : (Region.ready md ops listed).contains i = true) (hf : freeN md ops need listed i 0 = true) (ho : o.dst = some d) (hg : Runs ops l o false) (hd : Nat.blt d Γ.N = true)
    (h : ∀ a', St Γ ((d, undef) :: l) L D a' wr → wpAnyN P md ops F (fun g => Ext L0 (one L0 g) wr) need fuel (listed.setIfInBounds i true) a' wr) : wpAnyN P md ops F (fun g => Ext L0 (one L0 g) wr) need (fuel + 1) listed a wr := by
  refine wpAnyN_first (g := 0) hi (Region.noSelect_spec hs) fuel listed a wr (freeN_spec hi hf) (by simpa using hr) (.inr ⟨runs_wanted hS.fr hg, rfl⟩) (Ext.init hR 0) ?_
  rw [ho]
  exact h _ (hS.put hd)
end
end Go.Gl
