/- Own lemmas, twelfth part: elements, bytes, closures, iterators over strings. -/
import Derived.Test.YtoeolfnjblibpaaGl11
namespace Go.Gl
open Go.RowKit
set_option linter.unusedVariables false
set_option linter.unusedSimpArgs false

section
variable {α : Type} {R : Rep α} {M : Bs} {w : World} {A : Option Addr} {n c i : Nat} {xs : List α} {x : α}
theorem SlR.elemX (h : SlR R M w A n c xs) (hx : xs[i]? = some x) : ∃ p, ElemP A (i * R.size) p ∧ PtrR R M w p x := by
  have hi : i < n := by rw [← h.len]; exact lt_of_get hx
  obtain ⟨q, hq⟩ := h.some_ (by omega)
  exact ⟨_, ⟨q, hq, rfl⟩, h.at_ q hq i _ hx⟩
theorem SlR.mx (h : SlR R M w A n c xs) : n ≤ 9223372036854775807 := Nat.le_trans h.cap h.max
theorem row_mx {sz : Nat} {e : TypeId} {cs : List Value} (h : (Ob.row A n c e sz cs).holds w) : n ≤ 9223372036854775807 := by
  have h' : w.ownsRow 0 e sz (.slice A n c) n cs := h
  rcases h'.2 with ⟨hv, h0⟩ | ⟨g, cap, cur, hv, hg, hh, hnc, hcm, _⟩
  · omega
  · unfold maxLen at hcm; omega
theorem RdAll.cons {v : Value} {vs : List Value} {x : α} {xs : List α} (h : R.rd M w v.cells.toList x) (k : RdAll R M w (cellsOfL vs) xs) : RdAll R M w (cellsOfL (v :: vs)) (x :: xs) := by
  have := (RdAll.single h).append k
  simpa [cellsOfL] using this
theorem SlR.row1 {e : TypeId} {sz : Nat} {cs : List Value} (h : (Ob.row A n c e sz cs).holds w) (hr : RdAll R M w cs xs) (hs : R.size = sz) (hpos : Nat.blt 0 sz = true) (hx : xs[i]? = some x) : i < n ∧ ∃ b, A = some ⟨b, 0, none⟩ := by
  have hl := rowN h hr hs hpos
  have hi : i < n := by rw [← hl]; exact lt_of_get hx
  exact ⟨hi, row_form h (by omega)⟩
end

section
variable {P : Program} {Γ : Ctx} {l : Al Value} {L L1 : Al Ob} {D : Al Fact} {a : Act} {w : World} {dst : Option Tmp} {ty : TypeId} {pos : String} {af : Array Edge} {g : Option (Nat × Bool)} {v u : Value} {x y z c : Operand} {t t' : TypeId} {k : IntKind} {m n : Int} {o : Oper}
theorem yl_b {b b' : Bool} (h : Yl P L L1 o a w (.bool b)) (e : b = b') : Yl P L L1 o a w (.bool b') := e ▸ h
theorem y_makeFunc {f : FuncId} {xs : List Operand} {vs : List Value} (hS : St Γ l L D a w) (hx : evl l xs = some vs) : Yl P L L1 ⟨dst, .makeFunc (.func f) #[] xs.toArray, ty, pos, af, g⟩ a w (.func (.func f) #[] vs.toArray) := fun w' _ => by
  have h1 : xs.map a.eval = vs := evl_eval hS.fr hx
  simp [execOp, Instr.makeFunc, h1]
/-! bytes -/
def toU8 (x : Int) : UInt8 := UInt8.ofNat (IntKind.u8.wrap x).toNat
theorem wrap_u8_nonneg (x : Int) : 0 ≤ IntKind.u8.wrap x ∧ IntKind.u8.wrap x < 256 := by
  simp [IntKind.wrap, IntKind.bits, IntKind.signed]; omega
theorem toU8_toNat (x : Int) : (((toU8 x).toNat : Nat) : Int) = IntKind.u8.wrap x := by
  have := wrap_u8_nonneg x
  simp [toU8, UInt8.toNat_ofNat']
  omega
theorem toU8_small {n : Nat} (h : n < 256) : toU8 (n : Int) = UInt8.ofNat n := by
  unfold toU8
  congr 1
  simp [IntKind.wrap, IntKind.bits, IntKind.signed]; omega
theorem y_convU8 {dd : TypeDesc} {k' : IntKind} (hS : St Γ l L D a w) (hx : ev l x = some (.int k' m)) (hs : P.underlying t = some dd) (hu : P.underlying t' = some (.int .u8)) :
    Yl P L L1 ⟨dst, .convert t t' x, ty, pos, af, g⟩ a w (.int .u8 (((toU8 m).toNat : Nat) : Int)) := by
  have := y_wconv (P := P) (L1 := L1) (d := dst) (ty := ty) (pos := pos) (af := af) (g := g) hS hx hs hu
  rwa [← toU8_toNat] at this
theorem wrap_addU8 (p q : UInt8) : IntKind.u8.wrap ((p.toNat : Int) + (q.toNat : Int)) = (((p + q).toNat : Nat) : Int) := by
  simp [IntKind.wrap, IntKind.bits, IntKind.signed, UInt8.toNat_add]
theorem wrap_subU8 (p q : UInt8) : IntKind.u8.wrap ((p.toNat : Int) - (q.toNat : Int)) = (((p - q).toNat : Nat) : Int) := by
  have h1 := p.toNat_lt
  have h2 := q.toNat_lt
  simp [IntKind.wrap, IntKind.bits, IntKind.signed, UInt8.toNat_sub]
  omega
theorem y_addU8 {p q : UInt8} (hS : St Γ l L D a w) (hx : ev l x = some (.int .u8 ((p.toNat : Nat) : Int))) (hy : ev l y = some (.int .u8 ((q.toNat : Nat) : Int))) :
    Yl P L L1 ⟨dst, .binOp .add t x y t', ty, pos, af, g⟩ a w (.int .u8 (((p + q).toNat : Nat) : Int)) := by
  have := y_wadd (P := P) (L1 := L1) (d := dst) (ty := ty) (pos := pos) (af := af) (g := g) (t := t) (t' := t') hS hx hy
  rwa [wrap_addU8] at this
theorem y_subU8 {p q : UInt8} (hS : St Γ l L D a w) (hx : ev l x = some (.int .u8 ((p.toNat : Nat) : Int))) (hy : ev l y = some (.int .u8 ((q.toNat : Nat) : Int))) :
    Yl P L L1 ⟨dst, .binOp .sub t x y t', ty, pos, af, g⟩ a w (.int .u8 (((p - q).toNat : Nat) : Int)) := by
  have := y_wsub (P := P) (L1 := L1) (d := dst) (ty := ty) (pos := pos) (af := af) (g := g) (t := t) (t' := t') hS hx hy
  rwa [wrap_subU8] at this
/-! a slice of bytes as a string -/
def u8cells (xs : List UInt8) : List Value := xs.map fun b => .int .u8 ((b.toNat : Nat) : Int)
theorem rdAll_u8 {M : Bs} {cs : List Value} {xs : List UInt8} (h : RdAll Rep.u8 M w cs xs) : cs = u8cells xs := by
  have hl : cs.length = xs.length := by simpa [Rep.u8] using h.len
  refine List.ext_getElem? fun i => ?_
  rcases Nat.lt_or_ge i xs.length with hi | hi
  · have h1 := h.at_ i xs[i] (List.getElem?_eq_getElem hi)
    have h2 : (cs.drop (i * 1)).take 1 = [.int .u8 ((xs[i].toNat : Nat) : Int)] := h1
    rw [Nat.mul_one] at h2
    have h3 : ((cs.drop i).take 1)[0]? = cs[i]? := by
      rw [List.getElem?_take_of_lt (by omega), List.getElem?_drop]
      simp
    rw [h2] at h3
    rw [← h3]
    simp [u8cells, hi]
  · rw [List.getElem?_eq_none (by omega), List.getElem?_eq_none (by simp [u8cells]; omega)]
theorem run_bytes (P : Program) (w : World) (p : Addr) (c : Nat) (xs : List UInt8) (hc : ∀ j v, (u8cells xs)[j]? = some v → w.cell? (p.add j) = some v) : (Conv.bytesToString (.slice (some p) xs.length c)).run P w = .ok (.string (bs xs)) w := by
  have h1 := run_loadCells_list (P := P) w p (u8cells xs) hc
  have hl : (u8cells xs).length = xs.length := by simp [u8cells]
  rw [hl] at h1
  have key : ∀ (ys : List UInt8) (acc : List UInt8), (forIn (m := Sem) (u8cells ys) (bs acc) fun c s => (do
      match c with
      | .int .u8 n => pure (ForInStep.yield (s.push (UInt8.ofNat n.toNat)))
      | x => do
        stuck "bytesToString: byte expected"
        pure (ForInStep.yield s))).run P w = .ok (bs (acc ++ ys)) w := by
    intro ys
    induction ys with
    | nil => intro acc; simp [u8cells]
    | cons b ys ih =>
      intro acc
      have e : (bs acc).push b = bs (acc ++ [b]) := by
        apply ByteArray.ext
        simp [bs, ByteArray.push]
      have := ih (acc ++ [b])
      simp only [u8cells, List.map_cons, List.forIn_cons, Sem.run_bind, Sem.run_pure, Result.andThen_ok] at this ⊢
      simp only [Int.toNat_natCast, UInt8.ofNat_toNat, e]
      simpa using this
  have k2 := key xs []
  simp only [Conv.bytesToString, Sem.run_bind, h1, Result.andThen_ok]
  have e0 : (ByteArray.empty) = bs [] := by rfl
  rw [e0]
  simp only [List.forIn_toArray, Sem.run_pure]
  exact (congrArg (fun z => z.andThen fun a w' => Result.ok (Value.string a) w') k2).trans rfl
theorem y_bytesRow {A : Option Addr} {nn cp kk : Nat} {e te : TypeId} {cs : List Value} {xs : List UInt8} {M : Bs} (hS : St Γ l L D a w) (hx : ev l x = some (.slice A nn cp)) (hb : look L1 kk = some (Ob.row A nn cp e 1 cs)) (hr : RdAll Rep.u8 M w cs xs)
    (hs : P.underlying t = some (.slice te)) (he : P.underlying te = some (.int .u8)) (hu : P.underlying t' = some .string) : Yl P L L1 ⟨dst, .convert t t' x, ty, pos, af, g⟩ a w (.string (bs xs)) := fun w' hE => by
  have hh : (Ob.row A nn cp e 1 cs).holds w' := hE.2 kk _ hb
  have hcs := rdAll_u8 hr
  have h' : w'.ownsRow 0 e 1 (.slice A nn cp) nn cs := hh
  have hl : xs.length = nn := by have := h'.1; rw [hcs] at this; simpa [u8cells] using this
  subst hl
  cases A with
  | none =>
    rcases h'.2 with ⟨hv, h0⟩ | ⟨g', cap, cur, hv, _⟩
    · have : xs = [] := List.eq_nil_of_length_eq_zero h0
      subst this
      simp [execOp, hS.fr.eval hx, convert, run_underlying hs, run_underlying hu, run_underlying he, Conv.bytesToString]
      rfl
    · cases hv
  | some q =>
    have h2 := run_bytes P w' q cp xs (fun j v hj => by
      rcases h'.2 with ⟨hv, _⟩ | ⟨g', cap, cur, hv, _⟩
      · cases hv
      · injection hv with h1
        injection h1 with h1
        subst h1
        exact h'.cells (g := g') rfl j v (by rw [hcs]; exact hj))
    simp [execOp, hS.fr.eval hx, convert, run_underlying hs, run_underlying hu, run_underlying he, h2]
end

section
variable {P : Program} {Q : Exit → Act → World → Prop} {x : Code} {a : Act} {w : World}
theorem c_post {K : Act → World → Prop} (J : Act → World → Prop) (h1 : x.wp P (Exit.then J Q) a w) (h2 : ∀ a w, J a w → K a w) : x.wp P (Exit.then K Q) a w :=
  wp_mono h1 fun e a' w' hq => by cases e <;> first | exact h2 _ _ hq | exact hq
end
/-! ### strings, rune by rune -/
def runeAt (s : List UInt8) (p : Nat) : Int := ((Utf8.decode (bs s) p).1 : Int)
def runeLen (s : List UInt8) (p : Nat) : Nat := (Utf8.decode (bs s) p).2
section
variable {P : Program} {Γ : Ctx} {l : Al Value} {L L1 : Al Ob} {D : Al Fact} {a : Act} {w : World} {d : Tmp} {ty : TypeId} {pos : String} {af : Array Edge} {g : Option (Nat × Bool)} {x : Operand} {t : TypeId} {kk b p : Nat} {K : Act → World → Prop} {Q : Exit → Act → World → Prop} {s : List UInt8}
theorem l_nextE (hS : St Γ l L D a w) (kk : Nat) (hx : ev l x = some (.pointer (some ⟨b, 0, none⟩))) (hb : look L kk = some (Ob.iter b (bs s) p)) (hp : ¬ p < s.length) (hd : Nat.blt d Γ.N = true)
    (h : ∀ a' w', Keeps noB w w' → St Γ ((d, .tuple #[.bool false]) :: l) L D a' w' → K a' w') : Oper.wp P ⟨some d, .next x true, ty, pos, af, g⟩ a w K Q :=
  l_nextEnd hS hx hb (by rw [bs_size]; exact hp) hd fun a' h' => h a' w (Keeps.refl _ _) h'
theorem keeps_setObj (w : World) (b : Nat) (ob : Obj) : Keeps (fun x => x = b) w { w with heap := w.heap.setIfInBounds b ob } :=
  ⟨rfl, rfl, rfl, by simp, fun k _ hm => by simp [Array.getElem?_setIfInBounds, Ne.symm hm]⟩
theorem l_next (hS : St Γ l L D a w) (kk : Nat) (hx : ev l x = some (.pointer (some ⟨b, 0, none⟩))) (hb : look L kk = some (Ob.iter b (bs s) p)) (hp : p < s.length) (hd : Nat.blt d Γ.N = true)
    (h : ∀ a' w', Keeps (fun x => x = b) w w' → St Γ ((d, .tuple #[.bool true, .int .i64 ((p : Nat) : Int), .int .i32 (runeAt s p)]) :: l) ((kk, Ob.iter b (bs s) (p + runeLen s p)) :: L) D a' w' → K a' w') : Oper.wp P ⟨some d, .next x true, ty, pos, af, g⟩ a w K Q := by
  have hh : w.heap[b]? = some (.stringIter (bs s) p) := hS.wd.holds kk _ hb
  have hp' : p < (bs s).size := by rw [bs_size]; exact hp
  have hk := keeps_setObj w b (.stringIter (bs s) (p + runeLen s p))
  refine wp_value (v := .tuple #[.bool true, .int .i64 ((p : Nat) : Int), .int .i32 (runeAt s p)]) (w' := { w with heap := w.heap.setIfInBounds b (.stringIter (bs s) (p + runeLen s p)) }) ?_ (h _ _ hk ⟨hS.fr.put hd, hS.wd.set hb hk ?_ (fun q hq => .inl hq)⟩)
  · simp only [execOp, hS.fr.eval hx, Instr.next, getObj, setObj, Sem.run_bind, Sem.run, Result.andThen, hh, hp', if_true]
    simp [goInt, Sem.run, runeAt, runeLen, hh]
  · show (w.heap.setIfInBounds b _)[b]? = _
    rw [Array.getElem?_setIfInBounds_self_of_lt (block_lt hh)]
/-- a row that the call hands back as its own -/
theorem row_new {C : Bs} {N : Nat} {M : Bs} {w0 : World} {A : Option Addr} {n c sz : Nat} {e : TypeId} {cs : List Value} (hS : St ⟨N, M, C, w0⟩ l L D a w) (hb : look L kk = some (Ob.row A n c e sz cs)) (hC : C = noB) : ∀ b, (Ob.row A n c e sz cs).ids b → w0.heap.size ≤ b := fun b hi => by
  subst hC
  rcases hS.wd.mine b ⟨kk, _, hb, hi⟩ with h | h
  · exact h
  · exact h.elim
end
end Go.Gl
