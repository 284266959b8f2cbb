/- Own lemmas for walks, second part: operations that leave the world alone, one lemma each. -/
import Derived.Test.YtoeolfnjblibpaaGl1
import Derived.WalkLawsBesides
import Derived.IntWalk
import Derived.Lib.Strings
import Derived.Laws.StructEq
namespace Go.Gl
open Go.RowKit
set_option linter.unusedVariables false
set_option linter.unusedSimpArgs false

def InK (k : IntKind) (n : Int) : Prop := k.min ≤ n ∧ n ≤ k.max
theorem wrap_of_in {k : IntKind} {n : Int} (h : InK k n) : k.wrap n = n := by
  unfold InK at h
  cases k <;> simp [IntKind.min, IntKind.max, IntKind.signed, IntKind.bits] at h <;> simp [IntKind.wrap, IntKind.bits, IntKind.signed] <;> omega
theorem in64 {n : Int} : InK .i64 n ↔ -9223372036854775808 ≤ n ∧ n ≤ 9223372036854775807 := by
  simp [InK, IntKind.min, IntKind.max, IntKind.signed, IntKind.bits]

theorem inu64 {n : Int} : InK .u64 n ↔ 0 ≤ n ∧ n ≤ 18446744073709551615 := by
  simp [InK, IntKind.min, IntKind.max, IntKind.signed, IntKind.bits]
theorem inu8 {n : Int} : InK .u8 n ↔ 0 ≤ n ∧ n ≤ 255 := by
  simp [InK, IntKind.min, IntKind.max, IntKind.signed, IntKind.bits]
theorem ini32 {n : Int} : InK .i32 n ↔ -2147483648 ≤ n ∧ n ≤ 2147483647 := by
  simp [InK, IntKind.min, IntKind.max, IntKind.signed, IntKind.bits]
theorem ini8 {n : Int} : InK .i8 n ↔ -128 ≤ n ∧ n ≤ 127 := by
  simp [InK, IntKind.min, IntKind.max, IntKind.signed, IntKind.bits]

section
variable {P : Program} {Γ : Ctx} {l : Al Value} {L L1 : Al Ob} {D : Al Fact} {a : Act} {w : World} {d : Option Tmp} {ty : TypeId} {pos : String} {af : Array Edge} {g : Option (Nat × Bool)} {v u : Value} {x y c : Operand} {t t' : TypeId} {k : IntKind} {m n : Int}

theorem y_move (hS : St Γ l L D a w) (hx : ev l x = some v) : Yl P L L1 ⟨d, .move x, ty, pos, af, g⟩ a w v := fun w' _ => by
  simp [execOp, hS.fr.eval hx]
theorem y_assign (hS : St Γ l L D a w) (hx : ev l x = some v) : Yl P L L1 ⟨d, .assign x, ty, pos, af, g⟩ a w v := fun w' _ => by
  simp [execOp, hS.fr.eval hx]
theorem y_pick_t (hS : St Γ l L D a w) (hc : ev l c = some (.bool true)) (hx : ev l x = some v) : Yl P L L1 ⟨d, .pick c x y, ty, pos, af, g⟩ a w v := fun w' _ => by
  simp [execOp, hS.fr.eval hx, hS.fr.eval hc, asBool]
theorem y_pick_f (hS : St Γ l L D a w) (hc : ev l c = some (.bool false)) (hx : ev l y = some v) : Yl P L L1 ⟨d, .pick c x y, ty, pos, af, g⟩ a w v := fun w' _ => by
  simp [execOp, hS.fr.eval hx, hS.fr.eval hc, asBool]

theorem y_not {b : Bool} (hS : St Γ l L D a w) (hx : ev l x = some (.bool b)) : Yl P L L1 ⟨d, .unOp .not t x, ty, pos, af, g⟩ a w (.bool !b) := fun w' _ => by
  simp [execOp, hS.fr.eval hx, Op.unary]
theorem y_neg (hS : St Γ l L D a w) (hx : ev l x = some (.int k m)) (hr : InK k (-m)) : Yl P L L1 ⟨d, .unOp .neg t x, ty, pos, af, g⟩ a w (.int k (-m)) := fun w' _ => by
  simp [execOp, hS.fr.eval hx, Op.unary, Op.intArith, wrap_of_in hr]

theorem eqGuard_int (op : BinOp) (w' : World) : (eqGuard op t x y (.int k m) (.int k n)).run P w' = .ok () w' := by
  unfold eqGuard
  split <;> simp
theorem eqGuard_str (op : BinOp) (p q : ByteArray) (w' : World) : (eqGuard op t x y (.string p) (.string q)).run P w' = .ok () w' := by
  unfold eqGuard
  split <;> simp
theorem eqGuard_bool (op : BinOp) (p q : Bool) (w' : World) : (eqGuard op t x y (.bool p) (.bool q)).run P w' = .ok () w' := by
  unfold eqGuard
  split <;> simp

theorem y_wadd (hS : St Γ l L D a w) (hx : ev l x = some (.int k m)) (hy : ev l y = some (.int k n)) :
    Yl P L L1 ⟨d, .binOp .add t x y t', ty, pos, af, g⟩ a w (.int k (k.wrap (m + n))) := fun w' _ => by
  simp [execOp, hS.fr.eval hx, hS.fr.eval hy, eqGuard_int, binOp, Op.intArith]
theorem y_wsub (hS : St Γ l L D a w) (hx : ev l x = some (.int k m)) (hy : ev l y = some (.int k n)) :
    Yl P L L1 ⟨d, .binOp .sub t x y t', ty, pos, af, g⟩ a w (.int k (k.wrap (m - n))) := fun w' _ => by
  simp [execOp, hS.fr.eval hx, hS.fr.eval hy, eqGuard_int, binOp, Op.intArith]
theorem y_wmul (hS : St Γ l L D a w) (hx : ev l x = some (.int k m)) (hy : ev l y = some (.int k n)) :
    Yl P L L1 ⟨d, .binOp .mul t x y t', ty, pos, af, g⟩ a w (.int k (k.wrap (m * n))) := fun w' _ => by
  simp [execOp, hS.fr.eval hx, hS.fr.eval hy, eqGuard_int, binOp, Op.intArith]
theorem y_add (hS : St Γ l L D a w) (hx : ev l x = some (.int k m)) (hy : ev l y = some (.int k n)) (hr : InK k (m + n)) :
    Yl P L L1 ⟨d, .binOp .add t x y t', ty, pos, af, g⟩ a w (.int k (m + n)) := by have := y_wadd (P := P) (L1 := L1) (d := d) (ty := ty) (pos := pos) (af := af) (g := g) (t := t) (t' := t') hS hx hy; rwa [wrap_of_in hr] at this
theorem y_sub (hS : St Γ l L D a w) (hx : ev l x = some (.int k m)) (hy : ev l y = some (.int k n)) (hr : InK k (m - n)) :
    Yl P L L1 ⟨d, .binOp .sub t x y t', ty, pos, af, g⟩ a w (.int k (m - n)) := by have := y_wsub (P := P) (L1 := L1) (d := d) (ty := ty) (pos := pos) (af := af) (g := g) (t := t) (t' := t') hS hx hy; rwa [wrap_of_in hr] at this
theorem y_mul (hS : St Γ l L D a w) (hx : ev l x = some (.int k m)) (hy : ev l y = some (.int k n)) (hr : InK k (m * n)) :
    Yl P L L1 ⟨d, .binOp .mul t x y t', ty, pos, af, g⟩ a w (.int k (m * n)) := by have := y_wmul (P := P) (L1 := L1) (d := d) (ty := ty) (pos := pos) (af := af) (g := g) (t := t) (t' := t') hS hx hy; rwa [wrap_of_in hr] at this
theorem y_rem (hS : St Γ l L D a w) (hx : ev l x = some (.int k m)) (hy : ev l y = some (.int k n)) (hr : n ≠ 0) :
    Yl P L L1 ⟨d, .binOp .rem t x y t', ty, pos, af, g⟩ a w (.int k (m.tmod n)) := fun w' _ => by
  simp [execOp, hS.fr.eval hx, hS.fr.eval hy, eqGuard_int, binOp, Op.intDiv, hr]
theorem y_quo (hS : St Γ l L D a w) (hx : ev l x = some (.int k m)) (hy : ev l y = some (.int k n)) (hr : n ≠ 0) :
    Yl P L L1 ⟨d, .binOp .quo t x y t', ty, pos, af, g⟩ a w (.int k (k.wrap (m.tdiv n))) := fun w' _ => by
  simp [execOp, hS.fr.eval hx, hS.fr.eval hy, eqGuard_int, binOp, Op.intDiv, hr]

theorem y_lss (hS : St Γ l L D a w) (hx : ev l x = some (.int k m)) (hy : ev l y = some (.int k n)) :
    Yl P L L1 ⟨d, .binOp .lss t x y t', ty, pos, af, g⟩ a w (.bool (decide (m < n))) := fun w' _ => by
  simp [execOp, hS.fr.eval hx, hS.fr.eval hy, eqGuard_int, binOp, Op.intCmp]
theorem y_leq (hS : St Γ l L D a w) (hx : ev l x = some (.int k m)) (hy : ev l y = some (.int k n)) :
    Yl P L L1 ⟨d, .binOp .leq t x y t', ty, pos, af, g⟩ a w (.bool (decide (m ≤ n))) := fun w' _ => by
  simp [execOp, hS.fr.eval hx, hS.fr.eval hy, eqGuard_int, binOp, Op.intCmp]
theorem y_gtr (hS : St Γ l L D a w) (hx : ev l x = some (.int k m)) (hy : ev l y = some (.int k n)) :
    Yl P L L1 ⟨d, .binOp .gtr t x y t', ty, pos, af, g⟩ a w (.bool (decide (n < m))) := fun w' _ => by
  simp [execOp, hS.fr.eval hx, hS.fr.eval hy, eqGuard_int, binOp, Op.intCmp]
theorem y_geq (hS : St Γ l L D a w) (hx : ev l x = some (.int k m)) (hy : ev l y = some (.int k n)) :
    Yl P L L1 ⟨d, .binOp .geq t x y t', ty, pos, af, g⟩ a w (.bool (decide (n ≤ m))) := fun w' _ => by
  simp [execOp, hS.fr.eval hx, hS.fr.eval hy, eqGuard_int, binOp, Op.intCmp]
theorem y_eql (hS : St Γ l L D a w) (hx : ev l x = some (.int k m)) (hy : ev l y = some (.int k n)) :
    Yl P L L1 ⟨d, .binOp .eql t x y t', ty, pos, af, g⟩ a w (.bool (decide (m = n))) := fun w' _ => by
  simp [execOp, hS.fr.eval hx, hS.fr.eval hy, eqGuard_int, binOp, Op.intCmp]
  rfl
theorem y_neq (hS : St Γ l L D a w) (hx : ev l x = some (.int k m)) (hy : ev l y = some (.int k n)) :
    Yl P L L1 ⟨d, .binOp .neq t x y t', ty, pos, af, g⟩ a w (.bool (decide (m ≠ n))) := fun w' _ => by
  simp [execOp, hS.fr.eval hx, hS.fr.eval hy, eqGuard_int, binOp, Op.intCmp]
  rfl

/-! tuples, structs -/
theorem y_extract {vs : Array Value} {i : Nat} (hS : St Γ l L D a w) (hx : ev l x = some (.tuple vs)) (hv : vs[i]? = some v) : Yl P L L1 ⟨d, .extract x i, ty, pos, af, g⟩ a w v := fun w' _ => by
  simp [execOp, hS.fr.eval hx, Instr.extract, hv]
def evs (l : Al Value) : List (Nat × Operand) → Option (List (Nat × Value))
  | [] => some []
  | (i, x) :: r => match ev l x, evs l r with
    | some v, some vs => some ((i, v) :: vs)
    | _, _ => none
theorem evs_eval (hS : Has n.toNat l a) : ∀ {parts : List (Nat × Operand)} {ps : List (Nat × Value)}, evs l parts = some ps → parts.map (fun p => (p.1, a.eval p.2)) = ps
  | [], ps, h => by simpa [evs] using h
  | (i, x) :: r, ps, h => by
    unfold evs at h
    split at h
    · rename_i v vs hv hvs
      simp only [Option.some.injEq] at h
      subst h
      rw [List.map_cons, evs_eval hS hvs, hS.eval hv]
    · cases h
theorem evs_eval' {N : Nat} (hS : Has N l a) {parts : List (Nat × Operand)} {ps : List (Nat × Value)} (h : evs l parts = some ps) : parts.map (fun p => (p.1, a.eval p.2)) = ps :=
  evs_eval (n := (N : Int)) (by simpa using hS) h
theorem y_build {parts : List (Nat × Operand)} {ps : List (Nat × Value)} {cells : Array Value} (hS : St Γ l L D a w) (hp : evs l parts = some ps) (hb : P.built t ps = some cells) :
    Yl P L L1 ⟨d, .build t parts.toArray, ty, pos, af, g⟩ a w (.agg cells) := fun w' _ => by
  have h1 : (parts.toArray.map fun (i, x) => (i, a.eval x)).toList = ps := by simpa using evs_eval' hS.fr hp
  have := run_build (P := P) w' t (parts.toArray.map fun (i, x) => (i, a.eval x)) cells (by rw [h1]; exact hb)
  simp only [execOp, Sem.run_bind, this, Result.andThen_ok, Sem.run_pure]

/-! pointers -/
theorem run_fieldAt {ad : Addr} {fs : Array Field} {f : Field} {i : Nat} (hu : P.underlying t = some (.struct fs)) (hf : fs[i]? = some f) (hz : Nat.blt 0 (P.cellsOf f.type) = true) (w' : World) :
    (Instr.fieldAt t (.pointer (some ad)) i).run P w' = .ok (.pointer (some (ad.add f.offset))) w' := by
  cases hi : P.info? f.type with
  | none => simp [Program.cellsOf, hi, Nat.blt] at hz
  | some j =>
    have : ¬ j.size = 0 := by
      simp only [Program.cellsOf, hi, Option.map_some, Option.getD_some] at hz
      have := Nat.le_of_ble_eq_true hz
      omega
    simp [Instr.fieldAt, run_underlying hu, hf, Instr.sureAddr, fieldPlace, sizeOf, typeInfo, hi, this]
theorem y_fieldAddr {ad : Addr} {fs : Array Field} {f : Field} {i : Nat} (hS : St Γ l L D a w) (hx : ev l x = some (.pointer (some ad))) (hu : P.underlying t = some (.struct fs)) (hf : fs[i]? = some f) (hz : Nat.blt 0 (P.cellsOf f.type) = true) :
    Yl P L L1 ⟨d, .fieldAddr t x i, ty, pos, af, g⟩ a w (.pointer (some (ad.add f.offset))) := fun w' _ => by
  simp only [execOp, hS.fr.eval hx, Sem.run_bind, run_fieldAt hu hf hz, Result.andThen_ok, Sem.run_pure]
/-- a field of a box: the address written out -/
theorem y_boxField {b o o' : Nat} {fs : Array Field} {f : Field} {i : Nat} (hS : St Γ l L D a w) (hx : ev l x = some (.pointer (some ⟨b, o, none⟩))) (hu : P.underlying t = some (.struct fs)) (hf : fs[i]? = some f) (hz : Nat.blt 0 (P.cellsOf f.type) = true) (ho : o + f.offset = o') :
    Yl P L L1 ⟨d, .fieldAddr t x i, ty, pos, af, g⟩ a w (.pointer (some ⟨b, o', none⟩)) := by
  subst ho
  have := y_fieldAddr (P := P) (L1 := L1) (d := d) (ty := ty) (pos := pos) (af := af) (g := g) hS hx hu hf hz
  have e : (⟨b, o, none⟩ : Addr).add f.offset = ⟨b, o + f.offset, none⟩ := by unfold Addr.add; split <;> simp_all
  rwa [e] at this
theorem add_lit (b o j : Nat) : (⟨b, o, none⟩ : Addr).add j = ⟨b, o + j, none⟩ := by unfold Addr.add; split <;> simp_all
theorem add_add (p : Addr) (i j : Nat) : (p.add i).add j = p.add (i + j) := by
  unfold Addr.add
  by_cases hi : i = 0 <;> by_cases hj : j = 0 <;> simp [hi, hj, Nat.add_assoc]
theorem add_block (p : Addr) (n : Nat) : (p.add n).block = p.block := by unfold Addr.add; split <;> rfl
theorem add_zero (p : Addr) : p.add 0 = p := rfl

def isAggT (P : Program) (t : TypeId) : Bool := match P.underlying t with
  | some (.struct _) | some (.array _ _) => true
  | _ => false
theorem run_isAgg {dd : TypeDesc} (hu : P.underlying t = some dd) (w' : World) : (isAgg t).run P w' = .ok (isAggT P t) w' := by
  unfold isAgg isAggT
  simp only [Sem.run_bind, run_underlying hu, Result.andThen_ok, hu]
  cases dd <;> simp
/-- one cell of a box -/
theorem y_loadBox1 {b o : Nat} {kk : Nat} {cs : List Value} {tb : TypeId} {dd : TypeDesc} (hS : St Γ l L D a w) (hx : ev l x = some (.pointer (some ⟨b, o, none⟩))) (hb : look L1 kk = some (Ob.box b cs tb)) (hv : cs[o]? = some v)
    (hu : P.underlying t = some dd) (ha : isAggT P t = false) : Yl P L L1 ⟨d, .load t x, ty, pos, af, g⟩ a w v := fun w' he => by
  have h1 : w'.heap[b]? = some (.cells cs.toArray tb (0, 0)) := he.2 kk _ hb
  have h2 : w'.cell? ⟨b, o, none⟩ = some v := by simp [World.cell?, h1, hv]
  simp [execOp, hS.fr.eval hx, Instr.loadAt, Instr.sureAddr, loadVar, run_isAgg hu, ha, load, Sem.run, h2]
/-- a struct (or array) in a box -/
theorem y_loadBox {b o : Nat} {kk : Nat} {cs : List Value} {tb : TypeId} {dd : TypeDesc} {n : Nat} {vs : List Value} (hS : St Γ l L D a w) (hx : ev l x = some (.pointer (some ⟨b, o, none⟩))) (hb : look L1 kk = some (Ob.box b cs tb))
    (hu : P.underlying t = some dd) (ha : isAggT P t = true) (hn : (P.info? t).map (·.size) = some n) (hv : (cs.drop o).take n = vs) (hl : vs.length = n) : Yl P L L1 ⟨d, .load t x, ty, pos, af, g⟩ a w (.agg vs.toArray) := fun w' he => by
  have h1 : w'.heap[b]? = some (.cells cs.toArray tb (0, 0)) := he.2 kk _ hb
  have h2 : ∀ j u, vs[j]? = some u → w'.cell? ((⟨b, o, none⟩ : Addr).add j) = some u := by
    intro j u hj
    rw [add_lit]
    have hjn : j < n := by rw [← hl]; exact (List.getElem?_eq_some_iff.1 hj).1
    rw [← hv, List.getElem?_take, if_pos hjn, List.getElem?_drop] at hj
    simp [World.cell?, h1, hj]
  obtain ⟨i, hi, hsz⟩ := Option.map_eq_some_iff.1 hn
  have h3 := run_loadCells_list (P := P) w' ⟨b, o, none⟩ vs h2
  rw [hl] at h3
  simp [execOp, hS.fr.eval hx, Instr.loadAt, Instr.sureAddr, loadVar, run_isAgg hu, ha, sizeOf, typeInfo, hi, hsz, h3]

/-! lengths -/
theorem y_lenSlice {A : Option Addr} {n c : Nat} (hS : St Γ l L D a w) {e : TypeId} (hx : ev l x = some (.slice A n c)) (hu : P.underlying t = some (.slice e)) : Yl P L L1 ⟨d, .call ⟨.builtin .len, #[x], #[t]⟩, ty, pos, af, g⟩ a w (.int .i64 n) := fun w' _ => by
  simp [execOp, resolve, invoke, builtin, Builtin.len_, hS.fr.eval hx, goInt, run_underlying hu]
theorem y_capSlice {A : Option Addr} {n c : Nat} (hS : St Γ l L D a w) {e : TypeId} (hx : ev l x = some (.slice A n c)) (hu : P.underlying t = some (.slice e)) : Yl P L L1 ⟨d, .call ⟨.builtin .cap, #[x], #[t]⟩, ty, pos, af, g⟩ a w (.int .i64 c) := fun w' _ => by
  simp [execOp, resolve, invoke, builtin, Builtin.cap_, hS.fr.eval hx, goInt, run_underlying hu]
theorem y_lenStr {s : ByteArray} (hS : St Γ l L D a w) (hx : ev l x = some (.string s)) (hu : P.underlying t = some .string) : Yl P L L1 ⟨d, .call ⟨.builtin .len, #[x], #[t]⟩, ty, pos, af, g⟩ a w (.int .i64 s.size) := fun w' _ => by
  simp [execOp, resolve, invoke, builtin, Builtin.len_, hS.fr.eval hx, goInt, run_underlying hu]

/-! strings -/
def bs (l : List UInt8) : ByteArray := ⟨l.toArray⟩
theorem bs_size (l : List UInt8) : (bs l).size = l.length := by simp [bs, ByteArray.size]
theorem bs_toList (l : List UInt8) : (bs l).toList = l := by
  rw [ByteArray.toList_eq]
  simp [bs]
theorem bs_append (p q : List UInt8) : bs p ++ bs q = bs (p ++ q) := by
  apply ByteArray.ext
  simp [bs]
theorem bs_extract (p : List UInt8) (i j : Nat) : (bs p).extract i j = bs ((p.drop i).take (j - i)) := by
  rw [Lib.extract_eq]
  simp [bs]
theorem y_concat {p q : List UInt8} (hS : St Γ l L D a w) (hx : ev l x = some (.string (bs p))) (hy : ev l y = some (.string (bs q))) (hr : p.length + q.length ≤ 9223372036854775807) :
    Yl P L L1 ⟨d, .binOp .add t x y t', ty, pos, af, g⟩ a w (.string (bs (p ++ q))) := fun w' _ => by
  have : ¬ (((bs p).size + (bs q).size : Nat) : Int) > IntKind.i64.max := by
    rw [bs_size, bs_size]
    simp [IntKind.max, IntKind.signed, IntKind.bits]
    omega
  simp only [execOp, hS.fr.eval hx, hS.fr.eval hy, eqGuard_str, binOp, Op.stringOp, this, if_false, bs_append, Sem.run_bind, Result.andThen_ok, Sem.run_pure]
theorem y_seq {p q : List UInt8} (hS : St Γ l L D a w) (hx : ev l x = some (.string (bs p))) (hy : ev l y = some (.string (bs q))) :
    Yl P L L1 ⟨d, .binOp .eql t x y t', ty, pos, af, g⟩ a w (.bool (decide (p = q))) := fun w' _ => by
  simp only [execOp, hS.fr.eval hx, hS.fr.eval hy, eqGuard_str, binOp, Op.stringOp, bs_toList, Sem.run_bind, Result.andThen_ok, Sem.run_pure]
  congr 3
  by_cases h : p = q <;> simp [h]
theorem y_sne {p q : List UInt8} (hS : St Γ l L D a w) (hx : ev l x = some (.string (bs p))) (hy : ev l y = some (.string (bs q))) :
    Yl P L L1 ⟨d, .binOp .neq t x y t', ty, pos, af, g⟩ a w (.bool (decide (p ≠ q))) := fun w' _ => by
  simp only [execOp, hS.fr.eval hx, hS.fr.eval hy, eqGuard_str, binOp, Op.stringOp, bs_toList, Sem.run_bind, Result.andThen_ok, Sem.run_pure]
  congr 3
  by_cases h : p = q <;> simp [h]
theorem y_slss {p q : List UInt8} (hS : St Γ l L D a w) (hx : ev l x = some (.string (bs p))) (hy : ev l y = some (.string (bs q))) :
    Yl P L L1 ⟨d, .binOp .lss t x y t', ty, pos, af, g⟩ a w (.bool (Op.bytesLess p q)) := fun w' _ => by
  simp only [execOp, hS.fr.eval hx, hS.fr.eval hy, eqGuard_str, binOp, Op.stringOp, bs_toList, Sem.run_bind, Result.andThen_ok, Sem.run_pure]
theorem y_sgtr {p q : List UInt8} (hS : St Γ l L D a w) (hx : ev l x = some (.string (bs p))) (hy : ev l y = some (.string (bs q))) :
    Yl P L L1 ⟨d, .binOp .gtr t x y t', ty, pos, af, g⟩ a w (.bool !(Op.bytesLess p q || p == q)) := fun w' _ => by
  simp only [execOp, hS.fr.eval hx, hS.fr.eval hy, eqGuard_str, binOp, Op.stringOp, bs_toList, Sem.run_bind, Result.andThen_ok, Sem.run_pure]
theorem y_sleq {p q : List UInt8} (hS : St Γ l L D a w) (hx : ev l x = some (.string (bs p))) (hy : ev l y = some (.string (bs q))) :
    Yl P L L1 ⟨d, .binOp .leq t x y t', ty, pos, af, g⟩ a w (.bool (Op.bytesLess p q || p == q)) := fun w' _ => by
  simp only [execOp, hS.fr.eval hx, hS.fr.eval hy, eqGuard_str, binOp, Op.stringOp, bs_toList, Sem.run_bind, Result.andThen_ok, Sem.run_pure]
theorem y_sgeq {p q : List UInt8} (hS : St Γ l L D a w) (hx : ev l x = some (.string (bs p))) (hy : ev l y = some (.string (bs q))) :
    Yl P L L1 ⟨d, .binOp .geq t x y t', ty, pos, af, g⟩ a w (.bool !(Op.bytesLess p q)) := fun w' _ => by
  simp only [execOp, hS.fr.eval hx, hS.fr.eval hy, eqGuard_str, binOp, Op.stringOp, bs_toList, Sem.run_bind, Result.andThen_ok, Sem.run_pure]
theorem y_index {p : List UInt8} {c0 : UInt8} (hS : St Γ l L D a w) (hx : ev l x = some (.string (bs p))) (hy : ev l y = some (.int k m)) (hu : P.underlying t = some .string) (h0 : 0 ≤ m) (hc : p[m.toNat]? = some c0) :
    Yl P L L1 ⟨d, .index t x y, ty, pos, af, g⟩ a w (.int .u8 c0.toNat) := fun w' _ => by
  have : (bs p)[m.toNat]? = some c0 := by
    have hlt := (List.getElem?_eq_some_iff.1 hc)
    obtain ⟨hlt, he⟩ := hlt
    have hs : m.toNat < (bs p).size := by rw [bs_size]; exact hlt
    rw [getElem?_pos (bs p) m.toNat hs]
    congr 1
  simp [execOp, hS.fr.eval hx, hS.fr.eval hy, Instr.index, asIntOf, run_underlying hu, h0, this]
/-! conversions -/
theorem y_conv {k' : IntKind} {dd : TypeDesc} (hS : St Γ l L D a w) (hx : ev l x = some (.int k' m)) (hs : P.underlying t = some dd) (hu : P.underlying t' = some (.int k)) (hr : InK k m) :
    Yl P L L1 ⟨d, .convert t t' x, ty, pos, af, g⟩ a w (.int k m) := fun w' _ => by
  simp [execOp, hS.fr.eval hx, convert, run_underlying hs, run_underlying hu, Conv.intToInt, wrap_of_in hr]
theorem y_wconv {k' : IntKind} {dd : TypeDesc} (hS : St Γ l L D a w) (hx : ev l x = some (.int k' m)) (hs : P.underlying t = some dd) (hu : P.underlying t' = some (.int k)) :
    Yl P L L1 ⟨d, .convert t t' x, ty, pos, af, g⟩ a w (.int k (k.wrap m)) := fun w' _ => by
  simp [execOp, hS.fr.eval hx, convert, run_underlying hs, run_underlying hu, Conv.intToInt]
/-! structs held against each other -/
theorem y_eqlS {xs ys : Array Value} {b : Bool} (hS : St Γ l L D a w) (hx : ev l x = some (.agg xs)) (hy : ev l y = some (.agg ys)) (hg : P.eqGuardType P.depth t = false) (he : ∀ w', (Op.equalIn 10000 t (.agg xs) (.agg ys)).run P w' = .ok b w') :
    Yl P L L1 ⟨d, .binOp .eql t x y t', ty, pos, af, g⟩ a w (.bool b) := fun w' _ => by
  simp only [execOp, hS.fr.eval hx, hS.fr.eval hy, Sem.run_bind, run_eqGuard_agg w' _ _ _ _ _ _ hg, Result.andThen_ok, run_eql_struct, he, Sem.run_pure]
theorem y_neqS {xs ys : Array Value} {b : Bool} (hS : St Γ l L D a w) (hx : ev l x = some (.agg xs)) (hy : ev l y = some (.agg ys)) (hg : P.eqGuardType P.depth t = false) (he : ∀ w', (Op.equalIn 10000 t (.agg xs) (.agg ys)).run P w' = .ok b w') :
    Yl P L L1 ⟨d, .binOp .neq t x y t', ty, pos, af, g⟩ a w (.bool !b) := fun w' _ => by
  simp only [execOp, hS.fr.eval hx, hS.fr.eval hy, Sem.run_bind, run_eqGuard_agg w' _ _ _ _ _ _ hg, Result.andThen_ok, run_neq_struct, he, Sem.run_pure]
theorem y_beq {p q : Bool} (hS : St Γ l L D a w) (hx : ev l x = some (.bool p)) (hy : ev l y = some (.bool q)) (hu : P.underlying t = some .bool) :
    Yl P L L1 ⟨d, .binOp .eql t x y t', ty, pos, af, g⟩ a w (.bool (p == q)) := fun w' _ => by
  simp only [execOp, hS.fr.eval hx, hS.fr.eval hy, eqGuard_bool, binOp, Op.equal, Op.maxDepth, run_equalIn_bool w' 9999 t p q hu, Sem.run_bind, Result.andThen_ok, Sem.run_pure]
theorem y_bne {p q : Bool} (hS : St Γ l L D a w) (hx : ev l x = some (.bool p)) (hy : ev l y = some (.bool q)) (hu : P.underlying t = some .bool) :
    Yl P L L1 ⟨d, .binOp .neq t x y t', ty, pos, af, g⟩ a w (.bool (!(p == q))) := fun w' _ => by
  simp only [execOp, hS.fr.eval hx, hS.fr.eval hy, eqGuard_bool, binOp, Op.equal, Op.maxDepth, run_equalIn_bool w' 9999 t p q hu, Sem.run_bind, Result.andThen_ok, Sem.run_pure]
theorem part1 {dd : TypeDesc} (hu : P.underlying t = some dd) (ha : isAggT P t = false) {cs : Array Value} {o : Nat} (hv : cs[o]? = some v) (w : World) : (part t cs o).run P w = .ok v w := by
  simp [part, run_isAgg hu, ha, hv]
theorem partS {dd : TypeDesc} {n : Nat} (hu : P.underlying t = some dd) (ha : isAggT P t = true) (hn : (P.info? t).map (·.size) = some n) {cs : Array Value} {o : Nat} (w : World) : (part t cs o).run P w = .ok (.agg (cs.extract o (o + n))) w := by
  obtain ⟨i, hi, hs⟩ := Option.map_eq_some_iff.1 hn
  simp [part, run_isAgg hu, ha, sizeOf, typeInfo, hi, hs]
theorem y_shr {k2 : IntKind} (hS : St Γ l L D a w) (hx : ev l x = some (.int k m)) (hy : ev l y = some (.int k2 n)) (h1 : 0 ≤ n) :
    Yl P L L1 ⟨d, .binOp .shr t x y t', ty, pos, af, g⟩ a w (.int k (m.fdiv (2 ^ min n.toNat k.bits))) := fun w' _ => by
  have : ¬ n < 0 := by omega
  simp [execOp, hS.fr.eval hx, hS.fr.eval hy, eqGuard, binOp, Op.shift, this]
end
end Go.Gl
