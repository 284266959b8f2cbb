/- Own lemmas, nineteenth part: min, max, remainders of bytes, make of a slice. -/
import Derived.Test.YtoeolfnjblibpaaGl18
import Derived.Laws.OwnMore
namespace Go.Gl
open Go.RowKit
set_option linter.unusedVariables false
set_option linter.unusedSimpArgs false
section
variable {Γ : Ctx} {l : Al Value} {L L1 : Al Ob} {D : Al Fact} {a : Act} {w : World} {P : Program} {x y : Operand} {k : IntKind} {m n : Int} {t t' ty : TypeId} {d : Option Tmp} {pos : String} {af : Array Edge} {g : Option (Nat × Bool)}
theorem y_min (hS : St Γ l L D a w) {ts : Array TypeId} (hx : ev l x = some (.int k m)) (hy : ev l y = some (.int k n)) : Yl P L L1 ⟨d, .call ⟨.builtin .min, #[x, y], ts⟩, ty, pos, af, g⟩ a w (.int k (if n < m then n else m)) := fun w' _ => by
  simp [execOp, resolve, invoke, builtin, Builtin.min_, Builtin.min2, hS.fr.eval hx, hS.fr.eval hy]
theorem y_max (hS : St Γ l L D a w) {ts : Array TypeId} (hx : ev l x = some (.int k m)) (hy : ev l y = some (.int k n)) : Yl P L L1 ⟨d, .call ⟨.builtin .max, #[x, y], ts⟩, ty, pos, af, g⟩ a w (.int k (if m < n then n else m)) := fun w' _ => by
  simp [execOp, resolve, invoke, builtin, Builtin.max_, Builtin.max2, hS.fr.eval hx, hS.fr.eval hy]
theorem y_minN {i j : Nat} (hS : St Γ l L D a w) {ts : Array TypeId} (hx : ev l x = some (.int k (i : Int))) (hy : ev l y = some (.int k (j : Int))) : Yl P L L1 ⟨d, .call ⟨.builtin .min, #[x, y], ts⟩, ty, pos, af, g⟩ a w (.int k ((min i j : Nat) : Int)) := by
  have h := y_min (P := P) (L1 := L1) (d := d) (ty := ty) (pos := pos) (af := af) (g := g) (ts := ts) hS hx hy
  have e : (if (j : Int) < (i : Int) then (j : Int) else (i : Int)) = ((min i j : Nat) : Int) := by split <;> omega
  rwa [e] at h
theorem y_maxN {i j : Nat} (hS : St Γ l L D a w) {ts : Array TypeId} (hx : ev l x = some (.int k (i : Int))) (hy : ev l y = some (.int k (j : Int))) : Yl P L L1 ⟨d, .call ⟨.builtin .max, #[x, y], ts⟩, ty, pos, af, g⟩ a w (.int k ((max i j : Nat) : Int)) := by
  have h := y_max (P := P) (L1 := L1) (d := d) (ty := ty) (pos := pos) (af := af) (g := g) (ts := ts) hS hx hy
  have e : (if (i : Int) < (j : Int) then (j : Int) else (i : Int)) = ((max i j : Nat) : Int) := by split <;> omega
  rwa [e] at h
theorem y_remU8 {p q : UInt8} (hS : St Γ l L D a w) (hx : ev l x = some (.int .u8 ((p.toNat : Nat) : Int))) (hy : ev l y = some (.int .u8 ((q.toNat : Nat) : Int))) (hq : q ≠ 0) :
    Yl P L L1 ⟨d, .binOp .rem t x y t', ty, pos, af, g⟩ a w (.int .u8 (((p % q).toNat : Nat) : Int)) := by
  have hq' : 0 < q.toNat := by
    rcases Nat.eq_zero_or_pos q.toNat with h | h
    · exact absurd (UInt8.toNat_inj.1 (by rw [h]; rfl)) hq
    · exact h
  have := y_remN (P := P) (L1 := L1) (d := d) (ty := ty) (pos := pos) (af := af) (g := g) (t := t) (t' := t') hS hx hy hq'
  rwa [← UInt8.toNat_mod] at this
end
section
variable {Γ : Ctx} {l : Al Value} {L : Al Ob} {D : Al Fact} {a : Act} {w : World} {P : Program} {x y : Operand} {t ty : TypeId} {d : Tmp} {pos : String} {af : Array Edge} {g : Option (Nat × Bool)} {K : Act → World → Prop} {Q : Exit → Act → World → Prop}
theorem made_one (z : Value) (hz : z.cells = #[z]) (n : Nat) : (madeCells z.cells (n * 1)).toList = List.replicate n z := by
  rw [hz, Nat.mul_one]
  apply List.ext_getElem?
  intro i
  simp only [madeCells, Array.toList_map, Array.toList_range, List.getElem?_map, List.getElem?_replicate]
  by_cases h : i < n
  · simp [h, List.getElem?_range, Nat.mod_one]
  · simp [h, List.getElem?_range]
theorem RdAll.rep {α : Type} {R : Rep α} {M : Bs} {w : World} {zv : Value} {z : α} (h1 : R.size = 1) (h : R.rd M w [zv] z) (n : Nat) : RdAll R M w (List.replicate n zv) (List.replicate n z) := by
  refine ⟨by simp [h1], fun i x hx => ?_⟩
  rw [List.getElem?_replicate] at hx
  split at hx
  · rename_i hi
    injection hx with hx
    subst hx
    rw [h1, Nat.mul_one, List.drop_replicate, List.take_replicate, Nat.min_eq_left (by omega)]
    exact h
  · cases hx
/-- make of a slice whose elements are one cell each -/
theorem l_makeSlice {e : TypeId} {n : Nat} {zv : Value} {kl kc : IntKind} (hS : St Γ l L D a w) (kk : Nat) (hx : ev l x = some (.int kl (n : Int))) (hy : ev l y = some (.int kc (n : Int))) (hu : P.underlying t = some (.slice e)) {i : TypeInfo} (hi : P.info? e = some i) (hz : i.zero = some zv) (hsz : i.size = 1) (hc : zv.cells = #[zv]) {by_ : Nat} (hb : i.bytes = by_) (hn : by_ * n ≤ 281474976710656) (h63 : n ≤ 9223372036854775807) (hk : look L kk = none) (hd : Nat.blt d Γ.N = true)
    (h : ∀ b a' w', w.heap.size ≤ b → Keeps noB w w' → St Γ ((d, .slice (some ⟨b, 0, none⟩) n n) :: l) ((kk, Ob.row (some ⟨b, 0, none⟩) n n e 1 (List.replicate n zv)) :: L) D a' w' → K a' w') : Oper.wp P ⟨some d, .makeSlice t x y, ty, pos, af, g⟩ a w K Q := by
  obtain ⟨w', hr, hrow, hgr⟩ := run_make_full (P := P) w 0 t e i zv 1 hu hi hz hsz kl kc n (by rw [hb]; exact hn) (by simpa [maxLen] using h63) (Nat.zero_le _)
  have hK : Keeps noB w w' := ⟨hgr.os, hgr.tape, hgr.output, hgr.size, fun b hb' _ => hgr.block b hb' (by simp)⟩
  refine wp_value (v := .slice (some ⟨w.heap.size, 0, none⟩) n n) (w' := w') ?_ ?_
  · simp [execOp, hS.fr.eval hx, hS.fr.eval hy, hr, Result.andThen]
  · rw [made_one zv hc n] at hrow
    refine h w.heap.size _ _ (Nat.le_refl _) hK ⟨hS.fr.put hd, hS.wd.new (Ext.grow hS.wd.refl hK) hk hrow (fun b hb => by obtain ⟨q, h1, h2⟩ := hb; cases h1; exact Nat.le_of_eq h2)⟩
end
end Go.Gl
