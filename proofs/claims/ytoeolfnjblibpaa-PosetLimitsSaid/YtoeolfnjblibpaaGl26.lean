/- Own lemmas, twenty-sixth part: the lesser of two strings, the end of a row cleared. -/
import Derived.Test.YtoeolfnjblibpaaGl25
import Derived.Lib.SliceRun
namespace Go.Gl
open Go.RowKit
set_option linter.unusedVariables false
set_option linter.unusedSimpArgs false
section
variable {Γ : Ctx} {l : Al Value} {L L1 : Al Ob} {D : Al Fact} {a : Act} {w : World} {P : Program} {x y : Operand} {t t' ty : TypeId} {d : Option Tmp} {pos : String} {af : Array Edge} {g : Option (Nat × Bool)} {K : Act → World → Prop} {Q : Exit → Act → World → Prop}
def smin (p q : List UInt8) : List UInt8 := if (Op.bytesLess p q || p == q) = true then p else q
theorem smin_len {p q : List UInt8} {k : Nat} (h1 : p.length ≤ k) (h2 : q.length ≤ k) : (smin p q).length ≤ k := by unfold smin; split <;> assumption
/-- the end of a list cleared -/
def clr (xs : List (List UInt8)) (i : Nat) : List (List UInt8) := xs.take i ++ List.replicate (xs.length - i) []
theorem clr_len {xs : List (List UInt8)} {i : Nat} (h : i ≤ xs.length) : (clr xs i).length = xs.length := by simp [clr]; omega
theorem y_minStr {p q : List UInt8} (hS : St Γ l L D a w) {ts : Array TypeId} (hx : ev l x = some (.string (bs p))) (hy : ev l y = some (.string (bs q))) : Yl P L L1 ⟨d, .call ⟨.builtin .min, #[x, y], ts⟩, ty, pos, af, g⟩ a w (.string (bs (smin p q))) := fun w' _ => by
  have e : bs (smin p q) = if (Op.bytesLess p q || p == q) = true then bs p else bs q := by unfold smin; split <;> rfl
  rw [e]
  simp [execOp, resolve, invoke, builtin, Builtin.min_, Builtin.min2, Op.stringOp, bs_toList, asBool, hS.fr.eval hx, hS.fr.eval hy]
theorem zeroCells_one {z : Value} (hz : z.cells = #[z]) (n : Nat) : (Builtin.zeroCells z.cells n).toList = List.replicate n z := by
  rw [hz]
  simp [Builtin.zeroCells]
  apply List.ext_getElem
  · simp
  · intro i h1 h2
    simp [Nat.mod_one]
/-- 'clear(s[i:])', s a row of the call's -/
theorem l_clearTail {A : Option Addr} {n c i m : Nat} {e : TypeId} {cs : List Value} {z : Value} (hS : St Γ l L D a w) (kk : Nat) (hx : ev l x = some (.slice (if c = i then A else A.map (·.add (i * 1))) m (c - i))) (hb : look L kk = some (Ob.row A n c e 1 cs)) (hm : m = n - i) (hi : i ≤ n)
    (hu : P.underlying t = some (.slice e)) (hv : ∀ w, (zeroValue e).run P w = .ok z w) (hz : z.cells = #[z]) (h1 : z.oneCell' = true)
    (h : ∀ w', Keeps (Ob.row A n c e 1 cs).ids w w' → St Γ l ((kk, Ob.row A n c e 1 (splice cs i (List.replicate (n - i) z))) :: L) D a w' → K a w') : Oper.wp P ⟨none, .call ⟨.builtin .clear, #[x], #[t]⟩, ty, pos, af, g⟩ a w K Q := by
  subst hm
  have hrow := hS.wd.holds kk _ hb
  have hl : cs.length = n := by have h' : w.ownsRow 0 e 1 (.slice A n c) n cs := hrow; simpa using h'.1
  rcases Nat.eq_zero_or_pos (n - i) with h0 | h0
  · refine wp_value (v := .tuple #[]) (w' := w) ?_ ?_
    · rw [h0] at hx
      generalize (if c = i then A else A.map (·.add (i * 1))) = A' at hx
      rcases A' with _ | A'
      all_goals simp [execOp, resolve, invoke, builtin, Builtin.clear_, hS.fr.eval hx, run_underlying hu]
    · show K a _
      have e1 : splice cs i (List.replicate (n - i) z) = cs := by
        rw [h0]
        simp [splice]
      refine h w ⟨rfl, rfl, rfl, Nat.le_refl _, fun _ _ _ => rfl⟩ ⟨hS.fr, hS.wd.set hb ⟨rfl, rfl, rfl, Nat.le_refl _, fun _ _ _ => rfl⟩ ?_ (fun q hq => .inl hq)⟩
      rw [e1]; exact hrow
  · have h' : w.ownsRow 0 e 1 (.slice A n c) n cs := hrow
    rcases h'.2 with ⟨hv', hn0⟩ | ⟨b, cap, cur, hA, hg, hh, hnc, hcm, hcs, htake⟩
    · omega
    · injection hA with hA hA2 hA3
      subst hA; subst hA3
      obtain ⟨cur', hh', hfit', hput⟩ := row_put (o := i) (vs := List.replicate (n - i) z) hrow rfl (by simp; omega)
      have hst := run_storeCells_at P b i e (List.replicate (n - i) z) 0 cur' w hh' (by simpa using hfit') (fun q hq => by rw [List.eq_of_mem_replicate hq]; exact h1)
      rw [if_neg (by omega)] at hx
      refine wp_value (v := .tuple #[]) (w' := w.setRow b (splice cur'.toList i (List.replicate (n - i) z)).toArray) ?_ ?_
      · obtain ⟨k, hk⟩ : ∃ k, n - i = k + 1 := ⟨n - i - 1, by omega⟩
        rw [hk] at hx hst ⊢
        simp [execOp, resolve, invoke, builtin, Builtin.clear_, hS.fr.eval hx, run_underlying hu, hv, zeroCells_one hz, Addr.add]
        simp at hst
        have ea : (if i = 0 then ({ block := b, off := 0 } : Addr) else { block := b, off := i }) = { block := b, off := i } := by split <;> simp_all
        rw [ea, hst]
        simp [splice]
      · show K a _
        have hk : Keeps (Ob.row (some ⟨b, 0, none⟩) n c e 1 cs).ids w (w.setRow b (splice cur'.toList i (List.replicate (n - i) z)).toArray) := keeps_setRow w b _ ⟨_, rfl, rfl⟩
        exact h _ hk ⟨hS.fr, hS.wd.set hb hk hput (fun q hq => .inl hq)⟩
end
theorem RdAll.splice0 {cs : List Value} {xs : List (List UInt8)} {M : Bs} {w : World} {i m : Nat} (h : RdAll Rep.str M w cs xs) (hi : i ≤ xs.length) (hm : m = xs.length - i) : RdAll Rep.str M w (splice cs i (List.replicate m (.string (bs [])))) (clr xs i) := by
  subst hm
  unfold clr
  have hl : cs.length = xs.length := by have := h.len; simpa [Rep.str] using this
  have e : splice cs i (List.replicate (xs.length - i) (.string (bs []))) = cs.take i ++ List.replicate (xs.length - i) (.string (bs [])) := by
    unfold splice
    rw [List.length_replicate, List.drop_of_length_le (by omega), List.append_nil]
  rw [e]
  refine RdAll.append ?_ ?_
  · have := h.take i hi
    simpa [Rep.str] using this
  · generalize xs.length - i = k
    clear e hi hl h
    refine ⟨by simp [Rep.str], fun j x hx => ?_⟩
    obtain ⟨hj, hx⟩ := List.getElem?_eq_some_iff.1 hx
    simp only [List.length_replicate] at hj
    simp only [List.getElem_replicate] at hx
    subst hx
    refine ⟨?_, by simp⟩
    show (List.drop (j * 1) _).take 1 = _
    rw [Nat.mul_one, List.drop_replicate, List.take_replicate, Nat.min_eq_left (by omega)]
    rfl
end Go.Gl
