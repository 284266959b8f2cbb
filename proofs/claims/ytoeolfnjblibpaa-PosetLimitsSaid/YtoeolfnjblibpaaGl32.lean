/- Own lemmas, thirty-second part: an entry is taken out of a map. -/
import Derived.Test.YtoeolfnjblibpaaGl25
import Derived.LoopN
namespace Go.Gl
open Go.RowKit
set_option linter.unusedVariables false
set_option linter.unusedSimpArgs false
def mdel {α : Type} (kv : List (List UInt8 × α)) (k : List UInt8) : List (List UInt8 × α) := match kv with
  | [] => []
  | (j, x) :: r => if k = j then r else (j, x) :: mdel r k
theorem mdel_val {α β : Type} (f : α → β) (k : List UInt8) : ∀ kv : List (List UInt8 × α), mdel (mval f kv) k = mval f (mdel kv k)
  | [] => rfl
  | (j, x) :: r => by
    show (if k = j then mval f r else (j, f x) :: mdel (mval f r) k) = mval f (if k = j then r else (j, x) :: mdel r k)
    rw [mdel_val f k r]
    split <;> rfl
theorem find_del (k : List UInt8) : ∀ (E : List MapEntry) (kv : List (List UInt8 × Value)) (i : Nat), E.map (fun e => (e.key, e.val)) = kv.map (fun p => (Value.string (bs p.1), p.2)) →
    (Instr.findNow .string (.string (bs k)) E i = some none ∧ mdel kv k = kv) ∨ (∃ (j : Nat) (e : MapEntry), E[j]? = some e ∧ Instr.findNow .string (.string (bs k)) E i = some (some (i + j, e.val)) ∧ mdel kv k = kv.eraseIdx j)
  | [], [], i, _ => .inl ⟨rfl, rfl⟩
  | [], p :: kv, i, h => by simp at h
  | e :: E, [], i, h => by simp at h
  | e :: E, (j, x) :: kv, i, h => by
    rw [List.map_cons, List.map_cons] at h
    injection h with h1 h2
    injection h1 with h3 h4
    by_cases hk : k = j
    · subst hk
      refine .inr ⟨0, e, rfl, ?_, ?_⟩
      · unfold Instr.findNow
        rw [h3]
        have hb : (bs k == bs k) = true := (MapKept.bytes_beq _ _).2 rfl
        simp [Instr.sameNow, hb]
      · show (if k = k then kv else (k, x) :: mdel kv k) = _
        rw [if_pos rfl]
        rfl
    · have hne : ¬ bs k = bs j := fun e => hk (bs_inj e)
      have hf : Instr.findNow .string (.string (bs k)) (e :: E) i = Instr.findNow .string (.string (bs k)) E (i + 1) := by
        conv => lhs; unfold Instr.findNow
        rw [h3]
        have hb : (bs k == bs j) = false := by
          cases hq : bs k == bs j with
          | false => rfl
          | true => exact absurd ((MapKept.bytes_beq _ _).1 hq) hne
        simp [Instr.sameNow, hb]
      have hs : mdel ((j, x) :: kv) k = (j, x) :: mdel kv k := by
        show (if k = j then kv else (j, x) :: mdel kv k) = _
        rw [if_neg hk]
      rw [hf, hs]
      rcases find_del k E kv (i + 1) h2 with ⟨a2, a3⟩ | ⟨q, e', b1, b4, b5⟩
      · exact .inl ⟨a2, by rw [a3]⟩
      · refine .inr ⟨q + 1, e', by simpa using b1, by rw [b4]; congr 3; omega, by rw [b5]; rfl⟩
theorem KvRel.del {β α : Type} {rel : β → α → Prop} {k : List UInt8} : ∀ {kb : List (List UInt8 × β)} {ka : List (List UInt8 × α)}, KvRel rel kb ka → KvRel rel (mdel kb k) (mdel ka k)
  | [], [], _ => KvRel.nil
  | [], _ :: _, h => by have := h.1; simp at this
  | _ :: _, [], h => by have := h.1; simp at this
  | (j, u) :: r, (j', y) :: s, h => by
    obtain ⟨e, h2, h3⟩ := h.uncons
    have e : j = j' := e
    subst e
    show KvRel rel (if k = j then r else (j, u) :: mdel r k) (if k = j then s else (j, y) :: mdel s k)
    split
    · exact h3
    · exact KvRel.cons h2 (KvRel.del h3)
theorem map_erase {α β : Type} (f : α → β) : ∀ (l : List α) (j : Nat), (l.eraseIdx j).map f = (l.map f).eraseIdx j
  | [], _ => rfl
  | _ :: _, 0 => rfl
  | x :: l, j + 1 => by simp [map_erase f l j]
theorem erase_kv {kv : List (List UInt8 × Value)} {E : Array MapEntry} (h : E.toList.map (fun e => (e.key, e.val)) = kv.map (fun p => (Value.string (bs p.1), p.2))) (j : Nat) (hj : j < E.size) :
    (E.eraseIdxIfInBounds j).toList.map (fun e => (e.key, e.val)) = (kv.eraseIdx j).map (fun p => (Value.string (bs p.1), p.2)) := by
  unfold Array.eraseIdxIfInBounds
  rw [dif_pos hj, Array.toList_eraseIdx, map_erase, map_erase, h]
section
variable {Γ : Ctx} {l : Al Value} {L L1 : Al Ob} {D : Al Fact} {a : Act} {w : World} {P : Program} {Q : Exit → Act → World → Prop} {K : Act → World → Prop} {x y z : Operand} {d : Nat} {dx : Option Tmp} {t kt et ty : TypeId} {pos : String} {af : Array Edge} {g : Option (Nat × Bool)} {v : Value} {b kk : Nat} {kv : List (List UInt8 × Value)} {k : List UInt8}
theorem run_delete {w : World} (hm : isMap w b kv) (ht : P.underlying t = some (.map kt et)) (hkt : P.underlying kt = some .string) : ∃ w', (Builtin.delete_ #[t, kt] ty #[.map (some b), .string (bs k)]).run P w = .ok (.tuple #[]) w' ∧ Keeps (fun x => x = b) w w' ∧ isMap w' b (mdel kv k) := by
  obtain ⟨E, clock, h1, h2, hs⟩ := hm
  have hck := MapKept.run_checkKey (P := P) (w := w) (kt := kt) (d := .string) (k := .string (bs k)) hkt trivial E.isEmpty 9999
  rcases find_del k E.toList kv 0 h2 with ⟨a2, a3⟩ | ⟨j, e, b1, b4, b5⟩
  · have hf := MapKept.run_findKey (P := P) (w := w) hkt a2
    refine ⟨{ w with heap := w.heap.setIfInBounds b (.map E clock) }, ?_, keeps_setObj _ _ _, ?_⟩
    · simp [Builtin.delete_, run_underlying ht, MapKept.run_getObj_map h1, hck, hf, MapKept.run_setObj_map _ h1, Result.andThen]
    · exact ⟨_, _, (MapKept.heap_set h1).1, by rw [a3]; exact h2, hs⟩
  · have hf := MapKept.run_findKey (P := P) (w := w) hkt b4
    have hj : E[j]? = some e := by simpa using b1
    refine ⟨{ w with heap := w.heap.setIfInBounds b (.map (E.eraseIdxIfInBounds (0 + j)) clock) }, ?_, keeps_setObj _ _ _, ?_⟩
    · simp [Builtin.delete_, run_underlying ht, MapKept.run_getObj_map h1, hck, hf, MapKept.run_setObj_map _ h1, Result.andThen]
    · exact ⟨_, _, (MapKept.heap_set h1).1, by rw [b5, Nat.zero_add]; exact erase_kv h2 j (Array.getElem?_eq_some_iff.1 hj).1, MapKept.stamped_erase hs _⟩
/-- delete(m, k) -/
theorem l_mapDelete (hS : St Γ l L D a w) (kk : Nat) (hx : ev l x = some (.map (some b))) (hy : ev l y = some (.string (bs k))) (hb : look L kk = some (Ob.smap b kv)) (ht : P.underlying t = some (.map kt et)) (hkt : P.underlying kt = some .string)
    (h : ∀ w', Keeps (fun x => x = b) w w' → St Γ l ((kk, Ob.smap b (mdel kv k)) :: L) D a w' → K a w') : Oper.wp P ⟨none, .call ⟨.builtin .delete, #[x, y], #[t, kt]⟩, ty, pos, af, g⟩ a w K Q := by
  obtain ⟨w', h1, h2, h3⟩ := run_delete (P := P) (k := k) (ty := ty) (hS.wd.holds kk _ hb) ht hkt
  refine wp_value (v := .tuple #[]) (w' := w') ?_ ?_
  · simp [execOp, resolve, invoke, builtin, hS.fr.eval hx, hS.fr.eval hy, h1]
  · exact h _ h2 ⟨hS.fr, hS.wd.set hb h2 h3 (fun q hq => .inl hq)⟩
end
/-- a pointer that is not nil -/
theorem y_nilCheck {Γ : Ctx} {l : Al Value} {L L1 : Al Ob} {D : Al Fact} {a : Act} {w : World} {P : Program} {x : Operand} {d : Option Tmp} {p : Addr} {ty : TypeId} {pos : String} {af : Array Edge} {g : Option (Nat × Bool)} (hS : St Γ l L D a w) (hx : ev l x = some (.pointer (some p))) :
    Yl P L L1 ⟨d, .nilCheck x, ty, pos, af, g⟩ a w (.pointer (some p)) := fun w' _ => by
  simp [execOp, hS.fr.eval hx]
theorem c_round {P : Program} {x : Code} {Q : Exit → Act → World → Prop} {n : Nat} {a : Act} {w : World} (h : x.wp P (Exit.then (Code.rounds P x Q n) Q) a w) : Code.rounds P x Q (n + 1) a w := h
theorem kvF_del {α : Type} {R : Rep α} {M : Bs} {w : World} {kvV : List (List UInt8 × Value)} {kv : List (List UInt8 × α)} {k : List UInt8} (h : (kvF R kvV kv).p M w) : (kvF R (mdel kvV k) (mdel kv k)).p M w := KvRel.del h
end Go.Gl
