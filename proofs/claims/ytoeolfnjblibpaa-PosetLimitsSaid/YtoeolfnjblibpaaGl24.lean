/- Own lemmas, twenty-fourth part: maps whose keys are strings. -/
import Derived.Test.YtoeolfnjblibpaaGl22
import Derived.MapKept
namespace Go.Gl
open Go.RowKit
set_option linter.unusedVariables false
set_option linter.unusedSimpArgs false
/-! plain maps: pairs in the order of insertion -/
section
variable {α β : Type}
def mget (kv : List (List UInt8 × α)) (k : List UInt8) : Option α := match kv with
  | [] => none
  | (j, x) :: r => if k = j then some x else mget r k
def mset (kv : List (List UInt8 × α)) (k : List UInt8) (v : α) : List (List UInt8 × α) := match kv with
  | [] => [(k, v)]
  | (j, x) :: r => if k = j then (k, v) :: r else (j, x) :: mset r k v
/-- the values written by 'f' -/
def mval (f : α → β) (kv : List (List UInt8 × α)) : List (List UInt8 × β) := kv.map fun p => (p.1, f p.2)
theorem mget_val (f : α → β) (k : List UInt8) : ∀ kv : List (List UInt8 × α), mget (mval f kv) k = (mget kv k).map f
  | [] => rfl
  | (j, x) :: r => by
    show (if k = j then some (f x) else mget (mval f r) k) = _
    rw [mget_val f k r]
    show _ = (if k = j then some x else mget r k).map f
    split <;> rfl
theorem mset_val (f : α → β) (k : List UInt8) (v : α) : ∀ kv : List (List UInt8 × α), mset (mval f kv) k (f v) = mval f (mset kv k v)
  | [] => rfl
  | (j, x) :: r => by
    show (if k = j then (k, f v) :: mval f r else (j, f x) :: mset (mval f r) k (f v)) = mval f (if k = j then (k, v) :: r else (j, x) :: mset r k v)
    rw [mset_val f k v r]
    split <;> rfl
end
/-! the object -/
def isMap (w : World) (b : Nat) (kv : List (List UInt8 × Value)) : Prop := ∃ (E : Array MapEntry) (clock : Nat), w.heap[b]? = some (.map E clock) ∧ E.toList.map (fun e => (e.key, e.val)) = kv.map (fun p => (Value.string (bs p.1), p.2)) ∧ MapKept.Stamped E clock
def Ob.smap (b : Nat) (kv : List (List UInt8 × Value)) : Ob where
  ids := fun k => k = b
  holds := fun w => isMap w b kv
  lt := fun h e => by obtain ⟨_, _, h, _⟩ := h; rw [e]; exact block_lt h
  keep := fun h hk => by obtain ⟨E, c, h1, h2⟩ := h; exact ⟨E, c, (hk b rfl).trans h1, h2⟩
/-- a map that is no longer written -/
def mapF (b : Nat) (kv : List (List UInt8 × Value)) : Fact := ⟨fun M w => ¬ M b ∧ isMap w b kv,
  fun hk h => ⟨h.1, by obtain ⟨E, c, h1, h2⟩ := h.2; exact ⟨E, c, (hk.block b (block_lt h1) h.1).trans h1, h2⟩⟩,
  fun hm h => ⟨fun hb => h.1 (hm b (by obtain ⟨E, c, h1, h2⟩ := h.2; exact block_lt h1) hb), h.2⟩⟩
theorem bs_inj {a b : List UInt8} (h : bs a = bs b) : a = b := by
  have := congrArg (fun x : ByteArray => x.data.toList) h
  simpa [bs] using this
theorem find_kv (k : List UInt8) : ∀ (E : List MapEntry) (kv : List (List UInt8 × Value)) (i : Nat), E.map (fun e => (e.key, e.val)) = kv.map (fun p => (Value.string (bs p.1), p.2)) →
    (mget kv k = none ∧ Instr.findNow .string (.string (bs k)) E i = some none ∧ mset kv k = fun v => kv ++ [(k, v)]) ∨ (∃ (j : Nat) (e : MapEntry), E[j]? = some e ∧ e.key = .string (bs k) ∧ mget kv k = some e.val ∧ Instr.findNow .string (.string (bs k)) E i = some (some (i + j, e.val)) ∧ mset kv k = fun v => kv.set j (k, v))
  | [], [], i, _ => .inl ⟨rfl, rfl, rfl⟩
  | [], p :: kv, i, h => by simp at h
  | e :: E, [], i, h => by simp at h
  | e :: E, (j, x) :: kv, i, h => by
    rw [List.map_cons, List.map_cons] at h
    injection h with h1 h2
    injection h1 with h3 h4
    have h4 : e.val = x := h4
    by_cases hk : k = j
    · subst hk
      refine .inr ⟨0, e, rfl, h3, ?_, ?_, ?_⟩
      · show (if k = k then some x else mget kv k) = _
        rw [if_pos rfl, h4]
      · unfold Instr.findNow
        rw [h3]
        have hb : (bs k == bs k) = true := (MapKept.bytes_beq _ _).2 rfl
        simp [Instr.sameNow, hb]
      · funext v
        show (if k = k then (k, v) :: kv else (k, x) :: mset kv k v) = _
        rw [if_pos rfl]
        rfl
    · have hne : ¬ bs k = bs j := fun e => hk (bs_inj e)
      have hf : Instr.findNow .string (.string (bs k)) (e :: E) i = Instr.findNow .string (.string (bs k)) E (i + 1) := by
        conv => lhs; unfold Instr.findNow
        rw [h3]
        have hb : (bs k == bs j) = false := by
          cases hq : bs k == bs j with
          | false => rfl
          | true => exact absurd ((MapKept.bytes_beq _ _).1 hq) hne
        simp [Instr.sameNow, hb]
      have hg : mget ((j, x) :: kv) k = mget kv k := by
        show (if k = j then some x else mget kv k) = _
        rw [if_neg hk]
      have hs : mset ((j, x) :: kv) k = fun v => (j, x) :: mset kv k v := by
        funext v
        show (if k = j then (k, v) :: kv else (j, x) :: mset kv k v) = _
        rw [if_neg hk]
      rw [hf, hg, hs]
      rcases find_kv k E kv (i + 1) h2 with ⟨a1, a2, a3⟩ | ⟨q, e', b1, b2, b3, b4, b5⟩
      · exact .inl ⟨a1, a2, by rw [a3]; rfl⟩
      · refine .inr ⟨q + 1, e', by simpa using b1, b2, b3, by rw [b4]; congr 3; omega, by rw [b5]; rfl⟩
section
variable {Γ : Ctx} {l : Al Value} {L L1 : Al Ob} {D : Al Fact} {a : Act} {w : World} {P : Program} {Q : Exit → Act → World → Prop} {K : Act → World → Prop} {x y z : Operand} {d : Nat} {dx : Option Tmp} {t kt et ty : TypeId} {pos : String} {af : Array Edge} {g : Option (Nat × Bool)} {v : Value} {b kk : Nat} {kv : List (List UInt8 × Value)} {k : List UInt8}
/-- make(map[string]T), with a hint or without -/
theorem l_makeMap {r : Option Operand} {n : Int} (hS : St Γ l L D a w) (key : Nat) (ht : P.underlying t = some (.map kt et)) (hr : r.map (ev l) = none ∨ r.map (ev l) = some (some (.int .i64 n))) (hk : look L key = none) (hd : Nat.blt d Γ.N = true)
    (h : ∀ b a' w', w.heap.size ≤ b → Keeps noB w w' → St Γ ((d, .map (some b)) :: l) ((key, Ob.smap b []) :: L) D a' w' → K a' w') : Oper.wp P ⟨some d, .makeMap t r, ty, pos, af, g⟩ a w K Q := by
  refine wp_value (v := .map (some w.heap.size)) (w' := w.alloc (.map #[] 0)) ?_ ?_
  · cases r with
    | none => simp [execOp, Instr.makeMap]
    | some o =>
      have ho : ev l o = some (.int .i64 n) := by
        rcases hr with h | h
        · simp at h
        · simpa using h
      simp [execOp, Instr.makeMap, hS.fr.eval ho, run_underlying ht, asInt, asIntOf, Result.andThen]
  · have he := ext_alloc hS (.map #[] 0)
    exact h w.heap.size _ _ (Nat.le_refl _) (Keeps.alloc _ _ _) ⟨hS.fr.put hd, hS.wd.new he hk ⟨#[], 0, by rw [heap_new], rfl, MapKept.stamped_empty 0⟩ (fun b hb => by cases hb; exact Nat.le_refl _)⟩
theorem run_lookup {w' : World} (hm : isMap w' b kv) (ht : P.underlying t = some (.map kt et)) (hkt : P.underlying kt = some .string) {zv : Value} (hz : (P.info? et).bind (·.zero) = some zv) (c : Bool) : (Instr.lookup t (.map (some b)) (.string (bs k)) c).run P w' = .ok (if c then .tuple #[(mget kv k).getD zv, .bool (mget kv k).isSome] else (mget kv k).getD zv) w' := by
  obtain ⟨E, clock, h1, h2, _⟩ := hm
  obtain ⟨i, hi, hzi⟩ := Option.bind_eq_some_iff.1 hz
  have hck := MapKept.run_checkKey (P := P) (w := w') (kt := kt) (d := .string) (k := .string (bs k)) hkt trivial E.isEmpty 9999
  rcases find_kv k E.toList kv 0 h2 with ⟨a1, a2, _⟩ | ⟨j, e, b1, b2, b3, b4, _⟩
  · have hf := MapKept.run_findKey (P := P) (w := w') hkt a2
    simp [Instr.lookup, run_underlying ht, MapKept.run_getObj_map h1, hck, hf, Result.andThen, zeroValue, typeInfo, hi, hzi, a1]
  · have hf := MapKept.run_findKey (P := P) (w := w') hkt b4
    simp [Instr.lookup, run_underlying ht, MapKept.run_getObj_map h1, hck, hf, Result.andThen, b3]
/-- m[k] of a map of the call's own -/
theorem y_lookup {zv : Value} (hS : St Γ l L D a w) (hx : ev l x = some (.map (some b))) (hy : ev l y = some (.string (bs k))) (hb : look L1 kk = some (Ob.smap b kv)) (ht : P.underlying t = some (.map kt et)) (hkt : P.underlying kt = some .string) (hz : (P.info? et).bind (·.zero) = some zv) :
    Yl P L L1 ⟨dx, .lookup t x y false, ty, pos, af, g⟩ a w ((mget kv k).getD zv) := fun w' he => by
  have hm : isMap w' b kv := he.2 kk _ hb
  have := run_lookup (P := P) (k := k) hm ht hkt hz false
  simp [execOp, hS.fr.eval hx, hS.fr.eval hy, this]
theorem y_lookupOk {zv : Value} (hS : St Γ l L D a w) (hx : ev l x = some (.map (some b))) (hy : ev l y = some (.string (bs k))) (hb : look L1 kk = some (Ob.smap b kv)) (ht : P.underlying t = some (.map kt et)) (hkt : P.underlying kt = some .string) (hz : (P.info? et).bind (·.zero) = some zv) :
    Yl P L L1 ⟨dx, .lookup t x y true, ty, pos, af, g⟩ a w (.tuple #[(mget kv k).getD zv, .bool (mget kv k).isSome]) := fun w' he => by
  have hm : isMap w' b kv := he.2 kk _ hb
  have := run_lookup (P := P) (k := k) hm ht hkt hz true
  simp [execOp, hS.fr.eval hx, hS.fr.eval hy, this]
/-- m[k] of a map that is no longer written -/
theorem y_lookupF {zv : Value} (hS : St Γ l L D a w) (hx : ev l x = some (.map (some b))) (hy : ev l y = some (.string (bs k))) (hf : (mapF b kv).p (mtb Γ L) w) (ht : P.underlying t = some (.map kt et)) (hkt : P.underlying kt = some .string) (hz : (P.info? et).bind (·.zero) = some zv) :
    Yl P L L1 ⟨dx, .lookup t x y false, ty, pos, af, g⟩ a w ((mget kv k).getD zv) := fun w' he => by
  have hm : isMap w' b kv := ((mapF b kv).keep (he.1.mono fun b _ hb => .inr hb) hf).2
  have := run_lookup (P := P) (k := k) hm ht hkt hz false
  simp [execOp, hS.fr.eval hx, hS.fr.eval hy, this]
theorem y_lookupOkF {zv : Value} (hS : St Γ l L D a w) (hx : ev l x = some (.map (some b))) (hy : ev l y = some (.string (bs k))) (hf : (mapF b kv).p (mtb Γ L) w) (ht : P.underlying t = some (.map kt et)) (hkt : P.underlying kt = some .string) (hz : (P.info? et).bind (·.zero) = some zv) :
    Yl P L L1 ⟨dx, .lookup t x y true, ty, pos, af, g⟩ a w (.tuple #[(mget kv k).getD zv, .bool (mget kv k).isSome]) := fun w' he => by
  have hm : isMap w' b kv := ((mapF b kv).keep (he.1.mono fun b _ hb => .inr hb) hf).2
  have := run_lookup (P := P) (k := k) hm ht hkt hz true
  simp [execOp, hS.fr.eval hx, hS.fr.eval hy, this]
theorem push_kv {E : Array MapEntry} {e : MapEntry} {v : Value} (h : E.toList.map (fun e => (e.key, e.val)) = kv.map (fun p => (Value.string (bs p.1), p.2))) (h1 : e.key = .string (bs k)) (h2 : e.val = v) :
    (E.push e).toList.map (fun e => (e.key, e.val)) = (kv ++ [(k, v)]).map (fun p => (Value.string (bs p.1), p.2)) := by
  rw [Array.toList_push, List.map_append, List.map_append, h]
  simp [h1, h2]
theorem modify_kv {E : Array MapEntry} {f : MapEntry → MapEntry} {j : Nat} {e : MapEntry} {v : Value} (h : E.toList.map (fun e => (e.key, e.val)) = kv.map (fun p => (Value.string (bs p.1), p.2))) (hj : E[j]? = some e) (h1 : (f e).key = .string (bs k)) (h2 : (f e).val = v) :
    (E.modify j f).toList.map (fun e => (e.key, e.val)) = (kv.set j (k, v)).map (fun p => (Value.string (bs p.1), p.2)) := by
  apply List.ext_getElem?
  intro i
  have hi := congrArg (·[i]?) h
  simp only [List.getElem?_map, Array.getElem?_toList] at hi ⊢
  rw [Array.getElem?_modify, List.getElem?_set]
  by_cases hq : j = i
  · subst hq
    have hlt : j < kv.length := by
      rw [hj] at hi
      cases hz : kv[j]? with
      | none => rw [hz] at hi; cases hi
      | some p => exact (List.getElem?_eq_some_iff.1 hz).1
    simp [hj, h1, h2, hlt]
  · simp [hq, hi]
theorem kv_key {E : Array MapEntry} (h : E.toList.map (fun e => (e.key, e.val)) = kv.map (fun p => (Value.string (bs p.1), p.2))) : ∀ x ∈ E.toList, MapKept.IsKey .string x.key := fun x hx => by
  have h1 : (x.key, x.val) ∈ E.toList.map (fun e => (e.key, e.val)) := List.mem_map.2 ⟨x, hx, rfl⟩
  rw [h] at h1
  obtain ⟨p, _, hp⟩ := List.mem_map.1 h1
  injection hp with h2 h3
  rw [← h2]
  trivial
theorem find_none : ∀ (E : List MapEntry) (i : Nat), (∀ x ∈ E, MapKept.IsKey .string x.key) → Instr.findNow .string (.string (bs k)) E i = some none → ∀ x ∈ E, x.key ≠ .string (bs k) := fun E i hE hf => by
  rcases MapKept.findNow_spec (d := .string) (k := .string (bs k)) trivial E i hE with ⟨_, h⟩ | ⟨j, e, h, _⟩
  · exact h
  · rw [hf] at h; cases h
theorem run_mapUpdate {w : World} (hm : isMap w b kv) (ht : P.underlying t = some (.map kt et)) (hkt : P.underlying kt = some .string) : ∃ w', (Instr.mapUpdate t (.map (some b)) (.string (bs k)) v).run P w = .ok () w' ∧ Keeps (fun x => x = b) w w' ∧ isMap w' b (mset kv k v) := by
  obtain ⟨E, clock, h1, h2, hs⟩ := hm
  have hck := MapKept.run_checkKey (P := P) (w := w) (kt := kt) (d := .string) (k := .string (bs k)) hkt trivial false 9999
  rcases find_kv k E.toList kv 0 h2 with ⟨a1, a2, a3⟩ | ⟨j, e, b1, b2, b3, b4, b5⟩
  · have hf := MapKept.run_findKey (P := P) (w := w) hkt a2
    refine ⟨{ w with heap := w.heap.setIfInBounds b (.map (E.push { key := .string (bs k), val := v, born := clock }) (clock + 1)) }, ?_, keeps_setObj _ _ _, ?_⟩
    · simp [Instr.mapUpdate, run_underlying ht, MapKept.run_getObj_map h1, hck, hf, MapKept.run_setObj_map _ h1, Result.andThen]
    · exact ⟨_, _, (MapKept.heap_set h1).1, by rw [a3]; exact push_kv h2 rfl rfl, MapKept.stamped_push hs (find_none _ _ (kv_key h2) a2)⟩
  · have hf := MapKept.run_findKey (P := P) (w := w) hkt b4
    have hj : E[j]? = some e := by simpa using b1
    refine ⟨{ w with heap := w.heap.setIfInBounds b (.map (E.modify j fun e => { e with key := .string (bs k), val := v }) clock) }, ?_, keeps_setObj _ _ _, ?_⟩
    · simp [Instr.mapUpdate, run_underlying ht, MapKept.run_getObj_map h1, hck, hf, hj, b2, MapKept.run_keyThatStays (d := .string) (k := .string (bs k)) trivial, MapKept.run_setObj_map _ h1, Result.andThen]
    · exact ⟨_, _, (MapKept.heap_set h1).1, by rw [b5]; exact modify_kv h2 hj rfl rfl, MapKept.stamped_modify hs _ _ (fun _ _ => rfl) (fun e' _ he' => by rw [hj] at he'; cases he'; exact b2.symm)⟩
/-- m[k] = v -/
theorem l_mapUpdate (hS : St Γ l L D a w) (kk : Nat) (hx : ev l x = some (.map (some b))) (hy : ev l y = some (.string (bs k))) (hz : ev l z = some v) (hb : look L kk = some (Ob.smap b kv)) (ht : P.underlying t = some (.map kt et)) (hkt : P.underlying kt = some .string)
    (h : ∀ w', Keeps (fun x => x = b) w w' → St Γ l ((kk, Ob.smap b (mset kv k v)) :: L) D a w' → K a w') : Oper.wp P ⟨none, .mapUpdate t x y z, ty, pos, af, g⟩ a w K Q := by
  obtain ⟨w', h1, h2, h3⟩ := run_mapUpdate (P := P) (k := k) (v := v) (hS.wd.holds kk _ hb) ht hkt
  refine wp_skipped (w' := w') ?_ ?_
  · simp [execOp, hS.fr.eval hx, hS.fr.eval hy, hS.fr.eval hz, h1]
  · exact h _ h2 ⟨hS.fr, hS.wd.set hb h2 h3 (fun q hq => .inl hq)⟩
theorem l_insert (hS : St Γ l L D a w) (kk : Nat) (hx : ev l x = some (.map (some b))) (hy : ev l y = some (.string (bs k))) (hz : ev l z = some v) (hb : look L kk = some (Ob.smap b kv)) (ht : P.underlying t = some (.map kt et)) (hkt : P.underlying kt = some .string)
    (h : ∀ w', Keeps (fun x => x = b) w w' → St Γ l ((kk, Ob.smap b (mset kv k v)) :: L) D a w' → K a w') : Oper.wp P ⟨none, .insert t x y z, ty, pos, af, g⟩ a w K Q := by
  obtain ⟨w', h1, h2, h3⟩ := run_mapUpdate (P := P) (k := k) (v := v) (hS.wd.holds kk _ hb) ht hkt
  refine wp_skipped (w' := w') ?_ ?_
  · simp [execOp, hS.fr.eval hx, hS.fr.eval hy, hS.fr.eval hz, h1]
  · exact h _ h2 ⟨hS.fr, hS.wd.set hb h2 h3 (fun q hq => .inl hq)⟩
/-! m[k] op= v: the entry is found once, its stamp names it -/
def isMapE (w : World) (b : Nat) (kv : List (List UInt8 × Value)) (k : List UInt8) (q : Nat) : Prop := ∃ (E : Array MapEntry) (clock : Nat), w.heap[b]? = some (.map E clock) ∧ E.toList.map (fun e => (e.key, e.val)) = kv.map (fun p => (Value.string (bs p.1), p.2)) ∧ MapKept.Stamped E clock ∧ ∃ e ∈ E.toList, e.key = .string (bs k) ∧ e.born = q
def Ob.smapE (b : Nat) (kv : List (List UInt8 × Value)) (k : List UInt8) (q : Nat) : Ob where
  ids := fun k => k = b
  holds := fun w => isMapE w b kv k q
  lt := fun h e => by obtain ⟨_, _, h, _⟩ := h; rw [e]; exact block_lt h
  keep := fun h hk => by obtain ⟨E, c, h1, h2⟩ := h; exact ⟨E, c, (hk b rfl).trans h1, h2⟩
theorem run_mapEntry {zv : Value} {w : World} (hm : isMap w b kv) (ht : P.underlying t = some (.map kt et)) (hkt : P.underlying kt = some .string) (hz : (P.info? et).bind (·.zero) = some zv) : ∃ (w' : World) (q : Nat), (Instr.mapEntry t (.map (some b)) (.string (bs k))).run P w = .ok (.tuple #[(mget kv k).getD zv, .int .i64 q]) w' ∧ Keeps (fun x => x = b) w w' ∧ isMapE w' b (mset kv k ((mget kv k).getD zv)) k q := by
  obtain ⟨E, clock, h1, h2, hs⟩ := hm
  obtain ⟨i, hi, hzi⟩ := Option.bind_eq_some_iff.1 hz
  have hck := MapKept.run_checkKey (P := P) (w := w) (kt := kt) (d := .string) (k := .string (bs k)) hkt trivial false 9999
  rcases find_kv k E.toList kv 0 h2 with ⟨a1, a2, a3⟩ | ⟨j, e, b1, b2, b3, b4, b5⟩
  · have hf := MapKept.run_findKey (P := P) (w := w) hkt a2
    refine ⟨{ w with heap := w.heap.setIfInBounds b (.map (E.push { key := .string (bs k), val := zv, born := clock }) (clock + 1)) }, clock, ?_, keeps_setObj _ _ _, ?_⟩
    · simp [Instr.mapEntry, run_underlying ht, MapKept.run_getObj_map h1, hck, hf, MapKept.run_setObj_map _ h1, Result.andThen, zeroValue, typeInfo, hi, hzi, a1, goInt]
    · exact ⟨_, _, (MapKept.heap_set h1).1, by rw [a3, a1]; exact push_kv h2 rfl rfl, MapKept.stamped_push hs (find_none _ _ (kv_key h2) a2), { key := .string (bs k), val := zv, born := clock }, by simp, rfl, rfl⟩
  · have hf := MapKept.run_findKey (P := P) (w := w) hkt b4
    have hj : E[j]? = some e := by simpa using b1
    refine ⟨{ w with heap := w.heap.setIfInBounds b (.map (E.modify j fun e => { e with key := .string (bs k) }) clock) }, e.born, ?_, keeps_setObj _ _ _, ?_⟩
    · simp [Instr.mapEntry, run_underlying ht, MapKept.run_getObj_map h1, hck, hf, hj, b2, b3, MapKept.run_keyThatStays (d := .string) (k := .string (bs k)) trivial, MapKept.run_setObj_map _ h1, Result.andThen, goInt]
    · refine ⟨_, _, (MapKept.heap_set h1).1, by rw [b5, b3]; exact modify_kv h2 hj rfl rfl, MapKept.stamped_modify hs _ _ (fun _ _ => rfl) (fun e' _ he' => by rw [hj] at he'; cases he'; exact b2.symm), { e with key := .string (bs k) }, ?_, rfl, rfl⟩
      apply List.mem_of_getElem? (i := j)
      rw [Array.getElem?_toList, Array.getElem?_modify, if_pos rfl, hj]
      rfl
theorem l_mapEntry {zv : Value} (hS : St Γ l L D a w) (kk : Nat) (hx : ev l x = some (.map (some b))) (hy : ev l y = some (.string (bs k))) (hb : look L kk = some (Ob.smap b kv)) (ht : P.underlying t = some (.map kt et)) (hkt : P.underlying kt = some .string) (hz : (P.info? et).bind (·.zero) = some zv) (hd : Nat.blt d Γ.N = true)
    (h : ∀ q a' w', Keeps (fun x => x = b) w w' → St Γ ((d, .tuple #[(mget kv k).getD zv, .int .i64 (Int.ofNat q)]) :: l) ((kk, Ob.smapE b (mset kv k ((mget kv k).getD zv)) k q) :: L) D a' w' → K a' w') : Oper.wp P ⟨some d, .mapEntry t x y, ty, pos, af, g⟩ a w K Q := by
  obtain ⟨w', q, h1, h2, h3⟩ := run_mapEntry (P := P) (k := k) (hS.wd.holds kk _ hb) ht hkt hz
  refine wp_value (v := .tuple #[(mget kv k).getD zv, .int .i64 q]) (w' := w') ?_ ?_
  · simp [execOp, hS.fr.eval hx, hS.fr.eval hy, h1]
  · exact h q _ _ h2 ⟨hS.fr.put hd, hS.wd.set hb h2 h3 (fun q hq => .inl hq)⟩
theorem run_entryStore {w : World} {q : Nat} (hm : isMapE w b kv k q) : ∃ w', (Instr.entryStore t (.map (some b)) (.int .i64 q) v).run P w = .ok () w' ∧ Keeps (fun x => x = b) w w' ∧ isMap w' b (mset kv k v) := by
  obtain ⟨E, clock, h1, h2, hs, e, he, hk, hq⟩ := hm
  obtain ⟨j, hj⟩ := List.getElem?_of_mem he
  have hj' : E[j]? = some e := by simpa using hj
  have hlt : j < E.size := (Array.getElem?_eq_some_iff.1 hj').1
  have huniq : ∀ (i : Nat) (e' : MapEntry), E[i]? = some e' → e'.born = q → i = j := fun i e' hi hb => by
    have hn := hs.2.1
    have hi' : E.toList[i]? = some e' := by simpa using hi
    have h3 : (E.toList.map (·.born))[i]? = some q := by rw [List.getElem?_map, hi']; simp [hb]
    have h4 : (E.toList.map (·.born))[j]? = some q := by rw [List.getElem?_map, hj]; simp [hq]
    exact (List.getElem?_inj (by simpa using (Array.getElem?_eq_some_iff.1 hi).1) hn).1 (h3.trans h4.symm)
  have hf : E.findIdx? (fun e => (e.born : Int) == (q : Int)) = some j := by
    rw [Array.findIdx?_eq_some_iff_getElem]
    refine ⟨hlt, ?_, fun i hi => ?_⟩
    · rw [(Array.getElem?_eq_some_iff.1 hj').2, hq]
      simp
    · have hiE : i < E.size := Nat.lt_trans hi hlt
      have := huniq i E[i] (Array.getElem?_eq_getElem hiE)
      intro hb
      have h5 : (E[i].born : Int) = (q : Int) := by simpa using hb
      have := this (by omega)
      omega
  refine ⟨{ w with heap := w.heap.setIfInBounds b (.map (E.modify j fun e => { e with val := v }) clock) }, ?_, keeps_setObj _ _ _, ?_⟩
  · simp [Instr.entryStore, MapKept.run_getObj_map h1, asInt, asIntOf, hf, MapKept.run_setObj_map _ h1, Result.andThen]
  · refine ⟨_, _, (MapKept.heap_set h1).1, ?_, MapKept.stamped_modify hs _ _ (fun _ _ => rfl) (fun _ _ _ => rfl)⟩
    rcases find_kv k E.toList kv 0 h2 with ⟨a1, a2, a3⟩ | ⟨j', e', b1, b2, b3, b4, b5⟩
    · exact absurd hk (find_none _ _ (kv_key h2) a2 e he)
    · have hjj : j' = j := by
        have hn := hs.2.2
        have h3 : (E.toList.map (·.key))[j']? = some (.string (bs k)) := by rw [List.getElem?_map, b1]; simp [b2]
        have h4 : (E.toList.map (·.key))[j]? = some (.string (bs k)) := by rw [List.getElem?_map, hj]; simp [hk]
        exact (List.getElem?_inj (by simpa using (List.getElem?_eq_some_iff.1 b1).1) hn).1 (h3.trans h4.symm)
      subst hjj
      rw [b5]
      exact modify_kv h2 hj' hk rfl
theorem l_entryStore {q : Nat} (hS : St Γ l L D a w) (kk : Nat) (hx : ev l x = some (.map (some b))) (hy : ev l y = some (.int .i64 (Int.ofNat q))) (hz : ev l z = some v) (hb : look L kk = some (Ob.smapE b kv k q))
    (h : ∀ w', Keeps (fun x => x = b) w w' → St Γ l ((kk, Ob.smap b (mset kv k v)) :: L) D a w' → K a w') : Oper.wp P ⟨none, .entryStore t x y z, ty, pos, af, g⟩ a w K Q := by
  obtain ⟨w', h1, h2, h3⟩ := run_entryStore (P := P) (t := t) (k := k) (v := v) (hS.wd.holds kk _ hb)
  refine wp_skipped (w' := w') ?_ ?_
  · simp [execOp, hS.fr.eval hx, hS.fr.eval hy, hS.fr.eval hz, h1]
  · exact h _ h2 ⟨hS.fr, hS.wd.set hb h2 h3 (fun q hq => .inl hq)⟩
theorem St.freezeMap {L' : Al Ob} (hS : St Γ l L D a w) (j kk : Nat) (hb : look L kk = some (Ob.smap b kv)) (hL : SubA L' L) (hk : look L' kk = none) : St Γ l L' ((j, mapF b kv) :: D) a w := by
  have h1 := hS.wd.subL hL
  refine ⟨hS.fr, h1.add j _ ⟨fun hm => ?_, hS.wd.holds kk _ hb⟩⟩
  rcases hm with hm | ⟨k', o', hk', hi'⟩
  · exact hS.wd.sep b ⟨kk, _, hb, rfl⟩ hm
  · have := hS.wd.apart kk k' _ o' b hb (hL.look hk') rfl hi'
    subst this
    rw [hk] at hk'
    cases hk'
end
end Go.Gl
