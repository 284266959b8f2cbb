/- Own lemmas, twenty-fifth part: maps as data, and maps whose rows are the call's own. -/
import Derived.Test.YtoeolfnjblibpaaGl24
namespace Go.Gl
open Go.RowKit
set_option linter.unusedVariables false
set_option linter.unusedSimpArgs false
/-- a map that is no longer written, its values read by R (one cell each) -/
def MapR {α : Type} (R : Rep α) (M : Bs) (w : World) (b : Nat) (kv : List (List UInt8 × α)) : Prop :=
  ∃ kvV : List (List UInt8 × Value), (mapF b kvV).p M w ∧ kvV.length = kv.length ∧ ∀ (i : Nat) (p : List UInt8 × α), kv[i]? = some p → ∃ v, kvV[i]? = some (p.1, v) ∧ R.rd M w [v] p.2
def Rep.smap {α : Type} (R : Rep α) : Rep (List (List UInt8 × α)) where
  size := 1
  rd := fun M w cs kv => ∃ b, cs = [.map (some b)] ∧ MapR R M w b kv
  len := fun ⟨b, h, _⟩ => by rw [h]; rfl
  one := fun ⟨b, h, _⟩ v hv => by rw [h] at hv; simp at hv; subst hv; rfl
  keep := fun hk ⟨b, h, kvV, h1, h2, h3⟩ => ⟨b, h, kvV, (mapF b kvV).keep hk h1, h2, fun i p hp => by
    obtain ⟨v, h4, h5⟩ := h3 i p hp
    exact ⟨v, h4, R.keep hk h5⟩⟩
  change := fun hk ⟨b, h, kvV, h1, h2, h3⟩ => ⟨b, h, kvV, (mapF b kvV).change hk h1, h2, fun i p hp => by
    obtain ⟨v, h4, h5⟩ := h3 i p hp
    exact ⟨v, h4, R.change hk h5⟩⟩
def mapRF {α : Type} (R : Rep α) (b : Nat) (kv : List (List UInt8 × α)) : Fact := ⟨fun M w => MapR R M w b kv,
  fun hk ⟨kvV, h1, h2, h3⟩ => ⟨kvV, (mapF b kvV).keep hk h1, h2, fun i p hp => by
    obtain ⟨v, h4, h5⟩ := h3 i p hp
    exact ⟨v, h4, R.keep hk h5⟩⟩,
  fun hk ⟨kvV, h1, h2, h3⟩ => ⟨kvV, (mapF b kvV).change hk h1, h2, fun i p hp => by
    obtain ⟨v, h4, h5⟩ := h3 i p hp
    exact ⟨v, h4, R.change hk h5⟩⟩⟩
/-- the values agree one by one -/
def KvRel {β α : Type} (rel : β → α → Prop) (kb : List (List UInt8 × β)) (ka : List (List UInt8 × α)) : Prop := kb.length = ka.length ∧ ∀ (i : Nat) (p : List UInt8 × α), ka[i]? = some p → ∃ v, kb[i]? = some (p.1, v) ∧ rel v p.2
section
variable {β α : Type} {rel rel' : β → α → Prop} {kb : List (List UInt8 × β)} {ka : List (List UInt8 × α)} {k : List UInt8}
theorem KvRel.nil : KvRel rel [] [] := ⟨rfl, fun i p h => by simp at h⟩
theorem KvRel.mono (hm : ∀ v x, rel v x → rel' v x) (h : KvRel rel kb ka) : KvRel rel' kb ka := ⟨h.1, fun i p hp => by
  obtain ⟨v, h4, h5⟩ := h.2 i p hp
  exact ⟨v, h4, hm _ _ h5⟩⟩
theorem KvRel.cons {j : List UInt8} {v : β} {x : α} {r : List (List UInt8 × β)} {s : List (List UInt8 × α)} (h1 : rel v x) (h2 : KvRel rel r s) : KvRel rel ((j, v) :: r) ((j, x) :: s) := ⟨by simp [h2.1], fun i p hp => by
  cases i with
  | zero => simp at hp; subst hp; exact ⟨v, rfl, h1⟩
  | succ i => exact h2.2 i p (by simpa using hp)⟩
theorem KvRel.uncons {q : List UInt8 × β} {p : List UInt8 × α} {r : List (List UInt8 × β)} {s : List (List UInt8 × α)} (h : KvRel rel (q :: r) (p :: s)) : q.1 = p.1 ∧ rel q.2 p.2 ∧ KvRel rel r s := by
  obtain ⟨v, h1, h2⟩ := h.2 0 p rfl
  simp at h1
  subst h1
  exact ⟨rfl, h2, by simpa using h.1, fun i p' hp => h.2 (i + 1) p' (by simpa using hp)⟩
theorem KvRel.set {v : β} {x : α} (h1 : rel v x) : ∀ {kb : List (List UInt8 × β)} {ka : List (List UInt8 × α)}, KvRel rel kb ka → KvRel rel (mset kb k v) (mset ka k x)
  | [], [], _ => KvRel.cons h1 KvRel.nil
  | [], _ :: _, h => by have := h.1; simp at this
  | _ :: _, [], h => by have := h.1; simp at this
  | (j, u) :: r, (j', y) :: s, h => by
    obtain ⟨e, h2, h3⟩ := h.uncons
    have e : j = j' := e
    subst e
    show KvRel rel (if k = j then (k, v) :: r else (j, u) :: mset r k v) (if k = j then (k, x) :: s else (j, y) :: mset s k x)
    split
    · exact KvRel.cons h1 h3
    · exact KvRel.cons h2 (KvRel.set h1 h3)
theorem KvRel.get : ∀ {kb : List (List UInt8 × β)} {ka : List (List UInt8 × α)}, KvRel rel kb ka → (mget kb k = none ∧ mget ka k = none) ∨ ∃ v x, mget kb k = some v ∧ mget ka k = some x ∧ rel v x
  | [], [], _ => .inl ⟨rfl, rfl⟩
  | [], _ :: _, h => by have := h.1; simp at this
  | _ :: _, [], h => by have := h.1; simp at this
  | (j, u) :: r, (j', y) :: s, h => by
    obtain ⟨e, h2, h3⟩ := h.uncons
    have e : j = j' := e
    subst e
    show ((if k = j then some u else mget r k) = none ∧ (if k = j then some y else mget s k) = none) ∨ ∃ v x, (if k = j then some u else mget r k) = some v ∧ (if k = j then some y else mget s k) = some x ∧ rel v x
    split
    · exact .inr ⟨u, y, rfl, rfl, h2⟩
    · exact KvRel.get h3
theorem KvRel.isSome (h : KvRel rel kb ka) : (mget kb k).isSome = (mget ka k).isSome := by
  rcases h.get (k := k) with ⟨h1, h2⟩ | ⟨v, x, h1, h2, _⟩ <;> rw [h1, h2] <;> rfl
/-- with a value for the keys that are not there -/
theorem KvRel.getD {z : β} {zx : α} (h : KvRel rel kb ka) (hz : rel z zx) : rel ((mget kb k).getD z) ((mget ka k).getD zx) := by
  rcases h.get (k := k) with ⟨h1, h2⟩ | ⟨v, x, h1, h2, h3⟩ <;> rw [h1, h2]
  · exact hz
  · exact h3
end
abbrev KvR {α : Type} (R : Rep α) (M : Bs) (w : World) (kvV : List (List UInt8 × Value)) (kv : List (List UInt8 × α)) : Prop := KvRel (fun v x => R.rd M w [v] x) kvV kv
theorem KvR.change {α : Type} {R : Rep α} {M M' : Bs} {w : World} {kvV : List (List UInt8 × Value)} {kv : List (List UInt8 × α)} (hk : ∀ b, b < w.heap.size → M' b → M b) (h : KvR R M w kvV kv) : KvR R M' w kvV kv := h.mono fun _ _ => R.change hk
theorem KvR.keep {α : Type} {R : Rep α} {M : Bs} {w w' : World} {kvV : List (List UInt8 × Value)} {kv : List (List UInt8 × α)} (hk : Keeps M w w') (h : KvR R M w kvV kv) : KvR R M w' kvV kv := h.mono fun _ _ => R.keep hk
def kvF {α : Type} (R : Rep α) (kvV : List (List UInt8 × Value)) (kv : List (List UInt8 × α)) : Fact := ⟨fun M w => KvR R M w kvV kv, fun hk h => KvR.keep hk h, fun hk h => KvR.change hk h⟩
section
variable {α : Type} {R : Rep α} {Γ : Ctx} {l : Al Value} {L L1 L' : Al Ob} {D : Al Fact} {a : Act} {w : World} {P : Program} {Q : Exit → Act → World → Prop} {K : Act → World → Prop} {x y z : Operand} {d : Nat} {dx : Option Tmp} {t kt et ty : TypeId} {pos : String} {af : Array Edge} {g : Option (Nat × Bool)} {v : Value} {b kk : Nat} {kv : List (List UInt8 × α)} {kvV : List (List UInt8 × Value)} {k : List UInt8}
theorem St.freezeMapR (hS : St Γ l L D a w) (j kk : Nat) (hb : look L kk = some (Ob.smap b kvV)) (hr : KvR R (mtb Γ L) w kvV kv) (hL : SubA L' L) (hk : look L' kk = none) : St Γ l L' ((j, mapRF R b kv) :: D) a w := by
  have h1 := hS.freezeMap j kk hb hL hk
  refine ⟨hS.fr, (hS.wd.subL hL).add j _ ⟨kvV, h1.wd.facts j _ (look_same _ _ _), hr.1, (hr.change fun b _ hb => mtb_sub hL hb).2⟩⟩
/-- out of the call: at a return -/
theorem St.mapOut (hS : St Γ l L D a w) (hb : look L kk = some (Ob.smap b kvV)) (hr : KvR R (mtb Γ L) w kvV kv) : MapR R Γ.M0 w b kv :=
  ⟨kvV, ⟨hS.wd.sep b ⟨kk, _, hb, rfl⟩, hS.wd.holds kk _ hb⟩, hr.1, (hr.change fun b _ hb => .inl hb).2⟩
end
/-! ### maps whose rows are the call's own -/
structure Rw where
  A : Option Addr
  n : Nat
  c : Nat
  cs : List Value
def Rw.nil : Rw := ⟨none, 0, 0, []⟩
def Rw.v (r : Rw) : Value := .slice r.A r.n r.c
def Rw.ob (r : Rw) (e : TypeId) (sz : Nat) : Ob := Ob.row r.A r.n r.c e sz r.cs
theorem mget_mem {α : Type} {k : List UInt8} {x : α} : ∀ {kv : List (List UInt8 × α)}, mget kv k = some x → (k, x) ∈ kv
  | [], h => by cases h
  | (j, y) :: r, h => by
    have h : (if k = j then some y else mget r k) = some x := h
    split at h
    · rename_i e
      cases h
      subst e
      exact .head _
    · exact .tail _ (mget_mem h)
theorem mset_mem {α : Type} {k : List UInt8} {x : α} {p : List UInt8 × α} : ∀ {kv : List (List UInt8 × α)}, (kv.map (·.1)).Nodup → p ∈ mset kv k x → (p = (k, x)) ∨ (p ∈ kv ∧ p.1 ≠ k)
  | [], _, h => by
    have h : p ∈ [(k, x)] := h
    exact .inl (by simpa using h)
  | (j, y) :: r, hn, h => by
    replace h : p ∈ (if k = j then (k, x) :: r else (j, y) :: mset r k x) := h
    simp only [List.map_cons, List.nodup_cons] at hn
    split at h
    · rename_i e
      subst e
      rcases List.mem_cons.1 h with h | h
      · exact .inl h
      · exact .inr ⟨.tail _ h, fun e => hn.1 (e ▸ List.mem_map.2 ⟨p, h, rfl⟩)⟩
    · rename_i e
      rcases List.mem_cons.1 h with h | h
      · subst h
        exact .inr ⟨.head _, fun q => e q.symm⟩
      · rcases mset_mem hn.2 h with h | ⟨h, h'⟩
        · exact .inl h
        · exact .inr ⟨.tail _ h, h'⟩
theorem mset_keys {α : Type} {k : List UInt8} {x : α} : ∀ {kv : List (List UInt8 × α)} {j : List UInt8}, j ∈ (mset kv k x).map (·.1) → j = k ∨ j ∈ kv.map (·.1)
  | [], j, h => by
    have h : j ∈ [k] := h
    exact .inl (by simpa using h)
  | (i, y) :: r, j, h => by
    replace h : j ∈ (if k = i then (k, x) :: r else (i, y) :: mset r k x).map (·.1) := h
    split at h
    · rename_i e
      subst e
      exact .inr h
    · rcases List.mem_cons.1 h with h | h
      · exact .inr (h ▸ .head _)
      · exact (mset_keys h).imp id fun h => .tail _ h
theorem mset_nodup {α : Type} {k : List UInt8} {x : α} : ∀ {kv : List (List UInt8 × α)}, (kv.map (·.1)).Nodup → ((mset kv k x).map (·.1)).Nodup
  | [], _ => by
    show ([k] : List (List UInt8)).Nodup
    simp
  | (j, y) :: r, hn => by
    have hn' := hn
    simp only [List.map_cons, List.nodup_cons] at hn
    show ((if k = j then (k, x) :: r else (j, y) :: mset r k x).map (·.1)).Nodup
    split
    · rename_i e
      subst e
      exact hn'
    · rename_i e
      rw [List.map_cons, List.nodup_cons]
      refine ⟨fun h => ?_, mset_nodup hn.2⟩
      rcases mset_keys h with h | h
      · exact e h.symm
      · exact hn.1 h
/-- the map and all its rows, but for the one at the key 'h' -/
def Ob.mrows (b : Nat) (e : TypeId) (sz : Nat) (kv : List (List UInt8 × Rw)) (h : Option (List UInt8)) : Ob where
  ids := fun q => q = b ∨ ∃ p ∈ kv, some p.1 ≠ h ∧ (p.2.ob e sz).ids q
  holds := fun w => isMap w b (mval Rw.v kv) ∧ (kv.map (·.1)).Nodup ∧ (∀ p ∈ kv, some p.1 ≠ h → (p.2.ob e sz).holds w ∧ ¬ (p.2.ob e sz).ids b) ∧ ∀ p ∈ kv, ∀ p' ∈ kv, some p.1 ≠ h → some p'.1 ≠ h → ∀ q, (p.2.ob e sz).ids q → (p'.2.ob e sz).ids q → p.1 = p'.1
  lt := fun {w q} hh hq => by
    rcases hq with rfl | ⟨p, hp, hne, hi⟩
    · obtain ⟨_, _, h1, _⟩ := hh.1
      exact block_lt h1
    · exact (p.2.ob e sz).lt (hh.2.2.1 p hp hne).1 hi
  keep := fun {w w'} hh hk => by
    refine ⟨?_, hh.2.1, fun p hp hne => ⟨(p.2.ob e sz).keep (hh.2.2.1 p hp hne).1 fun q hq => hk q (.inr ⟨p, hp, hne, hq⟩), (hh.2.2.1 p hp hne).2⟩, hh.2.2.2⟩
    obtain ⟨E, c, h1, h2⟩ := hh.1
    exact ⟨E, c, (hk b (.inl rfl)).trans h1, h2⟩
section
variable {Γ : Ctx} {l : Al Value} {L L1 L' : Al Ob} {D : Al Fact} {a : Act} {w : World} {P : Program} {Q : Exit → Act → World → Prop} {K : Act → World → Prop} {x y z : Operand} {d : Nat} {dx : Option Tmp} {t kt et ty e : TypeId} {pos : String} {af : Array Edge} {g : Option (Nat × Bool)} {v : Value} {b kk kr sz : Nat} {kv : List (List UInt8 × Rw)} {k : List UInt8} {hole : Option (List UInt8)}
theorem nil_holds (w : World) : (Rw.nil.ob e sz).holds w := ⟨by simp [Rw.nil], .inl ⟨rfl, rfl⟩⟩
theorem l_makeRows {r : Option Operand} {n : Int} (hS : St Γ l L D a w) (key : Nat) (e : TypeId) (sz : Nat) (ht : P.underlying t = some (.map kt et)) (hr : r.map (ev l) = none ∨ r.map (ev l) = some (some (.int .i64 n))) (hk : look L key = none) (hd : Nat.blt d Γ.N = true)
    (h : ∀ b a' w', w.heap.size ≤ b → Keeps noB w w' → St Γ ((d, .map (some b)) :: l) ((key, Ob.mrows b e sz [] none) :: L) D a' w' → K a' w') : Oper.wp P ⟨some d, .makeMap t r, ty, pos, af, g⟩ a w K Q := by
  refine wp_value (v := .map (some w.heap.size)) (w' := w.alloc (.map #[] 0)) ?_ ?_
  · cases r with
    | none => simp [execOp, Instr.makeMap]
    | some o =>
      have ho : ev l o = some (.int .i64 n) := by
        rcases hr with h | h
        · simp at h
        · simpa using h
      simp [execOp, Instr.makeMap, hS.fr.eval ho, run_underlying ht, asInt, asIntOf, Result.andThen]
  · have he := ext_alloc hS (.map #[] 0)
    refine h w.heap.size _ _ (Nat.le_refl _) (Keeps.alloc _ _ _) ⟨hS.fr.put hd, hS.wd.new he hk ⟨⟨#[], 0, by rw [heap_new], rfl, MapKept.stamped_empty 0⟩, by simp, by simp, by simp⟩ (fun b hb => ?_)⟩
    rcases hb with hb | ⟨p, hp, _⟩
    · exact Nat.le_of_eq hb.symm
    · cases hp
theorem mget_rows : (mget (mval Rw.v kv) k).getD (.slice none 0 0) = ((mget kv k).getD Rw.nil).v := by
  rw [mget_val]
  cases mget kv k <;> rfl
theorem y_lookupRows (hS : St Γ l L D a w) (hx : ev l x = some (.map (some b))) (hy : ev l y = some (.string (bs k))) (hb : look L1 kk = some (Ob.mrows b e sz kv hole)) (ht : P.underlying t = some (.map kt et)) (hkt : P.underlying kt = some .string) (hz : (P.info? et).bind (·.zero) = some (.slice none 0 0)) :
    Yl P L L1 ⟨dx, .lookup t x y false, ty, pos, af, g⟩ a w ((mget kv k).getD Rw.nil).v := fun w' he => by
  have hm : isMap w' b (mval Rw.v kv) := (he.2 kk _ hb).1
  have := run_lookup (P := P) (k := k) hm ht hkt hz false
  simp only [Bool.false_eq_true, if_false, mget_rows] at this
  simp [execOp, hS.fr.eval hx, hS.fr.eval hy, this]
theorem y_lookupOkRows (hS : St Γ l L D a w) (hx : ev l x = some (.map (some b))) (hy : ev l y = some (.string (bs k))) (hb : look L1 kk = some (Ob.mrows b e sz kv hole)) (ht : P.underlying t = some (.map kt et)) (hkt : P.underlying kt = some .string) (hz : (P.info? et).bind (·.zero) = some (.slice none 0 0)) :
    Yl P L L1 ⟨dx, .lookup t x y true, ty, pos, af, g⟩ a w (.tuple #[((mget kv k).getD Rw.nil).v, .bool (mget kv k).isSome]) := fun w' he => by
  have hm : isMap w' b (mval Rw.v kv) := (he.2 kk _ hb).1
  have := run_lookup (P := P) (k := k) hm ht hkt hz true
  simp only [if_true, mget_rows, mget_val, Option.isSome_map] at this
  rw [← mget_val, mget_rows] at this
  simp [execOp, hS.fr.eval hx, hS.fr.eval hy, this]
/-- the row at a key is taken out of the map's object -/
theorem St.takeRow (hS : St Γ l L D a w) (k : List UInt8) (hb : look L kk = some (Ob.mrows b e sz kv none)) (hk : look L kr = none) : St Γ l ((kk, Ob.mrows b e sz kv (some k)) :: (kr, ((mget kv k).getD Rw.nil).ob e sz) :: L) D a w := by
  have hh := hS.wd.holds kk _ hb
  have hne : kk ≠ kr := fun e => by subst e; rw [hk] at hb; cases hb
  have hrow : ∀ q, (((mget kv k).getD Rw.nil).ob e sz).ids q → ∃ r, mget kv k = some r ∧ (r.ob e sz).ids q := fun q hq => by
    cases hg : mget kv k with
    | none =>
      rw [hg] at hq
      obtain ⟨p, hp, _⟩ := hq
      cases hp
    | some r => rw [hg] at hq; exact ⟨r, rfl, hq⟩
  have hid : ∀ q, (((mget kv k).getD Rw.nil).ob e sz).ids q → (Ob.mrows b e sz kv none).ids q := fun q hq => by
    obtain ⟨r, h1, h2⟩ := hrow q hq
    exact .inr ⟨(k, r), mget_mem h1, by simp, h2⟩
  have hsub : ∀ q, (Ob.mrows b e sz kv (some k)).ids q → (Ob.mrows b e sz kv none).ids q := fun q hq => by
    rcases hq with hq | ⟨p, hp, _, hi⟩
    · exact .inl hq
    · exact .inr ⟨p, hp, by simp, hi⟩
  have hdis : ∀ q, (Ob.mrows b e sz kv (some k)).ids q → (((mget kv k).getD Rw.nil).ob e sz).ids q → False := fun q h1 h2 => by
    obtain ⟨r, h3, h4⟩ := hrow q h2
    rcases h1 with rfl | ⟨p, hp, hn, hi⟩
    · exact (hh.2.2.1 (k, r) (mget_mem h3) (by simp)).2 h4
    · exact hn (congrArg some (hh.2.2.2 p hp (k, r) (mget_mem h3) (by simp) (by simp) q hi h4))
  have key : ∀ j o, look ((kk, Ob.mrows b e sz kv (some k)) :: (kr, ((mget kv k).getD Rw.nil).ob e sz) :: L) j = some o → (j = kk ∧ o = Ob.mrows b e sz kv (some k)) ∨ (j = kr ∧ o = ((mget kv k).getD Rw.nil).ob e sz) ∨ (j ≠ kk ∧ j ≠ kr ∧ look L j = some o) := fun j o hj => by
    rcases look_cons hj with ⟨h1, h2⟩ | ⟨h1, h2⟩
    · exact .inl ⟨h1.symm, h2.symm⟩
    · rcases look_cons h2 with ⟨h3, h4⟩ | ⟨h3, h4⟩
      · exact .inr (.inl ⟨h3.symm, h4.symm⟩)
      · exact .inr (.inr ⟨fun e => h1 e.symm, fun e => h3 e.symm, h4⟩)
  refine ⟨hS.fr, hS.wd.step (Keeps.refl _ _) (fun j o hj => ?_) (fun j j' o o' q h1 h2 i1 i2 => ?_) fun q hq => ?_⟩
  · rcases key j o hj with ⟨rfl, rfl⟩ | ⟨rfl, rfl⟩ | ⟨_, _, h⟩
    · exact ⟨hh.1, hh.2.1, fun p hp hn => hh.2.2.1 p hp (by simp), fun p hp p' hp' _ _ => hh.2.2.2 p hp p' hp' (by simp) (by simp)⟩
    · cases hg : mget kv k with
      | none => exact nil_holds w
      | some r => exact (hh.2.2.1 (k, r) (mget_mem hg) (by simp)).1
    · exact hS.wd.holds j o h
  · rcases key j o h1 with ⟨rfl, rfl⟩ | ⟨rfl, rfl⟩ | ⟨n1, n2, h⟩ <;> rcases key j' o' h2 with ⟨rfl, rfl⟩ | ⟨rfl, rfl⟩ | ⟨n1', n2', h'⟩
    · rfl
    · exact absurd i2 (hdis q i1)
    · exact absurd (hS.wd.apart _ _ _ _ q hb h' (hsub q i1) i2).symm n1'
    · exact absurd i1 (hdis q i2)
    · rfl
    · exact absurd (hS.wd.apart _ _ _ _ q hb h' (hid q i1) i2).symm n1'
    · exact absurd (hS.wd.apart _ _ _ _ q h hb i1 (hsub q i2)) n1
    · exact absurd (hS.wd.apart _ _ _ _ q h hb i1 (hid q i2)) n1
    · exact hS.wd.apart _ _ _ _ q h h' i1 i2
  · obtain ⟨j, o, hj, hi⟩ := hq
    rcases key j o hj with ⟨rfl, rfl⟩ | ⟨rfl, rfl⟩ | ⟨_, _, h⟩
    · exact .inl ⟨_, _, hb, hsub q hi⟩
    · exact .inl ⟨_, _, hb, hid q hi⟩
    · exact .inl ⟨_, _, h, hi⟩
/-- m[k] = row: the row goes into the map's object -/
theorem l_putRow {r : Rw} (hS : St Γ l L D a w) (kk kr : Nat) (hx : ev l x = some (.map (some b))) (hy : ev l y = some (.string (bs k))) (hz : ev l z = some r.v) (hb : look L kk = some (Ob.mrows b e sz kv (some k))) (hr : look L kr = some (r.ob e sz)) (hne : Nat.beq kk kr = false) (hL : SubA L' L) (hkr : look L' kr = none) (ht : P.underlying t = some (.map kt et)) (hkt : P.underlying kt = some .string)
    (h : ∀ w', Keeps (fun x => x = b) w w' → St Γ l ((kk, Ob.mrows b e sz (mset kv k r) none) :: L') D a w' → K a w') : Oper.wp P ⟨none, .mapUpdate t x y z, ty, pos, af, g⟩ a w K Q := by
  have hne : kk ≠ kr := fun e => by subst e; simp at hne
  have hh := hS.wd.holds kk _ hb
  obtain ⟨w', h1, h2, h3⟩ := run_mapUpdate (P := P) (k := k) (v := r.v) hh.1 ht hkt
  rw [mset_val] at h3
  refine wp_skipped (w' := w') ?_ ?_
  · simp [execOp, hS.fr.eval hx, hS.fr.eval hy, hS.fr.eval hz, h1]
  have hrb : ¬ (r.ob e sz).ids b := fun hi => hne (hS.wd.apart _ _ _ _ b hb hr (.inl rfl) hi)
  have hdis : ∀ p ∈ kv, p.1 ≠ k → ∀ q, (p.2.ob e sz).ids q → (r.ob e sz).ids q → False := fun p hp hn q i1 i2 =>
    hne (hS.wd.apart _ _ _ _ q hb hr (.inr ⟨p, hp, fun e => hn (Option.some.inj e), i1⟩) i2)
  have keep1 : ∀ (o : Ob), o.holds w → ¬ o.ids b → o.holds w' := fun o ho hn => o.keep ho fun q hq => h2.block q (o.lt ho hq) fun e => hn (e ▸ hq)
  have key : ∀ j o, look ((kk, Ob.mrows b e sz (mset kv k r) none) :: L') j = some o → (j = kk ∧ o = Ob.mrows b e sz (mset kv k r) none) ∨ (j ≠ kk ∧ j ≠ kr ∧ look L j = some o) := fun j o hj => by
    rcases look_cons hj with ⟨h1, h2⟩ | ⟨h1, h2⟩
    · exact .inl ⟨h1.symm, h2.symm⟩
    · exact .inr ⟨fun e => h1 e.symm, (fun e => by subst e; rw [hkr] at h2; cases h2), hL.look h2⟩
  have hids : ∀ q, (Ob.mrows b e sz (mset kv k r) none).ids q → (Ob.mrows b e sz kv (some k)).ids q ∨ (r.ob e sz).ids q := fun q hq => by
    rcases hq with hq | ⟨p, hp, _, hi⟩
    · exact .inl (.inl hq)
    · rcases mset_mem hh.2.1 hp with rfl | ⟨hp, hn⟩
      · exact .inr hi
      · exact .inl (.inr ⟨p, hp, fun e => hn (Option.some.inj e), hi⟩)
  refine h _ h2 ⟨hS.fr, hS.wd.step (h2.mono fun q _ hq => ⟨kk, _, hb, .inl hq⟩) (fun j o hj => ?_) (fun j j' o o' q h1 h2 i1 i2 => ?_) fun q hq => ?_⟩
  · rcases key j o hj with ⟨rfl, rfl⟩ | ⟨n1, n2, h⟩
    · refine ⟨h3, mset_nodup hh.2.1, fun p hp _ => ?_, fun p hp p' hp' _ _ q i1 i2 => ?_⟩
      · rcases mset_mem hh.2.1 hp with rfl | ⟨hp, hn⟩
        · exact ⟨keep1 _ (hS.wd.holds kr _ hr) hrb, hrb⟩
        · have := hh.2.2.1 p hp fun e => hn (Option.some.inj e)
          exact ⟨keep1 _ this.1 this.2, this.2⟩
      · rcases mset_mem hh.2.1 hp with rfl | ⟨hp, hn⟩ <;> rcases mset_mem hh.2.1 hp' with rfl | ⟨hp', hn'⟩
        · rfl
        · exact (hdis p' hp' hn' q i2 i1).elim
        · exact (hdis p hp hn q i1 i2).elim
        · exact hh.2.2.2 p hp p' hp' (fun e => hn (Option.some.inj e)) (fun e => hn' (Option.some.inj e)) q i1 i2
    · exact keep1 o (hS.wd.holds j o h) fun hi => n1 (hS.wd.apart _ _ _ _ b h hb hi (.inl rfl))
  · rcases key j o h1 with ⟨rfl, rfl⟩ | ⟨n1, n2, h4⟩ <;> rcases key j' o' h2 with ⟨rfl, rfl⟩ | ⟨n1', n2', h'⟩
    · rfl
    · rcases hids q i1 with i1 | i1
      · exact absurd (hS.wd.apart _ _ _ _ q hb h' i1 i2).symm n1'
      · exact absurd (hS.wd.apart _ _ _ _ q hr h' i1 i2).symm n2'
    · rcases hids q i2 with i2 | i2
      · exact absurd (hS.wd.apart _ _ _ _ q h4 hb i1 i2) n1
      · exact absurd (hS.wd.apart _ _ _ _ q h4 hr i1 i2) n2
    · exact hS.wd.apart _ _ _ _ q h4 h' i1 i2
  · obtain ⟨j, o, hj, hi⟩ := hq
    rcases key j o hj with ⟨rfl, rfl⟩ | ⟨_, _, h⟩
    · rcases hids q hi with hi | hi
      · exact .inl ⟨_, _, hb, hi⟩
      · exact .inl ⟨_, _, hr, hi⟩
    · exact .inl ⟨_, _, h, hi⟩
/-- the rows read by R -/
abbrev RowsR {α : Type} (R : Rep α) (M : Bs) (w : World) (kv : List (List UInt8 × Rw)) (kx : List (List UInt8 × List α)) : Prop := KvRel (fun r x => RdAll R M w r.cs x) kv kx
def rowsF {α : Type} (R : Rep α) (kv : List (List UInt8 × Rw)) (kx : List (List UInt8 × List α)) : Fact := ⟨fun M w => RowsR R M w kv kx, fun hk h => h.mono fun _ _ h => (⟨h.len, fun i x hx => R.keep hk (h.at_ i x hx)⟩), fun hk h => h.mono fun _ _ h => ⟨h.len, fun i x hx => R.change hk (h.at_ i x hx)⟩⟩
theorem mrows_slR {α : Type} {R : Rep α} {M : Bs} {kx : List (List UInt8 × List α)} (hh : (Ob.mrows b e R.size kv none).holds w) (hr : RowsR R M w kv kx) (hpos : Nat.blt 0 R.size = true) (hM : ∀ q, (Ob.mrows b e R.size kv none).ids q → ¬ M q) : MapR (Rep.list R) M w b kx := by
  refine ⟨mval Rw.v kv, ⟨hM b (.inl rfl), hh.1⟩, by rw [← hr.1]; exact List.length_map _, fun i p hp => ?_⟩
  obtain ⟨r, h1, h2⟩ := hr.2 i p hp
  have hm : (p.1, r) ∈ kv := List.mem_of_getElem? h1
  refine ⟨r.v, by simp [mval, h1], r.A, r.n, r.c, rfl, ?_⟩
  exact row_slR (hh.2.2.1 _ hm (by simp)).1 h2 (Nat.le_of_ble_eq_true hpos) fun q hi => hM q (.inr ⟨_, hm, by simp, hi⟩)
theorem St.freezeRows {α : Type} {R : Rep α} {kx : List (List UInt8 × List α)} (hS : St Γ l L D a w) (j kk : Nat) (hb : look L kk = some (Ob.mrows b e R.size kv none)) (hr : RowsR R (mtb Γ L) w kv kx) (hpos : Nat.blt 0 R.size = true) (hL : SubA L' L) (hk : look L' kk = none) : St Γ l L' ((j, mapRF (Rep.list R) b kx) :: D) a w := by
  refine ⟨hS.fr, (hS.wd.subL hL).add j _ (mrows_slR (hS.wd.holds kk _ hb) (hr.mono fun _ _ h => ⟨h.len, fun i x hx => R.change (fun b _ hb => mtb_sub hL hb) (h.at_ i x hx)⟩) hpos fun q hi hm => ?_)⟩
  rcases hm with hm | ⟨k', o', hk', hi'⟩
  · exact hS.wd.sep q ⟨kk, _, hb, hi⟩ hm
  · have := hS.wd.apart kk k' _ o' q hb (hL.look hk') hi hi'
    subst this
    rw [hk] at hk'
    cases hk'
/-! ### the forms that the generator uses -/
theorem mset_mset {α : Type} {k : List UInt8} {x y : α} : ∀ {kv : List (List UInt8 × α)}, mset (mset kv k x) k y = mset kv k y
  | [] => by
    show (if k = k then [(k, y)] else _) = _
    rw [if_pos rfl]
    rfl
  | (j, z) :: r => by
    show mset (if k = j then (k, x) :: r else (j, z) :: mset r k x) k y = if k = j then (k, y) :: r else (j, z) :: mset r k y
    split
    · show (if k = k then (k, y) :: r else _) = _
      rw [if_pos rfl]
    · rename_i h
      show (if k = j then _ else (j, z) :: mset (mset r k x) k y) = _
      rw [if_neg h, mset_mset]
section
variable {α : Type} {R : Rep α} {M : Bs} {kvV : List (List UInt8 × Value)} {kx : List (List UInt8 × α)} {z u : Value} {zx ux : α} {kl : List (List UInt8 × List α)}
theorem mapRF_open (h : (mapRF R b kx).p M w) : ∃ kvV, (mapF b kvV).p M w ∧ (kvF R kvV kx).p M w := by
  obtain ⟨kvV, h1, h2, h3⟩ := h
  exact ⟨kvV, h1, h2, h3⟩
theorem kvF_getD (h : (kvF R kvV kx).p M w) (hz : R.rd M w [z] zx) : R.rd M w [(mget kvV k).getD z] ((mget kx k).getD zx) := KvRel.getD (rel := fun v x => R.rd M w [v] x) h hz
theorem kvF_isSome (h : (kvF R kvV kx).p M w) : (mget kvV k).isSome = (mget kx k).isSome := KvRel.isSome (rel := fun v x => R.rd M w [v] x) h
theorem kvF_set (h : (kvF R kvV kx).p M w) (hz : R.rd M w [u] ux) : (kvF R (mset kvV k u) (mset kx k ux)).p M w := KvRel.set (rel := fun v x => R.rd M w [v] x) hz h
theorem rowsF_isSome (h : (rowsF R kv kl).p M w) : (mget kv k).isSome = (mget kl k).isSome := KvRel.isSome (rel := fun (r : Rw) x => RdAll R M w r.cs x) h
theorem rowsF_set {r : Rw} {xs : List α} (h : (rowsF R kv kl).p M w) (hr : (rdF R r.cs xs).p M w) : (rowsF R (mset kv k r) (mset kl k xs)).p M w := KvRel.set (rel := fun (r : Rw) x => RdAll R M w r.cs x) hr h
theorem y_lookupV {kvv : List (List UInt8 × Value)} {zv : Value} (hS : St Γ l L D a w) (hx : ev l x = some (.map (some b))) (hy : ev l y = some (.string (bs k))) (hb : look L1 kk = some (Ob.smap b kvv)) (ht : P.underlying t = some (.map kt et)) (hkt : P.underlying kt = some .string) (hz : (P.info? et).bind (·.zero) = some zv) (hv : [(mget kvv k).getD zv] = [v]) :
    Yl P L L1 ⟨dx, .lookup t x y false, ty, pos, af, g⟩ a w v := by
  injection hv with hv _
  subst hv
  exact y_lookup hS hx hy hb ht hkt hz
theorem y_lookupOkV {kvv : List (List UInt8 × Value)} {zv : Value} {ok : Bool} (hS : St Γ l L D a w) (hx : ev l x = some (.map (some b))) (hy : ev l y = some (.string (bs k))) (hb : look L1 kk = some (Ob.smap b kvv)) (ht : P.underlying t = some (.map kt et)) (hkt : P.underlying kt = some .string) (hz : (P.info? et).bind (·.zero) = some zv) (hv : [(mget kvv k).getD zv] = [v]) (ho : (mget kvv k).isSome = ok) :
    Yl P L L1 ⟨dx, .lookup t x y true, ty, pos, af, g⟩ a w (.tuple #[v, .bool ok]) := by
  injection hv with hv _
  subst hv; subst ho
  exact y_lookupOk hS hx hy hb ht hkt hz
theorem y_lookupFV {kvv : List (List UInt8 × Value)} {zv : Value} (hS : St Γ l L D a w) (hx : ev l x = some (.map (some b))) (hy : ev l y = some (.string (bs k))) (hf : (mapF b kvv).p (mtb Γ L) w) (ht : P.underlying t = some (.map kt et)) (hkt : P.underlying kt = some .string) (hz : (P.info? et).bind (·.zero) = some zv) (hv : [(mget kvv k).getD zv] = [v]) :
    Yl P L L1 ⟨dx, .lookup t x y false, ty, pos, af, g⟩ a w v := by
  injection hv with hv _
  subst hv
  exact y_lookupF hS hx hy hf ht hkt hz
theorem y_lookupOkFV {kvv : List (List UInt8 × Value)} {zv : Value} {ok : Bool} (hS : St Γ l L D a w) (hx : ev l x = some (.map (some b))) (hy : ev l y = some (.string (bs k))) (hf : (mapF b kvv).p (mtb Γ L) w) (ht : P.underlying t = some (.map kt et)) (hkt : P.underlying kt = some .string) (hz : (P.info? et).bind (·.zero) = some zv) (hv : [(mget kvv k).getD zv] = [v]) (ho : (mget kvv k).isSome = ok) :
    Yl P L L1 ⟨dx, .lookup t x y true, ty, pos, af, g⟩ a w (.tuple #[v, .bool ok]) := by
  injection hv with hv _
  subst hv; subst ho
  exact y_lookupOkF hS hx hy hf ht hkt hz
theorem y_lookupRowsV {A : Option Addr} {n c : Nat} {cs : List Value} (hS : St Γ l L D a w) (hx : ev l x = some (.map (some b))) (hy : ev l y = some (.string (bs k))) (hb : look L1 kk = some (Ob.mrows b e sz kv hole)) (ht : P.underlying t = some (.map kt et)) (hkt : P.underlying kt = some .string) (hz : (P.info? et).bind (·.zero) = some (.slice none 0 0)) (hv : (mget kv k).getD Rw.nil = ⟨A, n, c, cs⟩) :
    Yl P L L1 ⟨dx, .lookup t x y false, ty, pos, af, g⟩ a w (.slice A n c) := by
  have := y_lookupRows (dx := dx) (ty := ty) (pos := pos) (af := af) (g := g) hS hx hy hb ht hkt hz
  rw [hv] at this
  exact this
theorem y_lookupOkRows' {ok : Bool} (hS : St Γ l L D a w) (hx : ev l x = some (.map (some b))) (hy : ev l y = some (.string (bs k))) (hb : look L1 kk = some (Ob.mrows b e sz kv hole)) (ht : P.underlying t = some (.map kt et)) (hkt : P.underlying kt = some .string) (hz : (P.info? et).bind (·.zero) = some (.slice none 0 0)) (ho : (mget kv k).isSome = ok) :
    Yl P L L1 ⟨dx, .lookup t x y true, ty, pos, af, g⟩ a w (.tuple #[((mget kv k).getD Rw.nil).v, .bool ok]) := by
  subst ho
  exact y_lookupOkRows hS hx hy hb ht hkt hz
theorem St.takeRowX (hS : St Γ l L D a w) (k : List UInt8) (hb : look L kk = some (Ob.mrows b e R.size kv none)) (hk : look L kr = none) (hr : (rowsF R kv kl).p (mtb Γ L) w) (hpos : Nat.blt 0 R.size = true) : ∃ A c cs, (mget kv k).getD Rw.nil = ⟨A, ((mget kl k).getD []).length, c, cs⟩ ∧
    RdAll R (mtb Γ ((kk, Ob.mrows b e R.size kv (some k)) :: (kr, Ob.row A ((mget kl k).getD []).length c e R.size cs) :: L)) w cs ((mget kl k).getD []) ∧ St Γ l ((kk, Ob.mrows b e R.size kv (some k)) :: (kr, Ob.row A ((mget kl k).getD []).length c e R.size cs) :: L) D a w := by
  have h1 := hS.takeRow (kr := kr) k hb hk
  have h2 : RdAll R (mtb Γ L) w ((mget kv k).getD Rw.nil).cs ((mget kl k).getD []) := KvRel.getD (rel := fun (r : Rw) x => RdAll R (mtb Γ L) w r.cs x) hr (RdAll.nil _ _ _)
  have h3 : ((mget kv k).getD Rw.nil).n = ((mget kl k).getD []).length := by
    have h4 := h1.wd.holds kr _ (by
      have hne : kk ≠ kr := fun e => by subst e; rw [hk] at hb; cases hb
      rw [look_other hne]; exact look_same _ _ _)
    have h5 := (row_slR (R := R) h4 ⟨h2.len, fun i x hx => R.change (M' := noB) (fun b _ hb => hb.elim) (h2.at_ i x hx)⟩ (Nat.le_of_ble_eq_true hpos) (fun b _ hb => hb.elim)).len
    exact h5.symm
  generalize hq : (mget kv k).getD Rw.nil = q at h1 h2 h3
  obtain ⟨A, n, c, cs⟩ := q
  subst h3
  refine ⟨A, c, cs, rfl, ⟨h2.len, fun i x hx => R.change (fun b' hlt hm => ?_) (h2.at_ i x hx)⟩, h1⟩
  rcases hm with hm | ⟨j, o, hj, hi⟩
  · exact .inl hm
  · rcases look_cons hj with ⟨h4, h5⟩ | ⟨h4, h5⟩
    · subst h5
      refine .inr ⟨kk, _, hb, ?_⟩
      rcases hi with hi | ⟨p, hp, _, hi⟩
      · exact .inl hi
      · exact .inr ⟨p, hp, by simp, hi⟩
    · rcases look_cons h5 with ⟨h6, h7⟩ | ⟨h6, h7⟩
      · subst h7
        refine .inr ⟨kk, _, hb, ?_⟩
        cases hg : mget kv k with
        | none =>
          rw [hg] at hq
          have hq : Rw.nil = _ := hq
          injection hq with hA
          obtain ⟨p, hp, _⟩ := hi
          rw [← hA] at hp
          cases hp
        | some r =>
          rw [hg] at hq
          have hq : r = _ := hq
          exact .inr ⟨(k, r), mget_mem hg, by simp, by rw [hq]; exact hi⟩
      · exact .inr ⟨j, o, h7, hi⟩
theorem l_mapEntryV {kvv : List (List UInt8 × Value)} {zv : Value} (hS : St Γ l L D a w) (kk : Nat) (hx : ev l x = some (.map (some b))) (hy : ev l y = some (.string (bs k))) (hb : look L kk = some (Ob.smap b kvv)) (ht : P.underlying t = some (.map kt et)) (hkt : P.underlying kt = some .string) (hz : (P.info? et).bind (·.zero) = some zv) (hv : [(mget kvv k).getD zv] = [v]) (hd : Nat.blt d Γ.N = true)
    (h : ∀ q a' w', Keeps (fun x => x = b) w w' → St Γ ((d, .tuple #[v, .int .i64 (Int.ofNat q)]) :: l) ((kk, Ob.smapE b (mset kvv k v) k q) :: L) D a' w' → K a' w') : Oper.wp P ⟨some d, .mapEntry t x y, ty, pos, af, g⟩ a w K Q := by
  injection hv with hv _
  subst hv
  exact l_mapEntry hS kk hx hy hb ht hkt hz hd h
theorem l_entryStoreV {z' : Operand} {kv : List (List UInt8 × Value)} {v0 : Value} {q : Nat} (hS : St Γ l L D a w) (kk : Nat) (hx : ev l x = some (.map (some b))) (hy : ev l y = some (.int .i64 (Int.ofNat q))) (hz : ev l z' = some v) (hb : look L kk = some (Ob.smapE b (mset kv k v0) k q))
    (h : ∀ w', Keeps (fun x => x = b) w w' → St Γ l ((kk, Ob.smap b (mset kv k v)) :: L) D a w' → K a w') : Oper.wp P ⟨none, .entryStore t x y z', ty, pos, af, g⟩ a w K Q :=
  l_entryStore hS kk hx hy hz hb fun w' h1 h2 => h w' h1 (by rw [mset_mset] at h2; exact h2)
end
end
end Go.Gl
