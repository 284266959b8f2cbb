/- Own lemmas, twenty-fifth part: maps as data, and maps whose rows are the call's own. -/
import Derived.Test.YtbhjplflnkidgaaGreatGl24
namespace Go.Gl
open Go.RowKit
set_option linter.unusedVariables false
set_option linter.unusedSimpArgs false
def MapR {α : Type} (R : Rep α) (M : Bs) (w : World) (b : Nat) (kv : List (List UInt8 × α)) : Prop :=
  ∃ kvV : List (List UInt8 × Value), (mapF b kvV).p M w ∧ kvV.length = kv.length ∧ ∀ (i : Nat) (p : List UInt8 × α), kv[i]? = some p → ∃ v, kvV[i]? = some (p.1, v) ∧ R.rd M w [v] p.2
def Rep.smap {α : Type} (R : Rep α) : Rep (List (List UInt8 × α)) where
  size := 1
  rd := fun M w cs kv => ∃ b, cs = [.map (some b)] ∧ MapR R M w b kv
  len := fun ⟨b, h, _⟩ => by rw [h]; rfl
  one := fun ⟨b, h, _⟩ v hv => by rw [h] at hv; simp at hv; subst hv; rfl
  keep := fun hk ⟨b, h, kvV, h1, h2, h3⟩ => ⟨b, h, kvV, (mapF b kvV).keep hk h1, h2, fun i p hp => by
    obtain ⟨v, h4, h5⟩ := h3 i p hp
    exact ⟨v, h4, R.keep hk h5⟩⟩
  change := fun hk ⟨b, h, kvV, h1, h2, h3⟩ => ⟨b, h, kvV, (mapF b kvV).change hk h1, h2, fun i p hp => by
    obtain ⟨v, h4, h5⟩ := h3 i p hp
    exact ⟨v, h4, R.change hk h5⟩⟩
def mapRF {α : Type} (R : Rep α) (b : Nat) (kv : List (List UInt8 × α)) : Fact := ⟨fun M w => MapR R M w b kv,
  fun hk ⟨kvV, h1, h2, h3⟩ => ⟨kvV, (mapF b kvV).keep hk h1, h2, fun i p hp => by
    obtain ⟨v, h4, h5⟩ := h3 i p hp
    exact ⟨v, h4, R.keep hk h5⟩⟩,
  fun hk ⟨kvV, h1, h2, h3⟩ => ⟨kvV, (mapF b kvV).change hk h1, h2, fun i p hp => by
    obtain ⟨v, h4, h5⟩ := h3 i p hp
    exact ⟨v, h4, R.change hk h5⟩⟩⟩
def KvRel {β α : Type} (rel : β → α → Prop) (kb : List (List UInt8 × β)) (ka : List (List UInt8 × α)) : Prop := kb.length = ka.length ∧ ∀ (i : Nat) (p : List UInt8 × α), ka[i]? = some p → ∃ v, kb[i]? = some (p.1, v) ∧ rel v p.2
section
variable {β α : Type} {rel rel' : β → α → Prop} {kb : List (List UInt8 × β)} {ka : List (List UInt8 × α)} {k : List UInt8}
theorem KvRel.nil : KvRel rel [] [] := ⟨rfl, fun i p h => by simp at h⟩
theorem KvRel.mono (hm : ∀ v x, rel v x → rel' v x) (h : KvRel rel kb ka) : KvRel rel' kb ka := ⟨h.1, fun i p hp => by
  obtain ⟨v, h4, h5⟩ := h.2 i p hp
  exact ⟨v, h4, hm _ _ h5⟩⟩
theorem KvRel.cons {j : List UInt8} {v : β} {x : α} {r : List (List UInt8 × β)} {s : List (List UInt8 × α)} (h1 : rel v x) (h2 : KvRel rel r s) : KvRel rel ((j, v) :: r) ((j, x) :: s) := ⟨by simp [h2.1], fun i p hp => by
  cases i with
  | zero => simp at hp; subst hp; exact ⟨v, rfl, h1⟩
  | succ i => exact h2.2 i p (by simpa using hp)⟩
theorem KvRel.uncons {q : List UInt8 × β} {p : List UInt8 × α} {r : List (List UInt8 × β)} {s : List (List UInt8 × α)} (h : KvRel rel (q :: r) (p :: s)) : q.1 = p.1 ∧ rel q.2 p.2 ∧ KvRel rel r s := by
  obtain ⟨v, h1, h2⟩ := h.2 0 p rfl
  simp at h1
  subst h1
  exact ⟨rfl, h2, by simpa using h.1, fun i p' hp => h.2 (i + 1) p' (by simpa using hp)⟩
theorem KvRel.set {v : β} {x : α} (h1 : rel v x) : ∀ {kb : List (List UInt8 × β)} {ka : List (List UInt8 × α)}, KvRel rel kb ka → KvRel rel (mset kb k v) (mset ka k x)
  | [], [], _ => KvRel.cons h1 KvRel.nil
  | [], _ :: _, h => by have := h.1; simp at this
  | _ :: _, [], h => by have := h.1; simp at this
  | (j, u) :: r, (j', y) :: s, h => by
    obtain ⟨e, h2, h3⟩ := h.uncons
    have e : j = j' := e
    subst e
    show KvRel rel (if k = j then (k, v) :: r else (j, u) :: mset r k v) (if k = j then (k, x) :: s else (j, y) :: mset s k x)
    split
    · exact KvRel.cons h1 h3
    · exact KvRel.cons h2 (KvRel.set h1 h3)
theorem KvRel.get : ∀ {kb : List (List UInt8 × β)} {ka : List (List UInt8 × α)}, KvRel rel kb ka → (mget kb k = none ∧ mget ka k = none) ∨ ∃ v x, mget kb k = some v ∧ mget ka k = some x ∧ rel v x
  | [], [], _ => .inl ⟨rfl, rfl⟩
  | [], _ :: _, h => by have := h.1; simp at this
  | _ :: _, [], h => by have := h.1; simp at this
  | (j, u) :: r, (j', y) :: s, h => by
    obtain ⟨e, h2, h3⟩ := h.uncons
    have e : j = j' := e
    subst e
    show ((if k = j then some u else mget r k) = none ∧ (if k = j then some y else mget s k) = none) ∨ ∃ v x, (if k = j then some u else mget r k) = some v ∧ (if k = j then some y else mget s k) = some x ∧ rel v x
    split
    · exact .inr ⟨u, y, rfl, rfl, h2⟩
    · exact KvRel.get h3
theorem KvRel.getD {z : β} {zx : α} (h : KvRel rel kb ka) (hz : rel z zx) : rel ((mget kb k).getD z) ((mget ka k).getD zx) := by
  rcases h.get (k := k) with ⟨h1, h2⟩ | ⟨v, x, h1, h2, h3⟩ <;> rw [h1, h2]
  · exact hz
  · exact h3
end
abbrev KvR {α : Type} (R : Rep α) (M : Bs) (w : World) (kvV : List (List UInt8 × Value)) (kv : List (List UInt8 × α)) : Prop := KvRel (fun v x => R.rd M w [v] x) kvV kv
theorem KvR.change {α : Type} {R : Rep α} {M M' : Bs} {w : World} {kvV : List (List UInt8 × Value)} {kv : List (List UInt8 × α)} (hk : ∀ b, b < w.heap.size → M' b → M b) (h : KvR R M w kvV kv) : KvR R M' w kvV kv := h.mono fun _ _ => R.change hk
theorem KvR.keep {α : Type} {R : Rep α} {M : Bs} {w w' : World} {kvV : List (List UInt8 × Value)} {kv : List (List UInt8 × α)} (hk : Keeps M w w') (h : KvR R M w kvV kv) : KvR R M w' kvV kv := h.mono fun _ _ => R.keep hk
def kvF {α : Type} (R : Rep α) (kvV : List (List UInt8 × Value)) (kv : List (List UInt8 × α)) : Fact := ⟨fun M w => KvR R M w kvV kv, fun hk h => KvR.keep hk h, fun hk h => KvR.change hk h⟩
section
variable {α : Type} {R : Rep α} {Γ : Ctx} {l : Al Value} {L L1 L' : Al Ob} {D : Al Fact} {a : Act} {w : World} {P : Program} {Q : Exit → Act → World → Prop} {K : Act → World → Prop} {x y z : Operand} {d : Nat} {dx : Option Tmp} {t kt et ty : TypeId} {pos : String} {af : Array Edge} {g : Option (Nat × Bool)} {v : Value} {b kk : Nat} {kv : List (List UInt8 × α)} {kvV : List (List UInt8 × Value)} {k : List UInt8}
end
structure Rw where
  A : Option Addr
  n : Nat
  c : Nat
  cs : List Value
def Rw.nil : Rw := ⟨none, 0, 0, []⟩
def Rw.v (r : Rw) : Value := .slice r.A r.n r.c
def Rw.ob (r : Rw) (e : TypeId) (sz : Nat) : Ob := Ob.row r.A r.n r.c e sz r.cs
theorem mset_keys {α : Type} {k : List UInt8} {x : α} : ∀ {kv : List (List UInt8 × α)} {j : List UInt8}, j ∈ (mset kv k x).map (·.1) → j = k ∨ j ∈ kv.map (·.1)
  | [], j, h => by
    have h : j ∈ [k] := h
    exact .inl (by simpa using h)
  | (i, y) :: r, j, h => by
    replace h : j ∈ (if k = i then (k, x) :: r else (i, y) :: mset r k x).map (·.1) := h
    split at h
    · rename_i e
      subst e
      exact .inr h
    · rcases List.mem_cons.1 h with h | h
      · exact .inr (h ▸ .head _)
      · exact (mset_keys h).imp id fun h => .tail _ h
theorem mset_nodup {α : Type} {k : List UInt8} {x : α} : ∀ {kv : List (List UInt8 × α)}, (kv.map (·.1)).Nodup → ((mset kv k x).map (·.1)).Nodup
  | [], _ => by
    show ([k] : List (List UInt8)).Nodup
    simp
  | (j, y) :: r, hn => by
    have hn' := hn
    simp only [List.map_cons, List.nodup_cons] at hn
    show ((if k = j then (k, x) :: r else (j, y) :: mset r k x).map (·.1)).Nodup
    split
    · rename_i e
      subst e
      exact hn'
    · rename_i e
      rw [List.map_cons, List.nodup_cons]
      refine ⟨fun h => ?_, mset_nodup hn.2⟩
      rcases mset_keys h with h | h
      · exact e h.symm
      · exact hn.1 h
def Ob.mrows (b : Nat) (e : TypeId) (sz : Nat) (kv : List (List UInt8 × Rw)) (h : Option (List UInt8)) : Ob where
  ids := fun q => q = b ∨ ∃ p ∈ kv, some p.1 ≠ h ∧ (p.2.ob e sz).ids q
  holds := fun w => isMap w b (mval Rw.v kv) ∧ (kv.map (·.1)).Nodup ∧ (∀ p ∈ kv, some p.1 ≠ h → (p.2.ob e sz).holds w ∧ ¬ (p.2.ob e sz).ids b) ∧ ∀ p ∈ kv, ∀ p' ∈ kv, some p.1 ≠ h → some p'.1 ≠ h → ∀ q, (p.2.ob e sz).ids q → (p'.2.ob e sz).ids q → p.1 = p'.1
  lt := fun {w q} hh hq => by
    rcases hq with rfl | ⟨p, hp, hne, hi⟩
    · obtain ⟨_, _, h1, _⟩ := hh.1
      exact block_lt h1
    · exact (p.2.ob e sz).lt (hh.2.2.1 p hp hne).1 hi
  keep := fun {w w'} hh hk => by
    refine ⟨?_, hh.2.1, fun p hp hne => ⟨(p.2.ob e sz).keep (hh.2.2.1 p hp hne).1 fun q hq => hk q (.inr ⟨p, hp, hne, hq⟩), (hh.2.2.1 p hp hne).2⟩, hh.2.2.2⟩
    obtain ⟨E, c, h1, h2⟩ := hh.1
    exact ⟨E, c, (hk b (.inl rfl)).trans h1, h2⟩
section
variable {Γ : Ctx} {l : Al Value} {L L1 L' : Al Ob} {D : Al Fact} {a : Act} {w : World} {P : Program} {Q : Exit → Act → World → Prop} {K : Act → World → Prop} {x y z : Operand} {d : Nat} {dx : Option Tmp} {t kt et ty e : TypeId} {pos : String} {af : Array Edge} {g : Option (Nat × Bool)} {v : Value} {b kk kr sz : Nat} {kv : List (List UInt8 × Rw)} {k : List UInt8} {hole : Option (List UInt8)}
abbrev RowsR {α : Type} (R : Rep α) (M : Bs) (w : World) (kv : List (List UInt8 × Rw)) (kx : List (List UInt8 × List α)) : Prop := KvRel (fun r x => RdAll R M w r.cs x) kv kx
def rowsF {α : Type} (R : Rep α) (kv : List (List UInt8 × Rw)) (kx : List (List UInt8 × List α)) : Fact := ⟨fun M w => RowsR R M w kv kx, fun hk h => h.mono fun _ _ h => (⟨h.len, fun i x hx => R.keep hk (h.at_ i x hx)⟩), fun hk h => h.mono fun _ _ h => ⟨h.len, fun i x hx => R.change hk (h.at_ i x hx)⟩⟩
section
variable {α : Type} {R : Rep α} {M : Bs} {kvV : List (List UInt8 × Value)} {kx : List (List UInt8 × α)} {z u : Value} {zx ux : α} {kl : List (List UInt8 × List α)}
theorem kvF_getD (h : (kvF R kvV kx).p M w) (hz : R.rd M w [z] zx) : R.rd M w [(mget kvV k).getD z] ((mget kx k).getD zx) := KvRel.getD (rel := fun v x => R.rd M w [v] x) h hz
theorem kvF_set (h : (kvF R kvV kx).p M w) (hz : R.rd M w [u] ux) : (kvF R (mset kvV k u) (mset kx k ux)).p M w := KvRel.set (rel := fun v x => R.rd M w [v] x) hz h
theorem y_lookupV {kvv : List (List UInt8 × Value)} {zv : Value} (hS : St Γ l L D a w) (hx : ev l x = some (.map (some b))) (hy : ev l y = some (.string (bs k))) (hb : look L1 kk = some (Ob.smap b kvv)) (ht : P.underlying t = some (.map kt et)) (hkt : P.underlying kt = some .string) (hz : (P.info? et).bind (·.zero) = some zv) (hv : [(mget kvv k).getD zv] = [v]) :
    Yl P L L1 ⟨dx, .lookup t x y false, ty, pos, af, g⟩ a w v := by
  injection hv with hv _
  subst hv
  exact y_lookup hS hx hy hb ht hkt hz
end
end
end Go.Gl
