/- Own lemmas for walks: the state of a walk as one hypothesis (slots, owned blocks, stable facts); plain theorems, no condition beyond those stated. -/
import Derived.WalkKit
import Derived.Maps.AppendAt
import Derived.Deep.LoopGhost
import Derived.OrdersHeld
import Derived.Great.BuildSlice
import Derived.Laws.CopyRow
namespace Go.Gl
open Go.RowKit
set_option linter.unusedVariables false
set_option linter.unusedSimpArgs false

/-! ### association lists -/
abbrev Al (α : Type) := List (Nat × α)
def look {α : Type} : Al α → Nat → Option α
  | [], _ => none
  | (k, v) :: r, n => match Nat.beq k n with
    | true => some v
    | false => look r n
def SubA {α : Type} : Al α → Al α → Prop
  | [], _ => True
  | (k, v) :: r, m => look m k = some v ∧ SubA r m
theorem SubA.look {α : Type} {k : Nat} {v : α} : ∀ {a b : Al α}, SubA a b → look a k = some v → look b k = some v
  | [], _, _, h => by cases h
  | (j, u) :: r, b, hs, h => by
    unfold Gl.look at h
    cases hj : Nat.beq j k with
    | true =>
      rw [hj] at h
      have : j = k := Nat.eq_of_beq_eq_true hj
      subst this
      simp only [Option.some.injEq] at h
      subst h
      exact hs.1
    | false => rw [hj] at h; exact SubA.look hs.2 h
theorem look_cons {α : Type} {k n : Nat} {v u : α} {r : Al α} (h : look ((k, v) :: r) n = some u) : (k = n ∧ v = u) ∨ (k ≠ n ∧ look r n = some u) := by
  unfold look at h
  cases hj : Nat.beq k n with
  | true => rw [hj] at h; simp only [Option.some.injEq] at h; exact .inl ⟨Nat.eq_of_beq_eq_true hj, h⟩
  | false => rw [hj] at h; exact .inr ⟨fun e => by subst e; simp at hj, h⟩
theorem look_same {α : Type} (k : Nat) (v : α) (r : Al α) : look ((k, v) :: r) k = some v := by
  unfold look; simp
theorem look_other {α : Type} {k n : Nat} {v : α} {r : Al α} (h : k ≠ n) : look ((k, v) :: r) n = look r n := by
  show (match Nat.beq k n with | true => some v | false => look r n) = look r n
  cases hj : Nat.beq k n with
  | true => exact absurd (Nat.eq_of_beq_eq_true hj) h
  | false => rfl

/-! ### worlds -/
abbrev Bs := Nat → Prop
structure Keeps (M : Bs) (w w' : World) : Prop where
  os : w'.os = w.os
  tape : w'.tape = w.tape
  output : w'.output = w.output
  size : w.heap.size ≤ w'.heap.size
  block : ∀ k, k < w.heap.size → ¬ M k → w'.heap[k]? = w.heap[k]?
theorem Keeps.refl (M : Bs) (w : World) : Keeps M w w := ⟨rfl, rfl, rfl, Nat.le_refl _, fun _ _ _ => rfl⟩
theorem Keeps.trans {M : Bs} {a b c : World} (h : Keeps M a b) (k : Keeps M b c) : Keeps M a c :=
  ⟨k.os.trans h.os, k.tape.trans h.tape, k.output.trans h.output, Nat.le_trans h.size k.size,
    fun i hi hm => (k.block i (Nat.lt_of_lt_of_le hi h.size) hm).trans (h.block i hi hm)⟩
theorem Keeps.mono {M M' : Bs} {w w' : World} (h : Keeps M w w') (hm : ∀ b, b < w.heap.size → M b → M' b) : Keeps M' w w' :=
  ⟨h.os, h.tape, h.output, h.size, fun k hk hn => h.block k hk fun hb => hn (hm k hk hb)⟩
abbrev noB : Bs := fun _ => False
theorem Keeps.all {M : Bs} {w w' : World} (h : Keeps noB w w') : Keeps M w w' := h.mono fun _ _ f => f.elim
theorem Keeps.cell {M : Bs} {w w' : World} (h : Keeps M w w') {p : Addr} (hp : p.block < w.heap.size) (hm : ¬ M p.block) : w'.cell? p = w.cell? p :=
  World.cell?_of_block (w := w) (h.block p.block hp hm)
theorem Keeps.below {w w' : World} (h : Keeps noB w w') : Below w.heap.size w w' := ⟨h.os, h.tape, h.output, h.size, fun k hk => h.block k hk id⟩
theorem Keeps.of_below {w w' : World} (h : Below w.heap.size w w') : Keeps noB w w' := ⟨h.os, h.tape, h.output, h.size, fun k hk _ => h.block k hk⟩
theorem Keeps.alloc (M : Bs) (w : World) (o : Obj) : Keeps M w (w.alloc o) := ⟨rfl, rfl, rfl, by simp, fun k hk _ => Below.heap_alloc w o k hk⟩
theorem Keeps.drew (M : Bs) (w : World) : Keeps M w w.drew := ⟨rfl, rfl, rfl, Nat.le_refl _, fun _ _ _ => rfl⟩
theorem cell_lt {w : World} {p : Addr} {v : Value} (h : w.cell? p = some v) : p.block < w.heap.size := by
  unfold World.cell? at h
  rcases Nat.lt_or_ge p.block w.heap.size with h' | h'
  · exact h'
  · rw [Array.getElem?_eq_none h'] at h; cases h
theorem block_lt {w : World} {k : Nat} {o : Obj} (h : w.heap[k]? = some o) : k < w.heap.size := (Array.getElem?_eq_some_iff.1 h).1

/-! ### facts that stay true -/
structure Fact where
  p : Bs → World → Prop
  keep : ∀ {M : Bs} {w w' : World}, Keeps M w w' → p M w → p M w'
  change : ∀ {M M' : Bs} {w : World}, (∀ b, b < w.heap.size → M' b → M b) → p M w → p M' w
/-- an object that the running call owns -/
structure Ob where
  ids : Bs
  holds : World → Prop
  lt : ∀ {w : World} {b : Nat}, holds w → ids b → b < w.heap.size
  keep : ∀ {w w' : World}, holds w → (∀ b, ids b → w'.heap[b]? = w.heap[b]?) → holds w'
def Ob.box (b : Nat) (cs : List Value) (t : TypeId) : Ob where
  ids := fun k => k = b
  holds := fun w => w.heap[b]? = some (.cells cs.toArray t (0, 0))
  lt := fun h e => by rw [e]; exact block_lt h
  keep := fun h hk => (hk b rfl).trans h
def Ob.row (A : Option Addr) (n c : Nat) (t : TypeId) (size : Nat) (xs : List Value) : Ob where
  ids := fun k => ∃ p, A = some p ∧ p.block = k
  holds := fun w => w.ownsRow 0 t size (.slice A n c) n xs
  lt := fun {w b} h e => by
    obtain ⟨p, rfl, rfl⟩ := e
    exact (h.lt _ rfl).2
  keep := fun {w w'} h hk => by
    refine ⟨h.1, ?_⟩
    rcases h.2 with h2 | ⟨g, cap, cur, hv, hg, hh, r⟩
    · exact .inl h2
    · refine .inr ⟨g, cap, cur, hv, hg, (hk g ?_).trans hh, r⟩
      injection hv with h1
      exact ⟨_, h1, rfl⟩

structure Ctx where
  N : Nat
  M0 : Bs
  C : Bs
  w0 : World

def own (L : Al Ob) : Bs := fun b => ∃ k o, look L k = some o ∧ o.ids b
def mtb (Γ : Ctx) (L : Al Ob) : Bs := fun b => Γ.M0 b ∨ own L b

structure Wd (Γ : Ctx) (L : Al Ob) (D : Al Fact) (w : World) : Prop where
  kept : Keeps Γ.C Γ.w0 w
  holds : ∀ k o, look L k = some o → o.holds w
  apart : ∀ k k' o o' b, look L k = some o → look L k' = some o' → o.ids b → o'.ids b → k = k'
  mine : ∀ b, own L b → Γ.w0.heap.size ≤ b ∨ Γ.C b
  old : ∀ b, Γ.M0 b → b < Γ.w0.heap.size
  sep : ∀ b, own L b → ¬ Γ.M0 b
  facts : ∀ k f, look D k = some f → f.p (mtb Γ L) w

structure Has (N : Nat) (l : Al Value) (a : Act) : Prop where
  size : a.tmps.size = N
  defers : a.defers = []
  slots : ∀ k v, look l k = some v → a.tmps.getD k undef = v

structure St (Γ : Ctx) (l : Al Value) (L : Al Ob) (D : Al Fact) (a : Act) (w : World) : Prop where
  fr : Has Γ.N l a
  wd : Wd Γ L D w

def ev (l : Al Value) : Operand → Option Value
  | .tmp t => look l t
  | .const v => some v
  | .global g => some (.pointer (some ⟨g, 0, none⟩))
  | .func f => some (.func (.func f) #[] #[])
theorem Has.eval {N : Nat} {l : Al Value} {a : Act} (h : Has N l a) {x : Operand} {v : Value} (hx : ev l x = some v) : a.eval x = v := by
  cases x with
  | tmp t => exact h.slots t v hx
  | const c => exact Option.some.inj hx
  | global g => exact Option.some.inj hx
  | func f => exact Option.some.inj hx
theorem Has.put {N : Nat} {l : Al Value} {a : Act} (h : Has N l a) {d : Nat} {v : Value} (hd : Nat.blt d N = true) : Has N ((d, v) :: l) (a.put (some d) v) := by
  have hd' : d < a.tmps.size := by rw [h.size]; exact Nat.lt_of_succ_le (Nat.le_of_ble_eq_true hd)
  refine ⟨by simp [Act.put, h.size], h.defers, fun k u hu => ?_⟩
  rcases look_cons hu with ⟨rfl, rfl⟩ | ⟨hne, hu⟩
  · simp [Act.put, hd']
  · rw [← h.slots k u hu]
    simp only [Act.put, Array.getD_eq_getD_getElem?]
    rw [Array.getElem?_setIfInBounds_ne hne]
theorem Has.sub {N : Nat} {l l' : Al Value} {a : Act} (h : Has N l a) (hs : SubA l' l) : Has N l' a := ⟨h.size, h.defers, fun k v hk => h.slots k v (hs.look hk)⟩

section
variable {Γ : Ctx} {l l' : Al Value} {L L' : Al Ob} {D D' : Al Fact} {a a' : Act} {w w' : World}

theorem own_sub (hs : SubA L' L) {b : Nat} (h : own L' b) : own L b := by
  obtain ⟨k, o, hk, hi⟩ := h
  exact ⟨k, o, hs.look hk, hi⟩
theorem mtb_sub (hs : SubA L' L) {b : Nat} (h : mtb Γ L' b) : mtb Γ L b := h.imp id (own_sub hs)
theorem Wd.lt (h : Wd Γ L D w) {b : Nat} (hb : mtb Γ L b) : b < w.heap.size := by
  rcases hb with hb | ⟨k, o, hk, hi⟩
  · exact Nat.lt_of_lt_of_le (h.old b hb) h.kept.size
  · exact o.lt (h.holds k o hk) hi
/-- what is not owned (by L) stays; the objects of L1 hold as they did -/
def Ext (L L1 : Al Ob) (w w' : World) : Prop := Keeps (own L) w w' ∧ ∀ k o, look L1 k = some o → o.holds w'
theorem Wd.refl (h : Wd Γ L D w) : Ext L L w w := ⟨Keeps.refl _ _, h.holds⟩
theorem Wd.keptC (h : Wd Γ L D w) (hk : Keeps (own L) w w') : Keeps Γ.C Γ.w0 w' := by
  refine ⟨hk.os.trans h.kept.os, hk.tape.trans h.kept.tape, hk.output.trans h.kept.output, Nat.le_trans h.kept.size hk.size, fun k hk' hc => ?_⟩
  refine (hk.block k (Nat.lt_of_lt_of_le hk' h.kept.size) (fun hb => ?_)).trans (h.kept.block k hk' hc)
  rcases h.mine k hb with h1 | h1
  · omega
  · exact hc h1
/-- a step that may have changed owned objects and made new blocks; the objects afterwards: L' -/
theorem Wd.step (h : Wd Γ L D w) (hk : Keeps (own L) w w') (holds : ∀ k o, look L' k = some o → o.holds w')
    (apart : ∀ k k' o o' b, look L' k = some o → look L' k' = some o' → o.ids b → o'.ids b → k = k')
    (new : ∀ b, own L' b → own L b ∨ w.heap.size ≤ b) : Wd Γ L' D w' := by
  refine ⟨h.keptC hk, holds, apart, fun b hb => ?_, h.old, fun b hb hm => ?_, fun k f hf => ?_⟩
  · rcases new b hb with h1 | h1
    · exact h.mine b h1
    · exact .inl (Nat.le_trans h.kept.size h1)
  · rcases new b hb with h1 | h1
    · exact h.sep b h1 hm
    · have := h.old b hm
      have := h.kept.size
      omega
  · have h2 : f.p (fun b => mtb Γ L b ∨ mtb Γ L' b) w := f.change (fun b hb hm => by
      rcases hm with hm | hm | hm
      · exact hm
      · exact .inl hm
      · rcases new b hm with h3 | h3
        · exact .inr h3
        · omega) (h.facts k f hf)
    exact f.change (fun b _ hm => .inr hm) (f.keep (hk.mono fun b _ ho => .inl (.inr ho)) h2)
theorem Wd.ext (h : Wd Γ L D w) (he : Ext L L w w') : Wd Γ L D w' := h.step he.1 he.2 h.apart fun _ hb => .inl hb
theorem Wd.add (h : Wd Γ L D w) (k : Nat) (f : Fact) (hf : f.p (mtb Γ L) w) : Wd Γ L ((k, f) :: D) w :=
  ⟨h.kept, h.holds, h.apart, h.mine, h.old, h.sep, fun j g hg => by
    rcases look_cons hg with ⟨rfl, rfl⟩ | ⟨_, hg⟩
    · exact hf
    · exact h.facts j g hg⟩
theorem Wd.subD (h : Wd Γ L D w) (hs : SubA D' D) : Wd Γ L D' w := ⟨h.kept, h.holds, h.apart, h.mine, h.old, h.sep, fun k f hf => h.facts k f (hs.look hf)⟩
theorem Wd.subL (h : Wd Γ L D w) (hs : SubA L' L) : Wd Γ L' D w :=
  h.step (Keeps.refl _ _) (fun k o hk => h.holds k o (hs.look hk)) (fun k k' o o' b h1 h2 => h.apart k k' o o' b (hs.look h1) (hs.look h2)) fun b hb => .inl (own_sub hs hb)
/-- a new object at a fresh key, in new blocks -/
theorem Wd.new (h : Wd Γ L D w) (he : Ext L L w w') {k : Nat} (hk : look L k = none) {o : Ob} (ho : o.holds w') (hn : ∀ b, o.ids b → w.heap.size ≤ b) : Wd Γ ((k, o) :: L) D w' := by
  have key : ∀ j o', look ((k, o) :: L) j = some o' → (j = k ∧ o' = o) ∨ (j ≠ k ∧ look L j = some o') := fun j o' hj => by
    rcases look_cons hj with ⟨h1, h2⟩ | ⟨h1, h2⟩
    · exact .inl ⟨h1.symm, h2.symm⟩
    · exact .inr ⟨fun e => h1 e.symm, h2⟩
  refine h.step he.1 (fun j o' hj => ?_) (fun j j' o1 o2 b h1 h2 i1 i2 => ?_) fun b hb => ?_
  · rcases key j o' hj with ⟨rfl, rfl⟩ | ⟨_, hj⟩
    · exact ho
    · exact he.2 j o' hj
  · rcases key j o1 h1 with ⟨rfl, rfl⟩ | ⟨n1, g1⟩ <;> rcases key j' o2 h2 with ⟨rfl, rfl⟩ | ⟨n2, g2⟩
    · rfl
    · have := o2.lt (h.holds _ _ g2) i2
      have := hn b i1
      omega
    · have := o1.lt (h.holds _ _ g1) i1
      have := hn b i2
      omega
    · exact h.apart j j' o1 o2 b g1 g2 i1 i2
  · obtain ⟨j, o', hj, hi⟩ := hb
    rcases key j o' hj with ⟨rfl, rfl⟩ | ⟨_, hj⟩
    · exact .inr (hn b hi)
    · exact .inl ⟨j, o', hj, hi⟩
/-- the object at key k replaced: its new blocks are its old ones or new -/
theorem Wd.set (h : Wd Γ L D w) {k : Nat} {o o' : Ob} (hk : look L k = some o) (hK : Keeps o.ids w w') (ho : o'.holds w')
    (hn : ∀ b, o'.ids b → o.ids b ∨ w.heap.size ≤ b) : Wd Γ ((k, o') :: L) D w' := by
  have key : ∀ j x, look ((k, o') :: L) j = some x → (j = k ∧ x = o') ∨ (j ≠ k ∧ look L j = some x) := fun j x hj => by
    rcases look_cons hj with ⟨h1, h2⟩ | ⟨h1, h2⟩
    · exact .inl ⟨h1.symm, h2.symm⟩
    · exact .inr ⟨fun e => h1 e.symm, h2⟩
  refine h.step (hK.mono fun b _ hb => ⟨k, o, hk, hb⟩) (fun j x hj => ?_) (fun j j' o1 o2 b h1 h2 i1 i2 => ?_) fun b hb => ?_
  · rcases key j x hj with ⟨rfl, rfl⟩ | ⟨hne, hj⟩
    · exact ho
    · exact x.keep (h.holds j x hj) fun b hb => hK.block b (x.lt (h.holds j x hj) hb) fun hb' => hne (h.apart j k x o b hj hk hb hb')
  · rcases key j o1 h1 with ⟨rfl, rfl⟩ | ⟨n1, g1⟩ <;> rcases key j' o2 h2 with ⟨rfl, rfl⟩ | ⟨n2, g2⟩
    · rfl
    · rcases hn b i1 with h3 | h3
      · exact absurd (h.apart j' j o2 o b g2 hk i2 h3) n2
      · have := o2.lt (h.holds _ _ g2) i2; omega
    · rcases hn b i2 with h3 | h3
      · exact absurd (h.apart j j' o1 o b g1 hk i1 h3) n1
      · have := o1.lt (h.holds _ _ g1) i1; omega
    · exact h.apart j j' o1 o2 b g1 g2 i1 i2
  · obtain ⟨j, x, hj, hi⟩ := hb
    rcases key j x hj with ⟨rfl, rfl⟩ | ⟨_, hj⟩
    · rcases hn b hi with h3 | h3
      · exact .inl ⟨j, o, hk, h3⟩
      · exact .inr h3
    · exact .inl ⟨j, x, hj, hi⟩
/-- memory that the call only added to -/
theorem Wd.grown (h : Wd Γ L D w) (hK : Keeps noB w w') : Ext L L w w' :=
  ⟨hK.all, fun k o hk => o.keep (h.holds k o hk) fun b hb => hK.block b (o.lt (h.holds k o hk) hb) id⟩

theorem St.add (h : St Γ l L D a w) (k : Nat) (f : Fact) (hf : f.p (mtb Γ L) w) : St Γ l L ((k, f) :: D) a w := ⟨h.fr, h.wd.add k f hf⟩
theorem St.fact (h : St Γ l L D a w) {k : Nat} {f : Fact} (hk : look D k = some f) : f.p (mtb Γ L) w := h.wd.facts k f hk
theorem St.out (h : St Γ l L D a w) {k : Nat} {f : Fact} (hk : look D k = some f) : f.p Γ.M0 w := f.change (fun _ _ hb => .inl hb) (h.wd.facts k f hk)
theorem St.sub (h : St Γ l L D a w) (hl : SubA l' l) (hL : SubA L' L) (hD : SubA D' D) : St Γ l' L' D' a w := ⟨h.fr.sub hl, (h.wd.subD hD).subL hL⟩
theorem St.put (h : St Γ l L D a w) {d : Nat} {v : Value} (hd : Nat.blt d Γ.N = true) : St Γ ((d, v) :: l) L D (a.put (some d) v) w := ⟨h.fr.put hd, h.wd⟩
theorem St.ext (h : St Γ l L D a w) (he : Ext L L w w') : St Γ l L D a w' := ⟨h.fr, h.wd.ext he⟩
theorem St.lt (h : St Γ l L D a w) : ∀ b, mtb Γ L b → b < w.heap.size := fun _ hb => h.wd.lt hb
theorem St.kept (h : St Γ l L D a w) : Keeps Γ.C Γ.w0 w := h.wd.kept

/-! ### operations: quiet ones -/
/-- in every world that keeps what may not be written and in which the owned objects hold, operation o yields v and does nothing else -/
def Yl (P : Program) (L L1 : Al Ob) (o : Oper) (a : Act) (w : World) (v : Value) : Prop :=
  ∀ w', Ext L L1 w w' → (execOp a.eval o).run P w' = .ok (.value v) w'
variable {P : Program} {ops : Array Oper} {Q : Exit → Act → World → Prop} {rest : List Oper} {o : Oper} {K : Act → World → Prop} {v : Value} {d : Nat}

theorem q_seq (hS : St Γ l L D a w) (ho : o.dst = some d) (hg : o.guard = none) (hd : Nat.blt d Γ.N = true) (hy : Yl P L L o a w v)
    (h : ∀ a', St Γ ((d, v) :: l) L D a' w → wpList P ops Q rest a' w) : wpList P ops Q (o :: rest) a w := by
  unfold wpList
  rw [if_pos (by simp [Region.wanted, hg])]
  refine .inl ?_
  unfold Oper.wp
  rw [hy w hS.wd.refl]
  show wpList P ops Q rest (a.put o.dst v) w
  rw [ho]
  exact h _ (hS.put hd)
theorem l_seq (hg : o.guard = none) (h : o.wp P a w (wpList P ops Q rest) Q) : wpList P ops Q (o :: rest) a w := by
  unfold wpList
  rw [if_pos (by simp [Region.wanted, hg])]
  exact .inl h
/-- a guard that lets the operation run -/
theorem g_yes {j : Nat} {want : Bool} (hS : St Γ l L D a w) (hg : o.guard = some (j, want)) {oj : Oper} {dj : Nat} (hj : ops[j]? = some oj) (hdj : oj.dst = some dj) (hv : look l dj = some (.bool want))
    (h : o.wp P a w (wpList P ops Q rest) Q) : wpList P ops Q (o :: rest) a w := by
  unfold wpList
  have hs := hS.fr.slots dj _ hv
  have : a.tmps[dj]? = some (.bool want) := by
    rw [Array.getD_eq_getD_getElem?] at hs
    cases hx : a.tmps[dj]? with
    | none => rw [hx] at hs; simp [undef] at hs
    | some u => rw [hx] at hs; simpa using hs
  rw [if_pos (by simp [Region.wanted, hg, yielded, hj, hdj, this])]
  exact .inl h
def isB : Value → Bool → Bool
  | .bool b, c => match b, c with
    | true, true => true
    | false, false => true
    | _, _ => false
  | _, _ => false
/-- a guard that holds the operation back -/
theorem g_no {j : Nat} {want : Bool} (hS : St Γ l L D a w) (hg : o.guard = some (j, want)) {oj : Oper} {dj : Nat} {u : Value} (hj : ops[j]? = some oj) (hdj : oj.dst = some dj) (hv : look l dj = some u) (hu : isB u want = false) (ho : o.dst = some d) (hd : Nat.blt d Γ.N = true)
    (h : ∀ a', St Γ ((d, undef) :: l) L D a' w → wpList P ops Q rest a' w) : wpList P ops Q (o :: rest) a w := by
  unfold wpList
  have hs := hS.fr.slots dj _ hv
  have hn : Region.wanted o (yielded ops a.tmps) = false := by
    simp only [Region.wanted, hg, yielded, hj, hdj, Option.bind_some]
    cases hx : a.tmps[dj]? with
    | none => rfl
    | some q =>
      rw [Array.getD_eq_getD_getElem?, hx] at hs
      simp only [Option.getD_some] at hs
      subst hs
      cases q <;> first | rfl | (rename_i b; cases b <;> cases want <;> first | rfl | cases hu)
  rw [if_neg (by simp [hn]), ho]
  exact h _ (hS.put hd)
end
end Go.Gl
