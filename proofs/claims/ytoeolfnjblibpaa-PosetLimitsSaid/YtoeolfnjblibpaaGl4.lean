/- Own lemmas for walks, fourth part: operations that make or write memory, calls. -/
import Derived.Test.YtoeolfnjblibpaaGl3
import Derived.Lib.AppendZeros
namespace Go.Gl
open Go.RowKit
set_option linter.unusedVariables false
set_option linter.unusedSimpArgs false

section
variable {P : Program} {Γ : Ctx} {l : Al Value} {L : Al Ob} {D : Al Fact} {a : Act} {w : World} {d : Tmp} {ty : TypeId} {pos : String} {af : Array Edge} {g : Option (Nat × Bool)} {v u : Value} {x y z : Operand} {t t' : TypeId} {k : IntKind} {m : Int}
variable {α : Type} {R : Rep α} {K : Act → World → Prop} {Q : Exit → Act → World → Prop} {o : Oper} {kk : Nat}

theorem wp_value {w' : World} (h : (execOp a.eval o).run P w = .ok (.value v) w') (hK : K (a.put o.dst v) w') : o.wp P a w K Q := by
  unfold Oper.wp; rw [h]; exact hK
theorem wp_skipped {w' : World} (h : (execOp a.eval o).run P w = .ok .skip w') (hK : K (a.put o.dst undef) w') : o.wp P a w K Q := by
  unfold Oper.wp; rw [h]; exact hK
theorem ext_alloc (hS : St Γ l L D a w) (ob : Obj) : Ext L L w (w.alloc ob) := hS.wd.grown (Keeps.alloc _ _ _)
theorem heap_new (w : World) (ob : Obj) : (w.alloc ob).heap[w.heap.size]? = some ob := heap_alloc_new w ob

/-- 'var x T', 'new(T)' -/
theorem l_alloc {zv : Value} {zs : List Value} (hS : St Γ l L D a w) (kk : Nat) (hz : (P.info? t).bind (·.zero) = some zv) (hzs : zv.cells.toList = zs) (hk : look L kk = none) (hd : Nat.blt d Γ.N = true)
    (h : ∀ b a' w', w.heap.size ≤ b → Keeps noB w w' → St Γ ((d, .pointer (some ⟨b, 0, none⟩)) :: l) ((kk, Ob.box b zs t) :: L) D a' w' → K a' w') : Oper.wp P ⟨some d, .alloc t, ty, pos, af, g⟩ a w K Q := by
  subst hzs
  obtain ⟨i, hi, hzi⟩ := Option.bind_eq_some_iff.1 hz
  refine wp_value (v := .pointer (some ⟨w.heap.size, 0, none⟩)) (w' := w.alloc (.cells zv.cells t)) ?_ ?_
  · simp [execOp, Instr.alloc, zeroValue, typeInfo, hi, hzi, newVar, newRow]
  · have he := ext_alloc hS (.cells zv.cells t)
    exact h w.heap.size _ _ (Nat.le_refl _) (Keeps.alloc _ _ _) ⟨hS.fr.put hd, hS.wd.new he hk (by show (w.alloc _).heap[w.heap.size]? = _; rw [heap_new]) (fun b hb => by cases hb; exact Nat.le_refl _)⟩
/-- a struct parameter, a captured variable -/
theorem l_box {zs : List Value} (hS : St Γ l L D a w) (kk : Nat) (hx : ev l x = some v) (hzs : v.cells.toList = zs) (hk : look L kk = none) (hd : Nat.blt d Γ.N = true)
    (h : ∀ b a' w', w.heap.size ≤ b → Keeps noB w w' → St Γ ((d, .pointer (some ⟨b, 0, none⟩)) :: l) ((kk, Ob.box b zs t) :: L) D a' w' → K a' w') : Oper.wp P ⟨some d, .box t x, ty, pos, af, g⟩ a w K Q := by
  subst hzs
  refine wp_value (v := .pointer (some ⟨w.heap.size, 0, none⟩)) (w' := w.alloc (.cells v.cells t)) ?_ ?_
  · simp [execOp, Instr.box, newVar, newRow, hS.fr.eval hx]
  · have he := ext_alloc hS (.cells v.cells t)
    exact h w.heap.size _ _ (Nat.le_refl _) (Keeps.alloc _ _ _) ⟨hS.fr.put hd, hS.wd.new he hk (by show (w.alloc _).heap[w.heap.size]? = _; rw [heap_new]) (fun b hb => by cases hb; exact Nat.le_refl _)⟩

def splice (cs : List Value) (o : Nat) (vs : List Value) : List Value := cs.take o ++ vs ++ cs.drop (o + vs.length)
theorem keeps_setRow {M : Bs} (w : World) (b : Nat) (cs : Array Value) (hb : M b) : Keeps M w (w.setRow b cs) :=
  ⟨rfl, rfl, rfl, by simp, fun k hk hm => setRow_other w b k cs (fun e => hm (e ▸ hb))⟩
/-- a store into a box -/
theorem l_store {b o n : Nat} {cs cs' : List Value} {tb : TypeId} (hS : St Γ l L D a w) (kk : Nat) (hx : ev l x = some (.pointer (some ⟨b, o, none⟩))) (hy : ev l y = some v) (hb : look L kk = some (Ob.box b cs tb))
    (hn : (P.info? t).map (·.size) = some n) (hv : v.cells.size = n) (hfit : Nat.ble (o + n) cs.length = true) (h1 : v.cells.toList.all (·.oneCell') = true) (hcs : splice cs o v.cells.toList = cs')
    (h : ∀ w', Keeps (fun x => x = b) w w' → St Γ l ((kk, Ob.box b cs' tb) :: L) D a w' → K a w') : Oper.wp P ⟨none, .store t x y, ty, pos, af, g⟩ a w K Q := by
  subst hcs
  obtain ⟨i, hi, hs⟩ := Option.map_eq_some_iff.1 hn
  have hh : w.heap[b]? = some (.cells cs.toArray tb (0, 0)) := hS.wd.holds kk _ hb
  have hfit' : o + v.cells.toList.length ≤ cs.toArray.size := by
    have := Nat.le_of_ble_eq_true hfit
    simp only [Array.length_toList, hv, List.size_toArray]
    omega
  have hst := run_storeCells_at P b o tb v.cells.toList 0 cs.toArray w hh (by simpa using hfit') (fun q hq => by simpa using List.all_eq_true.1 h1 q hq)
  refine wp_skipped (w' := w.setRow b (splice cs o v.cells.toList).toArray) ?_ ?_
  · simp [execOp, Instr.storeAt, Instr.sureAddr, hS.fr.eval hx, hS.fr.eval hy, storeVar, sizeOf, typeInfo, hi, hs, hv] 
    simp at hst
    rw [hst]
    simp [splice]
  · show K a _
    refine h _ (keeps_setRow w b _ rfl) ⟨hS.fr, hS.wd.set hb (keeps_setRow w b _ rfl) ?_ (fun q hq => .inl hq)⟩
    exact setRow_heap w b cs.toArray _ tb _ hh

/-- '[]T{..}': a new row -/
theorem l_buildSlice {parts : List (Nat × Operand)} {ps : List (Nat × Value)} {n sz : Nat} {cells : Array Value} {zv : Value} {e : TypeId} (hS : St Γ l L D a w) (kk : Nat) (hp : evs l parts = some ps) (hu : P.underlying t = some (.slice e))
    (hsz : (P.info? e).map (·.size) = some sz) (hz : (P.info? e).bind (·.zero) = some zv) (hsmall : Nat.ble (n * sz) 16777216 = true) (hpos : Nat.blt 0 (n * sz) = true)
    (hf : Instr.fill (fun i => some (i * sz, sz)) ((Array.range (n * sz)).map (zv.cells[· % zv.cells.size]!)) ps = some cells) (hc : cells.size = n * sz) (hk : look L kk = none) (hd : Nat.blt d Γ.N = true)
    (h : ∀ b a' w', w.heap.size ≤ b → Keeps noB w w' → St Γ ((d, .slice (some ⟨b, 0, none⟩) n n) :: l) ((kk, Ob.row (some ⟨b, 0, none⟩) n n e sz cells.toList) :: L) D a' w' → K a' w') : Oper.wp P ⟨some d, .buildSlice t n parts.toArray, ty, pos, af, g⟩ a w K Q := by
  obtain ⟨i, hi, hs⟩ := Option.map_eq_some_iff.1 hsz
  have hzi : i.zero = some zv := by simpa [hi] using hz
  subst hs
  have h1 : (parts.toArray.map fun (i, x) => (i, a.eval x)).toList = ps := by simpa using evs_eval' hS.fr hp
  have h2 := Nat.le_of_ble_eq_true hsmall
  have h3 : 0 < n * i.size := Nat.le_of_ble_eq_true hpos
  have hr := run_buildSlice (P := P) w t e n (parts.toArray.map fun (i, x) => (i, a.eval x)) cells i zv hu hi hzi (by omega) (by omega) (by rw [h1]; exact hf)
  refine wp_value (v := .slice (some ⟨w.heap.size, 0, none⟩) n n) (w' := w.alloc (.cells cells e)) ?_ ?_
  · simp only [execOp, Sem.run_bind, hr, Result.andThen_ok, Sem.run_pure]
  · have he := ext_alloc hS (.cells cells e)
    refine h w.heap.size _ _ (Nat.le_refl _) (Keeps.alloc _ _ _) ⟨hS.fr.put hd, hS.wd.new he hk ?_ (fun b hb => by obtain ⟨q, h1, h2⟩ := hb; cases h1; exact Nat.le_of_eq h2)⟩
    have hnn : n ≤ maxLen := by
      have hpos' : 0 < i.size := by
        rcases Nat.eq_zero_or_pos i.size with h0 | h0
        · rw [h0] at h3; omega
        · exact h0
      have h4 : n * 1 ≤ n * i.size := Nat.mul_le_mul_left _ hpos'
      unfold maxLen
      omega
    exact ⟨by simp [hc], .inr ⟨w.heap.size, n, cells, rfl, Nat.zero_le _, heap_new _ _, Nat.le_refl _, hnn, by simp [hc], by rw [← hc, ← Array.length_toList, List.take_length]⟩⟩
def dens : Nat → List (Nat × Value) → Option (List Value)
  | _, [] => some []
  | i, (j, v) :: r => match Nat.beq i j, dens (i + 1) r with
    | true, some vs => some (v :: vs)
    | _, _ => none
theorem dens_eq : ∀ {ps : List (Nat × Value)} {i : Nat} {vs : List Value}, dens i ps = some vs → ps = (vs.zipIdx i).map fun x => (x.2, x.1)
  | [], i, vs, h => by
    simp only [dens, Option.some.injEq] at h
    subst h
    rfl
  | (j, v) :: r, i, vs, h => by
    unfold dens at h
    split at h
    · rename_i us h1 h2
      simp only [Option.some.injEq] at h
      subst h
      have := Nat.eq_of_beq_eq_true h1
      subst this
      rw [dens_eq h2]
      rfl
    · cases h
def cellsOfL : List Value → List Value
  | [] => []
  | v :: r => v.cells.toList ++ cellsOfL r
theorem cellsOfL_eq : ∀ vs : List Value, cellsOfL vs = vs.flatMap fun v => v.cells.toList
  | [] => rfl
  | v :: r => by rw [cellsOfL, cellsOfL_eq r, List.flatMap_cons]
/-- '[]T{x, y, ..}', every place written -/
theorem l_buildDense {parts : List (Nat × Operand)} {ps : List (Nat × Value)} {vs : List Value} {n sz : Nat} {zv : Value} {e : TypeId} (hS : St Γ l L D a w) (kk : Nat) (hp : evs l parts = some ps) (hps : dens 0 ps = some vs) (hn : vs.length = n) (hu : P.underlying t = some (.slice e))
    (hsz : (P.info? e).map (·.size) = some sz) (hz : (P.info? e).bind (·.zero) = some zv) (hvs : vs.all (fun v => Nat.beq v.cells.size sz) = true) (hsmall : Nat.ble (n * sz) 16777216 = true) (hpos : Nat.blt 0 (n * sz) = true) (hk : look L kk = none) (hd : Nat.blt d Γ.N = true)
    (h : ∀ b a' w', w.heap.size ≤ b → Keeps noB w w' → St Γ ((d, .slice (some ⟨b, 0, none⟩) n n) :: l) ((kk, Ob.row (some ⟨b, 0, none⟩) n n e sz (cellsOfL vs)) :: L) D a' w' → K a' w') : Oper.wp P ⟨some d, .buildSlice t n parts.toArray, ty, pos, af, g⟩ a w K Q := by
  have h0 : ∀ v ∈ vs, v.cells.size = sz := fun v hv => Nat.eq_of_beq_eq_true (List.all_eq_true.1 hvs v hv)
  have hp0 : 0 < n * sz := Nat.le_of_ble_eq_true hpos
  have hs0 : 0 < sz := by
    rcases Nat.eq_zero_or_pos sz with h1 | h1
    · rw [h1] at hp0; omega
    · exact h1
  have hf : Instr.fill (fun i => some (i * sz, sz)) ((Array.range (n * sz)).map (zv.cells[· % zv.cells.size]!)) ps = some (cellsOfL vs).toArray := by
    rw [dens_eq hps, cellsOfL_eq]
    exact Great.fill_whole hs0 vs _ h0 (by simp [hn])
  have hlen : ∀ us : List Value, (∀ v ∈ us, v.cells.size = sz) → (cellsOfL us).length = us.length * sz := by
    intro us
    induction us with
    | nil => intro _; simp [cellsOfL]
    | cons v r ih => intro hv; simp [cellsOfL, ih (fun u hu => hv u (List.mem_cons_of_mem _ hu)), hv v List.mem_cons_self, Nat.add_mul, Nat.add_comm]
  exact l_buildSlice hS kk hp hu hsz hz hsmall hpos hf (by simp [hlen vs h0, hn]) hk hd (by simpa using h)
/-- '[]T{}' -/
theorem l_buildEmpty {e : TypeId} {sz : Nat} (hS : St Γ l L D a w) (kk : Nat) (hu : P.underlying t = some (.slice e)) (hsz : (P.info? e).map (·.size) = some sz) (hk : look L kk = none) (hd : Nat.blt d Γ.N = true)
    (h : ∀ b a' w', w.heap.size ≤ b → Keeps noB w w' → St Γ ((d, .slice (some ⟨b, 0, none⟩) 0 0) :: l) ((kk, Ob.row (some ⟨b, 0, none⟩) 0 0 e sz []) :: L) D a' w' → K a' w') : Oper.wp P ⟨some d, .buildSlice t 0 #[], ty, pos, af, g⟩ a w K Q := by
  obtain ⟨i, hi, hs⟩ := Option.map_eq_some_iff.1 hsz
  refine wp_value (v := .slice (some ⟨w.heap.size, 0, none⟩) 0 0) (w' := w.alloc (.cells #[] e)) ?_ ?_
  · simp [execOp, Instr.buildSlice, run_underlying hu, sizeOf, typeInfo, hi, Instr.fill, newRow]
    congr 2
    apply Array.ext <;> simp
  · have he := ext_alloc hS (.cells #[] e)
    refine h w.heap.size _ _ (Nat.le_refl _) (Keeps.alloc _ _ _) ⟨hS.fr.put hd, hS.wd.new he hk ?_ (fun b hb => by obtain ⟨q, h1, h2⟩ := hb; cases h1; exact Nat.le_of_eq h2)⟩
    exact ⟨by simp, .inr ⟨w.heap.size, 0, #[], rfl, Nat.zero_le _, heap_new _ _, Nat.le_refl _, Nat.zero_le _, by simp, by simp⟩⟩

/-- the cells of what is appended -/
structure Src (w : World) (A : Option Addr) (m sz : Nat) (news : List Value) : Prop where
  len : news.length = m * sz
  nil : A = none → m = 0
  at_ : ∀ p, A = some p → ∀ j u, news[j]? = some u → w.cell? (p.add j) = some u
  one : ∀ u ∈ news, u.oneCell' = true
theorem SlR.src {M : Bs} {A : Option Addr} {n c : Nat} {xs : List α} (h : SlR R M w A n c xs) : ∃ news, Src w A n R.size news ∧ RdAll R M w news xs := by
  cases A with
  | none =>
    have h0 : n = 0 := by have := h.nil rfl; have := h.cap; omega
    subst h0
    have hx : xs = [] := List.eq_nil_of_length_eq_zero h.len
    subst hx
    exact ⟨[], ⟨by simp, fun _ => rfl, (fun p hp => by cases hp), (fun u hu => by cases hu)⟩, RdAll.nil R M w⟩
  | some p =>
    obtain ⟨cs, h1, h2, h3, h4⟩ := h.cells
    exact ⟨cs, ⟨h2, (fun hA => by cases hA), (fun q hq => by cases hq; exact h3), h4⟩, h1⟩
theorem row_src {A : Option Addr} {n c sz : Nat} {e : TypeId} {xs : List Value} (h : (Ob.row A n c e sz xs).holds w) (h1 : ∀ u ∈ xs, u.oneCell' = true) : Src w A n sz xs := by
  have h' : w.ownsRow 0 e sz (.slice A n c) n xs := h
  refine ⟨h'.1, fun hA => ?_, fun p hp j u hu => ?_, h1⟩
  · subst hA
    rcases h'.2 with ⟨_, h0⟩ | ⟨g, cap, cur, hv, _⟩
    · exact h0
    · injection hv with h1 _; cases h1
  · subst hp
    rcases h'.2 with ⟨hv, _⟩ | ⟨g, cap, cur, hv, hr⟩
    · injection hv with h1 _; cases h1
    · injection hv with h2 _ h3
      injection h2 with h2
      subst h2
      exact h'.cells (g := g) rfl j u hu

theorem run_append_src (w : World) (t ty e : TypeId) (i : TypeInfo) (zv : Value) (sz by_ : Nat) (ht : P.underlying t = some (.slice e)) (hi : P.info? e = some i) (hz : i.zero = some zv) (hs : i.size = sz) (hb : i.bytes = by_) (hzs : zv.cells.size = sz) (hsz : 0 < sz)
    {A : Option Addr} {n c : Nat} {xs : List Value} (hown : w.ownsRow 0 e sz (.slice A n c) n xs) {B : Option Addr} {m c' : Nat} {news : List Value} (hr : Src w B m sz news) (h63 : n + m ≤ 9223372036854775807) (hbytes : (n + m) * by_ ≤ 140737488355328) :
    ∃ A' c'' w', (Builtin.append_ #[t, t] ty #[.slice A n c, .slice B m c']).run P w = .ok (.slice A' (n + m) c'') w' ∧ w'.ownsRow 0 e sz (.slice A' (n + m) c'') (n + m) (xs ++ news) ∧ w.grownBy w' (Value.ownBlock (.slice A n c)) ∧
      ∀ p, A' = some p → (∃ q, A = some q ∧ q.block = p.block) ∨ p.block = w.heap.size := by
  cases B with
  | none =>
    have hm := hr.nil rfl
    subst hm
    have hn : news = [] := List.eq_nil_of_length_eq_zero (by simpa using hr.len)
    subst hn
    refine ⟨A, c, w, ?_, by simpa using hown, ⟨rfl, rfl, rfl, Nat.le_refl _, fun _ _ _ => rfl⟩, fun p hp => .inl ⟨p, hp, rfl⟩⟩
    rcases hown.2 with ⟨hv, h0⟩ | ⟨g, cap, cur, hv, _, _, hnc, _⟩
    · injection hv with h1 h2 h3
      subst h1; subst h2; subst h3
      simp [Builtin.append_, run_underlying ht, sizeOf, typeInfo, hi, Builtin.lenOf, Builtin.firstCells]
    · injection hv with h1 h2 h3
      subst h1; subst h3
      simp [Builtin.append_, run_underlying ht, sizeOf, typeInfo, hi, Builtin.lenOf, Builtin.firstCells, hnc, storeCells]
  | some q =>
    obtain ⟨v', w', hrun, h2, h3, h4, h5⟩ := run_append_own_at (P := P) w 0 t ty e i zv sz by_ ht hi hz hs hb hzs hsz _ n xs hown q m c' news hr.len (hr.at_ q rfl) hr.one (by unfold maxLen; omega) hbytes (Nat.zero_le _)
    rcases h2.2 with ⟨hv, h0⟩ | ⟨g, cap, cur, hv, r⟩
    · subst hv
      rw [← h0] at hrun h2 ⊢
      refine ⟨none, 0, w', ?_, ?_, h3, fun p hp => by cases hp⟩
      · rw [h0] at hrun ⊢; exact hrun
      · rw [h0] at h2 ⊢; exact h2
    · subst hv
      refine ⟨_, _, w', hrun, h2, h3, fun p hp => ?_⟩
      injection hp with hp
      subst hp
      rcases h5 with h5 | h5
      · left
        cases A with
        | none => simp [Value.ownBlock] at h5
        | some r => exact ⟨r, rfl, by simpa [Value.ownBlock] using h5.symm⟩
      · right; simpa [Value.ownBlock] using h5
/-- append onto a row of the call's own -/
theorem l_append {A B : Option Addr} {n c m c' sz by_ N : Nat} {e : TypeId} {zv : Value} {xs news ys : List Value} (hS : St Γ l L D a w) (kk : Nat) (hx : ev l x = some (.slice A n c)) (hy : ev l y = some (.slice B m c')) (hb : look L kk = some (Ob.row A n c e sz xs))
    (hu : P.underlying t = some (.slice e)) (hsz : (P.info? e).map (·.size) = some sz) (hby : (P.info? e).map (·.bytes) = some by_) (hz : (P.info? e).bind (·.zero) = some zv) (hzs : zv.cells.size = sz) (hpos : Nat.blt 0 sz = true)
    (hr : Src w B m sz news) (hN : n + m = N) (hys : xs ++ news = ys) (hroom : N * by_ ≤ 140737488355328) (h63 : N ≤ 9223372036854775807) (hd : Nat.blt d Γ.N = true)
    (h : ∀ A' c'' a' w', (∀ p, A' = some p → (∃ q, A = some q ∧ q.block = p.block) ∨ w.heap.size ≤ p.block) → Keeps (Ob.row A n c e sz xs).ids w w' → St Γ ((d, .slice A' N c'') :: l) ((kk, Ob.row A' N c'' e sz ys) :: L) D a' w' → K a' w') :
    Oper.wp P ⟨some d, .call ⟨.builtin .append, #[x, y], #[t, t]⟩, ty, pos, af, g⟩ a w K Q := by
  subst hN; subst hys
  obtain ⟨i, hi, hs⟩ := Option.map_eq_some_iff.1 hsz
  have hzi : i.zero = some zv := by simpa [hi] using hz
  have hbi : i.bytes = by_ := by simpa [hi] using hby
  obtain ⟨A', c'', w', hrun, hown, hg, hat⟩ := run_append_src (P := P) w t ty e i zv sz by_ hu hi hzi hs hbi hzs (Nat.le_of_ble_eq_true hpos) (hS.wd.holds kk _ hb) (c' := c') hr h63 hroom
  have hk : Keeps (Ob.row A n c e sz xs).ids w w' := ⟨hg.os, hg.tape, hg.output, hg.size, fun j hj hm => hg.block j hj (fun e => hm (by
    cases A with
    | none => simp [Value.ownBlock] at e
    | some q => exact ⟨q, rfl, by simpa [Value.ownBlock] using e.symm⟩))⟩
  refine wp_value (v := .slice A' (n + m) c'') (w' := w') ?_ (h A' c'' _ w' (fun p hp => (hat p hp).imp id fun e => Nat.le_of_eq e.symm) hk ⟨hS.fr.put hd, hS.wd.set hb hk hown ?_⟩)
  · simp [execOp, resolve, invoke, builtin, hS.fr.eval hx, hS.fr.eval hy, hrun]
  · rintro b ⟨p, hp, rfl⟩
    rcases hat p hp with h1 | h1
    · exact .inl h1
    · exact .inr (Nat.le_of_eq h1.symm)
/-- append onto a datum without room: a new row -/
theorem l_appendGrow {A B : Option Addr} {n c m c' sz by_ N : Nat} {e : TypeId} {zv : Value} {olds news : List Value} (hS : St Γ l L D a w) (kk : Nat) (hx : ev l x = some (.slice A n c)) (hy : ev l y = some (.slice B m c')) (hk : look L kk = none)
    (hu : P.underlying t = some (.slice e)) (hsz : (P.info? e).map (·.size) = some sz) (hby : (P.info? e).map (·.bytes) = some by_) (hz : (P.info? e).bind (·.zero) = some zv) (hzs : zv.cells.size = sz)
    (ho : Src w A n sz olds) (hA : A = none → c = 0) (hr : Src w B m sz news) (hnc : n ≤ c) (hN : n + m = N) (hlt : c < N) (hroom : N * by_ ≤ 140737488355328) (h63 : N ≤ 9223372036854775807) (hd : Nat.blt d Γ.N = true)
    (h : ∀ A' c'' a' w', (∀ p, A' = some p → w.heap.size ≤ p.block) → Keeps noB w w' → St Γ ((d, .slice A' N c'') :: l) ((kk, Ob.row A' N c'' e sz (olds ++ news)) :: L) D a' w' → K a' w') :
    Oper.wp P ⟨some d, .call ⟨.builtin .append, #[x, y], #[t, t]⟩, ty, pos, af, g⟩ a w K Q := by
  subst hN
  obtain ⟨i, hi, hs⟩ := Option.map_eq_some_iff.1 hsz
  have hzi : i.zero = some zv := by simpa [hi] using hz
  have hbi : i.bytes = by_ := by simpa [hi] using hby
  subst hs; subst hbi
  cases B with
  | none => have := hr.nil rfl; omega
  | some q =>
    have hlen : (olds ++ news).length = (n + m) * i.size := by rw [List.length_append, ho.len, hr.len, Nat.add_mul]
    have hge := grownCap_ge w (n + m) c e
    have hcm : grownCap w (n + m) c e ≤ maxLen := grownCap_le_maxLen w (n + m) c e (by unfold maxLen; omega)
    have hrun : (Builtin.append_ #[t, t] ty #[.slice A n c, .slice (some q) m c']).run P w = .ok (.slice (some ⟨w.heap.size, 0, none⟩) (n + m) (grownCap w (n + m) c e))
        (w.drew.alloc (.cells (olds.toArray ++ news.toArray ++ Builtin.zeroCells zv.cells (grownCap w (n + m) c e - (n + m))) e)) := by
      cases A with
      | none =>
        have hc0 := hA rfl
        have hn0 : n = 0 := by omega
        subst hc0; subst hn0
        have h0 : olds = [] := List.eq_nil_of_length_eq_zero (by simpa using ho.len)
        subst h0
        have := run_append_nil (P := P) w t ty e i zv hu hi hzi q m c' news hr.len (hr.at_ q rfl) (by omega) (by omega) (by rw [Nat.zero_add] at hroom; omega)
        simpa using this
      | some p => exact run_append_grow (P := P) w t ty e i zv hu hi hzi p n c olds ho.len (ho.at_ p rfl) q m c' news hr.len (hr.at_ q rfl) hlt (by omega) (growslice_fits hlt hroom)
    have hK : Keeps noB w (w.drew.alloc (.cells (olds.toArray ++ news.toArray ++ Builtin.zeroCells zv.cells (grownCap w (n + m) c e - (n + m))) e)) := (Keeps.drew _ _).trans (Keeps.alloc _ _ _)
    refine wp_value (v := .slice (some ⟨w.heap.size, 0, none⟩) (n + m) (grownCap w (n + m) c e)) (by simp only [execOp, resolve, invoke, builtin, Sem.run_bind, Sem.run_pure, Result.andThen_ok, List.map_toArray, List.map_cons, List.map_nil, hS.fr.eval hx, hS.fr.eval hy, hrun]) (h _ _ _ _ (fun p hp => by cases hp; exact Nat.le_refl _) hK ⟨hS.fr.put hd, hS.wd.new (hS.wd.grown hK) hk ?_ ?_⟩)
    · refine ⟨hlen, .inr ⟨w.heap.size, _, _, rfl, Nat.zero_le _, heap_new _ _, hge, hcm, ?_, ?_⟩⟩
      · simp only [Array.size_append, List.size_toArray, size_zeroCells, hzs, ho.len, hr.len, ← Nat.add_mul]
        congr 1
        omega
      · simp only [Array.toList_append]
        rw [← hlen]
        exact List.take_left
    · rintro b ⟨p, hp, rfl⟩
      cases hp
      exact Nat.le_refl _
/-- a nil slice is a row of the call's own -/
theorem St.nilRow (hS : St Γ l L D a w) (kk : Nat) (e : TypeId) (sz : Nat) (hk : look L kk = none) : St Γ l ((kk, Ob.row none 0 0 e sz []) :: L) D a w :=
  ⟨hS.fr, hS.wd.new hS.wd.refl hk (World.ownsRow_nil w 0 e sz) (fun b hb => by obtain ⟨p, hp, _⟩ := hb; cases hp)⟩
/-- a row that is no longer written is a datum -/
theorem row_slR {M : Bs} {A : Option Addr} {n c : Nat} {e : TypeId} {cs : List Value} {xs : List α} (h : (Ob.row A n c e R.size cs).holds w) (hr : RdAll R M w cs xs) (hpos : 0 < R.size) (hM : ∀ b, (Ob.row A n c e R.size cs).ids b → ¬ M b) : SlR R M w A n c xs := by
  have h' : w.ownsRow 0 e R.size (.slice A n c) n cs := h
  have hlen : xs.length = n := by
    have h1 := h'.1
    rw [hr.len] at h1
    exact Nat.eq_of_mul_eq_mul_right hpos h1
  rcases h'.2 with ⟨hv, h0⟩ | ⟨g, cap, cur, hv, _, hh, hnc, hcm, hcs, htake⟩
  · injection hv with h1 h2 h3
    subst h1; subst h2; subst h3
    have hx : xs = [] := List.eq_nil_of_length_eq_zero hlen
    subst hx
    exact SlR.nil_ R M w
  · injection hv with h1 h2 h3
    subst h1; subst h3
    refine ⟨hlen, hnc, by unfold maxLen at hcm; omega, (by intro hA; cases hA), fun p hp i x hx => ?_⟩
    injection hp with hp
    subst hp
    have hi : i < n := by rw [← hlen]; exact (List.getElem?_eq_some_iff.1 hx).1
    refine ⟨?_, ?_, _, hr.at_ i x hx, fun j u hu => ?_⟩
    · rw [add_block]; exact block_lt hh
    · rw [add_block]; exact hM g ⟨_, rfl, rfl⟩
    · rw [add_add]
      rw [List.getElem?_take] at hu
      split at hu
      · rw [List.getElem?_drop] at hu
        exact h'.cells (g := g) rfl _ u hu
      · cases hu
theorem St.rowOut {A : Option Addr} {n c : Nat} {e : TypeId} {cs : List Value} {xs : List α} (hS : St Γ l L D a w) (hb : look L kk = some (Ob.row A n c e R.size cs)) (hpos : Nat.blt 0 R.size = true) (hr : RdAll R (mtb Γ L) w cs xs) : SlR R Γ.M0 w A n c xs := by
  have hrd : RdAll R Γ.M0 w cs xs := ⟨hr.len, fun i x hx => R.change (fun b _ hb => .inl hb) (hr.at_ i x hx)⟩
  exact row_slR (hS.wd.holds kk _ hb) hrd (Nat.le_of_ble_eq_true hpos) fun b hi => hS.wd.sep b ⟨kk, _, hb, hi⟩
/-- the same inside the walk: the row leaves L -/
theorem St.freeze {L' : Al Ob} {A : Option Addr} {n c : Nat} {e : TypeId} {cs : List Value} {xs : List α} (hS : St Γ l L D a w) (j : Nat) (hb : look L kk = some (Ob.row A n c e R.size cs)) (hpos : Nat.blt 0 R.size = true) (hr : RdAll R (mtb Γ L) w cs xs)
    (hL : SubA L' L) (hk : look L' kk = none) : St Γ l L' ((j, slF R A n c xs) :: D) a w := by
  have h1 := hS.wd.subL hL
  have hrd : RdAll R (mtb Γ L') w cs xs := ⟨hr.len, fun i x hx => R.change (fun b _ hb => mtb_sub hL hb) (hr.at_ i x hx)⟩
  refine ⟨hS.fr, h1.add j _ ?_⟩
  refine row_slR (hS.wd.holds kk _ hb) hrd (Nat.le_of_ble_eq_true hpos) fun b hi hm => ?_
  rcases hm with hm | ⟨k', o', hk', hi'⟩
  · exact hS.wd.sep b ⟨kk, _, hb, hi⟩ hm
  · have := hS.wd.apart kk k' _ o' b hb (hL.look hk') hi hi'
    subst this
    rw [hk] at hk'
    cases hk'

/-! ### calls -/
def Ret (C : Bs) (w : World) (post : Value → World → Prop) : Ending → World → Prop := fun e w' => ∃ v, e = .returned v ∧ Keeps C w w' ∧ post v w'
def evl (l : Al Value) : List Operand → Option (List Value)
  | [] => some []
  | x :: r => match ev l x, evl l r with
    | some v, some vs => some (v :: vs)
    | _, _ => none
theorem evl_eval {N : Nat} (hS : Has N l a) : ∀ {xs : List Operand} {vs : List Value}, evl l xs = some vs → xs.map a.eval = vs
  | [], vs, h => by simpa [evl] using h
  | x :: r, vs, h => by
    unfold evl at h
    split at h
    · rename_i v us hv hvs
      simp only [Option.some.injEq] at h
      subst h
      rw [List.map_cons, evl_eval hS hvs, hS.eval hv]
    · cases h
theorem run_call_func {f : FuncId} {fn : Func} {cd : Code} (hf : P.funcs[f]? = some fn) (hb : fn.body = some cd) (hnm : (fn.name == "runtime.NumGoroutine") = false) (args : Array Value) (w : World) : (callFunc f args).run P w = .ok (.enter f args) w := by
  simp only [callFunc, Sem.run_bind, program, Sem.run, Result.andThen_ok, hf, hnm, hb]
  simp [Sem.run]
/-- a call of a function, by its contract -/
theorem l_call {f : FuncId} {fn : Func} {cd : Code} {args : List Operand} {ats : Array TypeId} {vs : List Value} {post : Value → World → Prop} {fo : Operand} {cap : List Value} (hS : St Γ l L D a w) (hfo : ev l fo = some (.func (.func f) #[] cap.toArray)) (hf : P.funcs[f]? = some fn) (hb : fn.body = some cd) (hnm : (fn.name == "runtime.NumGoroutine") = false)
    (ha : evl l args = some vs) (hd : Nat.blt d Γ.N = true) (hc : Calls P f (vs ++ cap).toArray w (Ret noB w post))
    (h : ∀ v a' w', Keeps noB w w' → post v w' → St Γ ((d, v) :: l) L D a' w' → K a' w') : Oper.wp P ⟨some d, .call ⟨.value fo, args.toArray, ats⟩, ty, pos, af, g⟩ a w K Q := by
  have h1 : args.map a.eval = vs := evl_eval hS.fr ha
  have hr : (execOp a.eval (⟨some d, .call ⟨.value fo, args.toArray, ats⟩, ty, pos, af, g⟩ : Oper)).run P w = .ok (.enter f (vs ++ cap).toArray) w := by
    simp [execOp, resolve, hS.fr.eval hfo, Deferred.ofValue, invoke, h1, run_call_func hf hb hnm]
  unfold Oper.wp
  rw [hr]
  refine Calls.mono hc ?_
  rintro e w' ⟨v, rfl, hk, hp⟩
  have he := hS.wd.grown hk
  exact h v _ w' hk hp ⟨hS.fr.put hd, hS.wd.ext he⟩
/-- a call that hands back memory of its own -/
theorem l_callOwn {f : FuncId} {fn : Func} {cd : Code} {args : List Operand} {ats : Array TypeId} {vs : List Value} {post : Value → Ob → World → Prop} {fo : Operand} {cap : List Value} (hS : St Γ l L D a w) (kk : Nat) (hk : look L kk = none) (hfo : ev l fo = some (.func (.func f) #[] cap.toArray)) (hf : P.funcs[f]? = some fn) (hb : fn.body = some cd) (hnm : (fn.name == "runtime.NumGoroutine") = false)
    (ha : evl l args = some vs) (hd : Nat.blt d Γ.N = true) (hc : Calls P f (vs ++ cap).toArray w (Ret noB w fun v w' => ∃ ob : Ob, ob.holds w' ∧ (∀ b, ob.ids b → w.heap.size ≤ b) ∧ post v ob w'))
    (h : ∀ v ob a' w', Keeps noB w w' → post v ob w' → St Γ ((d, v) :: l) ((kk, ob) :: L) D a' w' → K a' w') : Oper.wp P ⟨some d, .call ⟨.value fo, args.toArray, ats⟩, ty, pos, af, g⟩ a w K Q := by
  have h1 : args.map a.eval = vs := evl_eval hS.fr ha
  have hr : (execOp a.eval (⟨some d, .call ⟨.value fo, args.toArray, ats⟩, ty, pos, af, g⟩ : Oper)).run P w = .ok (.enter f (vs ++ cap).toArray) w := by
    simp [execOp, resolve, hS.fr.eval hfo, Deferred.ofValue, invoke, h1, run_call_func hf hb hnm]
  unfold Oper.wp
  rw [hr]
  refine Calls.mono hc ?_
  rintro e w' ⟨v, rfl, hK, ob, ho, hn, hp⟩
  exact h v ob _ w' hK hp ⟨hS.fr.put hd, hS.wd.new (hS.wd.grown hK) hk ho hn⟩
theorem row_cap {A : Option Addr} {n c sz : Nat} {e : TypeId} {xs : List Value} (h : (Ob.row A n c e sz xs).holds w) : n ≤ c := by
  have h' : w.ownsRow 0 e sz (.slice A n c) n xs := h
  rcases h'.2 with ⟨hv, h0⟩ | ⟨g, cap, cur, hv, hg, hh, hnc, _⟩
  · injection hv with h1 h2 h3; omega
  · injection hv with h1 h2 h3; omega
/-- a row cut back: 's[:i]' -/
theorem row_cut {A : Option Addr} {n c sz i : Nat} {e : TypeId} {xs : List Value} (h : (Ob.row A n c e sz xs).holds w) (hi : i ≤ n) : (Ob.row A i c e sz (xs.take (i * sz))).holds w := by
  have h' : w.ownsRow 0 e sz (.slice A n c) n xs := h
  have hle : i * sz ≤ n * sz := Nat.mul_le_mul_right _ hi
  refine ⟨by rw [List.length_take, h'.1, Nat.min_eq_left hle], ?_⟩
  rcases h'.2 with ⟨hv, h0⟩ | ⟨g, cap, cur, hv, hg, hh, hnc, hcm, hcs, htake⟩
  · injection hv with h1 h2 h3
    subst h1; subst h2; subst h3
    obtain rfl : i = 0 := by omega
    exact .inl ⟨rfl, rfl⟩
  · injection hv with h1 h2 h3
    subst h1; subst h3
    refine .inr ⟨g, c, cur, rfl, hg, hh, by omega, hcm, hcs, ?_⟩
    rw [← htake, List.take_take, Nat.min_eq_left hle]
theorem St.rowCut {A : Option Addr} {n c sz i : Nat} {e : TypeId} {xs : List Value} (hS : St Γ l L D a w) (hb : look L kk = some (Ob.row A n c e sz xs)) (hi : i ≤ n) : St Γ l ((kk, Ob.row A i c e sz (xs.take (i * sz))) :: L) D a w :=
  ⟨hS.fr, hS.wd.set hb (Keeps.refl _ _) (row_cut (hS.wd.holds kk _ hb) hi) fun b hb => .inl hb⟩
/-- 'append([]T(nil), make([]T, n)...)' -/
theorem l_appendZeros {m : Int} {n sz by_ : Nat} {e : TypeId} {zv : Value} {kn : IntKind} (hS : St Γ l L D a w) (kk : Nat) (hx : ev l x = some (.slice none 0 0)) (hy : ev l y = some (.int k m)) (hm : m = n) (h0 : 0 < n) (hk : look L kk = none)
    (hu : P.underlying t = some (.slice e)) (hu' : P.underlying t' = some (.int kn)) (hsz : (P.info? e).map (·.size) = some sz) (hby : (P.info? e).map (·.bytes) = some by_) (hz : (P.info? e).bind (·.zero) = some zv) (hzs : zv.cells.size = sz) (hpos : Nat.blt 0 sz = true)
    (hroom : n * by_ ≤ 140737488355328) (h63 : n ≤ 9223372036854775807) (hd : Nat.blt d Γ.N = true)
    (h : ∀ b c'' a' w', w.heap.size ≤ b → Keeps noB w w' → St Γ ((d, .slice (some ⟨b, 0, none⟩) n c'') :: l) ((kk, Ob.row (some ⟨b, 0, none⟩) n c'' e sz (Builtin.zeroCells zv.cells n).toList) :: L) D a' w' → K a' w') :
    Oper.wp P ⟨some d, .call ⟨.builtin .append, #[x, y], #[t, t']⟩, ty, pos, af, g⟩ a w K Q := by
  obtain ⟨i, hi, hs⟩ := Option.map_eq_some_iff.1 hsz
  have hzi : i.zero = some zv := by simpa [hi] using hz
  have hbi : i.bytes = by_ := by simpa [hi] using hby
  subst hs; subst hbi; subst hm
  have hrun := Lib.run_append_nil_zeros (P := P) w t t' ty e i zv k kn hu hu' hi hzi n h0 (Nat.le_of_ble_eq_true hpos) (by omega) (by omega)
  have hge := grownCap_ge w n 0 e
  have hcm : grownCap w n 0 e ≤ maxLen := grownCap_le_maxLen w n 0 e (by unfold maxLen; omega)
  have hK : Keeps noB w (w.drew.alloc (.cells (Builtin.zeroCells zv.cells n ++ Builtin.zeroCells zv.cells (grownCap w n 0 e - n)) e)) := (Keeps.drew _ _).trans (Keeps.alloc _ _ _)
  refine wp_value (v := .slice (some ⟨w.heap.size, 0, none⟩) n (grownCap w n 0 e)) (by simp only [execOp, resolve, invoke, builtin, Sem.run_bind, Sem.run_pure, Result.andThen_ok, List.map_toArray, List.map_cons, List.map_nil, hS.fr.eval hx, hS.fr.eval hy, hrun]) (h _ _ _ _ (Nat.le_refl _) hK ⟨hS.fr.put hd, hS.wd.new (hS.wd.grown hK) hk ?_ ?_⟩)
  · refine ⟨by simp [size_zeroCells, hzs], .inr ⟨w.heap.size, _, _, rfl, Nat.zero_le _, heap_new _ _, hge, hcm, ?_, ?_⟩⟩
    · simp only [Array.size_append, size_zeroCells, hzs, ← Nat.add_mul]
      congr 1
      omega
    · rw [Array.toList_append]
      have : n * i.size = (Builtin.zeroCells zv.cells n).toList.length := by simp [size_zeroCells, hzs]
      rw [this]
      exact List.take_left
  · rintro b ⟨p, hp, rfl⟩
    cases hp
    exact Nat.le_refl _
/-! ### reading and writing a row of the call's own -/
theorem row_form {A : Option Addr} {n c sz : Nat} {e : TypeId} {xs : List Value} (h : (Ob.row A n c e sz xs).holds w) (hn : 0 < n) : ∃ b, A = some ⟨b, 0, none⟩ := by
  have h' : w.ownsRow 0 e sz (.slice A n c) n xs := h
  rcases h'.2 with ⟨hv, h0⟩ | ⟨b, cap, cur, hv, _⟩
  · omega
  · injection hv with h1
    exact ⟨b, h1⟩
theorem row_len {A : Option Addr} {n c sz : Nat} {e : TypeId} {xs : List Value} (h : (Ob.row A n c e sz xs).holds w) : xs.length = n * sz := by
  have h' : w.ownsRow 0 e sz (.slice A n c) n xs := h
  exact h'.1
variable {L1 : Al Ob} {dst : Option Tmp}
theorem y_rowIndex {A : Option Addr} {n c sz i b : Nat} {e : TypeId} (hS : St Γ l L D a w) (hx : ev l x = some (.slice A n c)) (hy : ev l y = some (.int k m)) (hu : P.underlying t = some (.slice e)) (hsz : (P.info? e).map (·.size) = some sz) (hA : A = some ⟨b, 0, none⟩) (hi : m = i) (h1 : i < n) :
    Yl P L L1 ⟨dst, .indexAddr t x y, ty, pos, af, g⟩ a w (.pointer (some ⟨b, i * sz, none⟩)) := by
  have := y_elem (P := P) (L1 := L1) (d := dst) (ty := ty) (pos := pos) (af := af) (g := g) (p := (⟨b, 0, none⟩ : Addr).add (i * sz)) hS hx hy hu hsz ⟨_, hA, rfl⟩ hi h1
  rw [add_add, add_lit] at this
  simpa using this
theorem row_cell {A : Option Addr} {n c sz o b : Nat} {e : TypeId} {xs : List Value} {w' : World} (h : (Ob.row A n c e sz xs).holds w') (hA : A = some ⟨b, 0, none⟩) (hv : xs[o]? = some v) : w'.cell? ⟨b, o, none⟩ = some v := by
  subst hA
  have h' : w'.ownsRow 0 e sz (.slice (some ⟨b, 0, none⟩) n c) n xs := h
  have := h'.cells (g := b) rfl o v hv
  rwa [add_lit, Nat.zero_add] at this
theorem y_loadRow1 {A : Option Addr} {n c sz o b kk : Nat} {e : TypeId} {xs : List Value} {dd : TypeDesc} (hS : St Γ l L D a w) (hx : ev l x = some (.pointer (some ⟨b, o, none⟩))) (hb : look L1 kk = some (Ob.row A n c e sz xs)) (hA : A = some ⟨b, 0, none⟩) (hv : xs[o]? = some v)
    (hu : P.underlying t = some dd) (ha : isAggT P t = false) : Yl P L L1 ⟨dst, .load t x, ty, pos, af, g⟩ a w v := fun w' he => by
  have h2 := row_cell (he.2 kk _ hb) hA hv
  simp [execOp, hS.fr.eval hx, Instr.loadAt, Instr.sureAddr, loadVar, run_isAgg hu, ha, load, Sem.run, h2]
theorem y_loadRow {A : Option Addr} {n c sz o b kk : Nat} {e : TypeId} {xs vs : List Value} {dd : TypeDesc} (hS : St Γ l L D a w) (hx : ev l x = some (.pointer (some ⟨b, o, none⟩))) (hb : look L1 kk = some (Ob.row A n c e sz xs)) (hA : A = some ⟨b, 0, none⟩) (hv : (xs.drop o).take vs.length = vs)
    (hu : P.underlying t = some dd) (ha : isAggT P t = true) (hn : (P.info? t).map (·.size) = some vs.length) : Yl P L L1 ⟨dst, .load t x, ty, pos, af, g⟩ a w (.agg vs.toArray) := fun w' he => by
  have h2 : ∀ j u, vs[j]? = some u → w'.cell? ((⟨b, o, none⟩ : Addr).add j) = some u := by
    intro j u hj
    rw [add_lit]
    refine row_cell (he.2 kk _ hb) hA ?_
    have hjn := (List.getElem?_eq_some_iff.1 hj).1
    rw [← hv, List.getElem?_take, if_pos hjn, List.getElem?_drop] at hj
    exact hj
  obtain ⟨i, hi, hs⟩ := Option.map_eq_some_iff.1 hn
  have h3 := run_loadCells_list (P := P) w' ⟨b, o, none⟩ vs h2
  simp [execOp, hS.fr.eval hx, Instr.loadAt, Instr.sureAddr, loadVar, run_isAgg hu, ha, sizeOf, typeInfo, hi, hs, h3]
/-- a row lent to a callee that only reads -/
theorem St.lend {L' : Al Ob} {A : Option Addr} {n c : Nat} {e : TypeId} {cs : List Value} {xs : List α} (hS : St Γ l L D a w) (hb : look L kk = some (Ob.row A n c e R.size cs)) (hpos : Nat.blt 0 R.size = true) (hr : RdAll R (mtb Γ L) w cs xs)
    (hL : SubA L' L) (hk : look L' kk = none) : SlR R (mtb Γ L') w A n c xs :=
  (hS.freeze 0 hb hpos hr hL hk).fact (k := 0) (f := slF R A n c xs) rfl
/-- an array's element, in a box -/
theorem y_arrIndex {b o o' i nn : Nat} {e : TypeId} {sz : Nat} (hS : St Γ l L D a w) (hx : ev l x = some (.pointer (some ⟨b, o, none⟩))) (hy : ev l y = some (.int k m)) (hu : P.underlying t = some (.array nn e)) (hsz : (P.info? e).map (·.size) = some sz) (hi : m = i) (h1 : i < nn) (ho : o + i * sz = o') :
    Yl P L L1 ⟨dst, .indexAddr t x y, ty, pos, af, g⟩ a w (.pointer (some ⟨b, o', none⟩)) := fun w' _ => by
  subst hi; subst ho
  obtain ⟨j, hj, hs⟩ := Option.map_eq_some_iff.1 hsz
  simp [execOp, hS.fr.eval hx, hS.fr.eval hy, Instr.indexAt, asIntOf, run_underlying hu, Instr.sureAddr, h1, sizeOf, typeInfo, hj, hs, add_lit]
end
end Go.Gl
