/- Own lemmas, sixteenth part: slices held against nil; rows with a view. -/
import Derived.Test.YtoeolfnjblibpaaGl14
namespace Go.Gl
open Go.RowKit
set_option linter.unusedVariables false
set_option linter.unusedSimpArgs false
section
variable {P : Program} {Γ : Ctx} {l : Al Value} {L L1 : Al Ob} {D : Al Fact} {a : Act} {w : World} {d : Option Tmp} {ty : TypeId} {pos : String} {af : Array Edge} {g : Option (Nat × Bool)} {x y : Operand} {t t' e : TypeId} {A : Option Addr} {n c : Nat}
theorem y_slnil (hS : St Γ l L D a w) (hx : ev l x = some (.slice A n c)) (hy : ev l y = some (.slice none 0 0)) (hu : P.underlying t = some (.slice e)) :
    Yl P L L1 ⟨d, .binOp .eql t x y t', ty, pos, af, g⟩ a w (.bool A.isNone) := fun w' _ => by
  have hg : (eqGuard .eql t x y (.slice A n c) (.slice none 0 0)).run P w' = .ok () w' := by
    unfold eqGuard
    split <;> simp
  have he : (Op.equal t (.slice A n c) (.slice none 0 0)).run P w' = .ok A.isNone w' := by
    simp only [Op.equal, Op.maxDepth]
    unfold Op.equalIn
    cases A <;> simp [run_underlying hu]
  simp only [execOp, hS.fr.eval hx, hS.fr.eval hy, hg, binOp, he, Sem.run_bind, Result.andThen_ok, Sem.run_pure]
theorem y_slnnil (hS : St Γ l L D a w) (hx : ev l x = some (.slice A n c)) (hy : ev l y = some (.slice none 0 0)) (hu : P.underlying t = some (.slice e)) :
    Yl P L L1 ⟨d, .binOp .neq t x y t', ty, pos, af, g⟩ a w (.bool !A.isNone) := fun w' _ => by
  have hg : (eqGuard .neq t x y (.slice A n c) (.slice none 0 0)).run P w' = .ok () w' := by
    unfold eqGuard
    split <;> simp
  have he : (Op.equal t (.slice A n c) (.slice none 0 0)).run P w' = .ok A.isNone w' := by
    simp only [Op.equal, Op.maxDepth]
    unfold Op.equalIn
    cases A <;> simp [run_underlying hu]
  simp only [execOp, hS.fr.eval hx, hS.fr.eval hy, hg, binOp, he, Sem.run_bind, Result.andThen_ok, Sem.run_pure]
theorem SlR.nil0 {α : Type} {R : Rep α} {M : Bs} {xs : List α} (h : SlR R M w A n c xs) (hA : A.isNone = true) : xs = [] := by
  have := h.nil (by simpa using hA)
  have h1 := h.cap
  have h2 := h.len
  exact List.eq_nil_of_length_eq_zero (by omega)
end
section
variable {Γ : Ctx} {l : Al Value} {L : Al Ob} {D : Al Fact} {a : Act} {w : World} {α : Type} {R : Rep α} {cs : List Value} {xs : List α} {k : Nat} {ob : Ob}
theorem St.eqs {l' : Al Value} {L' : Al Ob} (hS : St Γ l L D a w) (hl : l = l') (hL : L = L') : St Γ l' L' D a w := by subst hl; subst hL; exact hS
/-- what a call handed back as its own: read under the caller's eyes -/
theorem RdAll.up2 (hS : St Γ l ((k, ob) :: L) D a w) (h : RdAll R (fun b => mtb Γ L b ∨ ob.ids b) w cs xs) : RdAll R (mtb Γ ((k, ob) :: L)) w cs xs :=
  ⟨h.len, fun i x hx => R.change (fun b _ hb => by
    rcases hb with hb | ⟨j, o, hj, hi⟩
    · exact .inl (.inl hb)
    · rcases look_cons hj with ⟨_, rfl⟩ | ⟨_, hj⟩
      · exact .inr hi
      · exact .inl (.inr ⟨j, o, hj, hi⟩)) (h.at_ i x hx)⟩
theorem RdAll.own {N : Nat} {M C : Bs} {w0 : World} {kk : Nat} (hS : St ⟨N, M, C, w0⟩ l L D a w) (hb : look L kk = some ob) (h : RdAll R (mtb ⟨N, M, C, w0⟩ L) w cs xs) : RdAll R (fun b => M b ∨ ob.ids b) w cs xs :=
  ⟨h.len, fun i x hx => R.change (fun b _ h => h.elim .inl fun h => .inr ⟨kk, _, hb, h⟩) (h.at_ i x hx)⟩
end

/-! ### a row with a view into its past: a part that was cut out and stays as it was while the row grows -/
def viewOk (w : World) (V : Option Addr) (vs : List Value) : Prop := ∀ p, V = some p → p.block < w.heap.size ∧ ∀ j u, vs[j]? = some u → w.cell? (p.add j) = some u
/-- where the view lies: inside the row as it is, or in a block of its own -/
def viewIn (A : Option Addr) (N : Nat) (V : Option Addr) (m : Nat) : Prop := ∀ p, V = some p → (∃ b o, A = some ⟨b, 0, none⟩ ∧ p = ⟨b, o, none⟩ ∧ o + m ≤ N) ∨ ∀ q, A = some q → q.block ≠ p.block
def Ob.rowV (A : Option Addr) (n c : Nat) (t : TypeId) (size : Nat) (xs : List Value) (V : Option Addr) (vs : List Value) : Ob where
  ids := fun k => (∃ p, A = some p ∧ p.block = k) ∨ ∃ p, V = some p ∧ p.block = k
  holds := fun w => (Ob.row A n c t size xs).holds w ∧ viewOk w V vs ∧ viewIn A xs.length V vs.length
  lt := fun {w b} h e => by
    rcases e with e | ⟨p, rfl, rfl⟩
    · exact (Ob.row A n c t size xs).lt h.1 e
    · exact (h.2.1 p rfl).1
  keep := fun {w w'} h hk => by
    refine ⟨(Ob.row A n c t size xs).keep h.1 fun b hb => hk b (.inl hb), fun p hp => ?_, h.2.2⟩
    have hb := hk p.block (.inr ⟨p, hp, rfl⟩)
    obtain ⟨h1, h2⟩ := h.2.1 p hp
    have e : ∀ j, w'.cell? (p.add j) = w.cell? (p.add j) := fun j => World.cell?_of_block (w := w) (by rw [add_block]; exact hb)
    refine ⟨?_, fun j u hj => (e j).trans (h2 j u hj)⟩
    rcases Nat.lt_or_ge p.block w'.heap.size with h3 | h3
    · exact h3
    · rw [Array.getElem?_eq_none h3] at hb
      have := Array.getElem?_eq_getElem h1
      rw [this] at hb
      cases hb
section
variable {P : Program} {Γ : Ctx} {l : Al Value} {L L1 : Al Ob} {D : Al Fact} {a : Act} {w : World} {d : Tmp} {dst : Option Tmp} {ty : TypeId} {pos : String} {af : Array Edge} {g : Option (Nat × Bool)} {v : Value} {x y z : Operand} {t t' e : TypeId} {A V : Option Addr} {n c sz kk : Nat} {k : IntKind} {m : Int} {cs vs : List Value} {K : Act → World → Prop} {Q : Exit → Act → World → Prop} {dd : TypeDesc}
/-- what an append leaves as it was -/
theorem append_keeps (ht : P.underlying t = some (.slice e)) {i : TypeInfo} {zv : Value} (hi : P.info? e = some i) (hz : i.zero = some zv) (hs : i.size = sz) {by_ : Nat} (hb : i.bytes = by_) (hsz : 0 < sz) {xs : List Value} (hown : w.ownsRow 0 e sz (.slice A n c) n xs) {B : Option Addr} {m c' : Nat} {news : List Value} (hr : Src w B m sz news) (h63 : n + m ≤ 9223372036854775807) (hbytes : (n + m) * by_ ≤ 140737488355328)
    {A' : Option Addr} {c'' : Nat} {w' : World} (hrun : (Builtin.append_ #[t, t] ty #[.slice A n c, .slice B m c']).run P w = .ok (.slice A' (n + m) c'') w') :
    (A' = A ∧ ∀ q, A = some q → ∀ j, j < n * sz → w'.cell? (q.add j) = w.cell? (q.add j)) ∨ ((∀ p, A' = some p → p.block = w.heap.size) ∧ Keeps noB w w') := by
  subst hs; subst hb
  cases B with
  | none =>
    have hm := hr.nil rfl
    subst hm
    left
    have h2 : (Builtin.append_ #[t, t] ty #[.slice A n c, .slice none 0 c']).run P w = .ok (.slice A n c) w := by
      rcases hown.2 with ⟨hv, h0⟩ | ⟨g, cap, cur, hv, _, _, hnc, _⟩
      · injection hv with h1 h2 h3
        subst h1; subst h2; subst h3
        simp [Builtin.append_, run_underlying ht, sizeOf, typeInfo, hi, Builtin.lenOf, Builtin.firstCells]
      · injection hv with h1 h2 h3
        subst h1; subst h3
        simp [Builtin.append_, run_underlying ht, sizeOf, typeInfo, hi, Builtin.lenOf, Builtin.firstCells, hnc, storeCells]
    rw [h2] at hrun
    injection hrun with h3 h4
    injection h3 with h5
    subst h4
    exact ⟨h5.symm, fun _ _ _ _ => rfl⟩
  | some q =>
    rcases hown.2 with ⟨hv, h0⟩ | ⟨g', cap, cur, hv, _, hh, hnc, hcm, hcs, htake⟩
    · injection hv with h1 h2 h3
      subst h1; subst h2; subst h3
      right
      rcases Nat.eq_zero_or_pos m with hm | hm
      · subst hm
        have h2 : (Builtin.append_ #[t, t] ty #[.slice none 0 0, .slice (some q) 0 c']).run P w = .ok (.slice none 0 0) w := by
          have hf := run_firstCells_some (P := P) w i.size 0 q 0 c' news hr.len (hr.at_ q rfl)
          simp [Builtin.append_, run_underlying ht, sizeOf, typeInfo, hi, Builtin.lenOf, hf]
        rw [h2] at hrun
        injection hrun with h3 h4
        injection h3 with h5
        subst h4; subst h5
        exact ⟨(fun p hp => by cases hp), Keeps.refl _ _⟩
      · have h2 := run_append_nil (P := P) w t ty e i zv ht hi hz q m c' news hr.len (hr.at_ q rfl) hm (by omega) (by rw [Nat.zero_add] at hbytes; omega)
        rw [h2] at hrun
        injection hrun with h3 h4
        injection h3 with h5
        subst h4; subst h5
        exact ⟨(fun p hp => by cases hp; rfl), (Keeps.drew _ _).trans (Keeps.alloc _ _ _)⟩
    · injection hv with h1 h2 h3
      subst h1; subst h3
      rcases Nat.lt_or_ge c (n + m) with hlt | hge
      · right
        have holds : ∀ j u, xs[j]? = some u → w.cell? ((⟨g', 0, none⟩ : Addr).add j) = some u := fun j u hj => hown.cells (g := g') rfl j u hj
        have h2 := run_append_grow (P := P) w t ty e i zv ht hi hz ⟨g', 0, none⟩ n c xs hown.1 holds q m c' news hr.len (hr.at_ q rfl) hlt (by omega) (growslice_fits hlt hbytes)
        rw [h2] at hrun
        injection hrun with h3 h4
        injection h3 with h5
        subst h4; subst h5
        exact ⟨(fun p hp => by cases hp; rfl), (Keeps.drew _ _).trans (Keeps.alloc _ _ _)⟩
      · left
        have hfit : n * i.size + news.length ≤ cur.size := by
          rw [hr.len, hcs, ← Nat.add_mul]
          exact Nat.mul_le_mul_right _ hge
        have h2 := run_append_room (P := P) w t ty e i ht hi g' n c cur hh q m c' news hr.len (hr.at_ q rfl) hr.one hge hfit
        rw [h2] at hrun
        injection hrun with h3 h4
        injection h3 with h5
        subst h4; subst h5
        refine ⟨rfl, fun p hp j hj => ?_⟩
        cases hp
        rw [add_lit, Nat.zero_add]
        have e1 := setRow_heap w g' cur (cur.toList.take (n * i.size) ++ news ++ cur.toList.drop (n * i.size + news.length)).toArray e _ hh
        have hjc : j < cur.size := by omega
        simp only [World.cell?, e1, hh]
        simp
        have hl : j < (List.take (n * i.size) cur.toList).length := by simp; omega
        rw [List.getElem?_append_left hl, List.getElem?_take_of_lt hj]
        simp
/-- append onto a row with a view -/
theorem l_appendV {B : Option Addr} {m' c' by_ N : Nat} {zv : Value} {xs news ys : List Value} (hS : St Γ l L D a w) (kk : Nat) (hx : ev l x = some (.slice A n c)) (hy : ev l y = some (.slice B m' c')) (hb : look L kk = some (Ob.rowV A n c e sz xs V vs))
    (hu : P.underlying t = some (.slice e)) (hsz : (P.info? e).map (·.size) = some sz) (hby : (P.info? e).map (·.bytes) = some by_) (hz : (P.info? e).bind (·.zero) = some zv) (hzs : zv.cells.size = sz) (hpos : Nat.blt 0 sz = true)
    (hr : Src w B m' sz news) (hN : n + m' = N) (hys : xs ++ news = ys) (hroom : N * by_ ≤ 140737488355328) (h63 : N ≤ 9223372036854775807) (hd : Nat.blt d Γ.N = true)
    (h : ∀ A' c'' a' w', Keeps (Ob.rowV A n c e sz xs V vs).ids w w' → St Γ ((d, .slice A' N c'') :: l) ((kk, Ob.rowV A' N c'' e sz ys V vs) :: L) D a' w' → K a' w') :
    Oper.wp P ⟨some d, .call ⟨.builtin .append, #[x, y], #[t, t]⟩, ty, pos, af, g⟩ a w K Q := by
  subst hN; subst hys
  obtain ⟨i, hi, hs⟩ := Option.map_eq_some_iff.1 hsz
  have hzi : i.zero = some zv := by simpa [hi] using hz
  have hbi : i.bytes = by_ := by simpa [hi] using hby
  have hps : 0 < sz := Nat.le_of_ble_eq_true hpos
  obtain ⟨hrow, hvok, hvin⟩ := hS.wd.holds kk _ hb
  have hrow' : w.ownsRow 0 e sz (.slice A n c) n xs := hrow
  obtain ⟨A', c'', w', hrun, hown, hg, hat⟩ := run_append_src (P := P) w t ty e i zv sz by_ hu hi hzi hs hbi hzs hps hrow' (c' := c') hr h63 hroom
  have hkeep := append_keeps (P := P) hu hi hzi hs hbi hps hrow' hr h63 hroom hrun
  have hk : Keeps (Ob.rowV A n c e sz xs V vs).ids w w' := ⟨hg.os, hg.tape, hg.output, hg.size, fun j hj hm => hg.block j hj (fun e => hm (by
    cases A with
    | none => simp [Value.ownBlock] at e
    | some q => exact .inl ⟨q, rfl, by simpa [Value.ownBlock] using e.symm⟩))⟩
  have hview : viewOk w' V vs ∧ viewIn A' (xs ++ news).length V vs.length := by
    have hlen := hrow'.1
    refine ⟨fun p hp => ?_, fun p hp => ?_⟩
    · obtain ⟨h1, h2⟩ := hvok p hp
      refine ⟨Nat.lt_of_lt_of_le h1 hg.size, fun j u hj => ?_⟩
      rw [← h2 j u hj]
      rcases hkeep with ⟨hA, hc⟩ | ⟨_, hc⟩
      · rcases hvin p hp with ⟨b, o, h3, h4, h5⟩ | h3
        · subst h4
          have hjv := (List.getElem?_eq_some_iff.1 hj).1
          have := hc ⟨b, 0, none⟩ h3 (o + j) (by omega)
          rw [add_lit, Nat.zero_add] at this
          rw [add_lit]
          exact this
        · have : w'.heap[p.block]? = w.heap[p.block]? := hg.block p.block h1 (fun e => by
            cases A with
            | none => simp [Value.ownBlock] at e
            | some q => exact h3 q rfl (by simpa [Value.ownBlock] using e.symm))
          exact World.cell?_of_block (w := w) (by rw [add_block]; exact this)
      · exact hc.cell (by rw [add_block]; exact h1) id
    · rcases hkeep with ⟨hA, _⟩ | ⟨hA, _⟩
      · subst hA
        rcases hvin p hp with ⟨b, o, h3, h4, h5⟩ | h3
        · exact .inl ⟨b, o, h3, h4, by rw [List.length_append]; omega⟩
        · exact .inr h3
      · right
        intro q hq e
        have h1 := (hvok p hp).1
        have h2 := hA q hq
        omega
  refine wp_value (v := .slice A' (n + m') c'') (w' := w') ?_ (h A' c'' _ w' hk ⟨hS.fr.put hd, hS.wd.set hb hk ⟨hown, hview⟩ ?_⟩)
  · simp [execOp, resolve, invoke, builtin, hS.fr.eval hx, hS.fr.eval hy, hrun]
  · rintro b (⟨p, hp, rfl⟩ | hv)
    · rcases hat p hp with h1 | h1
      · exact .inl (.inl h1)
      · exact .inr (Nat.le_of_eq h1.symm)
    · exact .inl (.inr hv)
/-- a part of a row cut out: the row gets a view -/
theorem St.view {α : Type} {xs : List α} {i j : Nat} (hS : St Γ l L D a w) (hb : look L kk = some (Ob.row A n c e sz cs)) (hij : i ≤ j) (hj : j ≤ n) : St Γ l ((kk, Ob.rowV A n c e sz cs (if c = i then A else A.map (·.add (i * sz))) ((cs.drop (i * sz)).take ((j - i) * sz))) :: L) D a w := by
  have hrow : (Ob.row A n c e sz cs).holds w := hS.wd.holds kk _ hb
  have h' : w.ownsRow 0 e sz (.slice A n c) n cs := hrow
  have hblk : ∀ p, (if c = i then A else A.map (·.add (i * sz))) = some p → ∃ q, A = some q ∧ q.block = p.block := fun p hp => by
    split at hp
    · exact ⟨p, hp, rfl⟩
    · cases A with
      | none => cases hp
      | some q => simp at hp; exact ⟨q, rfl, by rw [← hp, add_block]⟩
  refine ⟨hS.fr, hS.wd.set hb (Keeps.refl _ _) ⟨hrow, ?_, ?_⟩ ?_⟩
  · intro p hp
    obtain ⟨q, hq, hqb⟩ := hblk p hp
    refine ⟨by rw [← hqb]; exact (Ob.row A n c e sz cs).lt hrow ⟨q, hq, rfl⟩, fun jj u hu => ?_⟩
    rcases h'.2 with ⟨hv, h0⟩ | ⟨g', cap, cur, hv, _, hh, hnc, hcm, hcs, htake⟩
    · injection hv with h1 h2 h3
      subst h1; cases hq
    · injection hv with h1 h2 h3
      subst h1; subst h3
      have hne : ¬ c = i := fun ec => by
        have : j = i := by omega
        subst this
        simp at hu
      rw [if_neg hne] at hp
      simp at hp
      subst hp
      rw [List.getElem?_take] at hu
      split at hu
      · rw [List.getElem?_drop] at hu
        rw [add_add]
        exact h'.cells (g := g') rfl _ u hu
      · cases hu
  · intro p hp
    left
    rcases h'.2 with ⟨hv, h0⟩ | ⟨g', cap, cur, hv, _, hh, hnc, hcm, hcs, htake⟩
    · injection hv with h1 h2 h3
      subst h1
      obtain ⟨q, hq, _⟩ := hblk p hp
      cases hq
    · injection hv with h1 h2 h3
      subst h1; subst h3
      split at hp
      · rename_i ec
        cases hp
        refine ⟨g', 0, rfl, rfl, ?_⟩
        have : j = i := by omega
        subst this
        simp
      · simp at hp
        subst hp
        refine ⟨g', i * sz, rfl, by rw [add_lit, Nat.zero_add], ?_⟩
        rw [List.length_take, List.length_drop, h'.1]
        have : i * sz ≤ n * sz := Nat.mul_le_mul_right _ (by omega)
        omega
  · rintro b (hb' | ⟨p, hp, rfl⟩)
    · exact .inl hb'
    · obtain ⟨q, hq, hqb⟩ := hblk p hp
      exact .inl ⟨q, hq, hqb⟩
theorem St.unview (hS : St Γ l L D a w) (hb : look L kk = some (Ob.rowV A n c e sz cs V vs)) : St Γ l ((kk, Ob.row A n c e sz cs) :: L) D a w :=
  ⟨hS.fr, hS.wd.set hb (Keeps.refl _ _) (hS.wd.holds kk _ hb).1 fun b hb' => .inl (.inl hb')⟩
/-- reading the view -/
theorem y_loadV1 {q : Addr} {o : Nat} (hS : St Γ l L D a w) (hx : ev l x = some (.pointer (some (q.add o)))) (hb : look L1 kk = some (Ob.rowV A n c e sz cs V vs)) (hV : V = some q) (hv : vs[o]? = some v)
    (hu : P.underlying t = some dd) (ha : isAggT P t = false) : Yl P L L1 ⟨dst, .load t x, ty, pos, af, g⟩ a w v := fun w' he => by
  have h1 : (Ob.rowV A n c e sz cs V vs).holds w' := he.2 kk _ hb
  have h2 := (h1.2.1 q hV).2 o v hv
  simp [execOp, hS.fr.eval hx, Instr.loadAt, Instr.sureAddr, loadVar, run_isAgg hu, ha, load, Sem.run, h2]
theorem y_elemV {i nn cv : Nat} {q : Addr} (hS : St Γ l L D a w) (hx : ev l x = some (.slice V nn cv)) (hy : ev l y = some (.int k m)) (hu : P.underlying t = some (.slice t')) (hsz : (P.info? t').map (·.size) = some sz) (hV : V = some q) (hi : m = (i : Nat)) (h1 : i < nn) :
    Yl P L L1 ⟨dst, .indexAddr t x y, ty, pos, af, g⟩ a w (.pointer (some (q.add (i * sz)))) := by
  have := y_elem (P := P) (L1 := L1) (d := dst) (ty := ty) (pos := pos) (af := af) (g := g) (p := q.add (i * sz)) hS hx hy hu hsz ⟨q, hV, rfl⟩ hi h1
  rwa [add_zero] at this
theorem view_q {α : Type} {R : Rep α} {M : Bs} {xs : List α} {i j : Nat} (h : (Ob.row A n c e sz cs).holds w) (hr : RdAll R M w cs xs) (hs : R.size = sz) (hpos : Nat.blt 0 sz = true) (hj : j ≤ xs.length) : ∀ (q : Nat) y, ((xs.drop i).take (j - i))[q]? = some y → ∃ p, (if c = i then A else A.map (·.add (i * sz))) = some p := fun q y hy => by
  have hl := rowN h hr hs hpos
  have hq := (List.getElem?_eq_some_iff.1 hy).1
  rw [List.length_take, List.length_drop] at hq
  obtain ⟨b, hb⟩ := row_form h (by omega)
  have hc := row_cap h
  subst hb
  rw [if_neg (by omega)]
  exact ⟨_, rfl⟩
theorem RdAll.part {α : Type} {R : Rep α} {M : Bs} {xs : List α} {i j : Nat} (h : RdAll R M w cs xs) (hi : i ≤ j) (hj : j ≤ xs.length) : RdAll R M w ((cs.drop (i * R.size)).take ((j - i) * R.size)) ((xs.drop i).take (j - i)) :=
  (h.drop i (by omega)).take (j - i) (by rw [List.length_drop]; omega)
end
end Go.Gl
