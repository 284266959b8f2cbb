/- Own lemmas for walks, fifth part: branches, loops, entering, returning, regions that draw their order. -/
import Derived.Test.YtoeolfnjblibpaaGl4
namespace Go.Gl
open Go.RowKit
set_option linter.unusedVariables false
set_option linter.unusedSimpArgs false

section
variable {P : Program} {Γ : Ctx} {l : Al Value} {L : Al Ob} {D : Al Fact} {a : Act} {w : World} {Q : Exit → Act → World → Prop} {c : Operand} {x y : Code} {v : Value}

theorem c_cond {b : Bool} (hS : St Γ l L D a w) (hc : ev l c = some (.bool b)) (ht : b = true → x.wp P Q a w) (hf : b = false → y.wp P Q a w) : (Code.cond c x y).wp P Q a w :=
  wp_cond_split (hS.fr.eval hc) ht hf
theorem c_dec {p : Prop} [Decidable p] (hS : St Γ l L D a w) (hc : ev l c = some (.bool (decide p))) (ht : p → x.wp P Q a w) (hf : ¬ p → y.wp P Q a w) : (Code.cond c x y).wp P Q a w :=
  wp_cond_split (hS.fr.eval hc) (fun h => ht (of_decide_eq_true h)) (fun h => hf (of_decide_eq_false h))
theorem c_not {p : Prop} [Decidable p] (hS : St Γ l L D a w) (hc : ev l c = some (.bool !(decide p))) (ht : ¬ p → x.wp P Q a w) (hf : p → y.wp P Q a w) : (Code.cond c x y).wp P Q a w :=
  wp_cond_split (hS.fr.eval hc) (fun h => ht (by simpa using h)) (fun h => hf (by simpa using h))
theorem c_t (hS : St Γ l L D a w) (hc : ev l c = some (.bool true)) (ht : x.wp P Q a w) : (Code.cond c x y).wp P Q a w := wp_cond_true (hS.fr.eval hc) ht
theorem c_f (hS : St Γ l L D a w) (hc : ev l c = some (.bool false)) (ht : y.wp P Q a w) : (Code.cond c x y).wp P Q a w := wp_cond_false (hS.fr.eval hc) ht

theorem p_then {K : Act → World → Prop} {i : Nat} (h : Q (.exit i) a w) : Exit.then K Q (.exit i) a w := h
theorem p_norm {K : Act → World → Prop} (h : K a w) : Exit.then K Q .normal a w := h
theorem p_in {i : Nat} (h : Q .normal a w) : Exit.inBlock i Q (.exit i) a w := by simp only [Exit.inBlock, if_true]; exact h
theorem p_out {i j : Nat} (hij : Nat.beq i j = false) (h : Q (.exit i) a w) : Exit.inBlock j Q (.exit i) a w := by
  have : i ≠ j := fun e => by subst e; simp at hij
  simp only [Exit.inBlock, if_neg this]; exact h
theorem p_thenR {K : Act → World → Prop} (h : Q .ret a w) : Exit.then K Q .ret a w := h
theorem p_inR {i : Nat} (h : Q .ret a w) : Exit.inBlock i Q .ret a w := h
theorem p_inN {i : Nat} (h : Q .normal a w) : Exit.inBlock i Q .normal a w := h
/-- a cut: what holds behind the first part -/
theorem c_cut (J : Act → World → Prop) (h1 : x.wp P (Exit.then J Q) a w) (h2 : ∀ a w, J a w → y.wp P Q a w) : (Code.seq x y).wp P Q a w :=
  wp_seq (wp_mono h1 fun e a' w' hq => by cases e <;> first | exact h2 _ _ hq | exact hq)

/-- a loop: 'inv' of a ghost state, a measure on it -/
theorem c_loop {σ : Type} (inv : σ → Act → World → Prop) (μ : σ → Nat) (s0 : σ) (h0 : inv s0 a w)
    (round : ∀ s a w, inv s a w → x.wp P (Exit.then (fun a' w' => ∃ s', μ s' < μ s ∧ inv s' a' w') Q) a w) : (Code.loop x).wp P Q a w := by
  refine wp_loop_ghost (fun n a w => ∃ s, μ s = n ∧ inv s a w) (μ s0) ⟨s0, rfl, h0⟩ ?_
  rintro n a w ⟨s, rfl, hs⟩
  refine wp_mono (round s a w hs) fun e a' w' hq => ?_
  cases e <;> first | exact hq | (obtain ⟨s', h1, h2⟩ := hq; exact ⟨μ s', h1, s', rfl, h2⟩)

/-- entering a function -/
def slotsFrom (i : Nat) : List Value → Al Value
  | [] => []
  | v :: r => (i, v) :: slotsFrom (i + 1) r
theorem look_slotsFrom {k : Nat} {u : Value} : ∀ {vs : List Value} {i : Nat}, look (slotsFrom i vs) k = some u → i ≤ k ∧ vs[k - i]? = some u
  | [], i, h => by cases h
  | v :: r, i, h => by
    rcases look_cons h with ⟨rfl, rfl⟩ | ⟨hne, h⟩
    · simp
    · obtain ⟨h1, h2⟩ := look_slotsFrom h
      refine ⟨by omega, ?_⟩
      rw [show k - i = (k - (i + 1)) + 1 by omega, List.getElem?_cons_succ]
      exact h2
theorem enter {f : FuncId} {fn : Func} {cd : Code} {vs : List Value} {R : Ending → World → Prop} (M C : Bs) (hf : P.funcs[f]? = some fn) (hb : fn.body = some cd) (hn : Nat.ble vs.length fn.ntmps = true) (hM : ∀ b, M b → b < w.heap.size)
    (h : ∀ a, St ⟨fn.ntmps, M, C, w⟩ (slotsFrom 0 vs) [] [] a w → cd.wp P (bodyPost P fn R) a w) : Calls P f vs.toArray w R := by
  refine calls_of_wp hf hb (h _ ⟨⟨?_, rfl, fun k u hk => ?_⟩, ⟨Keeps.refl _ _, (fun k o h => by cases h), (fun k k' o o' b h => by cases h), ?_, hM, ?_, (fun k f h => by cases h)⟩⟩)
  · have := Nat.le_of_ble_eq_true hn
    simp
    omega
  · obtain ⟨_, hk⟩ := look_slotsFrom hk
    have hlt : k < vs.length := (List.getElem?_eq_some_iff.1 hk).1
    rw [Array.getD_eq_getD_getElem?, Array.getElem?_append_left (by simpa using hlt)]
    simp at hk ⊢
    rw [hk]
    rfl
  · rintro b ⟨k, o, hk, _⟩; cases hk
  · rintro b ⟨k, o, hk, _⟩; cases hk
theorem enterM {M : Bs} {N : Nat} {C : Bs} {w w1 : World} : ∀ b, b < w.heap.size → mtb ⟨N, M, C, w1⟩ [] b → M b := fun b _ h => h.elim id fun h => by obtain ⟨k, o, hk, _⟩ := h; cases hk
end

/-! ### returning -/
section
variable {P : Program} {Γ : Ctx} {l : Al Value} {L : Al Ob} {D : Al Fact} {a : Act} {w : World} {fn : Func} {post : Value → World → Prop}
def resOne (tmps : Array Value) : ResultVar → Sem Value
  | .tmp t => pure (tmps.getD t undef)
  | .cell x t => do loadVar t (← asAddr (tmps.getD x undef))
theorem results_eq (fn : Func) (tmps : Array Value) : results fn tmps = (do
    let vs ← fn.results.mapM (resOne tmps)
    pure (if h : vs.size = 1 then vs[0] else .tuple vs)) := by
  unfold results
  congr 2
/-- what a result variable holds -/
def ResV (P : Program) (a : Act) (w : World) (r : ResultVar) (v : Value) : Prop := (resOne a.tmps r).run P w = .ok v w
theorem r_tmp {t : Tmp} {v : Value} (hS : St Γ l L D a w) (h : look l t = some v) : ResV P a w (.tmp t) v := by
  unfold ResV resOne
  simp [hS.fr.slots t v h]
theorem r_cell1 {x : Tmp} {t tb : TypeId} {b o kk : Nat} {cs : List Value} {v : Value} {dd : TypeDesc} (hS : St Γ l L D a w) (h : look l x = some (.pointer (some ⟨b, o, none⟩))) (hb : look L kk = some (Ob.box b cs tb)) (hv : cs[o]? = some v)
    (hu : P.underlying t = some dd) (ha : isAggT P t = false) : ResV P a w (.cell x t) v := by
  have h1 : w.heap[b]? = some (.cells cs.toArray tb (0, 0)) := hS.wd.holds kk _ hb
  have h2 : w.cell? ⟨b, o, none⟩ = some v := by simp [World.cell?, h1, hv]
  unfold ResV resOne
  simp [hS.fr.slots x _ h, asAddr, loadVar, run_isAgg hu, ha, load, Sem.run, h2]
theorem r_cell {x : Tmp} {t tb : TypeId} {b o kk n : Nat} {cs vs : List Value} {dd : TypeDesc} (hS : St Γ l L D a w) (h : look l x = some (.pointer (some ⟨b, o, none⟩))) (hb : look L kk = some (Ob.box b cs tb))
    (hu : P.underlying t = some dd) (ha : isAggT P t = true) (hn : (P.info? t).map (·.size) = some n) (hv : (cs.drop o).take n = vs) (hl : vs.length = n) : ResV P a w (.cell x t) (.agg vs.toArray) := by
  have h1 : w.heap[b]? = some (.cells cs.toArray tb (0, 0)) := hS.wd.holds kk _ hb
  have h2 : ∀ j u, vs[j]? = some u → w.cell? ((⟨b, o, none⟩ : Addr).add j) = some u := by
    intro j u hj
    rw [add_lit]
    have hjn : j < n := by rw [← hl]; exact (List.getElem?_eq_some_iff.1 hj).1
    rw [← hv, List.getElem?_take, if_pos hjn, List.getElem?_drop] at hj
    simp [World.cell?, h1, hj]
  obtain ⟨i, hi, hsz⟩ := Option.map_eq_some_iff.1 hn
  have h3 := run_loadCells_list (P := P) w ⟨b, o, none⟩ vs h2
  rw [hl] at h3
  unfold ResV resOne
  simp [hS.fr.slots x _ h, asAddr, loadVar, run_isAgg hu, ha, sizeOf, typeInfo, hi, hsz, h3]

theorem fin0 (hS : St Γ l L D a w) (hr : fn.results = #[]) (hp : post (.tuple #[]) w) {e : Exit} (he : e = .ret ∨ e = .normal) : bodyPost P fn (Ret Γ.C Γ.w0 post) e a w := by
  have : (results fn a.tmps).run P w = .ok (.tuple #[]) w := results_none hr _ _ _
  rcases he with rfl | rfl <;> exact ⟨hS.fr.defers, _, this, _, rfl, hS.kept, hp⟩
theorem fin1 {r : ResultVar} {v : Value} (hS : St Γ l L D a w) (hr : fn.results = #[r]) (h1 : ResV P a w r v) (hp : post v w) : bodyPost P fn (Ret Γ.C Γ.w0 post) .ret a w := by
  refine ⟨hS.fr.defers, v, ?_, v, rfl, hS.kept, hp⟩
  unfold ResV at h1
  simp [results_eq, hr, h1]
theorem fin2 {r s : ResultVar} {v u : Value} (hS : St Γ l L D a w) (hr : fn.results = #[r, s]) (h1 : ResV P a w r v) (h2 : ResV P a w s u) (hp : post (.tuple #[v, u]) w) : bodyPost P fn (Ret Γ.C Γ.w0 post) .ret a w := by
  refine ⟨hS.fr.defers, _, ?_, _, rfl, hS.kept, hp⟩
  unfold ResV at h1 h2
  simp [results_eq, hr, h1, h2]
theorem fin3 {r s q : ResultVar} {v u z : Value} (hS : St Γ l L D a w) (hr : fn.results = #[r, s, q]) (h1 : ResV P a w r v) (h2 : ResV P a w s u) (h3 : ResV P a w q z) (hp : post (.tuple #[v, u, z]) w) : bodyPost P fn (Ret Γ.C Γ.w0 post) .ret a w := by
  refine ⟨hS.fr.defers, _, ?_, _, rfl, hS.kept, hp⟩
  unfold ResV at h1 h2 h3
  simp [results_eq, hr, h1, h2, h3]
end
end Go.Gl
