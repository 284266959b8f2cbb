/- Own lemmas, twenty-second part: the commonest steps of a walk under short names. -/
import Derived.Test.YtoeolfnjblibpaaGl21
namespace Go.Gl
open Go.RowKit
set_option linter.unusedVariables false
abbrev vI (x : Int) : Value := .int .i64 x
abbrev vT (x : List UInt8) : Value := .string (bs x)
abbrev sl {α : Type} (A : Option Addr) (xs : List α) (c : Nat) : Value := .slice A xs.length c
abbrev vP (b o : Nat) : Value := .pointer (some ⟨b, o, none⟩)
section
variable {Γ : Ctx} {l : Al Value} {L : Al Ob} {D : Al Fact} {a : Act} {w : World} {P : Program} {ops : Array Oper} {Q : Exit → Act → World → Prop} {rest : List Oper} {o oj : Oper} {K : Act → World → Prop} {v u : Value} {d dj j : Nat} {want : Bool} {c : Code}
theorem qq (hS : St Γ l L D a w) (e : (o.dst, o.guard, Nat.blt d Γ.N) = (some d, none, true)) (hy : Yl P L L o a w v) (h : ∀ a', St Γ ((d, v) :: l) L D a' w → wpList P ops Q rest a' w) : wpList P ops Q (o :: rest) a w := by
  injection e with e1 e2; injection e2 with e2 e3
  exact q_seq hS e1 e2 e3 hy h
theorem gy (hS : St Γ l L D a w) (e : (o.guard, ops[j]?, oj.dst, look l dj, o.dst, Nat.blt d Γ.N) = (some (j, want), some oj, some dj, some (.bool want), some d, true)) (hy : Yl P L L o a w v) (h : ∀ a', St Γ ((d, v) :: l) L D a' w → wpList P ops Q rest a' w) : wpList P ops Q (o :: rest) a w := by
  injection e with e1 e; injection e with e2 e; injection e with e3 e; injection e with e4 e; injection e with e5 e6
  exact g_yes hS e1 e2 e3 e4 (l_quiet hS e5 e6 hy h)
theorem gl (hS : St Γ l L D a w) (e : (o.guard, ops[j]?, oj.dst, look l dj) = (some (j, want), some oj, some dj, some (.bool want))) (h : o.wp P a w (wpList P ops Q rest) Q) : wpList P ops Q (o :: rest) a w := by
  injection e with e1 e; injection e with e2 e; injection e with e3 e4
  exact g_yes hS e1 e2 e3 e4 h
theorem gn (hS : St Γ l L D a w) (e : (o.guard, ops[j]?, oj.dst, look l dj, isB u want, o.dst, Nat.blt d Γ.N) = (some (j, want), some oj, some dj, some u, false, some d, true)) (h : ∀ a', St Γ ((d, undef) :: l) L D a' w → wpList P ops Q rest a' w) : wpList P ops Q (o :: rest) a w := by
  injection e with e1 e; injection e with e2 e; injection e with e3 e; injection e with e4 e; injection e with e5 e; injection e with e6 e7
  exact g_no hS e1 e2 e3 e4 e5 e6 e7 h
theorem mv {x : Operand} {ty : TypeId} {pos : String} {af : Array Edge} {g : Option (Nat × Bool)} (hS : St Γ l L D a w) (e : (some d, g, Nat.blt d Γ.N) = (some d, none, true)) (hx : ev l x = some v) (h : ∀ a', St Γ ((d, v) :: l) L D a' w → wpList P ops Q rest a' w) : wpList P ops Q (⟨some d, .move x, ty, pos, af, g⟩ :: rest) a w := qq hS e (y_move hS hx) h
theorem asg {x : Operand} {ty : TypeId} {pos : String} {af : Array Edge} {g : Option (Nat × Bool)} (hS : St Γ l L D a w) (e : (some d, g, Nat.blt d Γ.N) = (some d, none, true)) (hx : ev l x = some v) (h : ∀ a', St Γ ((d, v) :: l) L D a' w → wpList P ops Q rest a' w) : wpList P ops Q (⟨some d, .assign x, ty, pos, af, g⟩ :: rest) a w := qq hS e (y_assign hS hx) h
theorem gm {x : Operand} {ty : TypeId} {pos : String} {af : Array Edge} {g : Option (Nat × Bool)} (hS : St Γ l L D a w) (e : (g, ops[j]?, oj.dst, look l dj, some d, Nat.blt d Γ.N) = (some (j, want), some oj, some dj, some (.bool want), some d, true)) (hx : ev l x = some v) (h : ∀ a', St Γ ((d, v) :: l) L D a' w → wpList P ops Q rest a' w) : wpList P ops Q (⟨some d, .move x, ty, pos, af, g⟩ :: rest) a w := gy hS e (y_move hS hx) h
theorem wL {id : Nat} {l : List Oper} (h : wpList P l.toArray Q l a w) : (Code.region id l.toArray false).wp P Q a w := wp_region_lit h
theorem wQ {x y : Code} (h : x.wp P (Exit.then (y.wp P Q) Q) a w) : (Code.seq x y).wp P Q a w := wp_seq h
theorem pN (h : K a w) : Exit.then K Q .normal a w := h
theorem wO (h : Q .normal a w) : wpList P ops Q [] a w := h
theorem y_loadAll {L1 : Al Ob} {b kk : Nat} {x : Operand} {cs : List Value} {t tb ty : TypeId} {dd : TypeDesc} {dx : Option Tmp} {pos : String} {af : Array Edge} {g : Option (Nat × Bool)} (hS : St Γ l L D a w) (hx : ev l x = some (.pointer (some ⟨b, 0, none⟩))) (hb : look L1 kk = some (Ob.box b cs tb)) (hu : P.underlying t = some dd) (ha : isAggT P t = true) (hn : (P.info? t).map (·.size) = some cs.length) : Yl P L L1 ⟨dx, .load t x, ty, pos, af, g⟩ a w (.agg cs.toArray) := y_loadBox hS hx hb hu ha hn (by simp) rfl
theorem wN (h : K a w) : wpList P ops (Exit.then K Q) [] a w := h
theorem wR {id : Nat} {l : List Oper} (h : wpList P l.toArray (Exit.then (c.wp P Q) Q) l a w) : (Code.seq (Code.region id l.toArray false) c).wp P Q a w := wp_seq (wp_region_lit h)
end
theorem br_n {ρ : Type} {b : Bool} {x y : Option ρ} {r : ρ} (h : (if b = true then x else y) = some r) (hp : b = false) : y = some r := br_f h (by rw [hp]; exact Bool.false_ne_true)
section
variable {P : Program} {ops : Array Oper} {Γ : Ctx} {l : Al Value} {L L0 : Al Ob} {D D0 : Al Fact} {a : Act} {wr : World} {o oj : Oper} {v u : Value} {d i g j dj : Nat} {want : Bool} {F : Act → World → Prop} {need : Nat → Nat → Bool} {r : List (Nat × Option Nat)}
theorem qt (hS : St Γ l L D a wr) (hR : Wd Γ L0 D0 wr) (e : (ops[i]?, o.dst, o.guard, Nat.blt d Γ.N) = (some o, some d, none, true)) (hy : Yl P L0 (one L0 g) o a wr v)
    (h : ∀ a', St Γ ((d, v) :: l) L D a' wr → wpPlan P ops F (fun g => Ext L0 (one L0 g) wr) need r a' wr) : wpPlan P ops F (fun g => Ext L0 (one L0 g) wr) need ((i, some g) :: r) a wr := by
  injection e with e1 e; injection e with e2 e; injection e with e3 e4
  exact q_take hS hR e1 e2 (by unfold Runs; rw [e3]) e4 hy h
theorem qg (hS : St Γ l L D a wr) (hR : Wd Γ L0 D0 wr) (e : (ops[i]?, o.dst, o.guard, ops[j]?, oj.dst, look l dj, isB u want, Nat.blt d Γ.N) = (some o, some d, some (j, want), some oj, some dj, some u, true, true)) (hy : Yl P L0 (one L0 g) o a wr v)
    (h : ∀ a', St Γ ((d, v) :: l) L D a' wr → wpPlan P ops F (fun g => Ext L0 (one L0 g) wr) need r a' wr) : wpPlan P ops F (fun g => Ext L0 (one L0 g) wr) need ((i, some g) :: r) a wr := by
  injection e with e1 e; injection e with e2 e; injection e with e3 e; injection e with e4 e; injection e with e5 e; injection e with e6 e; injection e with e7 e8
  exact q_take hS hR e1 e2 (by unfold Runs; rw [e3]; exact ⟨oj, dj, u, e4, e5, e6, e7⟩) e8 hy h
end
/-! lists of objects given by their keys -/
def keep {α : Type} (L : Al α) : List Nat → Al α
  | [] => []
  | k :: ks => match look L k with | some x => (k, x) :: keep L ks | none => keep L ks
theorem keep_sub {α : Type} {L : Al α} : ∀ ks, SubA (keep L ks) L
  | [] => trivial
  | k :: ks => by
    unfold keep
    split
    · rename_i x h; exact ⟨h, keep_sub ks⟩
    · exact keep_sub ks
theorem sbA {α : Type} {L L' : Al α} (h : keep L (L'.map (·.1)) = L') : SubA L' L := h ▸ keep_sub _
def pick (L : Al Ob) : List (Nat × Nat) → Al Ob
  | [] => []
  | (n, o) :: r => match look L o with | some x => (n, x) :: pick L r | none => pick L r
def olds (L : Al Ob) : List (Nat × Nat) → List Nat
  | [] => []
  | (_, o) :: r => match look L o with | some _ => o :: olds L r | none => olds L r
theorem pick_ren {L : Al Ob} : ∀ ks, RenL (pick L ks) (olds L ks) L
  | [] => trivial
  | (n, o) :: r => by
    unfold pick olds
    cases h : look L o with
    | some x => exact ⟨h, pick_ren r⟩
    | none => exact pick_ren r
theorem olds_sub {L : Al Ob} : ∀ ks, (olds L ks).Sublist (ks.map (·.2))
  | [] => List.Sublist.slnil
  | (n, o) :: r => by
    unfold olds
    cases look L o with
    | some x => exact (olds_sub r).cons_cons _
    | none => exact (olds_sub r).cons _
section
variable {Γ : Ctx} {l l' : Al Value} {L L' : Al Ob} {D D' : Al Fact} {a : Act} {w w0 : World} {α : Type} {R : Rep α} {kk N : Nat} {M C : Bs}
theorem St.sb (hS : St Γ l L D a w) (h1 : keep l (l'.map (·.1)) = l') (h2 : keep L (L'.map (·.1)) = L') (h3 : keep D (D'.map (·.1)) = D') : St Γ l' L' D' a w := hS.sub (sbA h1) (sbA h2) (sbA h3)
theorem St.pk (hS : St Γ l L D a w) (ks : List (Nat × Nat)) (hn : (ks.map (·.2)).Nodup) : St Γ l (pick L ks) D a w := hS.ren _ _ (pick_ren ks) (hn.sublist (olds_sub ks))
theorem St.restLt (hS : St Γ l L D a w) (ks : List Nat) : ∀ b, mtb Γ (keep L ks) b → b < w.heap.size := hS.lendLt (keep_sub ks)
theorem St.fz {A : Option Addr} {n c : Nat} {e : TypeId} {cs : List Value} {xs : List α} (hS : St Γ l L D a w) (ks : List Nat) (j : Nat) (hb : look L kk = some (Ob.row A n c e R.size cs)) (hpos : Nat.blt 0 R.size = true) (hr : RdAll R (mtb Γ L) w cs xs) (hk : look (keep L ks) kk = none) : St Γ l (keep L ks) ((j, slF R A n c xs) :: D) a w := hS.freeze (L' := keep L ks) j hb hpos hr (keep_sub ks) hk
theorem St.ns {A : Option Addr} {n c : Nat} {xs : List α} (hS : St Γ l L D a w) (k : Nat) (h : SlR R (mtb Γ L) w A n c xs) : St Γ l L ((k, slF R A n c xs) :: D) a w := hS.add k _ h
theorem St.ft {f : Fact} (h : St Γ l L D a w) (k : Nat) (hk : look D k = some f) : f.p (mtb Γ L) w := h.wd.facts k f hk
theorem St.al {f : Fact} (hS : St Γ l L D a w) (k j : Nat) (h : look D j = some f) : St Γ l L ((k, f) :: D) a w := hS.add k f (hS.fact h)
theorem St.es {A : Option Addr} {n c : Nat} {xs : List α} (hS : St ⟨N, M, C, w0⟩ l [] D a w) (k : Nat) (h : SlR R M w A n c xs) : St ⟨N, M, C, w0⟩ l [] ((k, slF R A n c xs) :: D) a w := hS.add k _ (Fact.change (slF R A n c xs) enterM h)
theorem St.ebx {b : Nat} {cs : List Value} {t : TypeId} (hS : St ⟨N, M, C, w0⟩ l [] D a w) (k : Nat) (h : BoxR b cs t M w) : St ⟨N, M, C, w0⟩ l [] ((k, boxF b cs t) :: D) a w := hS.add k _ (Fact.change (boxF b cs t) enterM h)
end
end Go.Gl
