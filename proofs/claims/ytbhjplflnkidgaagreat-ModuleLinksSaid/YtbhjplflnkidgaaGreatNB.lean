/- Chapter 22: the examples hold -/
import Derived.Test.YtbhjplflnkidgaaGreatD1
import Derived.KernelRfl
import Derived.Test.YtbhjplflnkidgaaGreatNA
import Derived.Test.YtbhjplflnkidgaaGreatGl4
import Derived.Test.YtbhjplflnkidgaaGreatGl8
section
namespace Go.Proofs.YtbhjplflnkidgaaGreat
open Go.Gl
theorem ex22 : law22_exampleHolds 18446744073709551616 = some true := by kernel_rfl
end Go.Proofs.YtbhjplflnkidgaaGreat
end
section
namespace Go.Proofs.YtbhjplflnkidgaaGreat
open Go.Gl Go.Sort
set_option linter.unusedVariables false
set_option linter.unusedSimpArgs false
abbrev Nm := List UInt8
inductive Rch (F : Nm → Option (List Nm)) (P : Nm → Prop) (a : Nm) : Nm → Prop where
  | refl : Rch F P a a
  | step {b c : Nm} {L : List Nm} : Rch F P a b → F b = some L → c ∈ L → P c → Rch F P a c
theorem Rch.trans {F : Nm → Option (List Nm)} {P : Nm → Prop} {a b c : Nm} (h : Rch F P a b) (k : Rch F P b c) : Rch F P a c := by
 induction k with
 | refl => exact h
 | step _ h2 h3 h4 ih => exact .step ih h2 h3 h4
abbrev All : Nm → Prop := fun _ => True
abbrev Fnd (F : Nm → Option (List Nm)) : Nm → Prop := fun x => ∃ L, F x = some L
theorem rch_fnd {F : Nm → Option (List Nm)} {a b : Nm} : Rch F (Fnd F) a b ↔ Rch F All a b ∧ (b = a ∨ Fnd F b) := by
 constructor
 ·intro h
  induction h with
  | refl => exact ⟨.refl, .inl rfl⟩
  | step h1 h2 h3 h4 ih => exact ⟨.step ih.1 h2 h3 trivial, .inr h4⟩
 ·rintro ⟨h, hb⟩
  induction h with
  | refl => exact .refl
  | @step x y L h1 h2 h3 h4 ih =>
   have hx : Rch F (Fnd F) a x := ih (.inr ⟨L, h2⟩)
   rcases hb with rfl | hb
   ·exact .refl
   ·exact .step hx h2 h3 hb
theorem Rch.cases_last {F : Nm → Option (List Nm)} {a b : Nm} (h : Rch F All a b) : b = a ∨ ∃ c L, Rch F All a c ∧ F c = some L ∧ b ∈ L := by
 cases h with
 | refl => exact .inl rfl
 | step h1 h2 h3 h4 => exact .inr ⟨_, _, h1, h2, h3⟩
theorem Rch.cases_first {F : Nm → Option (List Nm)} {a b : Nm} (h : Rch F All a b) : b = a ∨ ∃ c L, F a = some L ∧ c ∈ L ∧ Rch F All c b := by
 induction h with
 | refl => exact .inl rfl
 | step h1 h2 h3 h4 ih =>
  rcases ih with rfl | ⟨c, L, e1, e2, e3⟩
  ·exact .inr ⟨_, _, h2, h3, .refl⟩
  ·exact .inr ⟨c, L, e1, e2, .step e3 h2 h3 trivial⟩
def addA (p : Nm → Bool) (out : List Nm) : List Nm → List Nm
  | [] => out
  | y :: t => addA p (if p y = true ∧ y ∉ out then out ++ [y] else out) t
theorem addA_pre (p : Nm → Bool) : ∀ (L out : List Nm), ∃ e, addA p out L = out ++ e ∧ (∀ x ∈ e, x ∈ L ∧ p x = true) ∧ (out.Nodup → (addA p out L).Nodup) ∧ ∀ x ∈ L, p x = true → x ∈ addA p out L
 | [], out => ⟨[], by simp [addA]⟩
 | y :: t, out => by
  unfold addA
  by_cases h : p y = true ∧ y ∉ out
  ·rw [if_pos h]
   obtain ⟨e, h1, h2, h3, h4⟩ := addA_pre p t (out ++ [y])
   refine ⟨y :: e, by rw [h1]; simp, fun x hx => ?_, fun hn => h3 ?_, fun x hx hp => ?_⟩
   ·rcases List.mem_cons.1 hx with rfl | hx
    ·exact ⟨by simp, h.1⟩
    ·exact ⟨by simp [(h2 x hx).1], (h2 x hx).2⟩
   ·rw [List.nodup_append]
    exact ⟨hn, by simp, fun a ha b hb => by simp at hb; subst hb; exact fun e => h.2 (e ▸ ha)⟩
   ·rcases List.mem_cons.1 hx with rfl | hx
    ·rw [h1]; simp
    ·exact h4 x hx hp
  ·rw [if_neg h]
   obtain ⟨e, h1, h2, h3, h4⟩ := addA_pre p t out
   refine ⟨e, h1, fun x hx => ⟨by simp [(h2 x hx).1], (h2 x hx).2⟩, h3, fun x hx hp => ?_⟩
   rcases List.mem_cons.1 hx with rfl | hx
   ·have : x ∈ out := Decidable.byContradiction fun hn => h ⟨hp, hn⟩
    rw [h1]; simp [this]
   ·exact h4 x hx hp
def bfs (F : Nm → Option (List Nm)) (p : Nm → Bool) : Nat → Nat → List Nm → Option (List Nm)
  | 0, _, _ => none
  | m + 1, i, out => match out[i]? with
    | none => some out
    | some x => bfs F p m (i + 1) (addA p out ((F x).getD []))
theorem nodup_sub : ∀ (l S : List Nm), l.Nodup → (∀ x ∈ l, x ∈ S) → l.length ≤ S.length
 | [], S, _, _ => by simp
 | x :: t, S, hn, hs => by
  rw [List.nodup_cons] at hn
  have hx := hs x (by simp)
  have h1 := nodup_sub t (S.erase x) hn.2 (fun y hy => by
   have hne : y ≠ x := fun e => hn.1 (e ▸ hy)
   exact (List.mem_erase_of_ne hne).2 (hs y (by simp [hy])))
  have h2 := List.length_erase_of_mem hx
  have h3 : 0 < S.length := List.length_pos_of_mem hx
  simp only [List.length_cons]
  omega
theorem bfs_spec (F : Nm → Option (List Nm)) (p : Nm → Bool) (P : Nm → Prop) (hP : ∀ x, p x = true ↔ P x) (U : List Nm) (a : Nm) (hU : ∀ x L y, F x = some L → y ∈ L → P y → y ∈ U) :
  ∀ (m i : Nat) (out : List Nm), out.Nodup → (∀ x ∈ out, x ∈ U ∧ Rch F P a x) → i ≤ out.length → U.length + 1 ≤ m + i → (∀ j x L, j < i → out[j]? = some x → F x = some L → ∀ y ∈ L, P y → y ∈ out) → a ∈ out →
   ∃ o, bfs F p m i out = some o ∧ o.Nodup ∧ (∀ x ∈ o, x ∈ U) ∧ ∀ x, x ∈ o ↔ Rch F P a x
 | 0, i, out, hn, hs, hi, hm, hc, ha => by
  have := nodup_sub out U hn (fun x hx => (hs x hx).1)
  omega
 | m + 1, i, out, hn, hs, hi, hm, hc, ha => by
  unfold bfs
  cases hx : out[i]? with
  | none =>
   have hlen : i = out.length := by
    have := List.getElem?_eq_none_iff.1 hx
    omega
   refine ⟨out, rfl, hn, fun x hx => (hs x hx).1, fun x => ⟨fun h => (hs x h).2, fun h => ?_⟩⟩
   induction h with
   | refl => exact ha
   | @step b c L h1 h2 h3 h4 ih =>
    obtain ⟨j, hj⟩ := List.getElem?_of_mem ih
    exact hc j b L (by have := (List.getElem?_eq_some_iff.1 hj).1; omega) hj h2 c h3 h4
  | some x =>
   obtain ⟨e, h1, h2, h3, h4⟩ := addA_pre p ((F x).getD []) out
   have hxo : x ∈ out := List.mem_of_getElem? hx
   have hlt := (List.getElem?_eq_some_iff.1 hx).1
   refine bfs_spec F p P hP U a hU m (i + 1) _ (h3 hn) (fun y hy => ?_) (by rw [h1]; simp; omega) (by omega) (fun j z L hj hz hF y hy hPy => ?_) (by rw [h1]; simp [ha])
   ·rw [h1] at hy
    rcases List.mem_append.1 hy with hy | hy
    ·exact hs y hy
    ·obtain ⟨g1, g2⟩ := h2 y hy
     cases hF : F x with
     | none => rw [hF] at g1; simp at g1
     | some L => rw [hF] at g1; exact ⟨hU x L y hF g1 ((hP y).1 g2), .step (hs x hxo).2 hF g1 ((hP y).1 g2)⟩
   ·rcases Nat.lt_or_ge j i with hji | hji
    ·rw [h1, List.getElem?_append_left (by omega)] at hz
     rw [h1]
     exact List.mem_append.2 (.inl (hc j z L hji hz hF y hy hPy))
    ·have : j = i := by omega
     subst this
     rw [h1, List.getElem?_append_left (by omega), hx] at hz
     cases hz
     rw [hF] at h4 ⊢
     exact h4 y hy ((hP y).2 hPy)
theorem bfs_whole (F : Nm → Option (List Nm)) (p : Nm → Bool) (P : Nm → Prop) (hP : ∀ x, p x = true ↔ P x) (U : List Nm) (a : Nm) (hU : ∀ x L y, F x = some L → y ∈ L → P y → y ∈ U) (m : Nat) (hm : U.length + 2 ≤ m) :
  ∃ o, bfs F p m 0 [a] = some o ∧ o.Nodup ∧ (∀ x ∈ o, x ∈ a :: U) ∧ ∀ x, x ∈ o ↔ Rch F P a x :=
 bfs_spec F p P hP (a :: U) a (fun x L y h1 h2 h3 => by simp [hU x L y h1 h2 h3]) m 0 [a] (by simp) (fun x hx => by simp at hx; subst hx; exact ⟨by simp, .refl⟩) (by simp) (by simp; omega) (fun j x L hj => by omega) (by simp)
def Acy (F : Nm → Option (List Nm)) (a : Nm) : Prop := ∀ x, Rch F All a x → ∀ L y, F x = some L → y ∈ L → ¬ Rch F All y x
theorem Acy.kid {F : Nm → Option (List Nm)} {a y : Nm} {L : List Nm} (h : Acy F a) (hF : F a = some L) (hy : y ∈ L) : Acy F y := fun x hx => h x ((Rch.step .refl hF hy trivial).trans hx)
def ht (F : Nm → Option (List Nm)) : Nat → Nm → Prop
  | 0, _ => False
  | k + 1, a => ∀ L, F a = some L → ∀ y ∈ L, ht F k y
theorem ht_of (F : Nm → Option (List Nm)) (U : List Nm) (hU : ∀ x L y, F x = some L → y ∈ L → y ∈ U) : ∀ (k : Nat) (S : List Nm) (a : Nm), Acy F a → (∀ s ∈ S, Rch F All s a) → (∀ s ∈ S, s ≠ a) → S.Nodup → (∀ s ∈ S, s ∈ U) → a ∈ U → U.length ≤ k + S.length → ht F k a
 | 0, S, a, _, _, ha, hn, hs, haU, hl => by
  have := nodup_sub (a :: S) U (List.nodup_cons.2 ⟨fun h => ha a h rfl, hn⟩) (fun x hx => by
   rcases List.mem_cons.1 hx with rfl | hx
   ·exact haU
   ·exact hs x hx)
  simp only [List.length_cons] at this
  omega
 | k + 1, S, a, hA, hr, ha, hn, hs, haU, hl => fun L hF y hy => by
  refine ht_of F U hU k (a :: S) y (hA.kid hF hy) (fun s hs' => ?_) (fun s hs' e => ?_) (List.nodup_cons.2 ⟨fun h => ha a h rfl, hn⟩) (fun s hs' => ?_) (hU a L y hF hy) (by simp only [List.length_cons]; omega)
  ·rcases List.mem_cons.1 hs' with rfl | hs'
   ·exact .step .refl hF hy trivial
   ·exact .step (hr s hs') hF hy trivial
  ·subst e
   rcases List.mem_cons.1 hs' with h | hs'
   ·subst h; exact hA s .refl L s hF hy .refl
   ·exact hA a .refl L s hF hy (hr s hs')
  ·rcases List.mem_cons.1 hs' with rfl | hs'
   ·exact haU
   ·exact hs s hs'
def vis (F : Nm → Option (List Nm)) : Nat → Nm → List Nm → List Nm
  | 0, _, out => out
  | k + 1, a, out => if a ∈ out then out else (((F a).getD []).foldl (fun o y => vis F k y o) out) ++ [a]
def Topo (F : Nm → Option (List Nm)) (out : List Nm) : Prop := ∀ (i : Nat) (x : Nm) (L : List Nm), out[i]? = some x → F x = some L → ∀ y ∈ L, ∃ j, j < i ∧ out[j]? = some y
theorem Topo.closed {F : Nm → Option (List Nm)} {out : List Nm} (h : Topo F out) {x y : Nm} (hx : x ∈ out) (hr : Rch F All x y) : y ∈ out := by
 induction hr with
 | refl => exact hx
 | step h1 h2 h3 h4 ih =>
  obtain ⟨i, hi⟩ := List.getElem?_of_mem ih
  obtain ⟨j, _, hj⟩ := h i _ _ hi h2 _ h3
  exact List.mem_of_getElem? hj
structure VisR (F : Nm → Option (List Nm)) (out o : List Nm) (R : Nm → Prop) : Prop where
  pre : ∃ e, o = out ++ e
  nodup : o.Nodup
  topo : Topo F o
  mem : ∀ x, x ∈ o ↔ x ∈ out ∨ R x
theorem visL_spec (F : Nm → Option (List Nm)) (k : Nat) (ih : ∀ a out, ht F k a → Acy F a → Topo F out → out.Nodup → VisR F out (vis F k a out) (Rch F All a)) : ∀ (L out : List Nm), (∀ y ∈ L, ht F k y ∧ Acy F y) → Topo F out → out.Nodup → VisR F out (L.foldl (fun o y => vis F k y o) out) (fun x => ∃ y ∈ L, Rch F All y x)
 | [], out, _, ht, hn => ⟨⟨[], by simp⟩, hn, ht, by simp⟩
 | y :: L, out, hL, hT, hn => by
  have h1 := ih y out (hL y (by simp)).1 (hL y (by simp)).2 hT hn
  have h2 := visL_spec F k ih L (vis F k y out) (fun z hz => hL z (by simp [hz])) h1.topo h1.nodup
  rw [List.foldl_cons]
  obtain ⟨e1, p1⟩ := h1.pre
  obtain ⟨e2, p2⟩ := h2.pre
  refine ⟨⟨e1 ++ e2, by rw [p2, p1]; simp⟩, h2.nodup, h2.topo, fun x => ?_⟩
  rw [h2.mem, h1.mem]
  simp only [List.mem_cons, exists_eq_or_imp, or_assoc]
theorem vis_spec (F : Nm → Option (List Nm)) : ∀ (k : Nat) (a : Nm) (out : List Nm), ht F k a → Acy F a → Topo F out → out.Nodup → VisR F out (vis F k a out) (Rch F All a)
 | 0, a, out, h, _, _, _ => h.elim
 | k + 1, a, out, h, hA, hT, hn => by
  unfold vis
  by_cases ha : a ∈ out
  ·rw [if_pos ha]
   exact ⟨⟨[], by simp⟩, hn, hT, fun x => ⟨.inl, fun hx => hx.elim id (fun hx => hT.closed ha hx)⟩⟩
  ·rw [if_neg ha]
   have h1 : VisR F out (((F a).getD []).foldl (fun o y => vis F k y o) out) (fun x => ∃ y ∈ (F a).getD [], Rch F All y x) := by
    refine visL_spec F k (vis_spec F k) _ out (fun y hy => ?_) hT hn
    cases hF : F a with
    | none => rw [hF] at hy; simp at hy
    | some L => rw [hF] at hy; exact ⟨h L hF y hy, hA.kid hF hy⟩
   obtain ⟨e, p⟩ := h1.pre
   have hnot : a ∉ ((F a).getD []).foldl (fun o y => vis F k y o) out := fun hm => by
    rcases (h1.mem a).1 hm with hm | ⟨y, hy, hr⟩
    ·exact ha hm
    ·cases hF : F a with
     | none => rw [hF] at hy; simp at hy
     | some L => rw [hF] at hy; exact hA a .refl L y hF hy hr
   refine ⟨⟨e ++ [a], by rw [p]; simp⟩, ?_, fun i x L hi hF y hy => ?_, fun x => ?_⟩
   ·rw [List.nodup_append]
    exact ⟨h1.nodup, by simp, fun b hb c hc => by simp at hc; subst hc; exact fun e => hnot (e ▸ hb)⟩
   ·rcases Nat.lt_or_ge i (((F a).getD []).foldl (fun o y => vis F k y o) out).length with hlt | hge
    ·rw [List.getElem?_append_left hlt] at hi
     obtain ⟨j, hj, hj2⟩ := h1.topo i x L hi hF y hy
     exact ⟨j, hj, by rw [List.getElem?_append_left (by omega)]; exact hj2⟩
    ·rw [List.getElem?_append_right hge] at hi
     have h0 : i - (((F a).getD []).foldl (fun o y => vis F k y o) out).length = 0 := by
      have := (List.getElem?_eq_some_iff.1 hi).1
      simpa using this
     rw [h0] at hi
     simp at hi
     subst hi
     have hym : y ∈ ((F a).getD []).foldl (fun o y => vis F k y o) out := (h1.mem y).2 (.inr ⟨y, by rw [hF]; exact hy, .refl⟩)
     obtain ⟨j, hj⟩ := List.getElem?_of_mem hym
     have hjl := (List.getElem?_eq_some_iff.1 hj).1
     exact ⟨j, by omega, by rw [List.getElem?_append_left hjl]; exact hj⟩
   ·rw [List.mem_append, h1.mem]
    simp only [List.mem_singleton]
    constructor
    ·rintro ((h | ⟨y, hy, hr⟩) | rfl)
     ·exact .inl h
     ·cases hF : F a with
      | none => rw [hF] at hy; simp at hy
      | some L => rw [hF] at hy; exact .inr ((Rch.step .refl hF hy trivial).trans hr)
     ·exact .inr .refl
    ·rintro (h | h)
     ·exact .inl (.inl h)
     ·rcases h.cases_first with rfl | ⟨c, L, e1, e2, e3⟩
      ·exact .inr rfl
      ·exact .inl (.inr ⟨c, by rw [e1]; exact e2, e3⟩)
theorem vis_last (F : Nm → Option (List Nm)) (k : Nat) (a : Nm) (out : List Nm) (h : ht F k a) (ha : a ∉ out) : ∃ e, vis F k a out = e ++ [a] := by
 cases k with
 | zero => exact h.elim
 | succ k => unfold vis; rw [if_neg ha]; exact ⟨_, rfl⟩
theorem lt_of_le_ne {x y : List UInt8} (h : x ≤ y) (hne : x ≠ y) : x < y := by
 rcases Decidable.em (x < y) with h1 | h1
 ·exact h1
 ·exact absurd (List.le_antisymm h h1) hne
theorem short_of_dup : ∀ (l S : List Nm), S.Nodup → (∀ x, x ∈ S ↔ x ∈ l) → ¬ l.Nodup → S.length < l.length
 | [], S, _, _, hn => absurd .nil hn
 | x :: t, S, hS, h, hn => by
  by_cases hx : x ∈ t
  ·have := nodup_sub S t hS (fun y hy => by
    rcases List.mem_cons.1 ((h y).1 hy) with rfl | hy
    ·exact hx
    ·exact hy)
   simp only [List.length_cons]; omega
  ·have ht : ¬ t.Nodup := fun ht => hn (List.nodup_cons.2 ⟨hx, ht⟩)
   have hxS : x ∈ S := (h x).2 (by simp)
   have := short_of_dup t (S.erase x) (hS.erase x) (fun y => by
    rw [hS.mem_erase_iff, h y]
    simp only [List.mem_cons]
    constructor
    ·rintro ⟨h1, h2 | h2⟩
     ·exact absurd h2 h1
     ·exact h2
    ·intro hy
     exact ⟨fun e => hx (e ▸ hy), .inr hy⟩) ht
   have h2 := List.length_erase_of_mem hxS
   have h3 : 0 < S.length := List.length_pos_of_mem hxS
   simp only [List.length_cons]; omega
theorem short_iff {l S : List Nm} (hS : S.Nodup) (h : ∀ x, x ∈ S ↔ x ∈ l) : S.length < l.length ↔ ¬ l.Nodup := by
 constructor
 ·intro hl hn
  have := nodup_sub l S hn (fun x hx => (h x).2 hx)
  omega
 ·exact short_of_dup l S hS h
def wS (s : Nm) : Bool → List Nm → List Nm
  | d, [] => if d then [] else [s]
  | d, x :: t => (if d = false ∧ s ≤ x then [s] else []) ++ (if x ≠ s then [x] else []) ++ wS s (if d = false ∧ s ≤ x then true else d) t
theorem wS_true (s : Nm) : ∀ t : List Nm, t.Pairwise (· < ·) → (∀ x ∈ t, s < x) → wS s true t = t
 | [], _, _ => rfl
 | x :: t, h, hs => by
  have hx := hs x (by simp)
  have hne : x ≠ s := fun e => absurd (e ▸ hx) (List.lt_irrefl _)
  unfold wS
  rw [if_neg (by simp), if_pos hne, if_neg (by simp), wS_true s t (List.pairwise_cons.1 h).2 (fun y hy => hs y (by simp [hy]))]
  rfl
theorem wS_spec (s : Nm) : ∀ t : List Nm, t.Pairwise (· < ·) → (wS s false t).Pairwise (· < ·) ∧ ∀ x, x ∈ wS s false t ↔ x = s ∨ x ∈ t
 | [], _ => by simp [wS]
 | x :: t, h => by
  obtain ⟨h1, h2⟩ := List.pairwise_cons.1 h
  unfold wS
  by_cases hsx : s ≤ x
  ·have hc : false = false ∧ s ≤ x := ⟨rfl, hsx⟩
   rw [if_pos hc, if_pos hc]
   by_cases hne : x = s
   ·subst hne
    rw [if_neg (fun h => h rfl), wS_true x t h2 h1]
    exact ⟨by simpa using ⟨h1, h2⟩, by simp⟩
   ·have hlt : s < x := lt_of_le_ne hsx (fun e => hne e.symm)
    rw [if_pos hne, wS_true s t h2 (fun y hy => List.lt_trans hlt (h1 y hy))]
    refine ⟨?_, by simp⟩
    exact List.pairwise_cons.2 ⟨fun y (hy : y ∈ x :: t) => by
     rcases List.mem_cons.1 hy with rfl | hy
     ·exact hlt
     ·exact List.lt_trans hlt (h1 y hy), List.pairwise_cons.2 ⟨h1, h2⟩⟩
  ·have hc : ¬ (false = false ∧ s ≤ x) := fun h => hsx h.2
   rw [if_neg hc, if_neg hc]
   have hlt : x < s := lt_of_le_ne ((List.le_total x s).resolve_right hsx) (fun e => hsx (e ▸ List.le_refl _))
   have hne : x ≠ s := fun e => absurd (e ▸ hlt) (List.lt_irrefl _)
   obtain ⟨i1, i2⟩ := wS_spec s t h2
   rw [if_pos hne]
   refine ⟨List.pairwise_cons.2 ⟨fun y hy => ?_, i1⟩, fun y => ?_⟩
   ·rcases (i2 y).1 hy with rfl | hy
    ·exact hlt
    ·exact h1 y hy
   ·show y ∈ x :: wS s false t ↔ _
    rw [List.mem_cons, i2 y, List.mem_cons]
    constructor
    ·rintro (h | h | h)
     ·exact .inr (.inl h)
     ·exact .inl h
     ·exact .inr (.inr h)
    ·rintro (h | h | h)
     ·exact .inr (.inl h)
     ·exact .inl h
     ·exact .inr (.inr h)
def wSL (l : List Nm) (out : List Nm) : List Nm := l.foldl (fun o s => wS s false o) out
theorem wSL_spec : ∀ (l out : List Nm), out.Pairwise (· < ·) → (wSL l out).Pairwise (· < ·) ∧ ∀ x, x ∈ wSL l out ↔ x ∈ l ∨ x ∈ out
 | [], out, h => ⟨h, by simp [wSL]⟩
 | s :: l, out, h => by
  obtain ⟨h1, h2⟩ := wS_spec s out h
  obtain ⟨i1, i2⟩ := wSL_spec l (wS s false out) h1
  refine ⟨i1, fun x => ?_⟩
  show x ∈ wSL l (wS s false out) ↔ _
  rw [i2 x, h2 x, List.mem_cons]
  constructor
  ·rintro (h | h | h)
   ·exact .inl (.inr h)
   ·exact .inl (.inl h)
   ·exact .inr h
  ·rintro ((h | h) | h)
   ·exact .inr (.inl h)
   ·exact .inl h
   ·exact .inr (.inr h)
def fm (l : List Module) (x : Nm) : Option Module := l.find? (fun q => decide (q.Name = x))
def imps (l : List Module) (x : Nm) : Option (List Nm) := (fm l x).map (·.Imports)
structure LOk (l : List Module) : Prop where
  len : l.length ≤ 6
  md : ∀ q ∈ l, MdOk q
  lens : ∀ q ∈ l, LenOk 256 q
theorem light_eq (n : Nat) (hn : 1000 ≤ n) (l : List Module) (k : Nat) (hk : k < n) (hl : ∀ q ∈ l, LenOk k q) : ∃ b, law22_light n l = some b ∧ (b = true → LOk l) := by
 unfold law22_light
 rw [jn_def, jn_def]
 by_cases c : (6 : Nat) < l.length
 ·rw [if_pos c]; exact ⟨false, by simp, by simp⟩
 rw [if_neg c]
 obtain ⟨b, e, hb⟩ := LightS_eq n hn l k hk hl
 rw [e, bind_some']
 cases b with
 | false => exact ⟨false, by simp, by simp⟩
 | true =>
  obtain ⟨s, er, hp, hq⟩ := Print_t n hn l (hb rfl)
  have L0 : ∀ (kk : Int → Option Bool) (t : List Module) (m i : Nat) (c : Int), l.drop i = t → t.length < m → ∃ c', law22_light_L0 n l kk m c i = kk c' := by
   intro kk t
   induction t with
   | nil => intro m i c h hm; cases m with
    | zero => omega
    | succ m => exact ⟨c, by rw [law22_light_L0, if_neg (drop_nil' h)]⟩
   | cons x t ih => intro m i c h hm; cases m with
    | zero => omega
    | succ m =>
     obtain ⟨h1, h2, h3⟩ := drop_cons h
     rw [law22_light_L0, if_pos h1, h2, bind_some']
     exact ih m (i + 1) _ h3 (by simpa using hm)
  obtain ⟨c', e'⟩ := L0 (fun t_12 => (r21_Print n l).bind fun r46 => if t_12 ≤ 40 then some (decide (r46.2 = 0)) else some false) l n 0 0 rfl (by omega)
  refine ⟨if c' ≤ 40 then decide (er = 0) else false, ?_, fun h => ?_⟩
  ·show law22_light_L0 n l (fun t_12 => (r21_Print n l).bind fun r46 => if t_12 ≤ 40 then some (decide (r46.2 = 0)) else some false) n 0 0 = _
   rw [e', hp, bind_some']
   split <;> rfl
  ·split at h
   ·exact ⟨by omega, hb rfl, hq (of_decide_eq_true h)⟩
   ·cases h
theorem ix_nat {α : Type} (l : List α) (i : Nat) : ix l (i : Int) = l[i]? := by
 unfold ix
 rw [if_pos (by omega)]
 simp
theorem has_r (n : Nat) (l : List Nm) (s : Nm) : ∀ (t : List Nm) (m i : Nat), l.drop i = t → t.length < m → r22_has_L0 n l s m i = some (decide (s ∈ t))
 | [], m + 1, i, h, _ => by rw [r22_has_L0, if_neg (drop_nil' h)]; simp
 | x :: t, m + 1, i, h, hm => by
  obtain ⟨h1, h2, h3⟩ := drop_cons h
  rw [r22_has_L0, if_pos h1, h2, bind_some', has_r n l s t m (i + 1) h3 (by simpa using hm)]
  by_cases c : x = s
  ·simp [c]
  ·have : ¬ s = x := fun e => c e.symm
   simp [c, this]
theorem has_eq (n : Nat) (l : List Nm) (s : Nm) (hl : l.length < n) : r22_has n l s = some (decide (s ∈ l)) := has_r n l s l n 0 rfl hl
theorem Index_r (n : Nat) (l : List Nm) (s : Nm) : ∀ (t : List Nm) (m i : Nat), l.drop i = t → t.length < m → ∃ j, slices_Index_string_L0 n l s m i = some j ∧ (0 ≤ j ↔ s ∈ t)
 | [], m + 1, i, h, _ => ⟨-1, by rw [slices_Index_string_L0, if_neg (drop_nil' h)], by simp⟩
 | x :: t, m + 1, i, h, hm => by
  obtain ⟨h1, h2, h3⟩ := drop_cons h
  obtain ⟨j, e, hj⟩ := Index_r n l s t m (i + 1) h3 (by simpa using hm)
  rw [slices_Index_string_L0, if_pos h1, h2, bind_some', e]
  by_cases c : s = x
  ·rw [if_pos c]; exact ⟨_, rfl, by simp [c]⟩
  ·rw [if_neg c]; exact ⟨j, rfl, by simp [c, hj]⟩
theorem Contains_eq (n : Nat) (l : List Nm) (s : Nm) (hl : l.length < n) : slices_Contains_string n l s = some (decide (s ∈ l)) := by
 obtain ⟨j, e, hj⟩ := Index_r n l s l n 0 rfl hl
 have e' : slices_Index_string n l s = some j := e
 unfold slices_Contains_string
 rw [e', bind_some']
 congr 1
 exact decide_eq_decide.2 hj
theorem find_r (n : Nat) (l : List Module) (x : Nm) : ∀ (t : List Module) (m i : Nat), l.drop i = t → t.length < m → ∃ j, r22_find_L0 n l x m i = some j ∧ slices_IndexFunc_Module_L0 n l (fun p => module_find_1 n p x) m i = some j ∧ ((j = -1 ∧ fm t x = none) ∨ ∃ k q, j = ((i + k : Nat) : Int) ∧ t[k]? = some q ∧ fm t x = some q ∧ ∀ k', k' < k → ∀ p, t[k']? = some p → p.Name ≠ x)
 | [], m + 1, i, h, _ => ⟨-1, by rw [r22_find_L0, if_neg (drop_nil' h)], by rw [slices_IndexFunc_Module_L0, if_neg (drop_nil' h)], .inl ⟨rfl, rfl⟩⟩
 | q :: t, m + 1, i, h, hm => by
  obtain ⟨h1, h2, h3⟩ := drop_cons h
  obtain ⟨j, e1, e2, hj⟩ := find_r n l x t m (i + 1) h3 (by simpa using hm)
  rw [r22_find_L0, slices_IndexFunc_Module_L0, if_pos h1, if_pos h1, h2, bind_some', bind_some', e1, e2]
  have hf : fm (q :: t) x = if q.Name = x then some q else fm t x := by
   unfold fm
   rw [List.find?_cons]
   by_cases c : q.Name = x <;> simp [c]
  by_cases c : q.Name = x
  ·refine ⟨(i : Int), by rw [if_pos c], by simp [module_find_1, c], .inr ⟨0, q, by simp, rfl, by rw [hf, if_pos c], fun k' hk' => by omega⟩⟩
  ·refine ⟨j, by rw [if_neg c], by simp [module_find_1, c], ?_⟩
   rw [hf, if_neg c]
   rcases hj with hj | ⟨k, q', a1, a2, a3, a4⟩
   ·exact .inl hj
   ·refine .inr ⟨k + 1, q', by rw [a1]; congr 1; omega, a2, a3, fun k' hk' p hp => ?_⟩
    cases k' with
    | zero => simp at hp; subst hp; exact c
    | succ k' => exact a4 k' (by omega) p hp
theorem find_eq (n : Nat) (l : List Module) (x : Nm) (hl : l.length < n) : ∃ j, r22_find n l x = some j ∧ ((j < 0 ∧ fm l x = none) ∨ ∃ (k : Nat) (q : Module), j = (k : Int) ∧ l[k]? = some q ∧ fm l x = some q ∧ ∀ k', k' < k → ∀ p, l[k']? = some p → p.Name ≠ x) := by
 obtain ⟨j, e, _, hj⟩ := find_r n l x l n 0 rfl hl
 refine ⟨j, e, ?_⟩
 rcases hj with ⟨rfl, h⟩ | ⟨k, q, a1, a2⟩
 ·exact .inl ⟨by omega, h⟩
 ·exact .inr ⟨k, q, by rw [a1]; congr 1; omega, a2⟩
def zM : Module := Module.mk [] [] [] [] [] [] [] [] [] []
theorem mfind_eq (n : Nat) (l : List Module) (x : Nm) (hl : l.length < n) : module_find n l x = some (match fm l x with | some q => (q, true) | none => (zM, false)) := by
 obtain ⟨j, _, e, hj⟩ := find_r n l x l n 0 rfl hl
 have e' : slices_IndexFunc_Module n l (fun p => module_find_1 n p x) = some j := e
 unfold module_find
 rw [e', bind_some']
 rcases hj with ⟨rfl, h⟩ | ⟨k, q, rfl, a2, a3, _⟩
 ·rw [if_pos (by omega), h]; rfl
 ·rw [if_neg (by omega), ix_nat, Nat.zero_add, a2, a3]; rfl
theorem fm_name {l : List Module} {x : Nm} {q : Module} (h : fm l x = some q) : q.Name = x ∧ q ∈ l := by
 have h1 := List.find?_some h
 exact ⟨by simpa using h1, List.mem_of_find?_eq_some h⟩
def allI (l : List Module) : List Nm := l.flatMap (·.Imports)
theorem allI_mem {l : List Module} {x : Nm} {L : List Nm} {y : Nm} (h : imps l x = some L) (hy : y ∈ L) : y ∈ allI l := by
 unfold imps at h
 obtain ⟨q, hq, rfl⟩ := Option.map_eq_some_iff.1 h
 exact List.mem_flatMap.2 ⟨q, (fm_name hq).2, hy⟩
theorem flat_len (f : Module → List Nm) (k : Nat) : ∀ (l : List Module), (∀ q ∈ l, (f q).length ≤ k) → (l.flatMap f).length ≤ k * l.length
 | [], _ => by simp
 | q :: l, h => by
  have h1 := flat_len f k l (fun q hq => h q (by simp [hq]))
  have h2 := h q (by simp)
  rw [List.flatMap_cons, List.length_append, List.length_cons, Nat.mul_add]
  omega
theorem allI_len {l : List Module} (hl : LOk l) : (allI l).length ≤ 1536 := by
 have := flat_len (·.Imports) 256 l (fun q hq => (hl.lens q hq).1)
 have := hl.len
 unfold allI
 omega
theorem needs_L1 (n : Nat) (l : List Module) (hl : l.length < n) (k18 : List Nm → Option (List Nm)) (r : Module × Bool) (hr : r.1.Imports.length ≤ 100000) : ∀ (t : List Nm) (m i : Nat) (out : List Nm), r.1.Imports.drop i = t → t.length < m → out.length + t.length < n → out.length + t.length ≤ 1000000 → module_needs_L1 n l k18 r m out i = k18 (addA (fun y => (fm l y).isSome) out t)
 | [], m + 1, i, out, h, _, _, _ => by rw [module_needs_L1, if_neg (drop_nil' h)]; rfl
 | x :: t, m + 1, i, out, h, hm, ho, hb => by
  obtain ⟨h1, h2, h3⟩ := drop_cons h
  rw [List.length_cons] at ho hb
  rw [module_needs_L1, if_pos h1, h2, bind_some', mfind_eq n l x hl, bind_some', jn_def, Contains_eq n out x (by omega), bind_some']
  have ih1 := needs_L1 n l hl k18 r hr t m (i + 1) out h3 (by simpa using hm) (by omega) (by omega)
  have ih2 := needs_L1 n l hl k18 r hr t m (i + 1) (out ++ [x]) h3 (by simpa using hm) (by simp; omega) (by simp; omega)
  unfold addA
  cases hf : fm l x with
  | none => simp [ih1]
  | some q =>
   by_cases c : x ∈ out
   ·simp [c, ih1]
   ·have hc : out.length + 1 ≤ 137438953472 := by omega
    simp [c, ih2, chk, hc]
theorem needs_L0 (n : Nat) (l : List Module) (hl : LOk l) (hn : 100000 ≤ n) (a : Nm) : ∀ (m i : Nat) (out : List Nm), out.Nodup → (∀ x ∈ out, x ∈ a :: allI l) → module_needs_L0 n l m out i = bfs (imps l) (fun y => (fm l y).isSome) m i out
 | 0, i, out, _, _ => rfl
 | m + 1, i, out, hnd, hs => by
  have hlen := nodup_sub out _ hnd hs
  have hai := allI_len hl
  rw [List.length_cons] at hlen
  rw [module_needs_L0]
  unfold bfs
  cases hx : out[i]? with
  | none => rw [if_neg (by have := List.getElem?_eq_none_iff.1 hx; omega)]
  | some x =>
   rw [if_pos (List.getElem?_eq_some_iff.1 hx).1, jn_def, bind_some', mfind_eq n l x (by have := hl.len; omega), bind_some']
   have key : ∀ (r : Module × Bool), r.1.Imports = (imps l x).getD [] → module_needs_L1 n l (fun t_19 => module_needs_L0 n l m t_19 (i + 1)) r n out 0 = bfs (imps l) (fun y => (fm l y).isSome) m (i + 1) (addA (fun y => (fm l y).isSome) out ((imps l x).getD [])) := fun r hr => by
    have hil : r.1.Imports.length ≤ 256 := by
     rw [hr]
     unfold imps
     cases hf : fm l x with
     | none => simp
     | some q => exact (hl.lens q (fm_name hf).2).1
    rw [needs_L1 n l (by have := hl.len; omega) _ r (by omega) r.1.Imports n 0 out rfl (by omega) (by omega) (by omega), hr]
    obtain ⟨e, h1, h2, h3, _⟩ := addA_pre (fun y => (fm l y).isSome) ((imps l x).getD []) out
    refine needs_L0 n l hl hn a m (i + 1) _ (h3 hnd) (fun y hy => ?_)
    rw [h1] at hy
    rcases List.mem_append.1 hy with hy | hy
    ·exact hs y hy
    ·have := (h2 y hy).1
     cases hF : imps l x with
     | none => rw [hF] at this; simp at this
     | some L => rw [hF] at this; exact List.mem_cons.2 (.inr (allI_mem hF this))
   refine key _ ?_
   unfold imps
   cases hf : fm l x <;> rfl
theorem fnd_iff {l : List Module} {x : Nm} : (fm l x).isSome = true ↔ Fnd (imps l) x := by
 unfold Fnd imps
 cases h : fm l x with
 | none => simp
 | some q => simp
theorem needs_eq (n : Nat) (l : List Module) (hl : LOk l) (hn : 100000 ≤ n) (a : Nm) : ∃ o, module_needs n l a = some o ∧ o.Nodup ∧ o.length ≤ 1537 ∧ ∀ x, x ∈ o ↔ (Fnd (imps l) a ∧ Rch (imps l) All a x ∧ Fnd (imps l) x) := by
 have hai := allI_len hl
 unfold module_needs
 rw [mfind_eq n l a (by have := hl.len; omega), bind_some']
 cases hf : fm l a with
 | none =>
  refine ⟨[], rfl, .nil, by simp, fun x => ⟨by simp, fun h => ?_⟩⟩
  have := fnd_iff.2 h.1
  rw [hf] at this; cases this
 | some q =>
  have hfa : Fnd (imps l) a := fnd_iff.1 (by rw [hf]; rfl)
  obtain ⟨o, e, h1, h2, h3⟩ := bfs_whole (imps l) (fun y => (fm l y).isSome) (Fnd (imps l)) (fun x => fnd_iff) (allI l) a (fun x L y hF hy _ => allI_mem hF hy) n (by omega)
  have e' : module_needs_L0 n l n [a] 0 = some o := by rw [needs_L0 n l hl hn a n 0 [a] (by simp) (by simp)]; exact e
  refine ⟨o, by simpa using e', h1, by have := nodup_sub o _ h1 h2; simp at this; omega, fun x => ?_⟩
  rw [h3 x, rch_fnd]
  constructor
  ·rintro ⟨h, rfl | h'⟩
   ·exact ⟨hfa, h, hfa⟩
   ·exact ⟨hfa, h, h'⟩
  ·rintro ⟨_, h, h'⟩
   exact ⟨h, .inr h'⟩
theorem Needs_L1 (n : Nat) (l : List Module) (j : Nat) (q : Module) (hj : l[j]? = some q) (k10 : List Nm → Option (List Nm)) : ∀ (t : List Nm) (m i : Nat) (out : List Nm), q.Imports.drop i = t → t.length < m → out.length + t.length < n → out.length + t.length ≤ 1000000 → r22_Needs_L1 n l k10 (j : Int) m out i = k10 (addA (fun _ => true) out t)
 | [], m + 1, i, out, h, _, _, _ => by rw [r22_Needs_L1, ix_nat, hj, bind_some', if_neg (drop_nil' h)]; rfl
 | x :: t, m + 1, i, out, h, hm, ho, hb => by
  obtain ⟨h1, h2, h3⟩ := drop_cons h
  rw [List.length_cons] at ho hb
  rw [r22_Needs_L1, ix_nat, hj, bind_some', if_pos h1, h2, bind_some', has_eq n out x (by omega), bind_some']
  have ih1 := Needs_L1 n l j q hj k10 t m (i + 1) out h3 (by simpa using hm) (by omega) (by omega)
  have ih2 := Needs_L1 n l j q hj k10 t m (i + 1) (out ++ [x]) h3 (by simpa using hm) (by simp; omega) (by simp; omega)
  unfold addA
  by_cases c : x ∈ out
  ·simp [c, ih1]
  ·have hc : out.length + 1 ≤ 137438953472 := by omega
   simp [c, ih2, chk, hc]
theorem Needs_L0 (n : Nat) (l : List Module) (hl : LOk l) (hn : 100000 ≤ n) (a : Nm) : ∀ (m i : Nat) (out : List Nm), out.Nodup → (∀ x ∈ out, x ∈ a :: allI l) → r22_Needs_L0 n l m out i = bfs (imps l) (fun _ => true) m i out
 | 0, i, out, _, _ => rfl
 | m + 1, i, out, hnd, hs => by
  have hlen := nodup_sub out _ hnd hs
  have hai := allI_len hl
  rw [List.length_cons] at hlen
  rw [r22_Needs_L0]
  unfold bfs
  cases hx : out[i]? with
  | none => rw [if_neg (by have := List.getElem?_eq_none_iff.1 hx; omega)]
  | some x =>
   obtain ⟨j, e, hj⟩ := find_eq n l x (by have := hl.len; omega)
   rw [if_pos (List.getElem?_eq_some_iff.1 hx).1, jn_def, bind_some', e, bind_some']
   obtain ⟨ex, h1, h2, h3, _⟩ := addA_pre (fun _ => true) ((imps l x).getD []) out
   have ih := Needs_L0 n l hl hn a m (i + 1) (addA (fun _ => true) out ((imps l x).getD [])) (h3 hnd) (fun y hy => by
    rw [h1] at hy
    rcases List.mem_append.1 hy with hy | hy
    ·exact hs y hy
    ·have := (h2 y hy).1
     cases hF : imps l x with
     | none => rw [hF] at this; simp at this
     | some L => rw [hF] at this; exact List.mem_cons.2 (.inr (allI_mem hF this)))
   show _ = bfs (imps l) (fun _ => true) m (i + 1) (addA (fun _ => true) out ((imps l x).getD []))
   rcases hj with ⟨h0, hf⟩ | ⟨k, q, rfl, a2, a3, _⟩
   ·rw [if_pos h0]
    have : (imps l x).getD [] = [] := by unfold imps; rw [hf]; rfl
    rw [this] at ih ⊢
    exact ih
   ·have hi : (imps l x).getD [] = q.Imports := by unfold imps; rw [a3]; rfl
    have hil := (hl.lens q (fm_name a3).2).1
    rw [hi] at ih ⊢
    rw [if_neg (by omega), Needs_L1 n l k q a2 _ q.Imports n 0 out rfl (by omega) (by omega) (by omega)]
    exact ih
theorem Needs_eq (n : Nat) (l : List Module) (hl : LOk l) (hn : 100000 ≤ n) (a : Nm) : ∃ o, r22_Needs n l a = some o ∧ o.Nodup ∧ o.length ≤ 1537 ∧ ∀ x, x ∈ o ↔ Rch (imps l) All a x := by
 have hai := allI_len hl
 obtain ⟨o, e, h1, h2, h3⟩ := bfs_whole (imps l) (fun _ => true) All (fun x => by simp) (allI l) a (fun x L y hF hy _ => allI_mem hF hy) n (by omega)
 refine ⟨o, ?_, h1, by have := nodup_sub o _ h1 h2; simp at this; omega, h3⟩
 unfold r22_Needs
 rw [Needs_L0 n l hl hn a n 0 [a] (by simp) (by simp)]
 exact e
end Go.Proofs.YtbhjplflnkidgaaGreat
end
section
namespace Go.Proofs.YtbhjplflnkidgaaGreat
open Go.Gl Go.Sort
set_option linter.unusedVariables false
set_option linter.unusedSimpArgs false
def nmsM (l : List Module) : List Nm := l.map (·.Name)
def Miss (l : List Module) (a : Nm) : Prop := ∃ x, Rch (imps l) All a x ∧ ¬ Fnd (imps l) x
def Cyc (l : List Module) (a : Nm) : Prop := ¬ Acy (imps l) a
inductive OrdE (l : List Module) (a : Nm) : Int → Prop where
  | dup : ¬ (nmsM l).Nodup → OrdE l a 4
  | miss : (nmsM l).Nodup → Miss l a → OrdE l a 5
  | cyc : (nmsM l).Nodup → ¬ Miss l a → Cyc l a → OrdE l a 6
  | ok : (nmsM l).Nodup → ¬ Miss l a → ¬ Cyc l a → OrdE l a 0
theorem OrdE.same {l : List Module} {a : Nm} {e f : Int} (h : OrdE l a e) (k : OrdE l a f) : e = f := by
 cases h <;> cases k <;> first | rfl | (exfalso; simp_all)
theorem fm_take_none {l : List Module} {x : Nm} : fm l x = none ↔ x ∉ nmsM l := by
 unfold fm nmsM
 rw [List.find?_eq_none]
 simp
theorem mcheck_L0 (n : Nat) (l : List Module) (hl : l.length ≤ 6) (hn : 1000 ≤ n) (k : Option Int) : ∀ (t : List Module) (m i : Nat), l.drop i = t → t.length < m → (nmsM (l.take i)).Nodup → (module_check_L0 n l k m i = k ∧ (nmsM l).Nodup) ∨ (module_check_L0 n l k m i = some 4 ∧ ¬ (nmsM l).Nodup)
 | [], m + 1, i, h, _, hd => .inl ⟨by rw [module_check_L0, if_neg (drop_nil' h)], by rwa [List.take_of_length_le (by have := drop_nil' h; omega)] at hd⟩
 | x :: t, m + 1, i, h, hm, hd => by
  obtain ⟨h1, h2, h3⟩ := drop_cons h
  rw [module_check_L0, if_pos h1, jn_def, chk_pos (by omega), h2, bind_some', mfind_eq n (l.take i) x.Name (by rw [List.length_take]; omega), bind_some']
  have ht : l.take (i + 1) = l.take i ++ [x] := by rw [List.take_add_one, h2]; rfl
  cases hf : fm (l.take i) x.Name with
  | none =>
   have hnot := fm_take_none.1 hf
   have := mcheck_L0 n l hl hn k t m (i + 1) h3 (by simpa using hm) (by
    rw [ht]
    unfold nmsM at hd hnot ⊢
    rw [List.map_append, List.nodup_append]
    exact ⟨hd, by simp, fun y hy z hz => by simp at hz; subst hz; exact fun e => hnot (e ▸ hy)⟩)
   simpa using this
  | some q =>
   refine .inr ⟨by simp, fun hnd => ?_⟩
   have hm : x.Name ∈ nmsM (l.take i) := by
    have := fm_name hf
    exact List.mem_map.2 ⟨q, this.2, this.1⟩
   have h2' : nmsM l = nmsM (l.take (i + 1)) ++ nmsM (l.drop (i + 1)) := by unfold nmsM; rw [← List.map_append, List.take_append_drop]
   rw [h2', ht] at hnd
   unfold nmsM at hnd hm
   rw [List.map_append, List.nodup_append, List.nodup_append] at hnd
   exact hnd.1.2.2 x.Name hm x.Name (by simp) rfl
theorem imps_some {l : List Module} {x : Nm} {q : Module} (h : fm l x = some q) : imps l x = some q.Imports := by unfold imps; rw [h]; rfl
theorem mcheck_L2 (n : Nat) (l : List Module) (hl : l.length < n) (k : Option Int) (r : Module × Bool) : ∀ (t : List Nm) (m i : Nat), r.1.Imports.drop i = t → t.length < m → (module_check_L2 n l k r m i = k ∧ ∀ y ∈ t, Fnd (imps l) y) ∨ (module_check_L2 n l k r m i = some 5 ∧ ∃ y ∈ t, ¬ Fnd (imps l) y)
 | [], m + 1, i, h, _ => .inl ⟨by rw [module_check_L2, if_neg (drop_nil' h)], by simp⟩
 | y :: t, m + 1, i, h, hm => by
  obtain ⟨h1, h2, h3⟩ := drop_cons h
  rw [module_check_L2, if_pos h1, h2, bind_some', mfind_eq n l y hl, bind_some']
  cases hf : fm l y with
  | none => exact .inr ⟨by simp, y, by simp, fun h => by have := fnd_iff.2 h; rw [hf] at this; cases this⟩
  | some q =>
   have hy : Fnd (imps l) y := fnd_iff.1 (by rw [hf]; rfl)
   rcases mcheck_L2 n l hl k r t m (i + 1) h3 (by simpa using hm) with ⟨a, b⟩ | ⟨a, z, b, c⟩
   ·exact .inl ⟨by simpa using a, fun z hz => by
     rcases List.mem_cons.1 hz with rfl | hz
     ·exact hy
     ·exact b z hz⟩
   ·exact .inr ⟨by simpa using a, z, by simp [b], c⟩
theorem mcheck_L1 (n : Nat) (l : List Module) (hl : LOk l) (hn : 100000 ≤ n) (o : List Nm) (ho : ∀ x ∈ o, Fnd (imps l) x) (k : Option Int) : ∀ (t : List Nm) (m i : Nat), o.drop i = t → t.length < m → (module_check_L1 n l o k m i = k ∧ ∀ x ∈ t, ∀ L, imps l x = some L → ∀ y ∈ L, Fnd (imps l) y) ∨ (module_check_L1 n l o k m i = some 5 ∧ ∃ x ∈ t, ∃ L, imps l x = some L ∧ ∃ y ∈ L, ¬ Fnd (imps l) y)
 | [], m + 1, i, h, _ => .inl ⟨by rw [module_check_L1, if_neg (drop_nil' h)], by simp⟩
 | x :: t, m + 1, i, h, hm => by
  obtain ⟨h1, h2, h3⟩ := drop_cons h
  have hlen := hl.len
  rw [module_check_L1, if_pos h1, jn_def, h2, bind_some', mfind_eq n l x (by omega), bind_some']
  obtain ⟨L, hL⟩ := ho x (List.mem_of_getElem? h2)
  cases hf : fm l x with
  | none => unfold imps at hL; rw [hf] at hL; cases hL
  | some q =>
   have hq := imps_some hf
   have ih := mcheck_L1 n l hl hn o ho k t m (i + 1) h3 (by simpa using hm)
   rcases mcheck_L2 n l (by omega) (module_check_L1 n l o k m (i + 1)) (q, true) q.Imports n 0 rfl (by have := (hl.lens q (fm_name hf).2).1; omega) with ⟨a, b⟩ | ⟨a, y, b, c⟩
   ·dsimp only
    rw [a]
    rcases ih with ⟨c, d⟩ | ⟨c, z, hz, d⟩
    ·refine .inl ⟨c, fun z hz => ?_⟩
     rcases List.mem_cons.1 hz with rfl | hz
     ·intro L' hL' y hy; rw [hq] at hL'; cases hL'; exact b y hy
     ·exact d z hz
    ·exact .inr ⟨c, z, by simp [hz], d⟩
   ·exact .inr ⟨a, x, by simp, q.Imports, hq, y, b, c⟩
theorem mcheck_L4 (n : Nat) (l : List Module) (hl : LOk l) (hn : 100000 ≤ n) (k : Option Int) (x : Nm) (r : Module × Bool) : ∀ (t : List Nm) (m i : Nat), r.1.Imports.drop i = t → t.length < m → (module_check_L4 n l k x r m i = k ∧ ∀ y ∈ t, ¬ (Fnd (imps l) y ∧ Rch (imps l) All y x ∧ Fnd (imps l) x)) ∨ (module_check_L4 n l k x r m i = some 6 ∧ ∃ y ∈ t, Rch (imps l) All y x)
 | [], m + 1, i, h, _ => .inl ⟨by rw [module_check_L4, if_neg (drop_nil' h)], by simp⟩
 | y :: t, m + 1, i, h, hm => by
  obtain ⟨h1, h2, h3⟩ := drop_cons h
  obtain ⟨o, e, _, ol, om⟩ := needs_eq n l hl hn y
  rw [module_check_L4, if_pos h1, h2, bind_some', e, bind_some', Contains_eq n o x (by omega), bind_some']
  by_cases c : x ∈ o
  ·exact .inr ⟨by simp [c], y, by simp, ((om x).1 c).2.1⟩
  ·have hy : ¬ (Fnd (imps l) y ∧ Rch (imps l) All y x ∧ Fnd (imps l) x) := fun h => c ((om x).2 h)
   rw [if_neg (by simp [c])]
   rcases mcheck_L4 n l hl hn k x r t m (i + 1) h3 (by simpa using hm) with ⟨a, b⟩ | ⟨a, z, b, c⟩
   ·exact .inl ⟨a, fun z hz => by
     rcases List.mem_cons.1 hz with rfl | hz
     ·exact hy
     ·exact b z hz⟩
   ·exact .inr ⟨a, z, by simp [b], c⟩
theorem mcheck_L3 (n : Nat) (l : List Module) (hl : LOk l) (hn : 100000 ≤ n) (o : List Nm) (ho : ∀ x ∈ o, Fnd (imps l) x) : ∀ (t : List Nm) (m i : Nat), o.drop i = t → t.length < m → (module_check_L3 n l o m i = some 0 ∧ ∀ x ∈ t, ∀ L, imps l x = some L → ∀ y ∈ L, ¬ (Fnd (imps l) y ∧ Rch (imps l) All y x ∧ Fnd (imps l) x)) ∨ (module_check_L3 n l o m i = some 6 ∧ ∃ x ∈ t, ∃ L, imps l x = some L ∧ ∃ y ∈ L, Rch (imps l) All y x)
 | [], m + 1, i, h, _ => .inl ⟨by rw [module_check_L3, if_neg (drop_nil' h)], by simp⟩
 | x :: t, m + 1, i, h, hm => by
  obtain ⟨h1, h2, h3⟩ := drop_cons h
  have hlen := hl.len
  rw [module_check_L3, if_pos h1, jn_def, h2, bind_some', mfind_eq n l x (by omega), bind_some']
  obtain ⟨L, hL⟩ := ho x (List.mem_of_getElem? h2)
  cases hf : fm l x with
  | none => unfold imps at hL; rw [hf] at hL; cases hL
  | some q =>
   have hq := imps_some hf
   have ih := mcheck_L3 n l hl hn o ho t m (i + 1) h3 (by simpa using hm)
   rcases mcheck_L4 n l hl hn (module_check_L3 n l o m (i + 1)) x (q, true) q.Imports n 0 rfl (by have := (hl.lens q (fm_name hf).2).1; omega) with ⟨a, b⟩ | ⟨a, y, b, c⟩
   ·dsimp only
    rw [a]
    rcases ih with ⟨c, d⟩ | ⟨c, z, hz, d⟩
    ·refine .inl ⟨c, fun z hz => ?_⟩
     rcases List.mem_cons.1 hz with rfl | hz
     ·intro L' hL' y hy; rw [hq] at hL'; cases hL'; exact b y hy
     ·exact d z hz
    ·exact .inr ⟨c, z, by simp [hz], d⟩
   ·exact .inr ⟨a, x, by simp, q.Imports, hq, y, b, c⟩
theorem mcheck_eq (n : Nat) (l : List Module) (hl : LOk l) (hn : 100000 ≤ n) (a : Nm) : ∃ e, module_check n l a = some e ∧ OrdE l a e := by
 have hlen := hl.len
 unfold module_check
 rw [jn_def]
 rcases mcheck_L0 n l hl.len (by omega) ((module_find n l a).bind fun r29 => if (!(r29.2)) = true then some 5 else (module_needs n l a).bind fun r37 => jn (module_check_L3 n l r37 n 0) (fun k42 => module_check_L1 n l r37 k42 n 0)) l n 0 rfl (by omega) (by simp [nmsM]) with ⟨h, hnd⟩ | ⟨h, hnd⟩
 ·rw [h, mfind_eq n l a (by omega), bind_some']
  cases hf : fm l a with
  | none =>
   refine ⟨5, by simp, .miss hnd ⟨a, .refl, fun h => ?_⟩⟩
   have := fnd_iff.2 h; rw [hf] at this; cases this
  | some q =>
   have hfa : Fnd (imps l) a := fnd_iff.1 (by rw [hf]; rfl)
   obtain ⟨o, e, on, ol, om⟩ := needs_eq n l hl hn a
   rw [if_neg (by simp), e, bind_some', jn_def]
   rcases mcheck_L1 n l hl hn o (fun x hx => ((om x).1 hx).2.2) (module_check_L3 n l o n 0) o n 0 rfl (by omega) with ⟨h1, h2⟩ | ⟨h1, x, hx, L, hL, y, hy, hny⟩
   ·have hm : ¬ Miss l a := by
     rintro ⟨x, hr, hx⟩
     rcases hr.cases_last with rfl | ⟨c, L, hc, hL, hxL⟩
     ·exact hx hfa
     ·exact hx (h2 c ((om c).2 ⟨hfa, hc, L, hL⟩) L hL x hxL)
    rw [h1]
    rcases mcheck_L3 n l hl hn o (fun x hx => ((om x).1 hx).2.2) o n 0 rfl (by omega) with ⟨h3, h4⟩ | ⟨h3, x, hx, L, hL, y, hy, hr⟩
    ·refine ⟨0, h3, .ok hnd hm (fun hc => hc fun x hx L y hL hy hr => ?_)⟩
     have hfx : Fnd (imps l) x := ⟨L, hL⟩
     refine h4 x ((om x).2 ⟨hfa, hx, hfx⟩) L hL y hy ⟨?_, hr, hfx⟩
     exact Classical.byContradiction fun hny => hm ⟨y, .step hx hL hy trivial, hny⟩
    ·exact ⟨6, h3, .cyc hnd hm fun hA => hA x ((om x).1 hx).2.1 L y hL hy hr⟩
   ·rw [h1]
    exact ⟨5, rfl, .miss hnd ⟨y, .step ((om x).1 hx).2.1 hL hy trivial, hny⟩⟩
 ·rw [h]; exact ⟨4, rfl, .dup hnd⟩
theorem rvisit_eq (n0 : Nat) (l : List Module) (hl : LOk l) (a0 : Nm) : ∀ (k n : Nat) (a : Nm) (out : List Nm), ht (imps l) k a → Acy (imps l) a → (∀ x, Rch (imps l) All a x → Fnd (imps l) x) → Topo (imps l) out → out.Nodup → (∀ x ∈ out, x ∈ a0 :: allI l) → a ∈ a0 :: allI l → k + 10000 ≤ n → r22_visit n l a out = some (vis (imps l) k a out)
  | 0, n, a, out, h, _, _, _, _, _, _, _ => h.elim
  | k + 1, 0, a, out, _, _, _, _, _, _, _, hn => by omega
  | k + 1, n + 1, a, out, h, hA, hF, hT, hnd, hU, haU, hn => by
    have hlen := hl.len
    have hai := allI_len hl
    have hol := nodup_sub out _ hnd hU
    rw [List.length_cons] at hol
    obtain ⟨L, hL⟩ := hF a .refl
    obtain ⟨j, e, hj⟩ := find_eq n l a (by omega)
    rw [r22_visit, has_eq n out a (by omega), bind_some']
    unfold vis
    by_cases c : a ∈ out
    · rw [if_pos (by simp [c]), if_pos c]
    · rw [if_neg (by simp [c]), if_neg c, e, bind_some']
      rcases hj with ⟨_, hf⟩ | ⟨i, q, rfl, a2, a3, _⟩
      · unfold imps at hL; rw [hf] at hL; cases hL
      · have hq := imps_some a3
        rw [ix_nat, a2, bind_some', jn_def, hq]
        have hil := (hl.lens q (fm_name a3).2).1
        have key : ∀ (t : List Nm) (m i : Nat) (o : List Nm), q.Imports.drop i = t → t.length < m → Topo (imps l) o → o.Nodup → (∀ x ∈ o, x ∈ a0 :: allI l) → r22_visit_L0 n l (r22_visit n) q (fun out_20 => chk ((out_20).length + ([a]).length ≤ 137438953472) (some (out_20 ++ [a]))) m o i = some (t.foldl (fun o y => vis (imps l) k y o) o ++ [a]) := by
          intro t
          induction t with
          | nil => intro m i o hd hm hT' hn' hU'
                   cases m with
                   | zero => omega
                   | succ m =>
                     have := nodup_sub o _ hn' hU'
                     rw [List.length_cons] at this
                     rw [r22_visit_L0, if_neg (drop_nil' hd)]
                     show chk (o.length + 1 ≤ 137438953472) _ = _
                     rw [chk_pos (by omega)]; rfl
          | cons y t ih => intro m i o hd hm hT' hn' hU'
                           cases m with
                           | zero => omega
                           | succ m =>
                             obtain ⟨h1, h2, h3⟩ := drop_cons hd
                             have hy : y ∈ q.Imports := List.mem_of_getElem? h2
                             have hA' := hA.kid hq hy
                             have hr' : ∀ x, Rch (imps l) All y x → Rch (imps l) All a x := fun x hx => (Rch.step .refl hq hy trivial).trans hx
                             have V := vis_spec (imps l) k y o (h _ hq y hy) hA' hT' hn'
                             rw [r22_visit_L0, if_pos h1, h2, bind_some', rvisit_eq n0 l hl a0 k n y o (h _ hq y hy) hA' (fun x hx => hF x (hr' x hx)) hT' hn' hU' (List.mem_cons.2 (.inr (allI_mem hq hy))) (by omega), bind_some', List.foldl_cons]
                             refine ih m (i + 1) _ h3 (by simpa using hm) V.topo V.nodup (fun x hx => ?_)
                             rcases (V.mem x).1 hx with hx | hx
                             · exact hU' x hx
                             · rcases hx.cases_last with rfl | ⟨c, L', _, hL', hxL⟩
                               · exact List.mem_cons.2 (.inr (allI_mem hq hy))
                               · exact List.mem_cons.2 (.inr (allI_mem hL' hxL))
        exact key q.Imports n 0 out rfl (by omega) hT hnd hU
end Go.Proofs.YtbhjplflnkidgaaGreat
end
section
namespace Go.Proofs.YtbhjplflnkidgaaGreat
open Go.Gl Go.Sort
set_option linter.unusedVariables false
set_option linter.unusedSimpArgs false
theorem r01_Same_L0_eq (n : Nat) (a b : List (List UInt8)) (hab : a.length = b.length) : ∀ (t : List (List UInt8)) (m i : Nat), a.drop i = t → t.length < m → r01_Same_L0 n a b m i = some (decide (t = b.drop i))
 | [], m + 1, i, h, _ => by
  have := drop_nil' h
  rw [r01_Same_L0, if_neg this, List.drop_of_length_le (by omega)]
  simp
 | x :: t, m + 1, i, h, hm => by
  obtain ⟨h1, h2, h3⟩ := drop_cons h
  rcases hbd : b.drop i with _ | ⟨y, u⟩
  ·exact absurd (drop_nil' hbd) (by omega)
  obtain ⟨k1, k2, k3⟩ := drop_cons hbd
  rw [r01_Same_L0, if_pos h1, h2, k2]
  simp only [bind_some']
  rw [r01_Same_L0_eq n a b hab t m (i + 1) h3 (by simpa using hm), k3]
  by_cases hx : x = y
  ·simp [hx]
  ·simp [hx]
theorem r01_Same_eq (n : Nat) (a b : List (List UInt8)) (hn : a.length < n ∨ b.length < n) : r01_Same n a b = some (decide (a = b)) := by
 unfold r01_Same
 by_cases h : a.length = b.length
 ·rw [if_neg (by simp [h]), r01_Same_L0_eq n a b h a n 0 rfl (by omega)]
  rfl
 ·have : a ≠ b := fun e => h (by rw [e])
  simp [h, this]
def Kn (kv : List (List UInt8 × Bool)) : Prop := (kv.map (·.1)).Nodup
theorem mget_none {α : Type} : ∀ {kv : List (List UInt8 × α)} {k : List UInt8}, k ∉ kv.map (·.1) → mget kv k = none
 | [], _, _ => rfl
 | (j, x) :: r, k, h => by
  simp only [List.map_cons, List.mem_cons, not_or] at h
  show (if k = j then some x else mget r k) = none
  rw [if_neg h.1]
  exact mget_none h.2
theorem mdel_get : ∀ (kv : List (List UInt8 × Bool)) (k s : List UInt8), Kn kv → mget (mdel kv k) s = if s = k then none else mget kv s
 | [], k, s, _ => by
  show none = if s = k then none else none
  split <;> rfl
 | (j, x) :: r, k, s, h => by
  have h' : j ∉ r.map (·.1) ∧ (r.map (·.1)).Nodup := by simpa [Kn] using h
  show mget (if k = j then r else (j, x) :: mdel r k) s = _
  by_cases c : k = j
  ·rw [if_pos c]
   subst c
   show mget r s = if s = k then none else if s = k then some x else mget r s
   by_cases d : s = k
   ·rw [if_pos d, d, mget_none h'.1]
   ·rw [if_neg d, if_neg d]
  ·rw [if_neg c]
   show (if s = j then some x else mget (mdel r k) s) = if s = k then none else if s = j then some x else mget r s
   rw [mdel_get r k s h'.2]
   by_cases d : s = j
   ·rw [if_pos d, if_pos d, if_neg (fun e => c (e.symm.trans d))]
   ·rw [if_neg d, if_neg d]
theorem mdel_keys : ∀ (kv : List (List UInt8 × Bool)) (k j : List UInt8), j ∈ (mdel kv k).map (·.1) → j ∈ kv.map (·.1)
 | [], k, j, h => h
 | (i, x) :: r, k, j, h => by
  replace h : j ∈ (if k = i then r else (i, x) :: mdel r k).map (·.1) := h
  split at h
  ·exact List.mem_cons.2 (.inr h)
  ·rcases List.mem_cons.1 h with h | h
   ·exact List.mem_cons.2 (.inl h)
   ·exact List.mem_cons.2 (.inr (mdel_keys r k j h))
theorem mdel_kn : ∀ (kv : List (List UInt8 × Bool)) (k : List UInt8), Kn kv → Kn (mdel kv k)
 | [], k, h => h
 | (i, x) :: r, k, h => by
  have h' : i ∉ r.map (·.1) ∧ (r.map (·.1)).Nodup := by simpa [Kn] using h
  show Kn (if k = i then r else (i, x) :: mdel r k)
  split
  ·exact h'.2
  ·show (i :: (mdel r k).map (·.1)).Nodup
   rw [List.nodup_cons]
   exact ⟨fun hm => h'.1 (mdel_keys r k i hm), mdel_kn r k h'.2⟩
def good (w : List (List UInt8 × Bool)) (out : List Nm) (y : Nm) : Prop := (mget w y).getD false = true ↔ y ∉ out
structure VR (w : List (List UInt8 × Bool)) (out : List Nm) (w' : List (List UInt8 × Bool)) (o : List Nm) : Prop where
  kn : Kn w'
  good : ∀ y, good w out y → good w' o y
  off : ∀ y, (mget w y).getD false = false → (mget w' y).getD false = false
theorem pvisit_eq (l : List Module) (hl : LOk l) (a0 : Nm) : ∀ (k n : Nat) (a : Nm) (w : List (List UInt8 × Bool)) (out : List Nm), ht (imps l) k a → Acy (imps l) a → (∀ x, Rch (imps l) All a x → Fnd (imps l) x) → Topo (imps l) out → out.Nodup → (∀ x ∈ out, x ∈ a0 :: allI l) → a ∈ a0 :: allI l → k + 10000 ≤ n → Kn w → (∀ y, Rch (imps l) All a y → good w out y) →
    ∃ w', module_Order_1 n a w l out = some (w', vis (imps l) k a out) ∧ VR w out w' (vis (imps l) k a out)
  | 0, n, a, w, out, h, _, _, _, _, _, _, _, _, _ => h.elim
  | k + 1, 0, a, w, out, _, _, _, _, _, _, _, hn, _, _ => by omega
  | k + 1, n + 1, a, w, out, h, hA, hF, hT, hnd, hU, haU, hn, hk, hg => by
    have hlen := hl.len
    have hai := allI_len hl
    obtain ⟨L, hL⟩ := hF a .refl
    have ga := hg a .refl
    unfold good at ga
    rw [module_Order_1]
    unfold vis
    by_cases c : a ∈ out
    · have : (mget w a).getD false = false := by
        cases hb : (mget w a).getD false with
        | false => rfl
        | true => exact absurd c (ga.1 hb)
      rw [if_pos (by rw [this]; rfl), if_pos c]
      exact ⟨w, rfl, hk, fun y h => h, fun y h => h⟩
    · have : (mget w a).getD false = true := ga.2 c
      rw [if_neg (by rw [this]; simp), if_neg c, mfind_eq n l a (by omega), bind_some', jn_def]
      cases hf : fm l a with
      | none => unfold imps at hL; rw [hf] at hL; cases hL
      | some q =>
        have hq := imps_some hf
        dsimp only
        rw [hq]
        have hil := (hl.lens q (fm_name hf).2).1
        have key : ∀ (t : List Nm) (m i : Nat) (w1 : List (List UInt8 × Bool)) (o : List Nm), q.Imports.drop i = t → t.length < m → Topo (imps l) o → o.Nodup → (∀ x ∈ o, x ∈ a0 :: allI l) → Kn w1 → (∀ y ∈ q.Imports, ∀ z, Rch (imps l) All y z → good w1 o z) → ((mget w1 a).getD false = false) →
            ∃ w', module_Order_1_L0 n l (module_Order_1 n) (q, true) (fun b_12 b_14 => chk ((b_14).length + ([a]).length ≤ 137438953472) (some (b_12, b_14 ++ [a]))) m i w1 o = some (w', t.foldl (fun o y => vis (imps l) k y o) o ++ [a]) ∧ Kn w' ∧ (∀ y, good w1 o y → y ≠ a → good w' (t.foldl (fun o y => vis (imps l) k y o) o ++ [a]) y) ∧ good w' (t.foldl (fun o y => vis (imps l) k y o) o ++ [a]) a ∧ ∀ y, (mget w1 y).getD false = false → (mget w' y).getD false = false := by
          intro t
          induction t with
          | nil => intro m i w1 o hd hm hT' hn' hU' hk' hg' ha'
                   cases m with
                   | zero => omega
                   | succ m =>
                     have := nodup_sub o _ hn' hU'
                     rw [List.length_cons] at this
                     rw [module_Order_1_L0, if_neg (drop_nil' hd)]
                     refine ⟨w1, ?_, hk', fun y hy hne => ?_, ?_, fun y h => h⟩
                     · show chk (o.length + 1 ≤ 137438953472) _ = _
                       rw [chk_pos (by omega)]; rfl
                     · unfold good at hy ⊢
                       rw [hy, List.foldl_nil, List.mem_append]
                       simp [hne]
                     · unfold good
                       rw [ha']; simp
          | cons y t ih => intro m i w1 o hd hm hT' hn' hU' hk' hg' ha'
                           cases m with
                           | zero => omega
                           | succ m =>
                             obtain ⟨h1, h2, h3⟩ := drop_cons hd
                             have hy : y ∈ q.Imports := List.mem_of_getElem? h2
                             have hA' := hA.kid hq hy
                             have hr' : ∀ x, Rch (imps l) All y x → Rch (imps l) All a x := fun x hx => (Rch.step .refl hq hy trivial).trans hx
                             have V := vis_spec (imps l) k y o (h _ hq y hy) hA' hT' hn'
                             obtain ⟨w2, e2, v2⟩ := pvisit_eq l hl a0 k n y w1 o (h _ hq y hy) hA' (fun x hx => hF x (hr' x hx)) hT' hn' hU' (List.mem_cons.2 (.inr (allI_mem hq hy))) (by omega) hk' (hg' y hy)
                             rw [module_Order_1_L0, if_pos h1]
                             show ∃ w', ((q.Imports[i]?).bind fun x28 => (module_Order_1 n x28 w1 l o).bind fun r32 => module_Order_1_L0 n l (module_Order_1 n) (q, true) (fun b_12 b_14 => chk ((b_14).length + ([a]).length ≤ 137438953472) (some (b_12, b_14 ++ [a]))) m (i + 1) r32.1 r32.2) = _ ∧ _
                             rw [h2, bind_some', e2, bind_some', List.foldl_cons]
                             have hnotr : ¬ Rch (imps l) All y a := hA a .refl _ y hq hy
                             have ha2 : (mget w2 a).getD false = false := v2.off a ha'
                             obtain ⟨w', e', k', g', ga', go'⟩ := ih m (i + 1) w2 (vis (imps l) k y o) h3 (by simpa using hm) V.topo V.nodup (fun x hx => by
                               rcases (V.mem x).1 hx with hx | hx
                               · exact hU' x hx
                               · rcases hx.cases_last with rfl | ⟨c, L', _, hL', hxL⟩
                                 · exact List.mem_cons.2 (.inr (allI_mem hq hy))
                                 · exact List.mem_cons.2 (.inr (allI_mem hL' hxL))) v2.kn (fun y' hy' z hz => v2.good z (hg' y' hy' z hz)) ha2
                             exact ⟨w', e', k', fun z hz hne => g' z (v2.good z hz) hne, ga', fun z hz => go' z (v2.off z hz)⟩
        obtain ⟨w', e, k1, g1, g2, g3⟩ := key q.Imports n 0 (mdel w a) out rfl (by omega) hT hnd hU (mdel_kn w a hk) (fun y hy z hz => by
          have hne : z ≠ a := fun e => hA a .refl _ y hq hy (e ▸ hz)
          have := hg z ((Rch.step .refl hq hy trivial).trans hz)
          unfold good at this ⊢
          rw [mdel_get w a z hk, if_neg hne]
          exact this) (by rw [mdel_get w a a hk, if_pos rfl]; rfl)
        have hoff : ∀ y, (mget w y).getD false = false → (mget (mdel w a) y).getD false = false := fun y hy => by
          rw [mdel_get w a y hk]
          by_cases c2 : y = a
          · rw [if_pos c2]; rfl
          · rw [if_neg c2]; exact hy
        refine ⟨w', e, k1, fun y hy => ?_, fun y hy => g3 y (hoff y hy)⟩
        by_cases hya : y = a
        · subst hya; exact g2
        · refine g1 y ?_ hya
          unfold good at hy ⊢
          rw [mdel_get w a y hk, if_neg hya]
          exact hy
theorem mget_mset {α : Type} (k j : List UInt8) (v : α) : ∀ kv : List (List UInt8 × α), mget (mset kv k v) j = if j = k then some v else mget kv j
 | [] => by
  by_cases h : j = k
  ·subst h; simp [mset, mget]
  ·simp [mset, mget, h]
 | (a, x) :: t => by
  have ih := mget_mset k j v t
  by_cases h : k = a
  ·subst h
   by_cases h2 : j = k
   ·subst h2; simp [mset, mget]
   ·simp [mset, mget, h2]
  ·by_cases h2 : j = a
   ·subst h2
    have h' : ¬ j = k := fun e => h e.symm
    simp [mset, mget, h, h']
   ·simp [mset, mget, h, h2, ih]
theorem wait_L0 (n : Nat) (o : List Nm) (k18 : List (List UInt8 × Bool) → Option (List Nm × Int)) (hl : o.length ≤ 100000) : ∀ (t : List Nm) (m i : Nat) (w : List (List UInt8 × Bool)), o.drop i = t → t.length < m → Kn w → ∃ w', module_Order_L0 n o k18 m i w = k18 w' ∧ Kn w' ∧ ∀ y, (mget w' y).getD false = true ↔ (y ∈ t ∨ (mget w y).getD false = true)
 | [], m + 1, i, w, h, _, hk => ⟨w, by rw [module_Order_L0, if_neg (drop_nil' h)], hk, by simp⟩
 | x :: t, m + 1, i, w, h, hm, hk => by
  obtain ⟨h1, h2, h3⟩ := drop_cons h
  obtain ⟨w', e, h4, h5⟩ := wait_L0 n o k18 hl t m (i + 1) (mset w x true) h3 (by simpa using hm) (mset_nodup hk)
  refine ⟨w', by rw [module_Order_L0, if_pos h1, h2, bind_some']; exact e, h4, fun y => ?_⟩
  rw [h5 y, List.mem_cons]
  have hs : mget (mset w x true) y = if y = x then some true else mget w y := mget_mset x y true w
  rw [hs]
  by_cases c : y = x
  ·simp [c]
  ·simp [c]
def vOrd (l : List Module) (a : Nm) : List Nm := vis (imps l) (a :: allI l).length a []
theorem topo_nil (F : Nm → Option (List Nm)) : Topo F [] := fun i x L h => by simp at h
theorem ht_ok (l : List Module) (a : Nm) (hA : Acy (imps l) a) : ht (imps l) (a :: allI l).length a :=
 ht_of (imps l) (a :: allI l) (fun x L y hF hy => List.mem_cons.2 (.inr (allI_mem hF hy))) _ [] a hA (by simp) (by simp) (by simp) (by simp) (by simp) (by simp)
theorem nmiss {l : List Module} {a : Nm} (h : ¬ Miss l a) : ∀ x, Rch (imps l) All a x → Fnd (imps l) x := fun x hx => Classical.byContradiction fun hn => h ⟨x, hx, hn⟩
theorem Order_eq (n : Nat) (l : List Module) (hl : LOk l) (hn : 100000 ≤ n) (a : Nm) : ∃ e, OrdE l a e ∧ module_Order n l a = some (if e = 0 then vOrd l a else [], e) := by
 have hai := allI_len hl
 obtain ⟨e, he, hO⟩ := mcheck_eq n l hl hn a
 refine ⟨e, hO, ?_⟩
 unfold module_Order
 rw [he, bind_some']
 by_cases h0 : e = 0
 ·subst h0
  rw [if_neg (by simp), if_pos rfl]
  cases hO with
  | ok hnd hm hc =>
   have hA : Acy (imps l) a := Classical.byContradiction hc
   have hF := nmiss hm
   obtain ⟨o, eo, on, ol, om⟩ := needs_eq n l hl hn a
   rw [eo, bind_some', jn_def]
   obtain ⟨w, ew, kw, gw⟩ := wait_L0 n o (fun wait_19 => (module_Order_1 n a wait_19 l []).bind fun r35 => some (r35.2, 0)) (by omega) o n 0 [] rfl (by omega) (by simp [Kn])
   show module_Order_L0 n o (fun wait_19 => (module_Order_1 n a wait_19 l []).bind fun r35 => some (r35.2, 0)) n 0 [] = _
   rw [ew]
   obtain ⟨w', ev, _⟩ := pvisit_eq l hl a _ n a w [] (ht_ok l a hA) hA hF (topo_nil _) .nil (by simp) (by simp) (by simp; omega) kw (fun y hy => by
    unfold good
    rw [gw y]
    have : y ∈ o := (om y).2 ⟨hF a .refl, hy, hF y hy⟩
    simp [this])
   rw [ev]
   rfl
 ·rw [if_pos h0, if_neg h0]
theorem Order_L0 (n : Nat) (l : List Module) (hl : l.length ≤ 6) (hn : 1000 ≤ n) (k : Option (List Nm × Int)) : ∀ (t : List Module) (m i : Nat), l.drop i = t → t.length < m → (nmsM (l.take i)).Nodup → (r22_Order_L0 n l k m i = k ∧ (nmsM l).Nodup) ∨ (r22_Order_L0 n l k m i = some ([], 4) ∧ ¬ (nmsM l).Nodup)
 | [], m + 1, i, h, _, hd => .inl ⟨by rw [r22_Order_L0, if_neg (drop_nil' h)], by rwa [List.take_of_length_le (by have := drop_nil' h; omega)] at hd⟩
 | x :: t, m + 1, i, h, hm, hd => by
  obtain ⟨h1, h2, h3⟩ := drop_cons h
  obtain ⟨j, e, hj⟩ := find_eq n l x.Name (by omega)
  rw [r22_Order_L0, if_pos h1, h2, bind_some', e, bind_some']
  have ht : l.take (i + 1) = l.take i ++ [x] := by rw [List.take_add_one, h2]; rfl
  rcases hj with ⟨_, hf⟩ | ⟨k', q, rfl, a2, a3, a4⟩
  ·exact absurd (List.mem_map.2 ⟨x, List.mem_of_getElem? h2, rfl⟩) (fm_take_none.1 hf)
  ·by_cases c : k' = i
   ·subst c
    rw [if_neg (by simp)]
    refine Order_L0 n l hl hn k t m (k' + 1) h3 (by simpa using hm) ?_
    rw [ht]
    unfold nmsM at hd ⊢
    rw [List.map_append, List.nodup_append]
    refine ⟨hd, by simp, fun y hy z hz e => ?_⟩
    simp at hz
    subst hz
    subst e
    obtain ⟨p, hp, hpn⟩ := List.mem_map.1 hy
    obtain ⟨j, hj⟩ := List.getElem?_of_mem hp
    have hjl := (List.getElem?_eq_some_iff.1 hj).1
    rw [List.length_take] at hjl
    rw [List.getElem?_take_of_lt (by omega)] at hj
    exact a4 j (by omega) p hj hpn
   ·rw [if_pos (by omega)]
    refine .inr ⟨rfl, fun hnd => c ?_⟩
    have e1 : (nmsM l)[k']? = some x.Name := by unfold nmsM; rw [List.getElem?_map, a2]; simp [(fm_name a3).1]
    have e2 : (nmsM l)[i]? = some x.Name := by unfold nmsM; rw [List.getElem?_map, h2]; rfl
    exact (List.getElem?_inj (List.getElem?_eq_some_iff.1 e1).1 hnd).1 (e1.trans e2.symm)
theorem Order_L1 (n : Nat) (l : List Module) (hl : l.length < n) (o : List Nm) (k : Option (List Nm × Int)) : ∀ (t : List Nm) (m i : Nat), o.drop i = t → t.length < m → (r22_Order_L1 n l o k m i = k ∧ ∀ y ∈ t, Fnd (imps l) y) ∨ (r22_Order_L1 n l o k m i = some ([], 5) ∧ ∃ y ∈ t, ¬ Fnd (imps l) y)
 | [], m + 1, i, h, _ => .inl ⟨by rw [r22_Order_L1, if_neg (drop_nil' h)], by simp⟩
 | y :: t, m + 1, i, h, hm => by
  obtain ⟨h1, h2, h3⟩ := drop_cons h
  obtain ⟨j, e, hj⟩ := find_eq n l y hl
  rw [r22_Order_L1, if_pos h1, h2, bind_some', e, bind_some']
  rcases hj with ⟨h0, hf⟩ | ⟨k', q, rfl, a2, a3, _⟩
  ·rw [if_pos h0]
   exact .inr ⟨rfl, y, by simp, fun h => by have := fnd_iff.2 h; rw [hf] at this; cases this⟩
  ·rw [if_neg (by omega)]
   have hy : Fnd (imps l) y := fnd_iff.1 (by rw [a3]; rfl)
   rcases Order_L1 n l hl o k t m (i + 1) h3 (by simpa using hm) with ⟨a, b⟩ | ⟨a, z, b, c⟩
   ·exact .inl ⟨a, fun z hz => by
     rcases List.mem_cons.1 hz with rfl | hz
     ·exact hy
     ·exact b z hz⟩
   ·exact .inr ⟨a, z, by simp [b], c⟩
theorem cyclic_L0 (n : Nat) (l : List Module) (hl : LOk l) (hn : 100000 ≤ n) (x : Nm) (q : Module) : ∀ (t : List Nm) (m i : Nat), q.Imports.drop i = t → t.length < m → ∃ b, r22_cyclic_L0 n l x q m i = some b ∧ (b = true ↔ ∃ y ∈ t, Rch (imps l) All y x)
 | [], m + 1, i, h, _ => ⟨false, by rw [r22_cyclic_L0, if_neg (drop_nil' h)], by simp⟩
 | y :: t, m + 1, i, h, hm => by
  obtain ⟨h1, h2, h3⟩ := drop_cons h
  obtain ⟨o, e, _, ol, om⟩ := Needs_eq n l hl hn y
  rw [r22_cyclic_L0, if_pos h1, h2, bind_some', e, bind_some', has_eq n o x (by omega), bind_some']
  by_cases c : x ∈ o
  ·exact ⟨true, by simp [c], by simp; exact .inl ((om x).1 c)⟩
  ·obtain ⟨b, eb, hb⟩ := cyclic_L0 n l hl hn x q t m (i + 1) h3 (by simpa using hm)
   refine ⟨b, by simpa [c] using eb, ?_⟩
   rw [hb]
   have : ¬ Rch (imps l) All y x := fun h => c ((om x).2 h)
   simp [this]
theorem Order_L2 (n : Nat) (l : List Module) (hl : LOk l) (hn : 100000 ≤ n) (o : List Nm) (ho : ∀ x ∈ o, Fnd (imps l) x) (k : Option (List Nm × Int)) : ∀ (t : List Nm) (m i : Nat), o.drop i = t → t.length < m → (r22_Order_L2 n l o k m i = k ∧ ∀ x ∈ t, ∀ L, imps l x = some L → ∀ y ∈ L, ¬ Rch (imps l) All y x) ∨ (r22_Order_L2 n l o k m i = some ([], 6) ∧ ∃ x ∈ t, ∃ L, imps l x = some L ∧ ∃ y ∈ L, Rch (imps l) All y x)
 | [], m + 1, i, h, _ => .inl ⟨by rw [r22_Order_L2, if_neg (drop_nil' h)], by simp⟩
 | x :: t, m + 1, i, h, hm => by
  obtain ⟨h1, h2, h3⟩ := drop_cons h
  have hlen := hl.len
  obtain ⟨j, e, hj⟩ := find_eq n l x (by omega)
  obtain ⟨L, hL⟩ := ho x (List.mem_of_getElem? h2)
  rcases hj with ⟨h0, hf⟩ | ⟨k', q, rfl, a2, a3, _⟩
  ·unfold imps at hL; rw [hf] at hL; cases hL
  ·have hq := imps_some a3
   obtain ⟨b, eb, hb⟩ := cyclic_L0 n l hl hn x q q.Imports n 0 rfl (by have := (hl.lens q (fm_name a3).2).1; omega)
   have ec : r22_cyclic n l x = some b := by
    unfold r22_cyclic
    rw [e, bind_some', ix_nat, a2, bind_some', eb]
   rw [r22_Order_L2, if_pos h1, h2, bind_some', ec, bind_some']
   cases b with
   | true =>
    obtain ⟨y, hy, hr⟩ := hb.1 rfl
    exact .inr ⟨rfl, x, by simp, q.Imports, hq, y, hy, hr⟩
   | false =>
    rw [if_neg (by simp)]
    rcases Order_L2 n l hl hn o ho k t m (i + 1) h3 (by simpa using hm) with ⟨c, d⟩ | ⟨c, z, hz, d⟩
    ·refine .inl ⟨c, fun z hz => ?_⟩
     rcases List.mem_cons.1 hz with rfl | hz
     ·intro L' hL' y hy hr
      rw [hq] at hL'; cases hL'
      have := hb.2 ⟨y, hy, hr⟩
      cases this
     ·exact d z hz
    ·exact .inr ⟨c, z, by simp [hz], d⟩
theorem rOrder_eq (n : Nat) (l : List Module) (hl : LOk l) (hn : 100000 ≤ n) (a : Nm) : ∃ e, OrdE l a e ∧ r22_Order n l a = some (if e = 0 then vOrd l a else [], e) := by
 have hai := allI_len hl
 have hlen := hl.len
 obtain ⟨o, eo, on, ol, om⟩ := Needs_eq n l hl hn a
 unfold r22_Order
 rw [jn_def, eo, bind_some', jn_def, jn_def]
 rcases Order_L0 n l hl.len (by omega) (r22_Order_L1 n l o (r22_Order_L2 n l o ((r22_visit n l a []).bind fun r51 => some (r51, 0)) n 0) n 0) l n 0 rfl (by omega) (by simp [nmsM]) with ⟨h, hnd⟩ | ⟨h, hnd⟩
 ·rw [h]
  rcases Order_L1 n l (by omega) o (r22_Order_L2 n l o ((r22_visit n l a []).bind fun r51 => some (r51, 0)) n 0) o n 0 rfl (by omega) with ⟨h1, h2⟩ | ⟨h1, y, hy, hny⟩
  ·rw [h1]
   have hm : ¬ Miss l a := fun ⟨x, hx, hnx⟩ => hnx (h2 x ((om x).2 hx))
   rcases Order_L2 n l hl hn o h2 ((r22_visit n l a []).bind fun r51 => some (r51, 0)) o n 0 rfl (by omega) with ⟨h3, h4⟩ | ⟨h3, x, hx, L, hL, y, hy, hr⟩
   ·rw [h3]
    have hA : Acy (imps l) a := fun x hx L y hL hy => h4 x ((om x).2 hx) L hL y hy
    refine ⟨0, .ok hnd hm (fun hc => hc hA), ?_⟩
    rw [rvisit_eq n l hl a _ n a [] (ht_ok l a hA) hA (nmiss hm) (topo_nil _) .nil (by simp) (by simp) (by simp; omega)]
    rfl
   ·rw [h3]
    exact ⟨6, .cyc hnd hm (fun hA => hA x ((om x).1 hx) L y hL hy hr), rfl⟩
  ·rw [h1]
   exact ⟨5, .miss hnd ⟨y, (om y).1 hy, hny⟩, rfl⟩
 ·rw [h]; exact ⟨4, .dup hnd, rfl⟩
end Go.Proofs.YtbhjplflnkidgaaGreat
end
section
namespace Go.Proofs.YtbhjplflnkidgaaGreat
open Go.Gl Go.Sort
set_option linter.unusedVariables false
set_option linter.unusedSimpArgs false
theorem compact_asc (l : List (List UInt8)) (hs : l.Pairwise (· ≤ ·)) : ∀ m, m ≤ l.length → (Lib.compactUpTo l.toArray m).Pairwise (· < ·) ∧ ∀ v, v ∈ Lib.compactUpTo l.toArray m ↔ v ∈ l.take m
 | 0, _ => by simp [Lib.compactUpTo]
 | m + 1, hm => by
  obtain ⟨h1, h2⟩ := compact_asc l hs m (by omega)
  have hm' : m < l.length := hm
  have hg : l.toArray[m]! = l[m] := by simp [hm']
  rw [Lib.compactUpTo_succ, List.take_add_one, List.getElem?_eq_getElem (by omega), hg]
  rcases Nat.eq_zero_or_pos m with rfl | hpos
  ·have : Lib.keeps l.toArray 0 = true := by simp [Lib.keeps]
   rw [if_pos this]
   simp [Lib.compactUpTo]
  ·have hg' : l.toArray[m - 1]! = l[m - 1] := by
    have : m - 1 < l.length := by omega
    simp [this]
   have hle : l[m - 1] ≤ l[m] := List.pairwise_iff_getElem.1 hs _ _ (by omega) (by omega) (by omega)
   by_cases hne : l[m] = l[m - 1]
   ·have : Lib.keeps l.toArray m = false := Lib.keeps_neg hpos (by rw [hg, hg', hne])
    rw [this]
    simp only [Bool.false_eq_true, if_false, List.append_nil, Option.toList_some]
    refine ⟨h1, fun v => ?_⟩
    rw [h2 v, List.mem_append]
    constructor
    ·exact .inl
    ·rintro (h | h)
     ·exact h
     ·simp only [List.mem_singleton] at h
      rw [h, hne]
      exact List.mem_take_iff_getElem.2 ⟨m - 1, by omega, rfl⟩
   ·have : Lib.keeps l.toArray m = true := Lib.keeps_pos (by rw [hg, hg']; exact hne)
    rw [if_pos this]
    refine ⟨List.pairwise_append.2 ⟨h1, by simp, fun x hx y hy => ?_⟩, fun v => by rw [List.mem_append, List.mem_append, h2 v, Option.toList_some]⟩
    simp only [List.mem_singleton] at hy
    subst hy
    obtain ⟨j, hj, rfl⟩ := List.mem_take_iff_getElem.1 ((h2 x).1 hx)
    have hj' : j < m := by omega
    have hlt : l[m - 1] < l[m] := lt_of_le_ne hle (fun e => hne e.symm)
    rcases Nat.lt_or_ge j (m - 1) with h3 | h3
    ·have h4 : l[j] ≤ l[m - 1] := List.pairwise_iff_getElem.1 hs _ _ (by omega) (by omega) h3
     rcases Decidable.em (l[j] = l[m - 1]) with h5 | h5
     ·rw [h5]; exact hlt
     ·exact List.lt_trans (lt_of_le_ne h4 h5) hlt
    ·have : j = m - 1 := by omega
     subst this
     exact hlt
def PRE : List TypeDecl := (hier_Prelude 0).getD []
theorem hpre (n : Nat) : hier_Prelude n = some PRE := rfl
theorem rpre (n : Nat) (hn : 100 ≤ n) : r06_Prelude n = some PRE := by
 obtain ⟨m, rfl⟩ : ∃ m, n = m + 100 := ⟨n - 100, by omega⟩
 rfl
theorem PRE_len : PRE.length = 13 := by decide
def wT (s : Nm) : Bool → List Nm → List Nm × Bool
  | d, [] => ([], d)
  | d, x :: t => ((if d = false ∧ s ≤ x then [s] else []) ++ (if x ≠ s then [x] else []) ++ (wT s (if d = false ∧ s ≤ x then true else d) t).1, (wT s (if d = false ∧ s ≤ x then true else d) t).2)
theorem wS_wT (s : Nm) : ∀ (t : List Nm) (d : Bool), wS s d t = (wT s d t).1 ++ (if (wT s d t).2 = true then [] else [s])
 | [], d => by unfold wS wT; rfl
 | x :: t, d => by
  unfold wS wT
  rw [wS_wT s t]
  simp only [List.append_assoc]
theorem With_L0 (n : Nat) (l : List Nm) (s : Nm) (k1 : List Nm → Bool → Option (List Nm)) : ∀ (t : List Nm) (m i : Nat) (out : List Nm) (d : Bool), l.drop i = t → t.length < m → out.length + 2 * t.length ≤ 100000000 → r19_With_L0 n l s k1 m out d i = k1 (out ++ (wT s d t).1) (wT s d t).2
 | [], m + 1, i, out, d, h, _, _ => by rw [r19_With_L0, if_neg (drop_nil' h)]; simp [wT]
 | x :: t, m + 1, i, out, d, h, hm, hb => by
  obtain ⟨h1, h2, h3⟩ := drop_cons h
  rw [List.length_cons] at hb
  rw [r19_With_L0, if_pos h1]
  simp only [jn_def, h2, bind_some', bytesLess_eq]
  unfold wT
  have hle : (s ≤ x) ↔ ¬ (x < s) := Iff.rfl
  have ih := fun (o : List Nm) (d' : Bool) (ho : o.length ≤ out.length + 2) => With_L0 n l s k1 t m (i + 1) o d' h3 (by simpa using hm) (by omega)
  have e1 : out.length + ([s] : List Nm).length ≤ 137438953472 := by simp; omega
  have e2 : (out ++ [s]).length + ([x] : List Nm).length ≤ 137438953472 := by simp; omega
  have e3 : out.length + ([x] : List Nm).length ≤ 137438953472 := by simp; omega
  have i1 := ih (out ++ [s]) true (by simp)
  have i2 := ih ((out ++ [s]) ++ [x]) true (by simp)
  have i3 := ih out d (by omega)
  have i4 := ih (out ++ [x]) d (by simp)
  cases d with
  | true =>
   by_cases c2 : x = s
   ·subst c2; simp [i3]
   ·simp [c2, chk, i4]; intro h; simp at e3; omega
  | false =>
   by_cases c1 : x < s
   ·have c1' : ¬ s ≤ x := fun h => hle.1 h c1
    by_cases c2 : x = s
    ·subst c2; exact absurd c1 (List.lt_irrefl _)
    ·simp only [c1, c1', c2, decide_true, decide_false, Bool.not_true, Bool.not_false, if_true, if_false, and_false, Bool.false_eq_true, ne_eq, not_false_eq_true, List.nil_append, chk_pos e3, i4, List.append_assoc]
   ·have c1' : s ≤ x := hle.2 c1
    by_cases c2 : x = s
    ·subst c2
     simp only [c1, c1', decide_true, decide_false, Bool.not_true, Bool.not_false, if_true, if_false, and_true, and_self, true_and, ne_eq, not_true, chk_pos e1, i1, List.append_assoc, List.append_nil, List.nil_append, List.cons_append]
    ·simp only [c1, c1', c2, decide_true, decide_false, Bool.not_true, Bool.not_false, if_true, if_false, and_true, and_self, true_and, ne_eq, not_false_eq_true, chk_pos e1, chk_pos e2, List.append_assoc, List.append_nil, List.nil_append, List.cons_append]
     have e5 : out ++ [s, x] = (out ++ [s]) ++ [x] := by simp
     rw [e5, i2]
     simp
theorem With_eq (n : Nat) (l : List Nm) (s : Nm) (hl : l.length < n) (hb : l.length ≤ 10000000) : r19_With n l s = some (wS s false l) := by
 unfold r19_With
 rw [jn_def, With_L0 n l s _ l n 0 [] false rfl hl (by simp; omega), wS_wT]
 have hlen : (wT s false l).1.length ≤ 2 * l.length := by
  have : ∀ (t : List Nm) (d : Bool), (wT s d t).1.length ≤ 2 * t.length := by
   intro t
   induction t with
   | nil => intro d; simp [wT]
   | cons x t ih =>
    intro d
    unfold wT
    have := ih (if d = false ∧ s ≤ x then true else d)
    simp only [List.length_append, List.length_cons]
    have a1 : (if d = false ∧ s ≤ x then [s] else []).length ≤ 1 := by split <;> simp
    have a2 : (if x ≠ s then [x] else []).length ≤ 1 := by split <;> simp
    omega
  exact this l false
 rw [List.nil_append]
 cases h : (wT s false l).2 with
 | true => simp
 | false =>
  have e : (wT s false l).1.length + ([s] : List Nm).length ≤ 137438953472 := by simp; omega
  simp only [Bool.not_false, if_true, chk_pos e, Bool.false_eq_true, if_false]
def nmOf (q : Module) : List Nm := q.Types.map (·.Name) ++ q.Templates.map (fun t => [64] ++ t.Name)
def nmX (l : List Module) (x : Nm) : List Nm := match fm l x with | some q => nmOf q | none => []
def VisSet (l : List Module) (a : Nm) (x : Nm) : Prop := x ∈ PRE.map (·.Name) ∨ ∃ b, Rch (imps l) All a b ∧ x ∈ nmX l b
theorem nmOf_len {l : List Module} (hl : LOk l) {q : Module} (hq : q ∈ l) : (nmOf q).length ≤ 512 := by
 have := hl.lens q hq
 unfold nmOf
 rw [List.length_append, List.length_map, List.length_map]
 have := this.2.1
 have := (hl.lens q hq).2.2.1
 omega
theorem nmX_len {l : List Module} (hl : LOk l) (x : Nm) : (nmX l x).length ≤ 512 := by
 unfold nmX
 cases h : fm l x with
 | none => simp
 | some q => exact nmOf_len hl (fm_name h).2
theorem Visible_L0 (n : Nat) (r : List TypeDecl) (k : List Nm → Option (List Nm)) : ∀ (t : List TypeDecl) (m i : Nat) (out : List Nm), r.drop i = t → t.length < m → out.length + t.length ≤ 100000000 → module_Visible_L0 n r k m out i = k (out ++ t.map (·.Name))
 | [], m + 1, i, out, h, _, _ => by rw [module_Visible_L0, if_neg (drop_nil' h)]; simp
 | x :: t, m + 1, i, out, h, hm, hb => by
  obtain ⟨h1, h2, h3⟩ := drop_cons h
  rw [List.length_cons] at hb
  rw [module_Visible_L0, if_pos h1, h2, bind_some', chk_pos (by simp; omega), Visible_L0 n r k t m (i + 1) _ h3 (by simpa using hm) (by simp; omega)]
  simp
theorem Visible_L2 (n : Nat) (r : Module × Bool) (k : List Nm → Option (List Nm)) : ∀ (t : List TypeDecl) (m i : Nat) (out : List Nm), r.1.Types.drop i = t → t.length < m → out.length + t.length ≤ 100000000 → module_Visible_L2 n r k m out i = k (out ++ t.map (·.Name))
 | [], m + 1, i, out, h, _, _ => by rw [module_Visible_L2, if_neg (drop_nil' h)]; simp
 | x :: t, m + 1, i, out, h, hm, hb => by
  obtain ⟨h1, h2, h3⟩ := drop_cons h
  rw [List.length_cons] at hb
  rw [module_Visible_L2, if_pos h1, h2, bind_some', chk_pos (by simp; omega), Visible_L2 n r k t m (i + 1) _ h3 (by simpa using hm) (by simp; omega)]
  simp
theorem Visible_L3 (n : Nat) (r : Module × Bool) (hr : ∀ x ∈ r.1.Templates, x.Name.length ≤ 60) (k : List Nm → Option (List Nm)) : ∀ (t : List Def) (m i : Nat) (out : List Nm), r.1.Templates.drop i = t → t.length < m → out.length + t.length ≤ 100000000 → module_Visible_L3 n k r m out i = k (out ++ t.map (fun t => [64] ++ t.Name))
 | [], m + 1, i, out, h, _, _ => by rw [module_Visible_L3, if_neg (drop_nil' h)]; simp
 | x :: t, m + 1, i, out, h, hm, hb => by
  obtain ⟨h1, h2, h3⟩ := drop_cons h
  have hx := hr x (List.mem_of_getElem? h2)
  rw [List.length_cons] at hb
  rw [module_Visible_L3, if_pos h1, h2, bind_some', chk_pos (by simp; omega), chk_pos (by simp; omega), Visible_L3 n r hr k t m (i + 1) _ h3 (by simpa using hm) (by simp; omega)]
  simp
theorem Visible_L1 (n : Nat) (l : List Module) (hl : LOk l) (hn : 100000 ≤ n) (o : List Nm) (k : List Nm → Option (List Nm)) : ∀ (t : List Nm) (m i : Nat) (out : List Nm), o.drop i = t → t.length < m → out.length + 512 * t.length ≤ 10000000 → module_Visible_L1 n l o k m out i = k (out ++ t.flatMap (nmX l))
 | [], m + 1, i, out, h, _, _ => by rw [module_Visible_L1, if_neg (drop_nil' h)]; simp
 | x :: t, m + 1, i, out, h, hm, hb => by
  obtain ⟨h1, h2, h3⟩ := drop_cons h
  have hlen := hl.len
  rw [List.length_cons] at hb
  have hx := nmX_len hl x
  rw [module_Visible_L1, if_pos h1, jn_def, h2, bind_some', mfind_eq n l x (by omega), bind_some', jn_def]
  have ih := Visible_L1 n l hl hn o k t m (i + 1) (out ++ nmX l x) h3 (by simpa using hm) (by simp; omega)
  cases hf : fm l x with
  | none =>
   have e : nmX l x = [] := by unfold nmX; rw [hf]
   dsimp only
   rw [Visible_L2 n (zM, false) _ [] n 0 out rfl (by simp; omega) (by simp; omega)]
   show module_Visible_L3 n _ (zM, false) n (out ++ List.map (fun (y : TypeDecl) => y.Name) []) 0 = _
   rw [Visible_L3 n (zM, false) (by simp [zM]) _ [] n 0 _ rfl (by simp; omega) (by simp; omega)]
   rw [e] at ih
   simpa [e] using ih
  | some q =>
   have e : nmX l x = nmOf q := by unfold nmX; rw [hf]
   have hq := fm_name hf
   have hql := hl.lens q hq.2
   have h2' := hql.2.1
   have h3' := hql.2.2.1
   dsimp only
   rw [Visible_L2 n (q, true) _ q.Types n 0 out rfl (by omega) (by omega)]
   show module_Visible_L3 n _ (q, true) n (out ++ q.Types.map (·.Name)) 0 = _
   rw [Visible_L3 n (q, true) (fun t ht => ((hl.md q hq.2).templates t ht).1) _ q.Templates n 0 _ rfl (by omega) (by simp; omega)]
   rw [e] at ih
   unfold nmOf at ih
   simpa [e, nmOf] using ih
structure VisOk (l : List Module) (a : Nm) (o : List Nm) : Prop where
  asc : o.Pairwise (· < ·)
  mem : ∀ x, x ∈ o ↔ VisSet l a x
  len : o.length ≤ 1000000
theorem flat_lenX {l : List Module} (hl : LOk l) : ∀ (t : List Nm), (t.flatMap (nmX l)).length ≤ 512 * t.length
 | [] => by simp
 | x :: t => by
  have h1 := flat_lenX hl t
  have h2 := nmX_len hl x
  rw [List.flatMap_cons, List.length_append, List.length_cons]
  omega
theorem sc_ok (L : List Nm) (hL : L.length ≤ 1000000) (n : Nat) : ∃ o, ((slices_Sort_string n L).bind fun r => (slices_Compact_string n r).bind fun r119 => some r119) = some o ∧ o.Pairwise (· < ·) ∧ (∀ x, x ∈ o ↔ x ∈ L) ∧ o.length ≤ L.length := by
 have hs := sortS_len L
 refine ⟨Lib.compact (sortS L), ?_, ?_⟩
 ·unfold slices_Sort_string slices_Compact_string
  rw [chk_pos (by omega), bind_some', chk_pos (by omega)]
  rfl
 ·have := compact_asc (sortS L) (sortS_sorted L) (sortS L).length (Nat.le_refl _)
  have e : Lib.compact (sortS L) = Lib.compactUpTo (sortS L).toArray (sortS L).length := by
   unfold Lib.compact
   simp
  rw [e]
  refine ⟨this.1, fun x => by rw [this.2 x, List.take_length]; exact (sortS_perm L).mem_iff, ?_⟩
  rw [← e]
  have := (compact_sub (sortS L)).1
  omega
theorem nmX_none {l : List Module} {x : Nm} (h : ¬ Fnd (imps l) x) : nmX l x = [] := by
 unfold nmX
 cases hf : fm l x with
 | none => rfl
 | some q => exact absurd (fnd_iff.1 (by rw [hf]; rfl)) h
theorem Visible_eq (n : Nat) (l : List Module) (hl : LOk l) (hn : 100000 ≤ n) (a : Nm) : ∃ o, module_Visible n l a = some o ∧ VisOk l a o := by
 obtain ⟨o, e, on, ol, om⟩ := needs_eq n l hl hn a
 have hp := PRE_len
 have hfl := flat_lenX hl o
 unfold module_Visible
 rw [hpre, bind_some', jn_def, Visible_L0 n PRE _ PRE n 0 [] rfl (by omega) (by simp; omega), e, bind_some', jn_def, Visible_L1 n l hl hn o _ o n 0 _ rfl (by omega) (by simp; omega)]
 obtain ⟨r, er, r1, r2, r3⟩ := sc_ok (([] ++ PRE.map (·.Name)) ++ o.flatMap (nmX l)) (by rw [List.length_append, List.length_append, List.length_map, List.length_nil]; omega) n
 rw [List.length_append, List.length_append, List.length_map, List.length_nil] at r3
 refine ⟨r, er, r1, fun x => ?_, by omega⟩
 rw [r2 x, List.nil_append, List.mem_append, List.mem_flatMap]
 unfold VisSet
 constructor
 ·rintro (h | ⟨b, hb, hx⟩)
  ·exact .inl h
  ·exact .inr ⟨b, ((om b).1 hb).2.1, hx⟩
 ·rintro (h | ⟨b, hb, hx⟩)
  ·exact .inl h
  ·refine .inr ⟨b, (om b).2 ⟨?_, hb, ?_⟩, hx⟩
   ·rcases hb.cases_first with rfl | ⟨c, L, h1, _⟩
    ·exact Classical.byContradiction fun hn => by rw [nmX_none hn] at hx; cases hx
    ·exact ⟨L, h1⟩
   ·exact Classical.byContradiction fun hn => by rw [nmX_none hn] at hx; cases hx
theorem wS_len (s : Nm) (t : List Nm) (h : t.Pairwise (· < ·)) : (wS s false t).length ≤ t.length + 1 := by
 obtain ⟨h1, h2⟩ := wS_spec s t h
 have := nodup_sub (wS s false t) (s :: t) (h1.imp fun h e => by subst e; exact List.lt_irrefl _ h) (fun x hx => by rw [List.mem_cons]; exact (h2 x).1 hx)
 simpa using this
theorem wSL_len : ∀ (l out : List Nm), out.Pairwise (· < ·) → (wSL l out).length ≤ out.length + l.length
 | [], out, _ => by simp [wSL]
 | s :: l, out, h => by
  have h1 := wS_len s out h
  have h2 := wSL_len l (wS s false out) (wS_spec s out h).1
  show (wSL l (wS s false out)).length ≤ _
  rw [List.length_cons]
  omega
theorem rVisible_L0 (n : Nat) (hn : 20000000 ≤ n) (r : List TypeDecl) (k : List Nm → Option (List Nm)) : ∀ (t : List TypeDecl) (m i : Nat) (out : List Nm), r.drop i = t → t.length < m → out.length + t.length ≤ 5000000 → out.Pairwise (· < ·) → r22_Visible_L0 n r k m out i = k (wSL (t.map (·.Name)) out)
 | [], m + 1, i, out, h, _, _, _ => by rw [r22_Visible_L0, if_neg (drop_nil' h)]; rfl
 | x :: t, m + 1, i, out, h, hm, hb, ha => by
  obtain ⟨h1, h2, h3⟩ := drop_cons h
  rw [List.length_cons] at hb
  have hl := wS_len x.Name out ha
  rw [r22_Visible_L0, if_pos h1, h2, bind_some', With_eq n out x.Name (by omega) (by omega), bind_some', rVisible_L0 n hn r k t m (i + 1) _ h3 (by simpa using hm) (by omega) (wS_spec _ _ ha).1]
  rfl
theorem rVisible_L2 (n : Nat) (hn : 20000000 ≤ n) (l : List Module) (j : Nat) (q : Module) (hj : l[j]? = some q) (k : List Nm → Option (List Nm)) : ∀ (t : List TypeDecl) (m i : Nat) (out : List Nm), q.Types.drop i = t → t.length < m → out.length + t.length ≤ 5000000 → out.Pairwise (· < ·) → r22_Visible_L2 n l (j : Int) k m out i = k (wSL (t.map (·.Name)) out)
 | [], m + 1, i, out, h, _, _, _ => by rw [r22_Visible_L2, ix_nat, hj, bind_some', if_neg (drop_nil' h)]; rfl
 | x :: t, m + 1, i, out, h, hm, hb, ha => by
  obtain ⟨h1, h2, h3⟩ := drop_cons h
  rw [List.length_cons] at hb
  have hl := wS_len x.Name out ha
  rw [r22_Visible_L2, ix_nat, hj, bind_some', if_pos h1, h2, bind_some', With_eq n out x.Name (by omega) (by omega), bind_some', rVisible_L2 n hn l j q hj k t m (i + 1) _ h3 (by simpa using hm) (by omega) (wS_spec _ _ ha).1]
  rfl
theorem rVisible_L3 (n : Nat) (hn : 20000000 ≤ n) (l : List Module) (j : Nat) (q : Module) (hj : l[j]? = some q) (hq : ∀ x ∈ q.Templates, x.Name.length ≤ 60) (k : List Nm → Option (List Nm)) : ∀ (t : List Def) (m i : Nat) (out : List Nm), q.Templates.drop i = t → t.length < m → out.length + t.length ≤ 5000000 → out.Pairwise (· < ·) → r22_Visible_L3 n l k (j : Int) m out i = k (wSL (t.map (fun t => [64] ++ t.Name)) out)
 | [], m + 1, i, out, h, _, _, _ => by rw [r22_Visible_L3, ix_nat, hj, bind_some', if_neg (drop_nil' h)]; rfl
 | x :: t, m + 1, i, out, h, hm, hb, ha => by
  obtain ⟨h1, h2, h3⟩ := drop_cons h
  rw [List.length_cons] at hb
  have hx := hq x (List.mem_of_getElem? h2)
  have hl := wS_len ([64] ++ x.Name) out ha
  rw [r22_Visible_L3, ix_nat, hj, bind_some', if_pos h1, h2, bind_some', chk_pos (by simp; omega), With_eq n out ([64] ++ x.Name) (by omega) (by omega), bind_some', rVisible_L3 n hn l j q hj hq k t m (i + 1) _ h3 (by simpa using hm) (by omega) (wS_spec _ _ ha).1]
  rfl
theorem wSL_append (a b out : List Nm) : wSL (a ++ b) out = wSL b (wSL a out) := by unfold wSL; rw [List.foldl_append]
theorem rVisible_L1 (n : Nat) (hn : 20000000 ≤ n) (l : List Module) (hl : LOk l) (o : List Nm) : ∀ (t : List Nm) (m i : Nat) (out : List Nm), o.drop i = t → t.length < m → out.length + 512 * t.length ≤ 1000000 → out.Pairwise (· < ·) → r22_Visible_L1 n l o m out i = some (wSL (t.flatMap (nmX l)) out)
 | [], m + 1, i, out, h, _, _, _ => by rw [r22_Visible_L1, if_neg (drop_nil' h)]; rfl
 | x :: t, m + 1, i, out, h, hm, hb, ha => by
  obtain ⟨h1, h2, h3⟩ := drop_cons h
  have hlen := hl.len
  rw [List.length_cons] at hb
  have hx := nmX_len hl x
  obtain ⟨j, e, hj⟩ := find_eq n l x (by omega)
  have hw := wSL_spec (nmX l x) out ha
  have hwl := wSL_len (nmX l x) out ha
  have ih := rVisible_L1 n hn l hl o t m (i + 1) (wSL (nmX l x) out) h3 (by simpa using hm) (by omega) hw.1
  rw [r22_Visible_L1, if_pos h1, jn_def, h2, bind_some', e, bind_some', List.flatMap_cons, wSL_append, jn_def]
  rcases hj with ⟨h0, hf⟩ | ⟨k', q, rfl, a2, a3, _⟩
  ·have e : nmX l x = [] := by unfold nmX; rw [hf]
   rw [if_pos h0, e]
   rw [e] at ih
   exact ih
  ·have e : nmX l x = nmOf q := by unfold nmX; rw [a3]
   have hq := fm_name a3
   have hql := hl.lens q hq.2
   have h2' := hql.2.1
   have h3' := hql.2.2.1
   have w1 := wSL_spec (q.Types.map (·.Name)) out ha
   have w1l := wSL_len (q.Types.map (·.Name)) out ha
   rw [List.length_map] at w1l
   rw [if_neg (by omega), rVisible_L2 n hn l k' q a2 _ q.Types n 0 out rfl (by omega) (by omega) ha, rVisible_L3 n hn l k' q a2 (fun t ht => ((hl.md q hq.2).templates t ht).1) _ q.Templates n 0 _ rfl (by omega) (by omega) w1.1]
   rw [e] at ih ⊢
   unfold nmOf at ih ⊢
   rw [wSL_append] at ih ⊢
   exact ih
theorem rVisible_eq (n : Nat) (l : List Module) (hl : LOk l) (hn : 20000000 ≤ n) (a : Nm) : ∃ o, r22_Visible n l a = some o ∧ VisOk l a o := by
 obtain ⟨o, e, on, ol, om⟩ := Needs_eq n l hl (by omega) a
 have hp := PRE_len
 have hfl := flat_lenX hl o
 have w0 := wSL_spec (PRE.map (·.Name)) [] .nil
 have w0l := wSL_len (PRE.map (·.Name)) [] .nil
 rw [List.length_map, List.length_nil] at w0l
 unfold r22_Visible
 rw [rpre n (by omega), bind_some', jn_def, rVisible_L0 n hn PRE _ PRE n 0 [] rfl (by omega) (by simp; omega) .nil, e, bind_some', rVisible_L1 n hn l hl o o n 0 _ rfl (by omega) (by omega) w0.1]
 have w1 := wSL_spec (o.flatMap (nmX l)) _ w0.1
 have w1l := wSL_len (o.flatMap (nmX l)) _ w0.1
 refine ⟨_, rfl, w1.1, fun x => ?_, by omega⟩
 rw [w1.2 x, w0.2 x, List.mem_flatMap]
 unfold VisSet
 constructor
 ·rintro (⟨b, hb, hx⟩ | h | h)
  ·exact .inr ⟨b, (om b).1 hb, hx⟩
  ·exact .inl h
  ·cases h
 ·rintro (h | ⟨b, hb, hx⟩)
  ·exact .inr (.inl h)
  ·exact .inl ⟨b, (om b).2 hb, hx⟩
end Go.Proofs.YtbhjplflnkidgaaGreat
end
section
namespace Go.Proofs.YtbhjplflnkidgaaGreat
open Go.Gl Go.Sort
set_option linter.unusedVariables false
set_option linter.unusedSimpArgs false
def nmD (op : Int) : Nat → Desc → List Nm
  | 0, _ => []
  | k + 1, d => (if d.Op = op then [d.Name] else []) ++ d.Kids.flatMap (nmD op k)
theorem nmD_len (op : Int) : ∀ (k : Nat) (d : Desc), (nmD op k d).length ≤ szD k d
 | 0, _ => by simp [nmD]
 | k + 1, d => by
  have key : ∀ t : List Desc, (t.flatMap (nmD op k)).length ≤ (t.map (szD k)).sum := by
   intro t
   induction t with
   | nil => simp
   | cons x t ih =>
    have := nmD_len op k x
    rw [List.flatMap_cons, List.length_append, List.map_cons, List.sum_cons]; omega
  have := key d.Kids
  show ((if d.Op = op then [d.Name] else []) ++ d.Kids.flatMap (nmD op k)).length ≤ 1 + (d.Kids.map (szD k)).sum
  rw [List.length_append]
  have h1 : (if d.Op = op then [d.Name] else []).length ≤ 1 := by split <;> simp
  omega
theorem Names_1_L0 (n : Nat) (d : Desc) (k : Nat) (self : Desc → List Nm → List Nm → Option (List Nm × List Nm)) (hs : ∀ x ∈ d.Kids, ∀ c0 c1, c0.length + szD k x ≤ 100000 → c1.length + szD k x ≤ 100000 → self x c0 c1 = some (c0 ++ nmD 1 k x, c1 ++ nmD 2 k x)) : ∀ (t : List Desc) (m i : Nat) (c0 c1 : List Nm), d.Kids.drop i = t → t.length < m → c0.length + (t.map (szD k)).sum ≤ 100000 → c1.length + (t.map (szD k)).sum ≤ 100000 → desc_Names_1_L0 n d self m i c0 c1 = some (c0 ++ t.flatMap (nmD 1 k), c1 ++ t.flatMap (nmD 2 k))
 | [], m + 1, i, c0, c1, h, _, _, _ => by rw [desc_Names_1_L0, if_neg (drop_nil' h)]; simp
 | x :: t, m + 1, i, c0, c1, h, hm, h0, h1 => by
  obtain ⟨a1, a2, a3⟩ := drop_cons h
  rw [List.map_cons, List.sum_cons] at h0 h1
  have b1 := nmD_len 1 k x
  have b2 := nmD_len 2 k x
  rw [desc_Names_1_L0, if_pos a1, a2, bind_some', hs x (List.mem_of_getElem? a2) c0 c1 (by omega) (by omega), bind_some']
  dsimp only
  rw [Names_1_L0 n d k self hs t m (i + 1) _ _ a3 (by simpa using hm) (by simp; omega) (by simp; omega)]
  simp
theorem Names_1_eq : ∀ (k n : Nat) (d : Desc) (c0 c1 : List Nm), DOk k d → k + 100 ≤ n → c0.length + szD k d ≤ 100000 → c1.length + szD k d ≤ 100000 → desc_Names_1 n d c0 c1 = some (c0 ++ nmD 1 k d, c1 ++ nmD 2 k d)
 | 0, n, d, c0, c1, h, _, _, _ => h.elim
 | k + 1, 0, d, c0, c1, h, hn, _, _ => by omega
 | k + 1, n + 1, d, c0, c1, h, hn, h0, h1 => by
  obtain ⟨_, _, _, hk, hd⟩ := h
  replace h0 : c0.length + (1 + (d.Kids.map (szD k)).sum) ≤ 100000 := h0
  replace h1 : c1.length + (1 + (d.Kids.map (szD k)).sum) ≤ 100000 := h1
  rw [desc_Names_1, jn_def]
  have L := fun c0' c1' g0 g1 => Names_1_L0 n d k (desc_Names_1 n) (fun x hx e0 e1 f0 f1 => Names_1_eq k n x e0 e1 (hd x hx) (by omega) f0 f1) d.Kids n 0 c0' c1' rfl (by omega) g0 g1
  by_cases o1 : d.Op = 1
  ·have o2 : ¬ d.Op = 2 := by omega
   rw [if_pos o1, chk_pos (by simp; omega)]
   exact (L (c0 ++ [d.Name]) c1 (by simp; omega) (by omega)).trans (by simp [nmD, o1])
  ·rw [if_neg o1]
   by_cases o2 : d.Op = 2
   ·rw [if_pos o2, chk_pos (by simp; omega)]
    exact (L c0 (c1 ++ [d.Name]) (by omega) (by simp; omega)).trans (by simp [nmD, o2])
   ·rw [if_neg o2]
    exact (L c0 c1 (by omega) (by omega)).trans (by simp [nmD, o1, o2])
theorem srt (n : Nat) (L : List Nm) (h : L.length ≤ 1000000000000) : slices_Sort_string n L = some (sortS L) := by
 unfold slices_Sort_string
 rw [chk_pos (by omega)]
theorem cmp_ok (n : Nat) (L : List Nm) (h : L.length ≤ 1000000000000) : ∃ o, slices_Compact_string n (sortS L) = some o ∧ o.Pairwise (· < ·) ∧ (∀ x, x ∈ o ↔ x ∈ L) ∧ o.length ≤ L.length := by
 have hs := sortS_len L
 refine ⟨Lib.compact (sortS L), ?_, ?_⟩
 ·unfold slices_Compact_string
  rw [chk_pos (by omega)]
 ·have := compact_asc (sortS L) (sortS_sorted L) (sortS L).length (Nat.le_refl _)
  have e : Lib.compact (sortS L) = Lib.compactUpTo (sortS L).toArray (sortS L).length := by
   unfold Lib.compact
   simp
  rw [e]
  refine ⟨this.1, fun x => by rw [this.2 x, List.take_length]; exact (sortS_perm L).mem_iff, ?_⟩
  rw [← e]
  have := (compact_sub (sortS L)).1
  omega
theorem desc_Names_eq (n : Nat) (hn : 1000 ≤ n) (d : Desc) (hd : GD d) : ∃ a b, desc_Names n d = some (a, b) ∧ (∀ y, y ∈ a ↔ y ∈ nmD 1 80 d) ∧ (∀ y, y ∈ b ↔ y ∈ nmD 2 80 d) ∧ a.length ≤ 40 ∧ b.length ≤ 40 := by
 have b1 := nmD_len 1 80 d
 have b2 := nmD_len 2 80 d
 have h40 := hd.2
 obtain ⟨a, ea, _, am, al⟩ := cmp_ok n (nmD 1 80 d) (by omega)
 obtain ⟨b, eb, _, bm, bl⟩ := cmp_ok n (nmD 2 80 d) (by omega)
 refine ⟨a, b, ?_, am, bm, by omega, by omega⟩
 unfold desc_Names
 rw [Names_1_eq 80 n d [] [] hd.1 (by omega) (by simp; omega) (by simp; omega), bind_some', jn_def]
 dsimp only [List.nil_append]
 rw [srt n _ (by omega), bind_some', ea, bind_some', chk_pos (by omega), srt n _ (by omega), bind_some', eb, bind_some', chk_pos (by omega)]
def DUse (d : Desc) (y : Nm) : Prop := y ∈ nmD 1 80 d ∨ ∃ z ∈ nmD 2 80 d, y = [64] ++ z
def FUse (x : Def) (y : Nm) : Prop := ∃ d ∈ x.Strict :: x.Defaults, DUse d y
def TUse (t : TypeDecl) (y : Nm) : Prop := y ∈ t.Supers ∨ ∃ f ∈ t.Feats, y = f.Value
def defsM (q : Module) : List Def := q.Templates ++ q.Rules ++ q.Roots ++ q.Entries.map (·.Def) ++ q.LexRules.map (·.Def)
def Uses (q : Module) (y : Nm) : Prop := (∃ t ∈ q.Types, TUse t y) ∨ ∃ x ∈ defsM q, FUse x y
structure QOk (B : Nat) (q : Module) : Prop where
  lens : LenOk B q
  types : ∀ x ∈ q.Types, TyOk x
  templates : ∀ x ∈ q.Templates, DfOk x
  rules : ∀ x ∈ q.Rules, DfOk x
  roots : ∀ x ∈ q.Roots, DfOk x
  entries : ∀ x ∈ q.Entries, EnOk x
  lex : ∀ x ∈ q.LexRules, LxOk x
  checks : ∀ x ∈ q.Checks, NmsOk 80 x
theorem QOk.defs {B : Nat} {q : Module} (h : QOk B q) : ∀ x ∈ defsM q, DfOk x := by
 intro x hx
 unfold defsM at hx
 simp only [List.mem_append, List.mem_map] at hx
 rcases hx with (((hx | hx) | hx) | ⟨e, he, rfl⟩) | ⟨e, he, rfl⟩
 ·exact h.templates x hx
 ·exact h.rules x hx
 ·exact h.roots x hx
 ·exact (h.entries e he).2
 ·exact (h.lex e he).2.1
theorem QOk.defs_len {B : Nat} {q : Module} (h : QOk B q) : (defsM q).length ≤ 5 * B := by
 obtain ⟨⟨h1, h2, h3, h4, h5, h6, h7, h8, h9⟩, _⟩ := h
 unfold defsM
 simp only [List.length_append, List.length_map]
 omega
theorem ConcatD_L0 (n : Nat) (sl : List (List Def)) (k : Nat → Option (List Def)) : ∀ (t : List (List Def)) (m s i : Nat), sl.drop i = t → t.length < m → s + (t.map List.length).sum ≤ 1000000000 → slices_Concat_Def_L0 n sl k m s i = k (s + (t.map List.length).sum)
 | [], m + 1, s, i, h, _, _ => by rw [slices_Concat_Def_L0, if_neg (drop_nil' h)]; simp
 | x :: t, m + 1, s, i, h, hm, hb => by
  obtain ⟨h1, h2, h3⟩ := drop_cons h
  rw [List.map_cons, List.sum_cons] at hb ⊢
  rw [slices_Concat_Def_L0, if_pos h1, h2, bind_some', chk_pos (by omega), if_neg (by omega), ConcatD_L0 n sl k t m _ (i + 1) h3 (by simpa using hm) (by omega), Nat.add_assoc]
theorem ConcatD_L1 (n : Nat) (sl : List (List Def)) : ∀ (t : List (List Def)) (m : Nat) (out : List Def) (i : Nat), sl.drop i = t → t.length < m → out.length + (t.map List.length).sum ≤ 1000000000 → slices_Concat_Def_L1 n sl m out i = some (out ++ t.flatten)
 | [], m + 1, out, i, h, _, _ => by rw [slices_Concat_Def_L1, if_neg (drop_nil' h)]; simp
 | x :: t, m + 1, out, i, h, hm, hb => by
  obtain ⟨h1, h2, h3⟩ := drop_cons h
  rw [List.map_cons, List.sum_cons] at hb
  rw [slices_Concat_Def_L1, if_pos h1, h2, bind_some', chk_pos (by omega), ConcatD_L1 n sl t m _ (i + 1) h3 (by simpa using hm) (by simp; omega)]
  simp
theorem ConcatD_eq (n : Nat) (sl : List (List Def)) (hn : sl.length < n) (hb : (sl.map List.length).sum ≤ 1000000000) : slices_Concat_Def n sl = some sl.flatten := by
 unfold slices_Concat_Def
 rw [jn_def, ConcatD_L0 n sl _ sl n 0 0 rfl hn (by omega)]
 unfold slices_Grow_Def
 rw [chk_pos (by omega), bind_some', ConcatD_L1 n sl sl n [] 0 rfl hn (by simpa using hb)]
 simp
theorem ConcatT_L0 (n : Nat) (sl : List (List TypeDecl)) (k : Nat → Option (List TypeDecl)) : ∀ (t : List (List TypeDecl)) (m s i : Nat), sl.drop i = t → t.length < m → s + (t.map List.length).sum ≤ 1000000000 → slices_Concat_TypeDecl_L0 n sl k m s i = k (s + (t.map List.length).sum)
 | [], m + 1, s, i, h, _, _ => by rw [slices_Concat_TypeDecl_L0, if_neg (drop_nil' h)]; simp
 | x :: t, m + 1, s, i, h, hm, hb => by
  obtain ⟨h1, h2, h3⟩ := drop_cons h
  rw [List.map_cons, List.sum_cons] at hb ⊢
  rw [slices_Concat_TypeDecl_L0, if_pos h1, h2, bind_some', chk_pos (by omega), if_neg (by omega), ConcatT_L0 n sl k t m _ (i + 1) h3 (by simpa using hm) (by omega), Nat.add_assoc]
theorem ConcatT_L1 (n : Nat) (sl : List (List TypeDecl)) : ∀ (t : List (List TypeDecl)) (m : Nat) (out : List TypeDecl) (i : Nat), sl.drop i = t → t.length < m → out.length + (t.map List.length).sum ≤ 1000000000 → slices_Concat_TypeDecl_L1 n sl m out i = some (out ++ t.flatten)
 | [], m + 1, out, i, h, _, _ => by rw [slices_Concat_TypeDecl_L1, if_neg (drop_nil' h)]; simp
 | x :: t, m + 1, out, i, h, hm, hb => by
  obtain ⟨h1, h2, h3⟩ := drop_cons h
  rw [List.map_cons, List.sum_cons] at hb
  rw [slices_Concat_TypeDecl_L1, if_pos h1, h2, bind_some', chk_pos (by omega), ConcatT_L1 n sl t m _ (i + 1) h3 (by simpa using hm) (by simp; omega)]
  simp
theorem ConcatT_eq (n : Nat) (sl : List (List TypeDecl)) (hn : sl.length < n) (hb : (sl.map List.length).sum ≤ 1000000000) : slices_Concat_TypeDecl n sl = some sl.flatten := by
 unfold slices_Concat_TypeDecl
 rw [jn_def, ConcatT_L0 n sl _ sl n 0 0 rfl hn (by omega)]
 unfold slices_Grow_TypeDecl
 rw [chk_pos (by omega), bind_some', ConcatT_L1 n sl sl n [] 0 rfl hn (by simpa using hb)]
 simp
theorem mdefs_L0 (n : Nat) (q : Module) (k : List Def → Option (List Def)) : ∀ (t : List EntryDecl) (m : Nat) (out : List Def) (i : Nat), q.Entries.drop i = t → t.length < m → out.length + t.length ≤ 10000000000 → module_definitions_L0 n q k m out i = k (out ++ t.map (·.Def))
 | [], m + 1, out, i, h, _, _ => by rw [module_definitions_L0, if_neg (drop_nil' h)]; simp
 | x :: t, m + 1, out, i, h, hm, hb => by
  obtain ⟨h1, h2, h3⟩ := drop_cons h
  rw [List.length_cons] at hb
  rw [module_definitions_L0, if_pos h1, h2, bind_some', chk_pos (by simp; omega), mdefs_L0 n q k t m _ (i + 1) h3 (by simpa using hm) (by simp; omega)]
  simp
theorem mdefs_L1 (n : Nat) (q : Module) : ∀ (t : List LexDecl) (m : Nat) (out : List Def) (i : Nat), q.LexRules.drop i = t → t.length < m → out.length + t.length ≤ 10000000000 → module_definitions_L1 n q m out i = some (out ++ t.map (·.Def))
 | [], m + 1, out, i, h, _, _ => by rw [module_definitions_L1, if_neg (drop_nil' h)]; simp
 | x :: t, m + 1, out, i, h, hm, hb => by
  obtain ⟨h1, h2, h3⟩ := drop_cons h
  rw [List.length_cons] at hb
  rw [module_definitions_L1, if_pos h1, h2, bind_some', chk_pos (by simp; omega), mdefs_L1 n q t m _ (i + 1) h3 (by simpa using hm) (by simp; omega)]
  simp
theorem mdefs_eq (n : Nat) (hn : 1000000 ≤ n) (q : Module) (hq : QOk 400000 q) : module_definitions n q = some (defsM q) := by
 obtain ⟨h1, h2, h3, h4, h5, h6, h7, h8, h9⟩ := hq.lens
 unfold module_definitions
 rw [ConcatD_eq n _ (by simp; omega) (by simp; omega), bind_some', jn_def, mdefs_L0 n q _ q.Entries n _ 0 rfl (by omega) (by simp; omega), mdefs_L1 n q q.LexRules n _ 0 rfl (by omega) (by simp; omega)]
 simp [defsM]
theorem uses_L1 (n : Nat) (k : List Nm → Option (List Nm)) (x : TypeDecl) : ∀ (t : List FeatDecl) (m : Nat) (out : List Nm) (i : Nat), x.Feats.drop i = t → t.length < m → out.length + t.length ≤ 100000000000 → module_uses_L1 n k x m out i = k (out ++ t.map (·.Value))
 | [], m + 1, out, i, h, _, _ => by rw [module_uses_L1, if_neg (drop_nil' h)]; simp
 | f :: t, m + 1, out, i, h, hm, hb => by
  obtain ⟨h1, h2, h3⟩ := drop_cons h
  rw [List.length_cons] at hb
  rw [module_uses_L1, if_pos h1, h2, bind_some', chk_pos (by simp; omega), uses_L1 n k x t m _ (i + 1) h3 (by simpa using hm) (by simp; omega)]
  simp
def uT (t : TypeDecl) : List Nm := t.Supers ++ t.Feats.map (·.Value)
theorem uT_len {t : TypeDecl} (h : TyOk t) : (uT t).length ≤ 520 := by
 have := h.2.1.1
 have := h.2.2.1
 unfold uT
 simp
 omega
theorem uT_mem {t : TypeDecl} {y : Nm} : y ∈ uT t ↔ TUse t y := by
 unfold uT TUse
 rw [List.mem_append, List.mem_map]
 constructor
 ·rintro (h | ⟨f, hf, rfl⟩)
  ·exact .inl h
  ·exact .inr ⟨f, hf, rfl⟩
 ·rintro (h | ⟨f, hf, rfl⟩)
  ·exact .inl h
  ·exact .inr ⟨f, hf, rfl⟩
theorem uT_flat : ∀ (t : List TypeDecl), (∀ x ∈ t, TyOk x) → (t.flatMap uT).length ≤ 520 * t.length
 | [], _ => by simp
 | x :: t, h => by
  have h1 := uT_len (h x (by simp))
  have h2 := uT_flat t (fun y hy => h y (by simp [hy]))
  rw [List.flatMap_cons, List.length_append, List.length_cons]
  omega
theorem uses_L0 (n : Nat) (hn : 1000 ≤ n) (q : Module) (hq : ∀ x ∈ q.Types, TyOk x) (k : List Nm → Option (List Nm)) : ∀ (t : List TypeDecl) (m : Nat) (out : List Nm) (i : Nat), q.Types.drop i = t → t.length < m → out.length + 520 * t.length ≤ 100000000000 → module_uses_L0 n q k m out i = k (out ++ t.flatMap uT)
 | [], m + 1, out, i, h, _, _ => by rw [module_uses_L0, if_neg (drop_nil' h)]; simp
 | x :: t, m + 1, out, i, h, hm, hb => by
  obtain ⟨h1, h2, h3⟩ := drop_cons h
  rw [List.length_cons] at hb
  have hx := hq x (List.mem_of_getElem? h2)
  have a1 := hx.2.1.1
  have a2 := hx.2.2.1
  rw [module_uses_L0, if_pos h1, jn_def, h2, bind_some', chk_pos (by omega), uses_L1 n _ x x.Feats n _ 0 rfl (by omega) (by simp; omega), uses_L0 n hn q hq k t m _ (i + 1) h3 (by simpa using hm) (by simp; omega)]
  simp [uT]
theorem uses_L4 (n : Nat) (k : List Nm → Option (List Nm)) (r : List Nm × List Nm) (hr : ∀ x ∈ r.2, x.length ≤ 60) : ∀ (t : List Nm) (m : Nat) (out : List Nm) (i : Nat), r.2.drop i = t → t.length < m → out.length + t.length ≤ 100000000000 → module_uses_L4 n k r m out i = k (out ++ t.map (fun z => [64] ++ z))
 | [], m + 1, out, i, h, _, _ => by rw [module_uses_L4, if_neg (drop_nil' h)]; simp
 | x :: t, m + 1, out, i, h, hm, hb => by
  obtain ⟨h1, h2, h3⟩ := drop_cons h
  rw [List.length_cons] at hb
  have hx := hr x (List.mem_of_getElem? h2)
  rw [module_uses_L4, if_pos h1, h2, bind_some', chk_pos (by simp; omega), chk_pos (by simp; omega), uses_L4 n k r hr t m _ (i + 1) h3 (by simpa using hm) (by simp; omega)]
  simp
theorem nmD_short (op : Int) : ∀ (k : Nat) (d : Desc), DOk k d → ∀ x ∈ nmD op k d, x.length ≤ 60
 | 0, d, h => h.elim
 | k + 1, d, h => fun x hx => by
  unfold nmD at hx
  rcases List.mem_append.1 hx with hx | hx
  ·split at hx
   ·simp at hx; subst hx; exact h.1
   ·cases hx
  ·obtain ⟨y, hy, hx⟩ := List.mem_flatMap.1 hx
   exact nmD_short op k y (h.2.2.2.2 y hy) x hx
theorem uses_L3 (n : Nat) (hn : 1000 ≤ n) (k : List Nm → Option (List Nm)) (x : Def) (hx : ∀ d ∈ [x.Strict] ++ x.Defaults, GD d) : ∀ (t : List Desc) (m : Nat) (out : List Nm) (i : Nat), ([x.Strict] ++ x.Defaults).drop i = t → t.length < m → out.length + 80 * t.length ≤ 100000000000 → ∃ e, module_uses_L3 n k x m out i = k (out ++ e) ∧ (∀ y, y ∈ e ↔ ∃ d ∈ t, DUse d y) ∧ e.length ≤ 80 * t.length
 | [], m + 1, out, i, h, _, _ => ⟨[], by rw [module_uses_L3, if_neg (drop_nil' h)]; simp, by simp, by simp⟩
 | d :: t, m + 1, out, i, h, hm, hb => by
  obtain ⟨h1, h2, h3⟩ := drop_cons h
  rw [List.length_cons] at hb
  have hd := hx d (List.mem_of_getElem? h2)
  obtain ⟨a, b, e1, am, bm, al, bl⟩ := desc_Names_eq n hn d hd
  obtain ⟨e, e2, em, el⟩ := uses_L3 n hn k x hx t m (out ++ a ++ b.map (fun z => [64] ++ z)) (i + 1) h3 (by simpa using hm) (by simp; omega)
  refine ⟨a ++ b.map (fun z => [64] ++ z) ++ e, ?_, fun y => ?_, ?_⟩
  ·rw [module_uses_L3, if_pos h1, jn_def, h2, bind_some', e1, bind_some', chk_pos (by dsimp only; omega)]
   show module_uses_L4 n _ (a, b) n (out ++ a) 0 = _
   rw [uses_L4 n _ (a, b) (fun z hz => nmD_short 2 80 d hd.1 z ((bm z).1 hz)) b n _ 0 rfl (by omega) (by simp; omega), e2]
   simp
  ·rw [List.mem_append, List.mem_append, em y, am y, List.mem_map]
   simp only [List.mem_cons, exists_eq_or_imp]
   unfold DUse
   constructor
   ·rintro ((h | ⟨z, hz, rfl⟩) | h)
    ·exact .inl (.inl h)
    ·exact .inl (.inr ⟨z, (bm z).1 hz, rfl⟩)
    ·exact .inr h
   ·rintro ((h | ⟨z, hz, rfl⟩) | h)
    ·exact .inl (.inl h)
    ·exact .inl (.inr ⟨z, (bm z).2 hz, rfl⟩)
    ·exact .inr h
  ·simp; omega
theorem DfOk.gd {x : Def} (h : DfOk x) : ∀ d ∈ [x.Strict] ++ x.Defaults, GD d := by
 intro d hd
 simp only [List.cons_append, List.nil_append, List.mem_cons] at hd
 rcases hd with rfl | hd
 ·exact h.2.2.1
 ·exact h.2.2.2 d hd
theorem uses_L2 (n : Nat) (hn : 1000 ≤ n) (r : List Def) (hr : ∀ x ∈ r, DfOk x) : ∀ (t : List Def) (m : Nat) (out : List Nm) (i : Nat), r.drop i = t → t.length < m → out.length + 720 * t.length ≤ 100000000000 → ∃ e, module_uses_L2 n r m out i = some (out ++ e) ∧ (∀ y, y ∈ e ↔ ∃ x ∈ t, FUse x y) ∧ e.length ≤ 720 * t.length
 | [], m + 1, out, i, h, _, _ => ⟨[], by rw [module_uses_L2, if_neg (drop_nil' h)]; simp, by simp, by simp⟩
 | x :: t, m + 1, out, i, h, hm, hb => by
  obtain ⟨h1, h2, h3⟩ := drop_cons h
  rw [List.length_cons] at hb
  have hx := hr x (List.mem_of_getElem? h2)
  have h8 := hx.2.1
  have hl : ([x.Strict] ++ x.Defaults).length ≤ 9 := by simp; omega
  obtain ⟨e, e2, em, el⟩ := uses_L3 n hn (fun t_66 => module_uses_L2 n r m t_66 (i + 1)) x hx.gd ([x.Strict] ++ x.Defaults) n out 0 rfl (by omega) (by omega)
  obtain ⟨e', e2', em', el'⟩ := uses_L2 n hn r hr t m (out ++ e) (i + 1) h3 (by simpa using hm) (by rw [List.length_append]; omega)
  refine ⟨e ++ e', ?_, fun y => ?_, by rw [List.length_append, List.length_cons]; omega⟩
  ·rw [module_uses_L2, if_pos h1, jn_def, h2, bind_some', chk_pos (by simp; omega), e2, e2']
   simp
  ·rw [List.mem_append, em y, em' y]
   simp only [List.mem_cons, exists_eq_or_imp, FUse, List.cons_append, List.nil_append]
theorem uses_eq (n : Nat) (hn : 10000000 ≤ n) (q : Module) (hq : QOk 400000 q) : ∃ u, module_uses n q = some u ∧ u.length ≤ 10000000000 ∧ ∀ y, y ∈ u ↔ Uses q y := by
 obtain ⟨h1, h2, h3, h4, h5, h6, h7, h8, h9⟩ := hq.lens
 have hdl := hq.defs_len
 have hu := uT_flat q.Types hq.types
 obtain ⟨e, e2, em, el⟩ := uses_L2 n (by omega) (defsM q) hq.defs (defsM q) n (q.Types.flatMap uT) 0 rfl (by omega) (by omega)
 refine ⟨q.Types.flatMap uT ++ e, ?_, by rw [List.length_append]; omega, fun y => ?_⟩
 ·unfold module_uses
  rw [jn_def, uses_L0 n (by omega) q hq.types _ q.Types n [] 0 rfl (by omega) (by simp; omega), mdefs_eq n (by omega) q hq, bind_some', List.nil_append, e2]
 ·rw [List.mem_append, em y, List.mem_flatMap]
  unfold Uses
  simp only [uT_mem]
theorem twice_eq (n : Nat) (l : List Nm) (hl : l.length ≤ 100000000000) : module_twice n l = some (decide (¬ l.Nodup)) := by
 have hs := sortS_len l
 obtain ⟨o, eo, o1, o2, o3⟩ := cmp_ok n l (by omega)
 unfold module_twice sortedValues slices_Clone_string
 rw [chk_pos (by omega), bind_some', chk_pos (by omega), bind_some', eo, bind_some', hs]
 congr 1
 exact decide_eq_decide.2 (short_iff (o1.imp fun h e => by subst e; exact List.lt_irrefl _ h) o2)
theorem names_L0 (n : Nat) (l : List Def) : ∀ (t : List Def) (m : Nat) (out : List Nm) (i : Nat), l.drop i = t → t.length < m → out.length + t.length ≤ 10000000000 → module_names_L0 n l m out i = some (out ++ t.map (·.Name))
 | [], m + 1, out, i, h, _, _ => by rw [module_names_L0, if_neg (drop_nil' h)]; simp
 | x :: t, m + 1, out, i, h, hm, hb => by
  obtain ⟨h1, h2, h3⟩ := drop_cons h
  rw [List.length_cons] at hb
  rw [module_names_L0, if_pos h1, h2, bind_some', chk_pos (by simp; omega), names_L0 n l t m _ (i + 1) h3 (by simpa using hm) (by simp; omega)]
  simp
theorem names_eq (n : Nat) (l : List Def) (hl : l.length < n) (hb : l.length ≤ 1000000000) : module_names n l = some (l.map (·.Name)) := by
 unfold module_names
 rw [names_L0 n l l n [] 0 rfl hl (by simp; omega)]
 simp
theorem rep_L0 (n : Nat) (r : List TypeDecl) (k : List Nm → Option Bool) : ∀ (t : List TypeDecl) (m : Nat) (out : List Nm) (i : Nat), r.drop i = t → t.length < m → out.length + t.length ≤ 10000000000 → module_repeats_L0 n r k m out i = k (out ++ t.map (·.Name))
 | [], m + 1, out, i, h, _, _ => by rw [module_repeats_L0, if_neg (drop_nil' h)]; simp
 | x :: t, m + 1, out, i, h, hm, hb => by
  obtain ⟨h1, h2, h3⟩ := drop_cons h
  rw [List.length_cons] at hb
  rw [module_repeats_L0, if_pos h1, h2, bind_some', chk_pos (by simp; omega), rep_L0 n r k t m _ (i + 1) h3 (by simpa using hm) (by simp; omega)]
  simp
theorem rep_L1 (n : Nat) (q : Module) (k : List Nm → Option Bool) : ∀ (t : List EntryDecl) (m : Nat) (out : List Nm) (i : Nat), q.Entries.drop i = t → t.length < m → out.length + t.length ≤ 10000000000 → module_repeats_L1 n q k m out i = k (out ++ t.map (·.Def.Name))
 | [], m + 1, out, i, h, _, _ => by rw [module_repeats_L1, if_neg (drop_nil' h)]; simp
 | x :: t, m + 1, out, i, h, hm, hb => by
  obtain ⟨h1, h2, h3⟩ := drop_cons h
  rw [List.length_cons] at hb
  rw [module_repeats_L1, if_pos h1, h2, bind_some', chk_pos (by simp; omega), rep_L1 n q k t m _ (i + 1) h3 (by simpa using hm) (by simp; omega)]
  simp
theorem rep_L2 (n : Nat) (q : Module) (k : List Nm → Option Bool) : ∀ (t : List LexDecl) (m : Nat) (out : List Nm) (i : Nat), q.LexRules.drop i = t → t.length < m → out.length + t.length ≤ 10000000000 → module_repeats_L2 n q k m out i = k (out ++ t.map (·.Def.Name))
 | [], m + 1, out, i, h, _, _ => by rw [module_repeats_L2, if_neg (drop_nil' h)]; simp
 | x :: t, m + 1, out, i, h, hm, hb => by
  obtain ⟨h1, h2, h3⟩ := drop_cons h
  rw [List.length_cons] at hb
  rw [module_repeats_L2, if_pos h1, h2, bind_some', chk_pos (by simp; omega), rep_L2 n q k t m _ (i + 1) h3 (by simpa using hm) (by simp; omega)]
  simp
def ruN (q : Module) : List Nm := q.Entries.map (·.Def.Name) ++ q.LexRules.map (·.Def.Name) ++ q.Rules.map (·.Name)
def Uniq (q : Module) : Prop := (PRE.map (·.Name) ++ q.Types.map (·.Name)).Nodup ∧ (q.Templates.map (·.Name)).Nodup ∧ (ruN q).Nodup ∧ (q.Roots.map (·.Name)).Nodup
theorem repeats_eq (n : Nat) (hn : 10000000000 ≤ n) (q : Module) (hq : LenOk 900000000 q) : ∃ b, module_repeats n q = some b ∧ (b = true ↔ ¬ Uniq q) := by
 obtain ⟨h1, h2, h3, h4, h5, h6, h7, h8, h9⟩ := hq
 have hp := PRE_len
 unfold module_repeats
 rw [hpre, bind_some', ConcatT_eq n _ (by simp; omega) (by simp; omega), bind_some', jn_def, rep_L0 n _ _ ([PRE, q.Types].flatten) n [] 0 List.drop_zero (by simp; omega) (by simp; omega), jn_def, rep_L1 n q _ q.Entries n [] 0 rfl (by omega) (by simp; omega), jn_def, rep_L2 n q _ q.LexRules n _ 0 rfl (by omega) (by simp; omega)]
 rw [twice_eq n _ (by simp; omega), bind_some']
 have e1 : ([] : List Nm) ++ ([PRE, q.Types].flatten).map (·.Name) = PRE.map (·.Name) ++ q.Types.map (·.Name) := by simp
 rw [e1]
 have hru : [] ++ q.Entries.map (·.Def.Name) ++ q.LexRules.map (·.Def.Name) ++ q.Rules.map (·.Name) = ruN q := by simp [ruN]
 by_cases c1 : (PRE.map (·.Name) ++ q.Types.map (·.Name)).Nodup
 ·rw [if_neg (by simp [c1]), names_eq n _ (by omega) (by omega), bind_some', twice_eq n _ (by simp; omega), bind_some']
  by_cases c2 : (q.Templates.map (·.Name)).Nodup
  ·rw [if_neg (by simp [c2]), names_eq n _ (by omega) (by omega), bind_some', chk_pos (by simp; omega), hru, twice_eq n _ (by simp [ruN]; omega), bind_some']
   by_cases c3 : (ruN q).Nodup
   ·rw [if_neg (by simp [c3]), names_eq n _ (by omega) (by omega), bind_some', twice_eq n _ (by simp; omega), bind_some']
    refine ⟨_, rfl, ?_⟩
    unfold Uniq
    simp only [decide_eq_true_eq]
    exact ⟨fun h k => h k.2.2.2, fun h k => h ⟨c1, c2, c3, k⟩⟩
   ·rw [if_pos (by simp [c3])]
    exact ⟨true, rfl, by simp only [true_iff]; exact fun k => c3 k.2.2.1⟩
  ·rw [if_pos (by simp [c2])]
   exact ⟨true, rfl, by simp only [true_iff]; exact fun k => c2 k.2.1⟩
 ·rw [if_pos (by simp [c1])]
  exact ⟨true, rfl, by simp only [true_iff]; exact fun k => c1 k.1⟩
end Go.Proofs.YtbhjplflnkidgaaGreat
end
section
namespace Go.Proofs.YtbhjplflnkidgaaGreat
open Go.Gl Go.Sort
set_option linter.unusedVariables false
set_option linter.unusedSimpArgs false
def mX (l : List Module) (x : Nm) : Module := (fm l x).getD zM
theorem mfind_X (n : Nat) (l : List Module) (x : Nm) (hl : l.length < n) : ∃ b, module_find n l x = some (mX l x, b) := by
 rw [mfind_eq n l x hl]
 unfold mX
 cases fm l x <;> exact ⟨_, rfl⟩
def joinP (l : List Module) (a : Nm) (o : List Nm) : Module := Module.mk a [] (o.flatMap fun x => (mX l x).Types) (o.flatMap fun x => (mX l x).Templates) (o.flatMap fun x => (mX l x).Entries) (o.flatMap fun x => (mX l x).LexRules) (o.flatMap fun x => (mX l x).Rules) (o.flatMap fun x => (mX l x).Roots) (o.flatMap fun x => (mX l x).Checks) (o.flatMap fun x => (mX l x).Drops)
theorem flatMap_len {α β : Type} (f : α → List β) (B : Nat) : ∀ (t : List α), (∀ x ∈ t, (f x).length ≤ B) → (t.flatMap f).length ≤ B * t.length
 | [], _ => by simp
 | x :: t, h => by
  have h1 := h x (by simp)
  have h2 := flatMap_len f B t (fun y hy => h y (by simp [hy]))
  rw [List.flatMap_cons, List.length_append, List.length_cons, Nat.mul_add]
  omega
theorem QOk.mono {B C : Nat} {q : Module} (h : QOk B q) (hBC : B ≤ C) : QOk C q := by
 obtain ⟨⟨h1, h2, h3, h4, h5, h6, h7, h8, h9⟩, a, b, c, d, e, f, g⟩ := h
 exact ⟨⟨by omega, by omega, by omega, by omega, by omega, by omega, by omega, by omega, by omega⟩, a, b, c, d, e, f, g⟩
theorem QOk.join {l : List Module} {o : List Nm} {B K : Nat} (a : Nm) (h : ∀ x ∈ o, QOk B (mX l x)) (hK : o.length ≤ K) : QOk (B * K) (joinP l a o) := by
 have hm : B * o.length ≤ B * K := Nat.mul_le_mul_left _ hK
 have key : ∀ {β : Type} (f : Module → List β), (∀ q, QOk B q → (f q).length ≤ B) → (o.flatMap fun x => f (mX l x)).length ≤ B * K := fun f hf =>
  Nat.le_trans (flatMap_len _ B o (fun x hx => hf _ (h x hx))) hm
 have mem : ∀ {β : Type} (f : Module → List β) (P : β → Prop), (∀ q, QOk B q → ∀ y ∈ f q, P y) → ∀ y ∈ (o.flatMap fun x => f (mX l x)), P y := fun f P hP y hy => by
  obtain ⟨x, hx, hy⟩ := List.mem_flatMap.1 hy
  exact hP _ (h x hx) y hy
 exact ⟨⟨by simp [joinP], key (·.Types) (fun q hq => hq.lens.2.1), key (·.Templates) (fun q hq => hq.lens.2.2.1), key (·.Entries) (fun q hq => hq.lens.2.2.2.1), key (·.LexRules) (fun q hq => hq.lens.2.2.2.2.1), key (·.Rules) (fun q hq => hq.lens.2.2.2.2.2.1), key (·.Roots) (fun q hq => hq.lens.2.2.2.2.2.2.1), key (·.Checks) (fun q hq => hq.lens.2.2.2.2.2.2.2.1), key (·.Drops) (fun q hq => hq.lens.2.2.2.2.2.2.2.2)⟩,
  mem (·.Types) _ (fun q hq => hq.types), mem (·.Templates) _ (fun q hq => hq.templates), mem (·.Rules) _ (fun q hq => hq.rules), mem (·.Roots) _ (fun q hq => hq.roots), mem (·.Entries) _ (fun q hq => hq.entries), mem (·.LexRules) _ (fun q hq => hq.lex), mem (·.Checks) _ (fun q hq => hq.checks)⟩
theorem LOk.q {l : List Module} (hl : LOk l) {q : Module} (hq : q ∈ l) : QOk 256 q :=
 have m := hl.md q hq
 ⟨hl.lens q hq, m.types, m.templates, m.rules, m.roots, m.entries, m.lex, m.checks⟩
theorem QOk.zero (B : Nat) : QOk B zM := by
 refine ⟨⟨?_, ?_, ?_, ?_, ?_, ?_, ?_, ?_, ?_⟩, ?_, ?_, ?_, ?_, ?_, ?_, ?_⟩ <;> simp [zM]
theorem LOk.x {l : List Module} (hl : LOk l) (x : Nm) : QOk 256 (mX l x) := by
 unfold mX
 cases h : fm l x with
 | none => exact .zero _
 | some q => exact hl.q (fm_name h).2
theorem Link_L0_eq (n : Nat) (l : List Module) (hl : l.length < n) (o : List Nm) (e : Int) (hq : ∀ x ∈ o, LenOk 400000 (mX l x)) (k : List TypeDecl → List Def → List EntryDecl → List LexDecl → List Def → List Def → List (List Nm) → List Nm → Option (Module × Int)) : ∀ (t : List Nm) (m i : Nat) (b1 : List TypeDecl) (b2 : List Def) (b3 : List EntryDecl) (b4 : List LexDecl) (b5 b6 : List Def) (b7 : List (List Nm)) (b8 : List Nm), o.drop i = t → t.length < m →
  b1.length + 400000 * t.length ≤ 10000000000 → b2.length + 400000 * t.length ≤ 10000000000 → b3.length + 400000 * t.length ≤ 10000000000 → b4.length + 400000 * t.length ≤ 10000000000 → b5.length + 400000 * t.length ≤ 10000000000 → b6.length + 400000 * t.length ≤ 10000000000 → b7.length + 400000 * t.length ≤ 10000000000 → b8.length + 400000 * t.length ≤ 10000000000 →
  module_Link_L0 n l (o, e) k m i b1 b2 b3 b4 b5 b6 b7 b8 = k (b1 ++ t.flatMap fun x => (mX l x).Types) (b2 ++ t.flatMap fun x => (mX l x).Templates) (b3 ++ t.flatMap fun x => (mX l x).Entries) (b4 ++ t.flatMap fun x => (mX l x).LexRules) (b5 ++ t.flatMap fun x => (mX l x).Rules) (b6 ++ t.flatMap fun x => (mX l x).Roots) (b7 ++ t.flatMap fun x => (mX l x).Checks) (b8 ++ t.flatMap fun x => (mX l x).Drops)
 | [], m + 1, i, b1, b2, b3, b4, b5, b6, b7, b8, h, _, _, _, _, _, _, _, _, _ => by rw [module_Link_L0, if_neg (drop_nil' h)]; simp
 | x :: t, m + 1, i, b1, b2, b3, b4, b5, b6, b7, b8, h, hm, g1, g2, g3, g4, g5, g6, g7, g8 => by
  obtain ⟨h1, h2, h3⟩ := drop_cons h
  obtain ⟨q1, q2, q3, q4, q5, q6, q7, q8, q9⟩ := hq x (List.mem_of_getElem? h2)
  obtain ⟨b, eb⟩ := mfind_X n l x hl
  rw [List.length_cons] at g1 g2 g3 g4 g5 g6 g7 g8
  rw [module_Link_L0, if_pos h1]
  show ((o[i]?).bind fun x80 => _) = _
  rw [h2, bind_some', eb, bind_some']
  dsimp only
  rw [chk_pos (by omega), chk_pos (by omega), chk_pos (by omega), chk_pos (by omega), chk_pos (by omega), chk_pos (by omega), chk_pos (by omega), chk_pos (by omega)]
  rw [Link_L0_eq n l hl o e hq k t m (i + 1) _ _ _ _ _ _ _ _ h3 (by simpa using hm) (by rw [List.length_append]; omega) (by rw [List.length_append]; omega) (by rw [List.length_append]; omega) (by rw [List.length_append]; omega) (by rw [List.length_append]; omega) (by rw [List.length_append]; omega) (by rw [List.length_append]; omega) (by rw [List.length_append]; omega)]
  simp only [List.flatMap_cons, List.append_assoc]
theorem CF_r (n : Nat) (s : List Nm) (f : Nm → Option Bool) (g : Nm → Bool) (hf : ∀ x, f x = some (g x)) : ∀ (t : List Nm) (m i : Nat), s.drop i = t → t.length < m → ∃ j, slices_IndexFunc_string_L0 n s f m i = some j ∧ (0 ≤ j ↔ ∃ x ∈ t, g x = true)
 | [], m + 1, i, h, _ => ⟨-1, by rw [slices_IndexFunc_string_L0, if_neg (drop_nil' h)], by simp⟩
 | x :: t, m + 1, i, h, hm => by
  obtain ⟨h1, h2, h3⟩ := drop_cons h
  obtain ⟨j, e, hj⟩ := CF_r n s f g hf t m (i + 1) h3 (by simpa using hm)
  rw [slices_IndexFunc_string_L0, if_pos h1, h2, bind_some', hf x, bind_some', e]
  cases hg : g x with
  | true => exact ⟨_, if_pos rfl, by simp [hg]⟩
  | false => exact ⟨j, if_neg (by simp), by simp [hg, hj]⟩
theorem CF_eq (n : Nat) (s v : List Nm) (hs : s.length < n) (hv : v.length < n) : ∃ b, slices_ContainsFunc_string n s (fun p => module_Link_1 n p v) = some b ∧ (b = true ↔ ∃ x ∈ s, x ∉ v) := by
 obtain ⟨j, e, hj⟩ := CF_r n s (fun p => module_Link_1 n p v) (fun p => !(decide (p ∈ v))) (fun x => by unfold module_Link_1; rw [Contains_eq n v x hv, bind_some']) s n 0 rfl hs
 refine ⟨decide (0 ≤ j), ?_, ?_⟩
 ·unfold slices_ContainsFunc_string slices_IndexFunc_string
  rw [e, bind_some']
 ·rw [decide_eq_true_eq, hj]
  simp
theorem Link_L1_eq (n : Nat) (hn : 100000000000 ≤ n) (l : List Module) (hl : l.length < n) (o : List Nm) (e : Int) (V : Nm → Nm → Prop) (hq : ∀ x ∈ o, QOk 400000 (mX l x)) (hv : ∀ x ∈ o, ∃ v, module_Visible n l x = some v ∧ v.length ≤ 10000000000 ∧ ∀ y, y ∈ v ↔ V x y) (k : Option (Module × Int)) : ∀ (t : List Nm) (m i : Nat), o.drop i = t → t.length < m → (module_Link_L1 n l (o, e) k m i = k ∧ ∀ x ∈ t, ∀ y, Uses (mX l x) y → V x y) ∨ (module_Link_L1 n l (o, e) k m i = some (zM, 5) ∧ ∃ x ∈ t, ∃ y, Uses (mX l x) y ∧ ¬ V x y)
 | [], m + 1, i, h, _ => .inl ⟨by rw [module_Link_L1, if_neg (drop_nil' h)], by simp⟩
 | x :: t, m + 1, i, h, hm => by
  obtain ⟨h1, h2, h3⟩ := drop_cons h
  have hx := List.mem_of_getElem? h2
  obtain ⟨b, eb⟩ := mfind_X n l x hl
  obtain ⟨v, ev, vl, vm⟩ := hv x hx
  obtain ⟨u, eu, ul, um⟩ := uses_eq n (by omega) (mX l x) (hq x hx)
  obtain ⟨c, ec, hc⟩ := CF_eq n u v (by omega) (by omega)
  rw [module_Link_L1, if_pos h1]
  have e1 : (((o, e) : List Nm × Int).1)[i]? = some x := h2
  rw [e1, bind_some', eb, bind_some', ev, bind_some', eu, bind_some', ec, bind_some']
  cases c with
  | true =>
   rw [if_pos rfl]
   obtain ⟨y, hy, hyv⟩ := hc.1 rfl
   exact .inr ⟨rfl, x, by simp, y, (um y).1 hy, fun h => hyv ((vm y).2 h)⟩
  | false =>
   rw [if_neg (by simp)]
   have hall : ∀ y, Uses (mX l x) y → V x y := fun y hy => Classical.byContradiction fun hn => by
    have := hc.2 ⟨y, (um y).2 hy, fun h => hn ((vm y).1 h)⟩
    cases this
   rcases Link_L1_eq n hn l hl o e V hq hv k t m (i + 1) h3 (by simpa using hm) with ⟨a1, a2⟩ | ⟨a1, z, a2, a3⟩
   ·refine .inl ⟨a1, fun z hz => ?_⟩
    rcases List.mem_cons.1 hz with rfl | hz
    ·exact hall
    ·exact a2 z hz
   ·exact .inr ⟨a1, z, by simp [a2], a3⟩
inductive LR (l : List Module) (a : Nm) (o : List Nm) (V : Nm → Nm → Prop) : Module × Int → Prop where
  | dup : ¬ Uniq (joinP l a o) → LR l a o V (zM, 4)
  | miss : Uniq (joinP l a o) → (∃ x ∈ o, ∃ y, Uses (mX l x) y ∧ ¬ V x y) → LR l a o V (zM, 5)
  | ok : Uniq (joinP l a o) → (∀ x ∈ o, ∀ y, Uses (mX l x) y → V x y) → LR l a o V (joinP l a o, 0)
theorem flatMap_congr' {α β : Type} {f g : α → List β} : ∀ {t : List α}, (∀ x ∈ t, f x = g x) → t.flatMap f = t.flatMap g
 | [], _ => rfl
 | x :: t, h => by rw [List.flatMap_cons, List.flatMap_cons, h x (by simp), flatMap_congr' (fun y hy => h y (by simp [hy]))]
theorem joinP_congr {l l' : List Module} (a : Nm) {o : List Nm} (h : ∀ x ∈ o, fm l x = fm l' x) : joinP l a o = joinP l' a o := by
 have hX : ∀ x ∈ o, mX l x = mX l' x := fun x hx => by unfold mX; rw [h x hx]
 have key : ∀ {β : Type} (f : Module → List β), (o.flatMap fun x => f (mX l x)) = o.flatMap fun x => f (mX l' x) := fun f => flatMap_congr' fun x hx => by rw [hX x hx]
 have k0 : (o.flatMap fun x => (mX l x).Types) = o.flatMap fun x => (mX l' x).Types := key (·.Types)
 have k1 : (o.flatMap fun x => (mX l x).Templates) = o.flatMap fun x => (mX l' x).Templates := key (·.Templates)
 have k2 : (o.flatMap fun x => (mX l x).Entries) = o.flatMap fun x => (mX l' x).Entries := key (·.Entries)
 have k3 : (o.flatMap fun x => (mX l x).LexRules) = o.flatMap fun x => (mX l' x).LexRules := key (·.LexRules)
 have k4 : (o.flatMap fun x => (mX l x).Rules) = o.flatMap fun x => (mX l' x).Rules := key (·.Rules)
 have k5 : (o.flatMap fun x => (mX l x).Roots) = o.flatMap fun x => (mX l' x).Roots := key (·.Roots)
 have k6 : (o.flatMap fun x => (mX l x).Checks) = o.flatMap fun x => (mX l' x).Checks := key (·.Checks)
 have k7 : (o.flatMap fun x => (mX l x).Drops) = o.flatMap fun x => (mX l' x).Drops := key (·.Drops)
 unfold joinP
 rw [k0, k1, k2, k3, k4, k5, k6, k7]
theorem LR.same {l l' : List Module} {a : Nm} {o : List Nm} {V V' : Nm → Nm → Prop} {r r' : Module × Int} (h : LR l a o V r) (h' : LR l' a o V' r') (hf : ∀ x ∈ o, fm l x = fm l' x) (hV : ∀ x ∈ o, ∀ y, V x y ↔ V' x y) : r = r' := by
 have hJ := joinP_congr a hf
 have hX : ∀ x ∈ o, mX l x = mX l' x := fun x hx => by unfold mX; rw [hf x hx]
 cases h with
 | dup h1 => cases h' with
  | dup k1 => rfl
  | miss k1 k2 => rw [hJ] at h1; exact absurd k1 h1
  | ok k1 k2 => rw [hJ] at h1; exact absurd k1 h1
 | miss h1 h2 => cases h' with
  | dup k1 => rw [hJ] at h1; exact absurd h1 k1
  | miss k1 k2 => rfl
  | ok k1 k2 =>
   obtain ⟨x, hx, y, hy, hn⟩ := h2
   exact absurd ((hV x hx y).2 (k2 x hx y (by rw [← hX x hx]; exact hy))) hn
 | ok h1 h2 => cases h' with
  | dup k1 => rw [hJ] at h1; exact absurd h1 k1
  | miss k1 k2 =>
   obtain ⟨x, hx, y, hy, hn⟩ := k2
   exact absurd ((hV x hx y).1 (h2 x hx y (by rw [hX x hx]; exact hy))) hn
  | ok k1 k2 => rw [hJ]
theorem Link_spec (n : Nat) (hn : 100000000000 ≤ n) (l : List Module) (hl : l.length < n) (a : Nm) (o : List Nm) (ho : module_Order n l a = some (o, 0)) (hol : o.length ≤ 1537) (V : Nm → Nm → Prop) (hq : ∀ x ∈ o, QOk 400000 (mX l x)) (hv : ∀ x ∈ o, ∃ v, module_Visible n l x = some v ∧ v.length ≤ 10000000000 ∧ ∀ y, y ∈ v ↔ V x y) : ∃ r, module_Link n l a = some r ∧ LR l a o V r := by
 have hJ := QOk.join a hq hol
 obtain ⟨b, eb, hb⟩ := repeats_eq n (by omega) (joinP l a o) (hJ.mono (by omega)).lens
 unfold module_Link
 rw [ho, bind_some', if_neg (by simp), jn_def, Link_L0_eq n l hl o 0 (fun x hx => (hq x hx).lens) _ o n 0 [] [] [] [] [] [] [] [] rfl (by omega) (by simp; omega) (by simp; omega) (by simp; omega) (by simp; omega) (by simp; omega) (by simp; omega) (by simp; omega) (by simp; omega)]
 simp only [List.nil_append]
 show ∃ r, ((module_repeats n (joinP l a o)).bind fun r131 => if r131 = true then some (zM, 4) else jn (some (joinP l a o, 0)) (fun k137 => module_Link_L1 n l (o, 0) k137 n 0)) = some r ∧ _
 rw [eb, bind_some', jn_def]
 cases b with
 | true => exact ⟨_, if_pos rfl, .dup (hb.1 rfl)⟩
 | false =>
  have hu : Uniq (joinP l a o) := Classical.byContradiction fun h => by have := hb.2 h; cases this
  rw [if_neg (by simp)]
  rcases Link_L1_eq n hn l hl o 0 V hq hv (some (joinP l a o, 0)) o n 0 rfl (by omega) with ⟨h1, h2⟩ | ⟨h1, h2⟩
  ·exact ⟨_, h1, .ok hu h2⟩
  ·exact ⟨_, h1, .miss hu h2⟩
end Go.Proofs.YtbhjplflnkidgaaGreat
end
section
namespace Go.Proofs.YtbhjplflnkidgaaGreat
open Go.Gl Go.Sort
set_option linter.unusedVariables false
set_option linter.unusedSimpArgs false
theorem SameDescs_r (n : Nat) (l : List Desc) (via : Desc → Desc → Option Bool) (h : ∀ x ∈ l, via x x = some true) : ∀ (t : List Desc) (m i : Nat), l.drop i = t → t.length < m → r19_SameDescs_L0 n l l via m i = some true
 | [], m + 1, i, hd, _ => by rw [r19_SameDescs_L0, if_neg (drop_nil' hd)]
 | x :: t, m + 1, i, hd, hm => by
  obtain ⟨h1, h2, h3⟩ := drop_cons hd
  rw [r19_SameDescs_L0, if_pos h1, h2, bind_some', bind_some', h x (List.mem_of_getElem? h2), bind_some', if_neg (by simp), SameDescs_r n l via h t m (i + 1) h3 (by simpa using hm)]
theorem SameDescs_refl (n : Nat) (l : List Desc) (via : Desc → Desc → Option Bool) (h : ∀ x ∈ l, via x x = some true) (hl : l.length < n) : r19_SameDescs n via l l = some true := by
 unfold r19_SameDescs
 rw [if_neg (fun h => h rfl), SameDescs_r n l via h l n 0 rfl hl]
theorem SameDesc_refl : ∀ (k n : Nat) (d : Desc), DOk k d → k + 100 ≤ n → r19_SameDesc n d d = some true
 | 0, n, d, h, _ => h.elim
 | k + 1, 0, d, h, hn => by omega
 | k + 1, n + 1, d, h, hn => by
  obtain ⟨_, hp, _, hk, hd⟩ := h
  rw [r19_SameDesc, if_pos rfl, if_pos rfl, r01_Same_eq n _ _ (.inl (by omega)), bind_some', if_pos (by simp), SameDescs_refl n d.Kids _ (fun x hx => SameDesc_refl k n x (hd x hx) (by omega)) (by omega), bind_some']
theorem sameDefs_r (n : Nat) (hn : 1000 ≤ n) (l : List Def) (h : ∀ x ∈ l, DfOk x) : ∀ (t : List Def) (m i : Nat), l.drop i = t → t.length < m → r21_sameDefs_L0 n l l m i = some true
 | [], m + 1, i, hd, _ => by rw [r21_sameDefs_L0, if_neg (drop_nil' hd)]
 | x :: t, m + 1, i, hd, hm => by
  obtain ⟨h1, h2, h3⟩ := drop_cons hd
  obtain ⟨g1, g2, g3, g4⟩ := h x (List.mem_of_getElem? h2)
  rw [r21_sameDefs_L0, if_pos h1, jn_def, h2, bind_some', bind_some', if_neg (fun h => h rfl), SameDesc_refl 80 n x.Strict g3.1 (by omega), bind_some', if_neg (by simp), SameDescs_refl n x.Defaults _ (fun d hd => SameDesc_refl 80 n d (g4 d hd).1 (by omega)) (by omega), bind_some']
  exact sameDefs_r n hn l h t m (i + 1) h3 (by simpa using hm)
theorem sameDefs_refl (n : Nat) (hn : 1000 ≤ n) (l : List Def) (h : ∀ x ∈ l, DfOk x) (hl : l.length < n) : r21_sameDefs n l l = some true := by
 unfold r21_sameDefs
 rw [if_neg (fun h => h rfl), sameDefs_r n hn l h l n 0 rfl hl]
theorem sameTypes_L1_r (n : Nat) (l : List TypeDecl) (j : Nat) (x : TypeDecl) (hj : l[j]? = some x) (k : Option Bool) : ∀ (t : List FeatDecl) (m i : Nat), x.Feats.drop i = t → t.length < m → r21_sameTypes_L1 n l l j k m i = k
 | [], m + 1, i, hd, _ => by rw [r21_sameTypes_L1, hj, bind_some', if_neg (drop_nil' hd)]
 | f :: t, m + 1, i, hd, hm => by
  obtain ⟨h1, h2, h3⟩ := drop_cons hd
  rw [r21_sameTypes_L1, hj, bind_some', if_pos h1, h2, bind_some', bind_some', h2, bind_some', if_pos rfl, sameTypes_L1_r n l j x hj k t m (i + 1) h3 (by simpa using hm)]
theorem sameTypes_r (n : Nat) (hn : 1000 ≤ n) (l : List TypeDecl) (h : ∀ x ∈ l, TyOk x) : ∀ (t : List TypeDecl) (m i : Nat), l.drop i = t → t.length < m → r21_sameTypes_L0 n l l m i = some true
 | [], m + 1, i, hd, _ => by rw [r21_sameTypes_L0, if_neg (drop_nil' hd)]
 | x :: t, m + 1, i, hd, hm => by
  obtain ⟨h1, h2, h3⟩ := drop_cons hd
  obtain ⟨g1, g2, g3, g4⟩ := h x (List.mem_of_getElem? h2)
  have g5 := g2.1
  rw [r21_sameTypes_L0, if_pos h1, jn_def, jn_def, h2, bind_some', bind_some', if_neg (fun h => h rfl), r01_Same_eq n _ _ (.inl (by omega)), bind_some', if_neg (by simp)]
  have e0 : decide (x.Feats.length ≠ x.Feats.length) = false := by simp
  rw [e0]
  exact (sameTypes_L1_r n l i x h2 _ x.Feats n 0 rfl (by omega)).trans (sameTypes_r n hn l h t m (i + 1) h3 (by simpa using hm))
theorem sameTypes_refl (n : Nat) (hn : 1000 ≤ n) (l : List TypeDecl) (h : ∀ x ∈ l, TyOk x) (hl : l.length < n) : r21_sameTypes n l l = some true := by
 unfold r21_sameTypes
 rw [if_neg (fun h => h rfl), sameTypes_r n hn l h l n 0 rfl hl]
theorem SameAffix_r (n : Nat) (a : Affix) : ∀ (t : List Change) (m i : Nat), a.Pairs.drop i = t → t.length < m → r21_SameAffix_L0 n a a m i = some true
 | [], m + 1, i, hd, _ => by rw [r21_SameAffix_L0, if_neg (drop_nil' hd)]
 | x :: t, m + 1, i, hd, hm => by
  obtain ⟨h1, h2, h3⟩ := drop_cons hd
  rw [r21_SameAffix_L0, if_pos h1, h2, bind_some', bind_some', if_pos rfl, SameAffix_r n a t m (i + 1) h3 (by simpa using hm)]
theorem SameAffix_refl (n : Nat) (a : Affix) (hl : a.Pairs.length < n) : r21_SameAffix n a a = some true := by
 unfold r21_SameAffix
 have e0 : decide (a.Pairs.length ≠ a.Pairs.length) = false := by simp
 rw [jn_def, if_neg (fun h => h rfl), e0]
 exact SameAffix_r n a a.Pairs n 0 rfl hl
theorem sameLists_L2_r (n : Nat) (hn : 1000 ≤ n) (q : Module) (h : ∀ x ∈ q.Checks, NmsOk 80 x) : ∀ (t : List (List Nm)) (m i : Nat), q.Checks.drop i = t → t.length < m → r21_sameLists_L2 n q q m i = some true
 | [], m + 1, i, hd, _ => by rw [r21_sameLists_L2, if_neg (drop_nil' hd)]
 | x :: t, m + 1, i, hd, hm => by
  obtain ⟨h1, h2, h3⟩ := drop_cons hd
  have g := (h x (List.mem_of_getElem? h2)).1
  rw [r21_sameLists_L2, if_pos h1, h2, bind_some', bind_some', r01_Same_eq n _ _ (.inl (by omega)), bind_some', if_neg (by simp), sameLists_L2_r n hn q h t m (i + 1) h3 (by simpa using hm)]
theorem sameLists_L1_r (n : Nat) (hn : 1000 ≤ n) (q : Module) (h : ∀ x ∈ q.LexRules, LxOk x) (k : Option Bool) : ∀ (t : List LexDecl) (m i : Nat), q.LexRules.drop i = t → t.length < m → r21_sameLists_L1 n q q k m i = k
 | [], m + 1, i, hd, _ => by rw [r21_sameLists_L1, if_neg (drop_nil' hd)]
 | x :: t, m + 1, i, hd, hm => by
  obtain ⟨h1, h2, h3⟩ := drop_cons hd
  obtain ⟨g1, g2, g3⟩ := h x (List.mem_of_getElem? h2)
  rw [r21_sameLists_L1, if_pos h1, jn_def, h2, bind_some', bind_some', SameAffix_refl n _ (by omega), bind_some', if_neg (by simp), sameDefs_refl n hn [x.Def] (by simpa using g2) (by simp; omega), bind_some']
  exact sameLists_L1_r n hn q h k t m (i + 1) h3 (by simpa using hm)
theorem sameLists_L0_r (n : Nat) (hn : 1000 ≤ n) (q : Module) (h : ∀ x ∈ q.Entries, EnOk x) (k : Option Bool) : ∀ (t : List EntryDecl) (m i : Nat), q.Entries.drop i = t → t.length < m → r21_sameLists_L0 n q q k m i = k
 | [], m + 1, i, hd, _ => by rw [r21_sameLists_L0, if_neg (drop_nil' hd)]
 | x :: t, m + 1, i, hd, hm => by
  obtain ⟨h1, h2, h3⟩ := drop_cons hd
  obtain ⟨g1, g2⟩ := h x (List.mem_of_getElem? h2)
  have g3 := g1.1
  rw [r21_sameLists_L0, if_pos h1, jn_def, h2, bind_some', bind_some', r01_Same_eq n _ _ (.inl (by omega)), bind_some', if_neg (by simp), sameDefs_refl n hn [x.Def] (by simpa using g2) (by simp; omega), bind_some']
  exact sameLists_L0_r n hn q h k t m (i + 1) h3 (by simpa using hm)
theorem SameModule_refl (n : Nat) (hn : 10000000000 ≤ n) (q : Module) (hq : QOk 900000000 q) : r21_SameModule n q q = some true := by
 obtain ⟨h1, h2, h3, h4, h5, h6, h7, h8, h9⟩ := hq.lens
 have hL : r21_sameLists n q q = some true := by
  unfold r21_sameLists
  have e0 : decide (q.Checks.length ≠ q.Checks.length) = false := by simp
  rw [jn_def, if_neg (fun h => h rfl), if_neg (fun h => h rfl), e0]
  show r21_sameLists_L0 n q q (r21_sameLists_L1 n q q (r21_sameLists_L2 n q q n 0) n 0) n 0 = some true
  rw [sameLists_L0_r n (by omega) q hq.entries _ q.Entries n 0 rfl (by omega), sameLists_L1_r n (by omega) q hq.lex _ q.LexRules n 0 rfl (by omega), sameLists_L2_r n (by omega) q hq.checks q.Checks n 0 rfl (by omega)]
 unfold r21_SameModule
 rw [if_pos rfl, r01_Same_eq n _ _ (.inl (by omega)), bind_some', if_pos (by simp), sameTypes_refl n (by omega) _ hq.types (by omega), bind_some', if_pos rfl, sameDefs_refl n (by omega) _ hq.templates (by omega), bind_some', if_pos rfl, hL, bind_some', if_pos rfl, sameDefs_refl n (by omega) _ hq.rules (by omega), bind_some', if_pos rfl, sameDefs_refl n (by omega) _ hq.roots (by omega), bind_some', if_pos rfl, r01_Same_eq n _ _ (.inl (by omega)), bind_some']
 simp
def Agr (l l' : List Module) (a : Nm) : Prop := ∀ x, Rch (imps l) All a x → fm l x = fm l' x
structure OrdR (l : List Module) (a : Nm) : Prop where
  nodup : (vOrd l a).Nodup
  mem : ∀ x, x ∈ vOrd l a ↔ Rch (imps l) All a x
  len : (vOrd l a).length ≤ 1537
  last : ∃ o, vOrd l a = o ++ [a]
theorem OrdR.of {l : List Module} (hl : LOk l) {a : Nm} (hA : Acy (imps l) a) : OrdR l a := by
 have hai := allI_len hl
 have V := vis_spec (imps l) _ a [] (ht_ok l a hA) hA (topo_nil _) .nil
 have hmem : ∀ x, x ∈ vOrd l a ↔ Rch (imps l) All a x := fun x => (V.mem x).trans ⟨fun h => h.elim (fun h => by cases h) id, .inr⟩
 refine ⟨V.nodup, hmem, ?_, vis_last (imps l) _ a [] (ht_ok l a hA) (by simp)⟩
 have := nodup_sub (vOrd l a) (a :: allI l) V.nodup (fun x hx => by
  rcases ((hmem x).1 hx).cases_last with rfl | ⟨c, L', _, hL', hxL⟩
  ·simp
  ·exact List.mem_cons.2 (.inr (allI_mem hL' hxL)))
 rw [List.length_cons] at this
 omega
inductive LkE (l : List Module) (a : Nm) : Module × Int → Prop where
  | err {e : Int} : OrdE l a e → e ≠ 0 → LkE l a (zM, e)
  | ok {r : Module × Int} : OrdE l a 0 → Acy (imps l) a → LR l a (vOrd l a) (VisSet l) r → LkE l a r
theorem mLink_eq (n : Nat) (hn : 100000000000 ≤ n) (l : List Module) (hl : LOk l) (a : Nm) : ∃ r, module_Link n l a = some r ∧ LkE l a r := by
 have hlen := hl.len
 obtain ⟨e, hO, eo⟩ := Order_eq n l hl (by omega) a
 by_cases h0 : e = 0
 ·subst h0
  have hA : Acy (imps l) a := by
   cases hO with
   | ok hnd hm hc => exact Classical.byContradiction hc
  have R := OrdR.of hl hA
  rw [if_pos rfl] at eo
  obtain ⟨r, er, hr⟩ := Link_spec n hn l (by omega) a _ eo R.len (VisSet l) (fun x _ => (hl.x x).mono (by omega)) (fun x _ => by
   obtain ⟨o, e, ho⟩ := Visible_eq n l hl (by omega) x
   exact ⟨o, e, by have := ho.len; omega, ho.mem⟩)
  exact ⟨r, er, .ok hO hA hr⟩
 ·refine ⟨(zM, e), ?_, .err hO h0⟩
  unfold module_Link
  rw [eo, bind_some', if_neg h0, if_pos h0]
  rfl
theorem LkE.q {l : List Module} {a : Nm} {r : Module × Int} (h : LkE l a r) (hl : LOk l) : QOk 900000000 r.1 := by
 cases h with
 | err k1 k2 => exact .zero _
 | ok k1 k2 k3 =>
  have R := OrdR.of hl k2
  cases k3 with
  | dup _ => exact .zero _
  | miss _ _ => exact .zero _
  | ok _ _ => exact (QOk.join a (fun x _ => hl.x x) R.len).mono (by omega)
end Go.Proofs.YtbhjplflnkidgaaGreat
end
section
namespace Go.Proofs.YtbhjplflnkidgaaGreat
open Go.Gl Go.Sort
set_option linter.unusedVariables false
set_option linter.unusedSimpArgs false
theorem rjoined_L0 (n : Nat) (l : List Module) (hl : l.length < n) (o : List Nm) (hf : ∀ x ∈ o, (fm l x).isSome = true) (hq : ∀ x ∈ o, LenOk 400000 (mX l x)) (k : List TypeDecl → List Def → List EntryDecl → List LexDecl → List Def → List Def → List (List Nm) → List Nm → Option Module) : ∀ (t : List Nm) (m i : Nat) (b1 : List TypeDecl) (b2 : List Def) (b3 : List EntryDecl) (b4 : List LexDecl) (b5 b6 : List Def) (b7 : List (List Nm)) (b8 : List Nm), o.drop i = t → t.length < m →
  b1.length + 400000 * t.length ≤ 10000000000 → b2.length + 400000 * t.length ≤ 10000000000 → b3.length + 400000 * t.length ≤ 10000000000 → b4.length + 400000 * t.length ≤ 10000000000 → b5.length + 400000 * t.length ≤ 10000000000 → b6.length + 400000 * t.length ≤ 10000000000 → b7.length + 400000 * t.length ≤ 10000000000 → b8.length + 400000 * t.length ≤ 10000000000 →
  r22_joined_L0 n l o k m i b1 b2 b3 b4 b5 b6 b7 b8 = k (b1 ++ t.flatMap fun x => (mX l x).Types) (b2 ++ t.flatMap fun x => (mX l x).Templates) (b3 ++ t.flatMap fun x => (mX l x).Entries) (b4 ++ t.flatMap fun x => (mX l x).LexRules) (b5 ++ t.flatMap fun x => (mX l x).Rules) (b6 ++ t.flatMap fun x => (mX l x).Roots) (b7 ++ t.flatMap fun x => (mX l x).Checks) (b8 ++ t.flatMap fun x => (mX l x).Drops)
 | [], m + 1, i, b1, b2, b3, b4, b5, b6, b7, b8, h, _, _, _, _, _, _, _, _, _ => by rw [r22_joined_L0, if_neg (drop_nil' h)]; simp
 | x :: t, m + 1, i, b1, b2, b3, b4, b5, b6, b7, b8, h, hm, g1, g2, g3, g4, g5, g6, g7, g8 => by
  obtain ⟨h1, h2, h3⟩ := drop_cons h
  have hx := List.mem_of_getElem? h2
  obtain ⟨q1, q2, q3, q4, q5, q6, q7, q8, q9⟩ := hq x hx
  obtain ⟨j, ej, hj⟩ := find_eq n l x hl
  rw [List.length_cons] at g1 g2 g3 g4 g5 g6 g7 g8
  rcases hj with ⟨_, hn⟩ | ⟨kk, q, rfl, a2, a3, _⟩
  ·have := hf x hx
   rw [hn] at this; cases this
  have hX : mX l x = q := by unfold mX; rw [a3]; rfl
  rw [hX] at q1 q2 q3 q4 q5 q6 q7 q8 q9
  rw [r22_joined_L0, if_pos h1, h2, bind_some', ej, bind_some', ix_nat, a2, bind_some', chk_pos (by omega), chk_pos (by omega), chk_pos (by omega), chk_pos (by omega), chk_pos (by omega), chk_pos (by omega), chk_pos (by omega), chk_pos (by omega)]
  rw [rjoined_L0 n l hl o hf hq k t m (i + 1) _ _ _ _ _ _ _ _ h3 (by simpa using hm) (by rw [List.length_append]; omega) (by rw [List.length_append]; omega) (by rw [List.length_append]; omega) (by rw [List.length_append]; omega) (by rw [List.length_append]; omega) (by rw [List.length_append]; omega) (by rw [List.length_append]; omega) (by rw [List.length_append]; omega)]
  simp only [List.flatMap_cons, List.append_assoc, hX]
theorem rtwice_L0 (n : Nat) (l : List Nm) (hn : l.length < n) : ∀ (t : List Nm) (m i : Nat), l.drop i = t → t.length < m → (l.take i).Nodup → r22_twice_L0 n l m i = some (decide (¬ l.Nodup))
 | [], m + 1, i, h, _, hd => by
  have : l.Nodup := by rwa [List.take_of_length_le (by have := drop_nil' h; omega)] at hd
  rw [r22_twice_L0, if_neg (drop_nil' h)]
  simp [this]
 | x :: t, m + 1, i, h, hm, hd => by
  obtain ⟨h1, h2, h3⟩ := drop_cons h
  have ht : l.take (i + 1) = l.take i ++ [x] := by rw [List.take_add_one, h2]; rfl
  rw [r22_twice_L0, if_pos h1, chk_pos (by omega), h2, bind_some', has_eq n (l.take i) x (by rw [List.length_take]; omega), bind_some']
  by_cases c : x ∈ l.take i
  ·have hnd : ¬ l.Nodup := fun hnd => by
    have e : l.take (i + 1) ++ l.drop (i + 1) = l := List.take_append_drop _ _
    rw [← e, ht, List.nodup_append, List.nodup_append] at hnd
    exact hnd.1.2.2 x c x (by simp) rfl
   rw [if_pos (by simp [c])]
   simp [hnd]
  ·rw [if_neg (by simp [c])]
   refine rtwice_L0 n l hn t m (i + 1) h3 (by simpa using hm) ?_
   rw [ht, List.nodup_append]
   exact ⟨hd, by simp, fun y hy z hz => by simp at hz; subst hz; exact fun e => c (e ▸ hy)⟩
theorem rtwice_eq (n : Nat) (l : List Nm) (hn : l.length < n) : r22_twice n l = some (decide (¬ l.Nodup)) := rtwice_L0 n l hn l n 0 List.drop_zero hn (by simp)
theorem rtn_L0 (n : Nat) (l : List TypeDecl) : ∀ (t : List TypeDecl) (m : Nat) (out : List Nm) (i : Nat), l.drop i = t → t.length < m → out.length + t.length ≤ 10000000000 → r22_typeNames_L0 n l m out i = some (out ++ t.map (·.Name))
 | [], m + 1, out, i, h, _, _ => by rw [r22_typeNames_L0, if_neg (drop_nil' h)]; simp
 | x :: t, m + 1, out, i, h, hm, hb => by
  obtain ⟨h1, h2, h3⟩ := drop_cons h
  rw [List.length_cons] at hb
  rw [r22_typeNames_L0, if_pos h1, h2, bind_some', chk_pos (by simp; omega), rtn_L0 n l t m _ (i + 1) h3 (by simpa using hm) (by simp; omega)]
  simp
theorem rtn_eq (n : Nat) (l : List TypeDecl) (hl : l.length < n) (hb : l.length ≤ 1000000000) : r22_typeNames n l = some (l.map (·.Name)) := by
 unfold r22_typeNames
 rw [rtn_L0 n l l n [] 0 rfl hl (by simp; omega)]
 simp
theorem rdn_L0 (n : Nat) (l : List Def) : ∀ (t : List Def) (m : Nat) (out : List Nm) (i : Nat), l.drop i = t → t.length < m → out.length + t.length ≤ 10000000000 → r22_defNames_L0 n l m out i = some (out ++ t.map (·.Name))
 | [], m + 1, out, i, h, _, _ => by rw [r22_defNames_L0, if_neg (drop_nil' h)]; simp
 | x :: t, m + 1, out, i, h, hm, hb => by
  obtain ⟨h1, h2, h3⟩ := drop_cons h
  rw [List.length_cons] at hb
  rw [r22_defNames_L0, if_pos h1, h2, bind_some', chk_pos (by simp; omega), rdn_L0 n l t m _ (i + 1) h3 (by simpa using hm) (by simp; omega)]
  simp
theorem rdn_eq (n : Nat) (l : List Def) (hl : l.length < n) (hb : l.length ≤ 1000000000) : r22_defNames n l = some (l.map (·.Name)) := by
 unfold r22_defNames
 rw [rdn_L0 n l l n [] 0 rfl hl (by simp; omega)]
 simp
theorem rrn_L0 (n : Nat) (q : Module) (k : List Nm → Option (List Nm)) : ∀ (t : List EntryDecl) (m : Nat) (out : List Nm) (i : Nat), q.Entries.drop i = t → t.length < m → out.length + t.length ≤ 10000000000 → r22_ruleNames_L0 n q k m out i = k (out ++ t.map (·.Def.Name))
 | [], m + 1, out, i, h, _, _ => by rw [r22_ruleNames_L0, if_neg (drop_nil' h)]; simp
 | x :: t, m + 1, out, i, h, hm, hb => by
  obtain ⟨h1, h2, h3⟩ := drop_cons h
  rw [List.length_cons] at hb
  rw [r22_ruleNames_L0, if_pos h1, h2, bind_some', chk_pos (by simp; omega), rrn_L0 n q k t m _ (i + 1) h3 (by simpa using hm) (by simp; omega)]
  simp
theorem rrn_L1 (n : Nat) (q : Module) (k : List Nm → Option (List Nm)) : ∀ (t : List LexDecl) (m : Nat) (out : List Nm) (i : Nat), q.LexRules.drop i = t → t.length < m → out.length + t.length ≤ 10000000000 → r22_ruleNames_L1 n q k m out i = k (out ++ t.map (·.Def.Name))
 | [], m + 1, out, i, h, _, _ => by rw [r22_ruleNames_L1, if_neg (drop_nil' h)]; simp
 | x :: t, m + 1, out, i, h, hm, hb => by
  obtain ⟨h1, h2, h3⟩ := drop_cons h
  rw [List.length_cons] at hb
  rw [r22_ruleNames_L1, if_pos h1, h2, bind_some', chk_pos (by simp; omega), rrn_L1 n q k t m _ (i + 1) h3 (by simpa using hm) (by simp; omega)]
  simp
theorem rrn_eq (n : Nat) (hn : 10000000000 ≤ n) (q : Module) (hq : LenOk 900000000 q) : r22_ruleNames n q = some (ruN q) := by
 obtain ⟨h1, h2, h3, h4, h5, h6, h7, h8, h9⟩ := hq
 unfold r22_ruleNames
 rw [jn_def, rrn_L0 n q _ q.Entries n [] 0 rfl (by omega) (by simp; omega), jn_def, rrn_L1 n q _ q.LexRules n _ 0 rfl (by omega) (by simp; omega), rdn_eq n _ (by omega) (by omega), bind_some', chk_pos (by simp; omega)]
 simp [ruN]
def defsR (q : Module) : List Def := q.Templates ++ q.Entries.map (·.Def) ++ q.LexRules.map (·.Def) ++ q.Rules ++ q.Roots
theorem defsR_mem (q : Module) (x : Def) : x ∈ defsR q ↔ x ∈ defsM q := by
 unfold defsR defsM
 simp only [List.mem_append]
 constructor
 ·rintro ((((h | h) | h) | h) | h)
  ·exact .inl (.inl (.inl (.inl h)))
  ·exact .inl (.inr h)
  ·exact .inr h
  ·exact .inl (.inl (.inl (.inr h)))
  ·exact .inl (.inl (.inr h))
 ·rintro ((((h | h) | h) | h) | h)
  ·exact .inl (.inl (.inl (.inl h)))
  ·exact .inl (.inr h)
  ·exact .inr h
  ·exact .inl (.inl (.inl (.inr h)))
  ·exact .inl (.inl (.inr h))
theorem rdefs_L0 (n : Nat) (q : Module) (k : List Def → Option (List Def)) : ∀ (t : List EntryDecl) (m : Nat) (out : List Def) (i : Nat), q.Entries.drop i = t → t.length < m → out.length + t.length ≤ 10000000000 → r22_definitions_L0 n q k m out i = k (out ++ t.map (·.Def))
 | [], m + 1, out, i, h, _, _ => by rw [r22_definitions_L0, if_neg (drop_nil' h)]; simp
 | x :: t, m + 1, out, i, h, hm, hb => by
  obtain ⟨h1, h2, h3⟩ := drop_cons h
  rw [List.length_cons] at hb
  rw [r22_definitions_L0, if_pos h1, h2, bind_some', chk_pos (by simp; omega), rdefs_L0 n q k t m _ (i + 1) h3 (by simpa using hm) (by simp; omega)]
  simp
theorem rdefs_L1 (n : Nat) (q : Module) (k : List Def → Option (List Def)) : ∀ (t : List LexDecl) (m : Nat) (out : List Def) (i : Nat), q.LexRules.drop i = t → t.length < m → out.length + t.length ≤ 10000000000 → r22_definitions_L1 n q k m out i = k (out ++ t.map (·.Def))
 | [], m + 1, out, i, h, _, _ => by rw [r22_definitions_L1, if_neg (drop_nil' h)]; simp
 | x :: t, m + 1, out, i, h, hm, hb => by
  obtain ⟨h1, h2, h3⟩ := drop_cons h
  rw [List.length_cons] at hb
  rw [r22_definitions_L1, if_pos h1, h2, bind_some', chk_pos (by simp; omega), rdefs_L1 n q k t m _ (i + 1) h3 (by simpa using hm) (by simp; omega)]
  simp
theorem rdefs_eq (n : Nat) (hn : 1000000 ≤ n) (q : Module) (hq : QOk 400000 q) : r22_definitions n q = some (defsR q) := by
 obtain ⟨h1, h2, h3, h4, h5, h6, h7, h8, h9⟩ := hq.lens
 unfold r22_definitions
 rw [chk_pos (by omega), jn_def, rdefs_L0 n q _ q.Entries n _ 0 rfl (by omega) (by omega), jn_def, rdefs_L1 n q _ q.LexRules n _ 0 rfl (by omega) (by simp; omega), chk_pos (by simp; omega), chk_pos (by simp; omega)]
 rfl
theorem Named_L0 (n : Nat) (d : Desc) (op : Int) (k : Nat) (self : Desc → Int → List Nm → Option (List Nm)) (hs : ∀ x ∈ d.Kids, ∀ c : List Nm, c.Pairwise (· < ·) → c.length + szD k x ≤ 100000 → self x op c = some (wSL (nmD op k x) c)) : ∀ (t : List Desc) (m : Nat) (c : List Nm) (i : Nat), d.Kids.drop i = t → t.length < m → c.Pairwise (· < ·) → c.length + (t.map (szD k)).sum ≤ 100000 → r19_Named_L0 n d op self m c i = some (wSL (t.flatMap (nmD op k)) c)
 | [], m + 1, c, i, h, _, _, _ => by rw [r19_Named_L0, if_neg (drop_nil' h)]; rfl
 | x :: t, m + 1, c, i, h, hm, hp, hb => by
  obtain ⟨a1, a2, a3⟩ := drop_cons h
  rw [List.map_cons, List.sum_cons] at hb
  have b1 := nmD_len op k x
  have b2 := wSL_len (nmD op k x) c hp
  rw [r19_Named_L0, if_pos a1, a2, bind_some', hs x (List.mem_of_getElem? a2) c hp (by omega), bind_some', Named_L0 n d op k self hs t m _ (i + 1) a3 (by simpa using hm) (wSL_spec _ _ hp).1 (by omega), List.flatMap_cons, wSL_append]
theorem Named_eq (op : Int) : ∀ (k n : Nat) (d : Desc) (c : List Nm), DOk k d → k + 200000 ≤ n → c.Pairwise (· < ·) → c.length + szD k d ≤ 100000 → r19_Named n d op c = some (wSL (nmD op k d) c)
 | 0, n, d, c, h, _, _, _ => h.elim
 | k + 1, 0, d, c, h, hn, _, _ => by omega
 | k + 1, n + 1, d, c, h, hn, hp, hb => by
  obtain ⟨_, _, _, hk, hd⟩ := h
  replace hb : c.length + (1 + (d.Kids.map (szD k)).sum) ≤ 100000 := hb
  have L := fun c' g1 g2 => Named_L0 n d op k (r19_Named n) (fun x hx e f0 f1 => Named_eq op k n x e (hd x hx) (by omega) f0 f1) d.Kids n c' 0 rfl (by omega) g1 g2
  have hw := wS_len d.Name c hp
  rw [r19_Named, jn_def]
  by_cases o1 : d.Op = op
  ·rw [if_pos o1, With_eq n c d.Name (by omega) (by omega), bind_some']
   refine (L (wS d.Name false c) (wS_spec _ _ hp).1 (by omega)).trans ?_
   simp only [nmD, if_pos o1, wSL_append]
   rfl
  ·rw [if_neg o1]
   refine (L c hp (by omega)).trans ?_
   simp only [nmD, if_neg o1, List.nil_append]
theorem r19_Names_eq (n : Nat) (hn : 1000000 ≤ n) (d : Desc) (hd : GD d) : ∃ a b, r19_Names n d = some (a, b) ∧ (∀ y, y ∈ a ↔ y ∈ nmD 1 80 d) ∧ (∀ y, y ∈ b ↔ y ∈ nmD 2 80 d) ∧ a.length ≤ 40 ∧ b.length ≤ 40 := by
 have b1 := nmD_len 1 80 d
 have b2 := nmD_len 2 80 d
 have h40 := hd.2
 have l1 := wSL_len (nmD 1 80 d) [] .nil
 have l2 := wSL_len (nmD 2 80 d) [] .nil
 rw [List.length_nil] at l1 l2
 refine ⟨wSL (nmD 1 80 d) [], wSL (nmD 2 80 d) [], ?_, fun y => ?_, fun y => ?_, by omega, by omega⟩
 ·unfold r19_Names
  rw [Named_eq 1 80 n d [] hd.1 (by omega) .nil (by simp; omega), bind_some', Named_eq 2 80 n d [] hd.1 (by omega) .nil (by simp; omega), bind_some']
 ·rw [(wSL_spec (nmD 1 80 d) [] .nil).2 y]; simp
 ·rw [(wSL_spec (nmD 2 80 d) [] .nil).2 y]; simp
theorem used_L1 (n : Nat) (k : List Nm → Option (List Nm)) (x : TypeDecl) : ∀ (t : List FeatDecl) (m : Nat) (out : List Nm) (i : Nat), x.Feats.drop i = t → t.length < m → out.length + t.length ≤ 100000000000 → r22_used_L1 n k x m out i = k (out ++ t.map (·.Value))
 | [], m + 1, out, i, h, _, _ => by rw [r22_used_L1, if_neg (drop_nil' h)]; simp
 | f :: t, m + 1, out, i, h, hm, hb => by
  obtain ⟨h1, h2, h3⟩ := drop_cons h
  rw [List.length_cons] at hb
  rw [r22_used_L1, if_pos h1, h2, bind_some', chk_pos (by simp; omega), used_L1 n k x t m _ (i + 1) h3 (by simpa using hm) (by simp; omega)]
  simp
theorem used_L0 (n : Nat) (hn : 1000 ≤ n) (q : Module) (hq : ∀ x ∈ q.Types, TyOk x) (k : List Nm → Option (List Nm)) : ∀ (t : List TypeDecl) (m : Nat) (out : List Nm) (i : Nat), q.Types.drop i = t → t.length < m → out.length + 520 * t.length ≤ 100000000000 → r22_used_L0 n q k m out i = k (out ++ t.flatMap uT)
 | [], m + 1, out, i, h, _, _ => by rw [r22_used_L0, if_neg (drop_nil' h)]; simp
 | x :: t, m + 1, out, i, h, hm, hb => by
  obtain ⟨h1, h2, h3⟩ := drop_cons h
  rw [List.length_cons] at hb
  have hx := hq x (List.mem_of_getElem? h2)
  have a1 := hx.2.1.1
  have a2 := hx.2.2.1
  rw [r22_used_L0, if_pos h1, jn_def, h2, bind_some', chk_pos (by omega), used_L1 n _ x x.Feats n _ 0 rfl (by omega) (by simp; omega), used_L0 n hn q hq k t m _ (i + 1) h3 (by simpa using hm) (by simp; omega)]
  simp [uT]
theorem used_L4 (n : Nat) (k : List Nm → Option (List Nm)) (r : List Nm × List Nm) (hr : ∀ x ∈ r.2, x.length ≤ 60) : ∀ (t : List Nm) (m : Nat) (out : List Nm) (i : Nat), r.2.drop i = t → t.length < m → out.length + t.length ≤ 100000000000 → r22_used_L4 n k r m out i = k (out ++ t.map (fun z => [64] ++ z))
 | [], m + 1, out, i, h, _, _ => by rw [r22_used_L4, if_neg (drop_nil' h)]; simp
 | x :: t, m + 1, out, i, h, hm, hb => by
  obtain ⟨h1, h2, h3⟩ := drop_cons h
  rw [List.length_cons] at hb
  have hx := hr x (List.mem_of_getElem? h2)
  rw [r22_used_L4, if_pos h1, h2, bind_some', chk_pos (by simp; omega), chk_pos (by simp; omega), used_L4 n k r hr t m _ (i + 1) h3 (by simpa using hm) (by simp; omega)]
  simp
theorem used_L3 (n : Nat) (hn : 1000000 ≤ n) (r : List Def) (j : Nat) (x : Def) (hj : r[j]? = some x) (k : List Nm → Option (List Nm)) (hx : ∀ d ∈ x.Strict :: x.Defaults, GD d) (h8 : x.Defaults.length ≤ 8) : ∀ (t : List Desc) (m : Nat) (out : List Nm) (i : Nat), (x.Strict :: x.Defaults).drop i = t → t.length < m → out.length + 80 * t.length ≤ 100000000000 → ∃ e, r22_used_L3 n r j k m out ((i : Int) - 1) = k (out ++ e) ∧ (∀ y, y ∈ e ↔ ∃ d ∈ t, DUse d y) ∧ e.length ≤ 80 * t.length
 | [], m + 1, out, i, h, _, _ => by
  have hi := drop_nil' h
  rw [List.length_cons] at hi
  exact ⟨[], by rw [r22_used_L3, hj, bind_some', if_neg (by omega)]; simp, by simp, by simp⟩
 | d :: t, m + 1, out, i, h, hm, hb => by
  obtain ⟨h1, h2, h3⟩ := drop_cons h
  rw [List.length_cons] at hb h1
  have hd := hx d (List.mem_of_getElem? h2)
  obtain ⟨a, b, e1, am, bm, al, bl⟩ := r19_Names_eq n hn d hd
  obtain ⟨e, e2, em, el⟩ := used_L3 n hn r j x hj k hx h8 t m (out ++ a ++ b.map (fun z => [64] ++ z)) (i + 1) h3 (by simpa using hm) (by simp; omega)
  refine ⟨a ++ b.map (fun z => [64] ++ z) ++ e, ?_, fun y => ?_, ?_⟩
  ·rw [r22_used_L3, hj, bind_some', if_pos (by omega), jn_def]
   have hi' : (i : Int) - 1 + 1 = ((i + 1 : Nat) : Int) - 1 := by omega
   have key : ((r19_Names n d).bind fun r115 => chk (out.length + r115.1.length ≤ 137438953472) (r22_used_L4 n (fun t_86 => chk (-9223372036854775808 ≤ (i : Int) - 1 + 1 ∧ (i : Int) - 1 + 1 ≤ 9223372036854775807) (r22_used_L3 n r j k m t_86 ((i : Int) - 1 + 1))) r115 n (out ++ r115.1) 0)) = k (out ++ (a ++ b.map (fun z => [64] ++ z) ++ e)) := by
    rw [e1, bind_some', chk_pos (by dsimp only; omega)]
    show r22_used_L4 n _ (a, b) n (out ++ a) 0 = _
    rw [used_L4 n _ (a, b) (fun z hz => nmD_short 2 80 d hd.1 z ((bm z).1 hz)) b n _ 0 rfl (by omega) (by simp; omega), chk_pos (by omega), hi', e2]
    simp
   have hmk : Desc.mk d.Op d.Name d.Path d.Kids = d := by cases d; rfl
   rw [← hmk] at key
   rw [jn_def]
   cases i with
   | zero =>
    rw [if_neg (by omega)]
    have hds : x.Strict = d := by simpa using h2
    rw [hds]
    exact key
   | succ i =>
    have hdd : x.Defaults[i]? = some d := by simpa using h2
    have hi2 : ((i + 1 : Nat) : Int) - 1 = (i : Int) := by omega
    rw [if_pos (by omega), show ix x.Defaults (((i + 1 : Nat) : Int) - 1) = some d by rw [hi2, ix_nat]; exact hdd, bind_some']
    exact key
  ·rw [List.mem_append, List.mem_append, em y, am y, List.mem_map]
   simp only [List.mem_cons, exists_eq_or_imp]
   unfold DUse
   constructor
   ·rintro ((h | ⟨z, hz, rfl⟩) | h)
    ·exact .inl (.inl h)
    ·exact .inl (.inr ⟨z, (bm z).1 hz, rfl⟩)
    ·exact .inr h
   ·rintro ((h | ⟨z, hz, rfl⟩) | h)
    ·exact .inl (.inl h)
    ·exact .inl (.inr ⟨z, (bm z).2 hz, rfl⟩)
    ·exact .inr h
  ·simp; omega
theorem used_L2 (n : Nat) (hn : 1000000 ≤ n) (r : List Def) (hr : ∀ x ∈ r, DfOk x) : ∀ (t : List Def) (m : Nat) (out : List Nm) (i : Nat), r.drop i = t → t.length < m → out.length + 720 * t.length ≤ 100000000000 → ∃ e, r22_used_L2 n r m out i = some (out ++ e) ∧ (∀ y, y ∈ e ↔ ∃ x ∈ t, FUse x y) ∧ e.length ≤ 720 * t.length
 | [], m + 1, out, i, h, _, _ => ⟨[], by rw [r22_used_L2, if_neg (drop_nil' h)]; simp, by simp, by simp⟩
 | x :: t, m + 1, out, i, h, hm, hb => by
  obtain ⟨h1, h2, h3⟩ := drop_cons h
  rw [List.length_cons] at hb
  have hx := hr x (List.mem_of_getElem? h2)
  have h8 := hx.2.1
  have hl : (x.Strict :: x.Defaults).length ≤ 9 := by simp; omega
  obtain ⟨e, e2, em, el⟩ := used_L3 n hn r i x h2 (fun t_70 => r22_used_L2 n r m t_70 (i + 1)) hx.gd h8 (x.Strict :: x.Defaults) n out 0 rfl (by omega) (by omega)
  obtain ⟨e', e2', em', el'⟩ := used_L2 n hn r hr t m (out ++ e) (i + 1) h3 (by simpa using hm) (by rw [List.length_append]; omega)
  refine ⟨e ++ e', ?_, fun y => ?_, by rw [List.length_append, List.length_cons]; omega⟩
  ·rw [r22_used_L2, if_pos h1, jn_def]
   show r22_used_L3 n r i (fun t_70 => r22_used_L2 n r m t_70 (i + 1)) n out (((0 : Nat) : Int) - 1) = _
   rw [e2, e2']
   simp
  ·rw [List.mem_append, em y, em' y]
   simp only [List.mem_cons, exists_eq_or_imp, FUse]
theorem used_eq (n : Nat) (hn : 10000000 ≤ n) (q : Module) (hq : QOk 400000 q) : ∃ u, r22_used n q = some u ∧ u.length ≤ 10000000000 ∧ ∀ y, y ∈ u ↔ Uses q y := by
 obtain ⟨h1, h2, h3, h4, h5, h6, h7, h8, h9⟩ := hq.lens
 have hdl : (defsR q).length ≤ 5 * 400000 := by unfold defsR; simp; omega
 have hu := uT_flat q.Types hq.types
 obtain ⟨e, e2, em, el⟩ := used_L2 n (by omega) (defsR q) (fun x hx => hq.defs x ((defsR_mem q x).1 hx)) (defsR q) n (q.Types.flatMap uT) 0 rfl (by omega) (by omega)
 refine ⟨q.Types.flatMap uT ++ e, ?_, by rw [List.length_append]; omega, fun y => ?_⟩
 ·unfold r22_used
  rw [jn_def, used_L0 n (by omega) q hq.types _ q.Types n [] 0 rfl (by omega) (by simp; omega), rdefs_eq n (by omega) q hq, bind_some', List.nil_append, e2]
 ·rw [List.mem_append, em y, List.mem_flatMap]
  unfold Uses
  simp only [uT_mem, defsR_mem]
theorem rLink_L1 (n : Nat) (k : Option (Module × Int)) (v u : List Nm) (hv : v.length < n) : ∀ (t : List Nm) (m i : Nat), u.drop i = t → t.length < m → (r22_Link_L1 n k v u m i = k ∧ ∀ y ∈ t, y ∈ v) ∨ (r22_Link_L1 n k v u m i = some (zM, 5) ∧ ∃ y ∈ t, y ∉ v)
 | [], m + 1, i, h, _ => .inl ⟨by rw [r22_Link_L1, if_neg (drop_nil' h)], by simp⟩
 | x :: t, m + 1, i, h, hm => by
  obtain ⟨h1, h2, h3⟩ := drop_cons h
  rw [r22_Link_L1, if_pos h1, h2, bind_some', has_eq n v x hv, bind_some']
  by_cases c : x ∈ v
  ·rw [if_neg (by simp [c])]
   rcases rLink_L1 n k v u hv t m (i + 1) h3 (by simpa using hm) with ⟨a1, a2⟩ | ⟨a1, z, a2, a3⟩
   ·exact .inl ⟨a1, fun y hy => by
     rcases List.mem_cons.1 hy with rfl | hy
     ·exact c
     ·exact a2 y hy⟩
   ·exact .inr ⟨a1, z, by simp [a2], a3⟩
  ·rw [if_pos (by simp [c])]
   exact .inr ⟨rfl, x, by simp, c⟩
theorem rLink_L0 (n : Nat) (hn : 100000000000 ≤ n) (l : List Module) (hl : l.length < n) (o : List Nm) (e : Int) (hf : ∀ x ∈ o, (fm l x).isSome = true) (V : Nm → Nm → Prop) (hq : ∀ x ∈ o, QOk 400000 (mX l x)) (hv : ∀ x ∈ o, ∃ v, r22_Visible n l x = some v ∧ v.length ≤ 10000000000 ∧ ∀ y, y ∈ v ↔ V x y) (k : Option (Module × Int)) : ∀ (t : List Nm) (m i : Nat), o.drop i = t → t.length < m → (r22_Link_L0 n l (o, e) k m i = k ∧ ∀ x ∈ t, ∀ y, Uses (mX l x) y → V x y) ∨ (r22_Link_L0 n l (o, e) k m i = some (zM, 5) ∧ ∃ x ∈ t, ∃ y, Uses (mX l x) y ∧ ¬ V x y)
 | [], m + 1, i, h, _ => .inl ⟨by rw [r22_Link_L0, if_neg (drop_nil' h)], by simp⟩
 | x :: t, m + 1, i, h, hm => by
  obtain ⟨h1, h2, h3⟩ := drop_cons h
  have hx := List.mem_of_getElem? h2
  obtain ⟨j, ej, hj⟩ := find_eq n l x hl
  rcases hj with ⟨_, hn'⟩ | ⟨kk, q, rfl, a2, a3, _⟩
  ·have := hf x hx
   rw [hn'] at this; cases this
  have hX : mX l x = q := by unfold mX; rw [a3]; rfl
  obtain ⟨v, ev, vl, vm⟩ := hv x hx
  have hqx := hq x hx
  rw [hX] at hqx
  obtain ⟨u, eu, ul, um⟩ := used_eq n (by omega) q hqx
  have ih := rLink_L0 n hn l hl o e hf V hq hv k t m (i + 1) h3 (by simpa using hm)
  rw [r22_Link_L0, if_pos h1, jn_def]
  have e1 : (((o, e) : List Nm × Int).1)[i]? = some x := h2
  rw [e1, bind_some', ev, bind_some', ej, bind_some', ix_nat, a2, bind_some', eu, bind_some']
  rcases rLink_L1 n (r22_Link_L0 n l (o, e) k m (i + 1)) v u (by omega) u n 0 rfl (by omega) with ⟨b1, b2⟩ | ⟨b1, y, b2, b3⟩
  ·rw [b1]
   rcases ih with ⟨c1, c2⟩ | ⟨c1, z, c2, c3⟩
   ·refine .inl ⟨c1, fun z hz => ?_⟩
    rcases List.mem_cons.1 hz with rfl | hz
    ·rw [hX]; exact fun y hy => (vm y).1 (b2 y ((um y).2 hy))
    ·exact c2 z hz
   ·exact .inr ⟨c1, z, by simp [c2], c3⟩
  ·exact .inr ⟨b1, x, by simp, y, by rw [hX]; exact (um y).1 b2, fun h => b3 ((vm y).2 h)⟩
theorem rLink_spec (n : Nat) (hn : 100000000000 ≤ n) (l : List Module) (hl : l.length < n) (a : Nm) (o : List Nm) (ho : r22_Order n l a = some (o, 0)) (hol : o.length ≤ 1537) (hf : ∀ x ∈ o, (fm l x).isSome = true) (V : Nm → Nm → Prop) (hq : ∀ x ∈ o, QOk 400000 (mX l x)) (hv : ∀ x ∈ o, ∃ v, r22_Visible n l x = some v ∧ v.length ≤ 10000000000 ∧ ∀ y, y ∈ v ↔ V x y) : ∃ r, r22_Link n l a = some r ∧ LR l a o V r := by
 have hJ := (QOk.join a hq hol).mono (show 400000 * 1537 ≤ 900000000 by omega)
 have hp := PRE_len
 have hL := hJ.lens
 have eJ : r22_joined n l o a = some (joinP l a o) := by
  unfold r22_joined
  rw [jn_def, rjoined_L0 n l hl o hf (fun x hx => (hq x hx).lens) _ o n 0 [] [] [] [] [] [] [] [] rfl (by omega) (by simp; omega) (by simp; omega) (by simp; omega) (by simp; omega) (by simp; omega) (by simp; omega) (by simp; omega) (by simp; omega)]
  simp only [List.nil_append]
  rfl
 unfold r22_Link
 rw [ho, bind_some', if_neg (by simp)]
 show ∃ r, ((r22_joined n l o a).bind _) = some r ∧ _
 rw [eJ, bind_some', jn_def]
 have hfin := rLink_L0 n hn l hl o 0 hf V hq hv (some (joinP l a o, 0)) o n 0 rfl (by omega)
 obtain ⟨h1, h2, h3, h4, h5, h6, h7, h8, h9⟩ := hL
 rw [rpre n (by omega), bind_some', rtn_eq n PRE (by omega) (by omega), bind_some', rtn_eq n _ (by omega) (by omega), bind_some', chk_pos (by simp; omega), rtwice_eq n _ (by simp; omega), bind_some']
 by_cases c1 : (PRE.map (·.Name) ++ (joinP l a o).Types.map (·.Name)).Nodup
 ·rw [if_neg (by simp [c1]), rdn_eq n _ (by omega) (by omega), bind_some', rtwice_eq n _ (by simp; omega), bind_some']
  by_cases c2 : ((joinP l a o).Templates.map (·.Name)).Nodup
  ·rw [if_neg (by simp [c2]), rrn_eq n (by omega) _ ⟨h1, h2, h3, h4, h5, h6, h7, h8, h9⟩, bind_some', rtwice_eq n _ (by simp [ruN]; omega), bind_some']
   by_cases c3 : (ruN (joinP l a o)).Nodup
   ·rw [if_neg (by simp [c3]), rdn_eq n _ (by omega) (by omega), bind_some', rtwice_eq n _ (by simp; omega), bind_some']
    by_cases c4 : ((joinP l a o).Roots.map (·.Name)).Nodup
    ·have hu : Uniq (joinP l a o) := ⟨c1, c2, c3, c4⟩
     rw [show (decide ¬ ((joinP l a o).Roots.map (·.Name)).Nodup) = false by simp [c4]]
     show ∃ r, (jn (some (joinP l a o, 0)) (fun k119 => r22_Link_L0 n l (o, 0) k119 n 0)) = some r ∧ _
     rw [jn_def]
     rcases hfin with ⟨g1, g2⟩ | ⟨g1, g2⟩
     ·exact ⟨_, g1, .ok hu g2⟩
     ·exact ⟨_, g1, .miss hu g2⟩
    ·rw [show (decide ¬ ((joinP l a o).Roots.map (·.Name)).Nodup) = true by simp [c4]]
     exact ⟨_, rfl, .dup (fun k => c4 k.2.2.2)⟩
   ·rw [if_pos (by simp [c3])]
    exact ⟨_, rfl, .dup (fun k => c3 k.2.2.1)⟩
  ·rw [if_pos (by simp [c2])]
   exact ⟨_, rfl, .dup (fun k => c2 k.2.1)⟩
 ·rw [if_pos (by simp [c1])]
  exact ⟨_, rfl, .dup (fun k => c1 k.1)⟩
theorem Links_main (n : Nat) (hn : 100000000000 ≤ n) (hex : law22_exampleHolds n = some true) (l : List Module) (a : Nm) (k : Nat) (hk : k < n) (hl : ∀ q ∈ l, LenOk k q) : law22_ModuleLinks n l a = some true := by
 obtain ⟨b, e, hb⟩ := light_eq n (by omega) l k hk hl
 unfold law22_ModuleLinks
 rw [e, bind_some']
 have done : ((law22_exampleHolds n).bind fun r => some r) = some true := by rw [hex]; rfl
 cases b with
 | false => rw [if_pos (by rfl)]; exact done
 | true =>
  have hl := hb rfl
  have hlen := hl.len
  obtain ⟨r, er, hr⟩ := mLink_eq n hn l hl a
  have hr2 : r22_Link n l a = some r := by
   obtain ⟨f, hO, eo⟩ := rOrder_eq n l hl (by omega) a
   cases hr with
   | @err e k1 k2 =>
    obtain rfl := hO.same k1
    unfold r22_Link
    rw [eo, bind_some', if_neg k2, if_pos k2]
    rfl
   | ok k1 k2 k3 =>
    obtain rfl := hO.same k1
    have R := OrdR.of hl k2
    rw [if_pos rfl] at eo
    have hF : ∀ x ∈ vOrd l a, (fm l x).isSome = true := fun x hx => by
     cases k1 with
     | ok _ hm _ => exact fnd_iff.2 (nmiss hm x ((R.mem x).1 hx))
    obtain ⟨s, es, hs⟩ := rLink_spec n hn l (by omega) a _ eo R.len hF (VisSet l) (fun x _ => (hl.x x).mono (by omega)) (fun x _ => by
     obtain ⟨o, e, ho⟩ := rVisible_eq n l hl (by omega) x
     exact ⟨o, e, by have := ho.len; omega, ho.mem⟩)
    rw [es, hs.same k3 (fun _ _ => rfl) (fun _ _ _ => Iff.rfl)]
  rw [if_neg (by simp), er, bind_some', hr2, bind_some', if_pos rfl, SameModule_refl n (by omega) r.1 (hr.q hl), bind_some', if_pos rfl, done]
end Go.Proofs.YtbhjplflnkidgaaGreat
end
section
namespace Go.Proofs.YtbhjplflnkidgaaGreat
open Go.Gl Go.Sort
set_option linter.unusedVariables false
set_option linter.unusedSimpArgs false
theorem lens_of {M : Bs} {w : World} {A : Option Addr} {n c : Nat} {l : List Module} (h : SlR RModule M w A n c l) : ∀ q ∈ l, LenOk 9223372036854775807 q := fun q hq => by
 cases l with
 | nil => cases hq
 | cons x t =>
  obtain rfl := h.len
  obtain ⟨p, rfl⟩ := h.some_ (by simp)
  obtain ⟨cs, hr, _, _, _⟩ := h.cells
  obtain ⟨i, hi⟩ := List.getElem?_of_mem hq
  obtain ⟨_, _, _, _, _, _, _, _, _, _, _, _, _, _, _, _, _, _, _, _, h2, h3, h4, h5, h6, h7, h8, h9, h10⟩ := RModule.open (hr.at_ i q hi)
  exact ⟨SlR.mx h2, SlR.mx h3, SlR.mx h4, SlR.mx h5, SlR.mx h6, SlR.mx h7, SlR.mx h8, SlR.mx h9, SlR.mx h10⟩
end Go.Proofs.YtbhjplflnkidgaaGreat
end
section
namespace Go.Proofs.YtbhjplflnkidgaaGreat
open Go.Gl Go.Sort
theorem law22_ModuleLinks_true (l : List Module) (a : Nm) (h : ∀ q ∈ l, LenOk 9223372036854775807 q) : law22_ModuleLinks 18446744073709551616 l a = some true :=
 Links_main 18446744073709551616 (by omega) ex22 l a 9223372036854775807 (by omega) h
end Go.Proofs.YtbhjplflnkidgaaGreat
end
