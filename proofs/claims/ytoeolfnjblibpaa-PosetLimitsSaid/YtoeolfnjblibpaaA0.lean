/- Chapter 03: slices.Sort and slices.Compact at strings, by the shelf's contracts -/
import Derived.Test.YtoeolfnjblibpaaGl26
import Derived.Test.YtoeolfnjblibpaaShelf
import Derived.Test.YtoeolfnjblibpaaProg
namespace Go.Proofs.Ytoeolfnjblibpaa
open Go.Gl Go.RowKit Go.Sort
set_option linter.unusedVariables false
set_option linter.unusedSimpArgs false
/-! sorting by insertion -/
def insS (x : List UInt8) : List (List UInt8) → List (List UInt8)
  | [] => [x]
  | y :: t => if x ≤ y then x :: y :: t else y :: insS x t
def sortS : List (List UInt8) → List (List UInt8)
  | [] => []
  | x :: t => insS x (sortS t)
theorem insS_perm (x : List UInt8) : ∀ l, (insS x l).Perm (x :: l)
  | [] => .refl _
  | y :: t => by
    unfold insS
    split
    · exact .refl _
    · exact ((insS_perm x t).cons y).trans (.swap x y t)
theorem sortS_perm : ∀ l, (sortS l).Perm l
  | [] => .refl _
  | x :: t => (insS_perm x _).trans ((sortS_perm t).cons x)
theorem le_of_not {x y : List UInt8} (h : ¬ x ≤ y) : y ≤ x := (List.le_total x y).resolve_left h
theorem insS_sorted (x : List UInt8) : ∀ l, l.Pairwise (· ≤ ·) → (insS x l).Pairwise (· ≤ ·)
  | [], _ => by simp [insS]
  | y :: t, h => by
    obtain ⟨h1, h2⟩ := List.pairwise_cons.1 h
    unfold insS
    split
    · rename_i hx
      refine List.pairwise_cons.2 ⟨fun z hz => ?_, h⟩
      rcases List.mem_cons.1 hz with rfl | hz
      · exact hx
      · exact List.le_trans hx (h1 z hz)
    · rename_i hx
      refine List.pairwise_cons.2 ⟨fun z hz => ?_, insS_sorted x t h2⟩
      rcases List.mem_cons.1 ((insS_perm x t).mem_iff.1 hz) with rfl | hz
      · exact le_of_not hx
      · exact h1 z hz
theorem sortS_sorted : ∀ l, (sortS l).Pairwise (· ≤ ·)
  | [] => .nil
  | x :: t => insS_sorted x _ (sortS_sorted t)
theorem sortS_len (l : List (List UInt8)) : (sortS l).length = l.length := (sortS_perm l).length_eq
theorem eq_of_perm : ∀ (a b : List (List UInt8)), a.Perm b → a.Pairwise (· ≤ ·) → b.Pairwise (· ≤ ·) → a = b
  | [], b, h, _, _ => (List.nil_perm.1 h).symm
  | x :: a, [], h, _, _ => by have := h.length_eq; simp at this
  | x :: a, y :: b, h, ha, hb => by
    obtain ⟨a1, a2⟩ := List.pairwise_cons.1 ha
    obtain ⟨b1, b2⟩ := List.pairwise_cons.1 hb
    have hxy : x = y := by
      have h1 : x ∈ y :: b := h.mem_iff.1 (by simp)
      have h2 : y ∈ x :: a := h.mem_iff.2 (by simp)
      rcases List.mem_cons.1 h1 with h1 | h1
      · exact h1
      rcases List.mem_cons.1 h2 with h2 | h2
      · exact h2.symm
      exact List.le_antisymm (a1 y h2) (b1 x h1)
    subst hxy
    rw [eq_of_perm a b (List.perm_cons x |>.1 h) a2 b2]
theorem mergeSort_eq (l : List (List UInt8)) : (l.mergeSort fun x y => decide (x ≤ y)) = sortS l := by
  refine eq_of_perm _ _ ((List.mergeSort_perm _ _).trans (sortS_perm l).symm) ?_ (sortS_sorted l)
  have := List.pairwise_mergeSort (le := fun x y : List UInt8 => decide (x ≤ y)) (fun a b c h1 h2 => by simp only [decide_eq_true_eq] at *; exact List.le_trans h1 h2) (fun a b => by simp only [Bool.or_eq_true, decide_eq_true_eq]; exact List.le_total a b) l
  exact this.imp (fun h => by simpa using h)
theorem row_n {M C : Bs} {w : World} {A : Option Addr} {n c k j : Nat} {e : TypeId} {x : List (List UInt8)} {cs : List Value} (hW : Wd ⟨0, M, C, w⟩ [(k, Ob.row A n c e 1 cs)] [(j, rdF Rep.str cs x)] w) : n = x.length := by
  have h' : w.ownsRow 0 e 1 (.slice A n c) n cs := hW.holds k _ (look_same _ _ _)
  have hr : RdAll Rep.str _ w cs x := hW.facts j _ (look_same _ _ _)
  have hl := h'.1
  rw [strs_of hr, strs_len] at hl
  omega
/-- slices.Sort of strings -/
def slices_Sort_string (n : Nat) (x_ : List (List UInt8)) : Option (List (List UInt8)) :=
  chk (x_.length < 4611686018427387904) (some (sortS x_))
theorem c_slices_Sort_string (n : Nat) (M : Bs) (w0 : World) (hM : ∀ b, M b → b < w0.heap.size) {nn : Nat} (C : Bs) (x_ : List (List UInt8)) (A : Option Addr) (c : Nat) (cs : List Value) (hW : Wd ⟨0, M, C, w0⟩ [(9200000, Ob.row A nn c 9 1 cs)] [(9300000, rdF Rep.str cs x_)] w0) (r : List (List UInt8)) (hg : slices_Sort_string n x_ = some r) :
    Calls Try.prog 57 [.slice A nn c].toArray w0 (Ret C w0 fun v w => ∃ (csm0_0 : List Value), v = .tuple #[] ∧ Wd ⟨0, M, C, w0⟩ [(9200000, Ob.row A nn c 9 1 csm0_0)] [(9300000, rdF Rep.str csm0_0 r)] w) := by
  obtain ⟨h1, hg⟩ := chk_some hg
  obtain rfl := Option.some.inj hg
  obtain rfl := row_n hW
  rcases Decidable.em (x_ = []) with rfl | hx
  · refine (Try.slices_Sort_string_none A c w0).mono ?_
    rintro e w' ⟨rfl, rfl⟩
    exact ⟨_, rfl, hW.kept, cs, rfl, hW⟩
  · obtain ⟨b, cur, rfl, hh, hnc, hcm, hsz, ht, hn, hcs⟩ := row_some hW hx
    refine (Try.slices_Sort_string b 0 c x_ w0 (row_holds hW hh hsz hnc ht hn hcs) (Array.getElem?_eq_some_iff.1 hh).1 h1).mono ?_
    rintro e w' ⟨rfl, q, os, rfl⟩
    rw [mergeSort_eq]
    have hr : RdAll Rep.str _ w0 cs x_ := hW.facts _ _ (look_same _ _ _)
    have hW2 := row_wrote (d := sortS x_) hW rfl hh hsz hnc hcm x_.length q os (sortS_len x_) (Nat.le_refl _) (fun y hy => strs_le hr y ((sortS_perm x_).mem_iff.1 (List.mem_of_mem_take hy)))
    rw [List.take_of_length_le (by rw [sortS_len]; exact Nat.le_refl _)] at hW2
    exact ⟨_, rfl, hW2.kept, _, rfl, hW2⟩
/-- slices.Compact of strings -/
def slices_Compact_string (n : Nat) (x_ : List (List UInt8)) : Option (List (List UInt8)) :=
  chk (x_.length ≤ 9223372036854775807) (some (Lib.compact x_))
theorem compact_sub (l : List (List UInt8)) : (Lib.compact l).length ≤ l.length ∧ ∀ y ∈ Lib.compact l, y ∈ l := by
  unfold Lib.compact Lib.compactUpTo
  constructor
  · rw [List.length_map]
    exact Nat.le_trans (List.length_filter_le _ _) (by simp)
  · intro y hy
    obtain ⟨i, hi, rfl⟩ := List.mem_map.1 hy
    have h1 : i < l.length := by simpa using (List.mem_filter.1 hi).1
    simp [h1]
theorem c_slices_Compact_string (n : Nat) (M : Bs) (w0 : World) (hM : ∀ b, M b → b < w0.heap.size) {nn : Nat} (C : Bs) (x_ : List (List UInt8)) (A : Option Addr) (c : Nat) (cs : List Value) (hW : Wd ⟨0, M, C, w0⟩ [(9200000, Ob.row A nn c 9 1 cs)] [(9300000, rdF Rep.str cs x_)] w0) (r : List (List UInt8)) (hg : slices_Compact_string n x_ = some r) :
    Calls Try.prog 58 [.slice A nn c].toArray w0 (Ret C w0 fun v w => ∃ (Ao : Option Addr) (co : Nat) (cso : List Value), v = .slice Ao r.length co ∧ Wd ⟨0, M, C, w0⟩ [(9200000, Ob.row Ao r.length co 9 1 cso)] [(9300000, rdF Rep.str cso r)] w) := by
  obtain ⟨h1, hg⟩ := chk_some hg
  obtain rfl := Option.some.inj hg
  obtain rfl := row_n hW
  rcases Decidable.em (x_ = []) with rfl | hx
  · refine (Try.slices_Compact_string_empty A c w0).mono ?_
    rintro e w' ⟨rfl, rfl⟩
    exact ⟨_, rfl, hW.kept, A, c, cs, rfl, hW⟩
  · obtain ⟨b, cur, rfl, hh, hnc, hcm, hsz, ht, hn, hcs⟩ := row_some hW hx
    refine (Try.slices_Compact_string b 0 c x_ w0 (row_holds hW hh hsz hnc ht hn hcs) h1 hnc).mono ?_
    rintro e w' ⟨rfl, q, rfl⟩
    have hr : RdAll Rep.str _ w0 cs x_ := hW.facts _ _ (look_same _ _ _)
    obtain ⟨hl, hs⟩ := compact_sub x_
    have e1 : (Lib.compact x_ ++ List.replicate (x_.length - (Lib.compact x_).length) ([] : List UInt8)).take (Lib.compact x_).length = Lib.compact x_ := List.take_left
    have hW2 := row_wrote (d := Lib.compact x_ ++ List.replicate (x_.length - (Lib.compact x_).length) []) hW rfl hh hsz hnc hcm (Lib.compact x_).length q #[] (by simp; omega) hl (fun y hy => by rw [e1] at hy; exact strs_le hr y (hs y hy))
    rw [e1, grow_empty] at hW2
    exact ⟨_, rfl, hW2.kept, _, _, _, rfl, hW2⟩
end Go.Proofs.Ytoeolfnjblibpaa
