/- Chapter 42: slices.Sort and slices.Reverse at ints, by the shelf's contracts -/
import Derived.Test.YtdicfdfncbmmpaaGreatGl20
import Derived.Test.YtdicfdfncbmmpaaGreatShelf
import Derived.Test.YtdicfdfncbmmpaaGreatProg
namespace Go.Proofs.YtdicfdfncbmmpaaGreat
open Go.Gl Go.RowKit Go.Sort
set_option linter.unusedVariables false
set_option linter.unusedSimpArgs false
def insI (x : Int) : List Int → List Int
  | [] => [x]
  | y :: t => if x ≤ y then x :: y :: t else y :: insI x t
def sortI : List Int → List Int
  | [] => []
  | x :: t => insI x (sortI t)
theorem insI_perm (x : Int) : ∀ l, (insI x l).Perm (x :: l)
  | [] => .refl _
  | y :: t => by
    unfold insI
    split
    · exact .refl _
    · exact ((insI_perm x t).cons y).trans (.swap x y t)
theorem sortI_perm : ∀ l, (sortI l).Perm l
  | [] => .refl _
  | x :: t => (insI_perm x _).trans ((sortI_perm t).cons x)
theorem insI_sorted (x : Int) : ∀ l, l.Pairwise (· ≤ ·) → (insI x l).Pairwise (· ≤ ·)
  | [], _ => by simp [insI]
  | y :: t, h => by
    obtain ⟨h1, h2⟩ := List.pairwise_cons.1 h
    unfold insI
    split
    · rename_i hx
      refine List.pairwise_cons.2 ⟨fun z hz => ?_, h⟩
      rcases List.mem_cons.1 hz with rfl | hz
      · exact hx
      · exact Int.le_trans hx (h1 z hz)
    · rename_i hx
      refine List.pairwise_cons.2 ⟨fun z hz => ?_, insI_sorted x t h2⟩
      rcases List.mem_cons.1 ((insI_perm x t).mem_iff.1 hz) with rfl | hz
      · omega
      · exact h1 z hz
theorem sortI_sorted : ∀ l, (sortI l).Pairwise (· ≤ ·)
  | [] => .nil
  | x :: t => insI_sorted x _ (sortI_sorted t)
theorem sortI_len (l : List Int) : (sortI l).length = l.length := (sortI_perm l).length_eq
theorem eqI_of_perm : ∀ (a b : List Int), a.Perm b → a.Pairwise (· ≤ ·) → b.Pairwise (· ≤ ·) → a = b
  | [], b, h, _, _ => (List.nil_perm.1 h).symm
  | x :: a, [], h, _, _ => by have := h.length_eq; simp at this
  | x :: a, y :: b, h, ha, hb => by
    obtain ⟨a1, a2⟩ := List.pairwise_cons.1 ha
    obtain ⟨b1, b2⟩ := List.pairwise_cons.1 hb
    have hxy : x = y := by
      have h1 : x ∈ y :: b := h.mem_iff.1 (by simp)
      have h2 : y ∈ x :: a := h.mem_iff.2 (by simp)
      rcases List.mem_cons.1 h1 with h1 | h1
      · exact h1
      rcases List.mem_cons.1 h2 with h2 | h2
      · exact h2.symm
      exact Int.le_antisymm (a1 y h2) (b1 x h1)
    subst hxy
    rw [eqI_of_perm a b (List.perm_cons x |>.1 h) a2 b2]
theorem mergeSortI_eq (l : List Int) : (l.mergeSort fun x y => decide (x ≤ y)) = sortI l := by
  refine eqI_of_perm _ _ ((List.mergeSort_perm _ _).trans (sortI_perm l).symm) ?_ (sortI_sorted l)
  have := List.pairwise_mergeSort (le := fun x y : Int => decide (x ≤ y)) (fun a b c h1 h2 => by simp only [decide_eq_true_eq] at *; omega) (fun a b => by simp only [Bool.or_eq_true, decide_eq_true_eq]; omega) l
  exact this.imp (fun h => by simpa using h)
/-- slices.Sort of ints -/
def slices_Sort_int (n : Nat) (x_ : List Int) : Option (List Int) :=
  chk (x_.length < 4611686018427387904) (some (sortI x_))
theorem c_slices_Sort_int (n : Nat) (M : Bs) (w0 : World) (hM : ∀ b, M b → b < w0.heap.size) {nn : Nat} (C : Bs) (x_ : List Int) (A : Option Addr) (c : Nat) (cs : List Value) (hW : Wd ⟨0, M, C, w0⟩ [(9200000, Ob.row A nn c 3 1 cs)] [(9300000, rdF (Rep.num .i64) cs x_)] w0) (r : List Int) (hg : slices_Sort_int n x_ = some r) :
    Calls Tryz.prog 80 [.slice A nn c].toArray w0 (Ret C w0 fun v w => ∃ (csm0_0 : List Value), v = .tuple #[] ∧ Wd ⟨0, M, C, w0⟩ [(9200000, Ob.row A nn c 3 1 csm0_0)] [(9300000, rdF (Rep.num .i64) csm0_0 r)] w) := by
  obtain ⟨h1, hg⟩ := chk_some hg
  obtain rfl := Option.some.inj hg
  obtain rfl := rowG_n (One.num .i64) hW
  rcases Decidable.em (x_ = []) with rfl | hx
  · refine (Tryz.slices_Sort_int_none A c w0).mono ?_
    rintro e w' ⟨rfl, rfl⟩
    exact ⟨_, rfl, hW.kept, cs, rfl, hW⟩
  · obtain ⟨b, cur, rfl, hh, hnc, hcm, hsz, ht, hn, hb⟩ := rowG_some (One.num .i64) hW hx
    have hH := rowG_holds (off := 0) hh hsz hnc ht hn
    rw [List.drop_zero] at hH
    refine (Tryz.slices_Sort_int b 0 c x_ w0 hH hb h1).mono ?_
    rintro e w' ⟨rfl, q, os, rfl⟩
    rw [mergeSortI_eq]
    have hW2 := rowG_wrote (One.num .i64) (d := sortI x_) hW rfl hh hsz hnc hcm ht 0 q os (by rw [sortI_len]; omega) (fun y hy => (sortI_perm x_).mem_iff.1 hy)
    have e1 : x_.take 0 ++ sortI x_ ++ x_.drop (0 + (sortI x_).length) = sortI x_ := by rw [sortI_len]; simp
    rw [e1] at hW2
    exact ⟨_, rfl, hW2.kept, _, rfl, hW2⟩
/-- slices.Reverse of the end of a row of ints -/
theorem c_slices_Reverse_end (M : Bs) (w0 : World) {nn : Nat} (C : Bs) (x_ : List Int) (A : Option Addr) (c o : Nat) (cs : List Value) (hW : Wd ⟨0, M, C, w0⟩ [(9200000, Ob.row A nn c 3 1 cs)] [(9300000, rdF (Rep.num .i64) cs x_)] w0) (ho : o ≤ x_.length) (hb : x_.length ≤ 9223372036854775807) :
    Calls Tryz.prog 61 [.slice (if c = o then A else A.map (·.add (o * 1))) (x_.drop o).length (c - o)].toArray w0 (Ret C w0 fun v w => ∃ (csm0_0 : List Value), v = .tuple #[] ∧ Wd ⟨0, M, C, w0⟩ [(9200000, Ob.row A nn c 3 1 csm0_0)] [(9300000, rdF (Rep.num .i64) csm0_0 (x_.take o ++ (x_.drop o).reverse))] w) := by
  have hn0 := rowG_n (One.num .i64) hW
  rcases Nat.lt_or_ge o x_.length with hlt | hge
  · have hx : x_ ≠ [] := fun e => by rw [e] at hlt; simp at hlt
    obtain ⟨b, cur, rfl, hh, hnc, hcm, hsz, ht, hn, hb'⟩ := rowG_some (One.num .i64) hW hx
    have eA : (if c = o then (some ⟨b, 0, none⟩ : Option Addr) else (some (⟨b, 0, none⟩ : Addr)).map (·.add (o * 1))) = some ⟨b, o, none⟩ := by
      rw [if_neg (by omega)]
      simp [Addr.add]
      exact fun h => h.symm
    rw [eA]
    refine (Tryz.slices_Reverse_int b o (c - o) (x_.drop o) w0 (rowG_holds (off := o) hh hsz hnc ht hn) (by rw [List.length_drop]; omega)).mono ?_
    rintro e w' ⟨rfl, q, rfl⟩
    have hW2 := rowG_wrote (One.num .i64) (d := (x_.drop o).reverse) hW rfl hh hsz hnc hcm ht o q #[] (by simp; omega) (fun y hy => List.mem_of_mem_drop (List.mem_reverse.1 hy))
    have e1 : x_.take o ++ (x_.drop o).reverse ++ x_.drop (o + (x_.drop o).reverse.length) = x_.take o ++ (x_.drop o).reverse := by
      have e2 : x_.drop (o + (x_.drop o).reverse.length) = [] := List.drop_of_length_le (by simp; omega)
      rw [e2, List.append_nil]
    rw [e1, grow_empty] at hW2
    exact ⟨_, rfl, hW2.kept, _, rfl, hW2⟩
  · have e0 : x_.drop o = [] := List.drop_of_length_le hge
    rw [e0]
    refine (Tryz.slices_Reverse_int_empty _ _ w0).mono ?_
    rintro e w' ⟨rfl, rfl⟩
    refine ⟨_, rfl, hW.kept, cs, rfl, ?_⟩
    rw [List.take_of_length_le hge]
    simpa using hW
end Go.Proofs.YtdicfdfncbmmpaaGreat

