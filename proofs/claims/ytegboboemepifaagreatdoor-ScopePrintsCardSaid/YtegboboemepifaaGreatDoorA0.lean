/- Chapter 41: slices.Sort at ints, strconv.Itoa, strings.Join, by the shelf's contracts -/
import Derived.Test.YtegboboemepifaaGreatDoorGl23
import Derived.Test.YtegboboemepifaaGreatDoorShelf
import Derived.Test.YtegboboemepifaaGreatDoorProg
namespace Go.Proofs.YtegboboemepifaaGreatDoor
open Go.Gl Go.RowKit Go.Sort
set_option linter.unusedVariables false
set_option linter.unusedSimpArgs false
def insI (x : Int) : List Int → List Int
  | [] => [x]
  | y :: t => if x ≤ y then x :: y :: t else y :: insI x t
def sortI : List Int → List Int
  | [] => []
  | x :: t => insI x (sortI t)
theorem insI_perm (x : Int) : ∀ l, (insI x l).Perm (x :: l)
  | [] => .refl _
  | y :: t => by
    unfold insI
    split
    · exact .refl _
    · exact ((insI_perm x t).cons y).trans (.swap x y t)
theorem sortI_perm : ∀ l, (sortI l).Perm l
  | [] => .refl _
  | x :: t => (insI_perm x _).trans ((sortI_perm t).cons x)
theorem insI_sorted (x : Int) : ∀ l, l.Pairwise (· ≤ ·) → (insI x l).Pairwise (· ≤ ·)
  | [], _ => by simp [insI]
  | y :: t, h => by
    obtain ⟨h1, h2⟩ := List.pairwise_cons.1 h
    unfold insI
    split
    · rename_i hx
      refine List.pairwise_cons.2 ⟨fun z hz => ?_, h⟩
      rcases List.mem_cons.1 hz with rfl | hz
      · exact hx
      · exact Int.le_trans hx (h1 z hz)
    · rename_i hx
      refine List.pairwise_cons.2 ⟨fun z hz => ?_, insI_sorted x t h2⟩
      rcases List.mem_cons.1 ((insI_perm x t).mem_iff.1 hz) with rfl | hz
      · omega
      · exact h1 z hz
theorem sortI_sorted : ∀ l, (sortI l).Pairwise (· ≤ ·)
  | [] => .nil
  | x :: t => insI_sorted x _ (sortI_sorted t)
theorem sortI_len (l : List Int) : (sortI l).length = l.length := (sortI_perm l).length_eq
theorem eqI_of_perm : ∀ (a b : List Int), a.Perm b → a.Pairwise (· ≤ ·) → b.Pairwise (· ≤ ·) → a = b
  | [], b, h, _, _ => (List.nil_perm.1 h).symm
  | x :: a, [], h, _, _ => by have := h.length_eq; simp at this
  | x :: a, y :: b, h, ha, hb => by
    obtain ⟨a1, a2⟩ := List.pairwise_cons.1 ha
    obtain ⟨b1, b2⟩ := List.pairwise_cons.1 hb
    have hxy : x = y := by
      have h1 : x ∈ y :: b := h.mem_iff.1 (by simp)
      have h2 : y ∈ x :: a := h.mem_iff.2 (by simp)
      rcases List.mem_cons.1 h1 with h1 | h1
      · exact h1
      rcases List.mem_cons.1 h2 with h2 | h2
      · exact h2.symm
      exact Int.le_antisymm (a1 y h2) (b1 x h1)
    subst hxy
    rw [eqI_of_perm a b (List.perm_cons x |>.1 h) a2 b2]
theorem mergeSortI_eq (l : List Int) : (l.mergeSort fun x y => decide (x ≤ y)) = sortI l := by
  refine eqI_of_perm _ _ ((List.mergeSort_perm _ _).trans (sortI_perm l).symm) ?_ (sortI_sorted l)
  have := List.pairwise_mergeSort (le := fun x y : Int => decide (x ≤ y)) (fun a b c h1 h2 => by simp only [decide_eq_true_eq] at *; omega) (fun a b => by simp only [Bool.or_eq_true, decide_eq_true_eq]; omega) l
  exact this.imp (fun h => by simpa using h)
/-- slices.Sort of ints -/
def slices_Sort_int (n : Nat) (x_ : List Int) : Option (List Int) :=
  chk (x_.length < 4611686018427387904) (some (sortI x_))
theorem c_slices_Sort_int (n : Nat) (M : Bs) (w0 : World) (hM : ∀ b, M b → b < w0.heap.size) {nn : Nat} (C : Bs) (x_ : List Int) (A : Option Addr) (c : Nat) (cs : List Value) (hW : Wd ⟨0, M, C, w0⟩ [(9200000, Ob.row A nn c 3 1 cs)] [(9300000, rdF (Rep.num .i64) cs x_)] w0) (r : List Int) (hg : slices_Sort_int n x_ = some r) :
    Calls Tryz.prog 54 [.slice A nn c].toArray w0 (Ret C w0 fun v w => ∃ (csm0_0 : List Value), v = .tuple #[] ∧ Wd ⟨0, M, C, w0⟩ [(9200000, Ob.row A nn c 3 1 csm0_0)] [(9300000, rdF (Rep.num .i64) csm0_0 r)] w) := by
  obtain ⟨h1, hg⟩ := chk_some hg
  obtain rfl := Option.some.inj hg
  obtain rfl := rowG_n (One.num .i64) hW
  rcases Decidable.em (x_ = []) with rfl | hx
  · refine (Tryz.slices_Sort_int_none A c w0).mono ?_
    rintro e w' ⟨rfl, rfl⟩
    exact ⟨_, rfl, hW.kept, cs, rfl, hW⟩
  · obtain ⟨b, cur, rfl, hh, hnc, hcm, hsz, ht, hn, hb⟩ := rowG_some (One.num .i64) hW hx
    have hH := rowG_holds (off := 0) hh hsz hnc ht hn
    rw [List.drop_zero] at hH
    refine (Tryz.slices_Sort_int b 0 c x_ w0 hH hb h1).mono ?_
    rintro e w' ⟨rfl, q, os, rfl⟩
    rw [mergeSortI_eq]
    have hW2 := rowG_wrote (One.num .i64) (d := sortI x_) hW rfl hh hsz hnc hcm ht 0 q os (by rw [sortI_len]; omega) (fun y hy => (sortI_perm x_).mem_iff.1 hy)
    have e1 : x_.take 0 ++ sortI x_ ++ x_.drop (0 + (sortI x_).length) = sortI x_ := by rw [sortI_len]; simp
    rw [e1] at hW2
    exact ⟨_, rfl, hW2.kept, _, rfl, hW2⟩
/-- strconv.Itoa -/
def strconv_Itoa (n : Nat) (i_ : Int) : Option (List UInt8) := chk (0 ≤ i_ ∧ i_ ≤ 1000000000000000000) (some (dec10 20 i_.toNat))
theorem c_strconv_Itoa (n : Nat) (M : Bs) (w0 : World) (hM : ∀ b, M b → b < w0.heap.size) (i_ : Int) (hTab : (tabF Tryz.prog).p M w0) (r : List UInt8) (hg : strconv_Itoa n i_ = some r) :
    Calls Tryz.prog 59 [.int .i64 i_].toArray w0 (Ret noB w0 fun v w => v = .string (bs r) ∧ r.length ≤ 9223372036854775807) := by
  obtain ⟨h1, hg⟩ := chk_some hg
  obtain rfl := Option.some.inj hg
  have hl := dec10_len 20 i_.toNat
  have e1 : Lib.itoa i_ = dec10 20 i_.toNat := by
    unfold Lib.itoa
    rw [if_neg (by omega), dec10_eq 20 _ (by omega) (by decide)]
  refine (Tryz.strconv_Itoa i_ (by omega) (by omega) w0 hTab.1).mono ?_
  rintro e w' ⟨rfl, k, os, rfl⟩
  rw [e1]
  refine ⟨_, rfl, ⟨rfl, rfl, rfl, ?_, fun i hi _ => ?_⟩, rfl, by omega⟩
  · show w0.heap.size ≤ ((w0.drewN k).heap ++ os).size
    rw [Array.size_append]
    show w0.heap.size ≤ w0.heap.size + _
    omega
  · show (w0.heap ++ os)[i]? = _
    rw [Array.getElem?_append_left (show i < w0.heap.size from hi)]
/-- strings.Join -/
def strings_Join (n : Nat) (e_ : List (List UInt8)) (s_ : List UInt8) : Option (List UInt8) :=
  chk (e_.length ≤ 137438953472 ∧ (Lib.join e_ s_).length ≤ 140737488355328) (some (Lib.join e_ s_))
theorem c_strings_Join (n : Nat) (M : Bs) (w0 : World) (hM : ∀ b, M b → b < w0.heap.size) (e_ : List (List UInt8)) (A : Option Addr) (c : Nat) (h : SlR Rep.str M w0 A e_.length c e_) (s_ : List UInt8) (ls : s_.length ≤ 9223372036854775807) (r : List UInt8) (hg : strings_Join n e_ s_ = some r) :
    Calls Tryz.prog 60 [.slice A e_.length c, .string (bs s_)].toArray w0 (Ret noB w0 fun v w => v = .string (bs r) ∧ r.length ≤ 9223372036854775807) := by
  obtain ⟨⟨h1, h2⟩, hg⟩ := chk_some hg
  obtain rfl := Option.some.inj hg
  have e1 : (e_.map bs).map (fun b => b.data.toList) = e_ := by
    rw [List.map_map]
    conv => rhs; rw [← List.map_id e_]
    exact List.map_congr_left fun x _ => by simp [bs]
  have e2 : (bs s_).data.toList = s_ := by simp [bs]
  cases e_ with
  | nil =>
    refine (Tryz.strings_Join_none A c (bs s_) w0).mono ?_
    rintro e w' ⟨rfl, rfl⟩
    exact ⟨_, rfl, Keeps.refl _ _, rfl, by simp [Lib.join_nil]⟩
  | cons x xs =>
    obtain ⟨q, rfl⟩ := h.some_ (by simp)
    obtain ⟨cs, hr, hl, hc, _⟩ := h.cells
    have hcell : ∀ j y, (x :: xs)[j]? = some y → w0.cell? (q.add j) = some (.string (bs y)) := fun j y hy => by
      have h3 := hr.at_ j y hy
      have h4 : (cs.drop (j * 1)).take 1 = [.string (bs y)] := h3.1
      rw [Nat.mul_one] at h4
      exact hc j _ (take1 h4)
    have h0 := hcell 0 x rfl
    have hq : q = ⟨q.block, q.off, none⟩ := by
      have h0' : w0.cell? q = some (.string (bs x)) := h0
      unfold World.cell? at h0'
      obtain ⟨qb, qo, qs⟩ := q
      cases qs with
      | none => rfl
      | some z => split at h0' <;> simp at h0'
    have hb : q.block < w0.heap.size := cell_lt (p := q) h0
    have hX := Tryz.strings_Join q.block q.off c ((x :: xs).map bs) (bs s_) w0 (fun j y hy => by
      rw [List.getElem?_map] at hy
      cases hz : (x :: xs)[j]? with
      | none => rw [hz] at hy; cases hy
      | some z =>
        rw [hz] at hy
        have hy' : bs z = y := by simpa using hy
        have h5 := hcell j z hz
        rw [hq, add_lit] at h5
        rw [← hy']
        exact h5) hb (by rw [List.length_map]; omega) (by rw [List.length_map]; exact h.cap) (by rw [e1, e2]; exact h2)
    rw [e1, e2, List.length_map, ← hq] at hX
    refine hX.mono ?_
    rintro e w' ⟨rfl, hbl⟩
    exact ⟨_, rfl, Keeps.of_below hbl, rfl, by omega⟩
end Go.Proofs.YtegboboemepifaaGreatDoor

