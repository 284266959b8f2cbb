/- Chapter 22: own contracts of the library, by the shelf's. -/
import Derived.Test.YtbhjplflnkidgaaGreatShelf
import Derived.Test.YtbhjplflnkidgaaGreatA1
import Derived.Test.YtbhjplflnkidgaaGreatGl26
import Derived.Test.YtbhjplflnkidgaaGreatD1
import Derived.Shelf.Spec.SlicesGrow
namespace Go.Proofs.YtbhjplflnkidgaaGreat
open Go.Gl Go.RowKit Go.Sort
set_option linter.unusedVariables false
set_option linter.unusedSimpArgs false
theorem row_n {M C : Bs} {w : World} {A : Option Addr} {n c k j : Nat} {e : TypeId} {x : List (List UInt8)} {cs : List Value} (hW : Wd ⟨0, M, C, w⟩ [(k, Ob.row A n c e 1 cs)] [(j, rdF Rep.str cs x)] w) : n = x.length := by
  have h' : w.ownsRow 0 e 1 (.slice A n c) n cs := hW.holds k _ (look_same _ _ _)
  have hr : RdAll Rep.str _ w cs x := hW.facts j _ (look_same _ _ _)
  have hl := h'.1
  rw [strs_of hr, strs_len] at hl
  omega
theorem c_slices_Sort_string (n : Nat) (M : Bs) (w0 : World) (hM : ∀ b, M b → b < w0.heap.size) {nn : Nat} (C : Bs) (x_ : List (List UInt8)) (A : Option Addr) (c : Nat) (cs : List Value) (hW : Wd ⟨0, M, C, w0⟩ [(9200000, Ob.row A nn c 9 1 cs)] [(9300000, rdF Rep.str cs x_)] w0) (r : List (List UInt8)) (hg : slices_Sort_string n x_ = some r) :
    Calls Tryz.prog 32 [.slice A nn c].toArray w0 (Ret C w0 fun v w => ∃ (csm0_0 : List Value), v = .tuple #[] ∧ Wd ⟨0, M, C, w0⟩ [(9200000, Ob.row A nn c 9 1 csm0_0)] [(9300000, rdF Rep.str csm0_0 r)] w) := by
  obtain ⟨h1, hg⟩ := chk_some hg
  obtain rfl := Option.some.inj hg
  obtain rfl := row_n hW
  rcases Decidable.em (x_ = []) with rfl | hx
  · refine (Tryz.slices_Sort_string_none A c w0).mono ?_
    rintro e w' ⟨rfl, rfl⟩
    exact ⟨_, rfl, hW.kept, cs, rfl, hW⟩
  · obtain ⟨b, cur, rfl, hh, hnc, hcm, hsz, ht, hn, hcs⟩ := row_some hW hx
    refine (Tryz.slices_Sort_string b 0 c x_ w0 (row_holds hW hh hsz hnc ht hn hcs) (Array.getElem?_eq_some_iff.1 hh).1 h1).mono ?_
    rintro e w' ⟨rfl, q, os, rfl⟩
    rw [mergeSort_eq]
    have hr : RdAll Rep.str _ w0 cs x_ := hW.facts _ _ (look_same _ _ _)
    have hW2 := row_wrote (d := sortS x_) hW rfl hh hsz hnc hcm x_.length q os (sortS_len x_) (Nat.le_refl _) (fun y hy => strs_le hr y ((sortS_perm x_).mem_iff.1 (List.mem_of_mem_take hy)))
    rw [List.take_of_length_le (by rw [sortS_len]; exact Nat.le_refl _)] at hW2
    exact ⟨_, rfl, hW2.kept, _, rfl, hW2⟩
theorem c_slices_Compact_string (n : Nat) (M : Bs) (w0 : World) (hM : ∀ b, M b → b < w0.heap.size) {nn : Nat} (C : Bs) (x_ : List (List UInt8)) (A : Option Addr) (c : Nat) (cs : List Value) (hW : Wd ⟨0, M, C, w0⟩ [(9200000, Ob.row A nn c 9 1 cs)] [(9300000, rdF Rep.str cs x_)] w0) (r : List (List UInt8)) (hg : slices_Compact_string n x_ = some r) :
    Calls Tryz.prog 33 [.slice A nn c].toArray w0 (Ret C w0 fun v w => ∃ (Ao : Option Addr) (co : Nat) (cso : List Value), v = .slice Ao r.length co ∧ Wd ⟨0, M, C, w0⟩ [(9200000, Ob.row Ao r.length co 9 1 cso)] [(9300000, rdF Rep.str cso r)] w) := by
  obtain ⟨h1, hg⟩ := chk_some hg
  obtain rfl := Option.some.inj hg
  obtain rfl := row_n hW
  rcases Decidable.em (x_ = []) with rfl | hx
  · refine (Tryz.slices_Compact_string_empty A c w0).mono ?_
    rintro e w' ⟨rfl, rfl⟩
    exact ⟨_, rfl, hW.kept, A, c, cs, rfl, hW⟩
  · obtain ⟨b, cur, rfl, hh, hnc, hcm, hsz, ht, hn, hcs⟩ := row_some hW hx
    refine (Tryz.slices_Compact_string b 0 c x_ w0 (row_holds hW hh hsz hnc ht hn hcs) h1 hnc).mono ?_
    rintro e w' ⟨rfl, q, rfl⟩
    have hr : RdAll Rep.str _ w0 cs x_ := hW.facts _ _ (look_same _ _ _)
    obtain ⟨hl, hs⟩ := compact_sub x_
    have e1 : (Lib.compact x_ ++ List.replicate (x_.length - (Lib.compact x_).length) ([] : List UInt8)).take (Lib.compact x_).length = Lib.compact x_ := List.take_left
    have hW2 := row_wrote (d := Lib.compact x_ ++ List.replicate (x_.length - (Lib.compact x_).length) []) hW rfl hh hsz hnc hcm (Lib.compact x_).length q #[] (by simp; omega) hl (fun y hy => by rw [e1] at hy; exact strs_le hr y (hs y hy))
    rw [e1, grow_empty] at hW2
    exact ⟨_, rfl, hW2.kept, _, _, _, rfl, hW2⟩
theorem grown_empty {w0 : World} {m e sz : Nat} {z : Array Value} (hz : z.size = sz) (hm : 0 < m) (h1 : m ≤ 1000000000) :
    (Ob.row (some ⟨w0.heap.size, 0, none⟩) ([] : List Unit).length (grownCap w0 (0 + m) 0 e) e sz []).holds (w0.drew.alloc (.cells (([] : List Value).toArray ++ Builtin.zeroCells z (0 + m - 0) ++ Builtin.zeroCells z (grownCap w0 (0 + m) 0 e - (0 + m))) e)) := by
  refine ⟨by simp, .inr ⟨w0.heap.size, grownCap w0 (0 + m) 0 e, _, rfl, Nat.zero_le _, heap_new _ _, Nat.zero_le _, grownCap_le_maxLen _ _ _ _ (by unfold maxLen; omega), ?_, by simp⟩⟩
  have hge := grownCap_ge w0 (0 + m) 0 e
  generalize grownCap w0 (0 + m) 0 e = G at hge ⊢
  simp only [Array.size_append, size_zeroCells, hz]
  simp only [List.size_toArray, List.length_nil, Nat.zero_add, Nat.sub_zero, ← Nat.add_mul]
  congr 1
  omega
theorem c_slicesValues (w : World) (A : Option Addr) (n c : Nat) : Calls Tryz.prog 104 [.slice A n c].toArray w (fun e w' => ∃ v, e = .returned v ∧ Keeps noB w w' ∧ ∃ ob : Ob, ob.holds w' ∧ (∀ q, ob.ids q → w.heap.size ≤ q) ∧ ∃ B, ob = Ob.box B [.slice A n c] 25 ∧ v = .func (.func 124) #[] #[.pointer (some ⟨B, 0, none⟩)]) := by
  have h : CallsIn Fence.wide 5 Tryz.prog 104 #[.slice A n c] w fun e w' => e = .returned (.func (.func 124) #[] #[.pointer (some ⟨w.heap.size, 0, none⟩)]) ∧ w' = w.alloc (.cells #[.slice A n c] 25) := by
    refine callsIn_of_wp Tryz.func104 rfl trivial ?_ rfl
    simp only [Tryz.ntmps104, List.size_toArray, List.length_cons, List.length_nil, Nat.reduceAdd, Nat.reduceSub, Array.replicate_succ, Array.replicate_zero, List.push_toArray, List.append_toArray, List.nil_append, List.cons_append]
    gi_wp2
    go_ret
    exact ⟨rfl, rfl⟩
  refine (callsIn_wide.1 h).mono ?_
  rintro e w' ⟨rfl, rfl⟩
  refine ⟨_, rfl, Keeps.alloc _ _ _, Ob.box w.heap.size [.slice A n c] 25, ?_, fun q hq => Nat.le_of_eq hq.symm, _, rfl, rfl⟩
  show (w.alloc _).heap[w.heap.size]? = _
  rw [heap_new]
theorem c_sortedValues (n : Nat) (M : Bs) (w : World) (hM : ∀ b, M b → b < w.heap.size) (B : Nat) (A : Option Addr) (c : Nat) (xs : List (List UInt8)) (hB : w.heap[B]? = some (.cells #[.slice A xs.length c] 25 (0, 0))) (hx : SlR Rep.str M w A xs.length c xs) (r : List (List UInt8)) (hg : sortedValues n xs = some r) :
    Calls Tryz.prog 103 [.func (.func 124) #[] #[.pointer (some ⟨B, 0, none⟩)]].toArray w (Ret noB w fun v w' => ∃ (A : Option Addr) (c : Nat), v = .slice A r.length c ∧ SlR Rep.str M w' A r.length c r) := by
  obtain ⟨hl, hg⟩ := chk_some hg
  obtain rfl := Option.some.inj hg
  have ⟨hI, hlen⟩ : StrsAt w.heap.size w (.slice A xs.length c) xs ∧ ∀ y ∈ xs, y.length ≤ 9223372036854775807 := by
    cases xs with
    | nil => exact ⟨.inl ⟨A, c, rfl, rfl⟩, fun y hy => by cases hy⟩
    | cons x t =>
      obtain ⟨q, rfl⟩ := hx.some_ (by simp)
      obtain ⟨cs, hr, hlc, hc, _⟩ := hx.cells
      have hcell : ∀ j y, (x :: t)[j]? = some y → w.cell? (q.add j) = some (.string (bs y)) := fun j y hy => by
        have h3 := hr.at_ j y hy
        have h4 : (cs.drop (j * 1)).take 1 = [.string (bs y)] := h3.1
        rw [Nat.mul_one] at h4
        exact hc j _ (take1 h4)
      have h0 := hcell 0 x rfl
      have hq : q = ⟨q.block, q.off, none⟩ := by
        have h0' : w.cell? q = some (.string (bs x)) := h0
        unfold World.cell? at h0'
        obtain ⟨qb, qo, qs⟩ := q
        cases qs with
        | none => rfl
        | some z => split at h0' <;> simp at h0'
      refine ⟨.inr ⟨q.block, q.off, c, by rw [← hq], cell_lt (p := q) h0, fun j hj => ?_⟩, fun y hy => strs_le hr y hy⟩
      have h5 := hcell j _ (List.getElem?_eq_getElem hj)
      rw [hq, add_lit] at h5
      rw [List.getElem?_eq_getElem hj]
      exact h5
  have hcell : w.cell? ⟨B, 0, none⟩ = some (.slice A xs.length c) := by simp [World.cell?, hB]
  have hX := sortedVals 5 (by omega) B w.heap.size _ xs (by unfold maxLen; omega) hl w (block_lt hB) (Nat.le_refl _) hcell hI
  refine (callsIn_wide.1 hX).mono ?_
  rintro e w' ⟨v, rfl, hrow, hbl⟩
  rw [mergeSort_eq, ← sortS_len xs] at hrow
  obtain ⟨A, c, rfl⟩ : ∃ A c, v = .slice A (sortS xs).length c := ownsRow_shape hrow
  refine ⟨_, rfl, Keeps.of_below hbl, A, c, rfl, ?_⟩
  have hh : (Ob.row A (sortS xs).length c 9 1 ((sortS xs).map encStr)).holds w' := ownsRow_zero hrow
  refine row_slR (R := Rep.str) hh ?_ (by decide) (fun q hq hMq => ?_)
  · refine ⟨by simp [Rep.str], fun i x hx => ?_⟩
    have hxl : x.length ≤ 9223372036854775807 := hlen x ((sortS_perm _).mem_iff.1 (List.mem_of_getElem? hx))
    show ((List.drop (i * 1) _).take 1) = [Value.string (bs x)] ∧ _
    refine ⟨?_, hxl⟩
    rw [Nat.mul_one]
    have hxi : ((sortS xs).map encStr)[i]? = some (encStr x) := by rw [List.getElem?_map, hx]; rfl
    obtain ⟨h1, h2⟩ := List.getElem?_eq_some_iff.1 hxi
    rw [List.drop_eq_getElem_cons h1, h2]
    rfl
  · obtain ⟨p, rfl, rfl⟩ := hq
    have := ownsRow_from hrow
    have := hM _ hMq
    omega
def growL125_ren : Go.Shelf.Ren := ⟨fun | 4 => 125 | n => n, fun | 22 => 33 | 25 => 62 | n => n, fun | n => n⟩
theorem growL125 : Go.Proofs.Lays8.n4 Tryz.prog growL125_ren := {
  mixed := by kernel_rfl
  f4 := ⟨Tryz.f125.name, by decide, Tryz.func125.trans (congrArg some (by kernel_rfl))⟩
  t0 := Tryz.underlying0
  a0 := Tryz.isAgg0
  z0 := Tryz.sizeOf0
  v0 := Tryz.zeroValue0
  t3 := Tryz.underlying3
  a3 := Tryz.isAgg3
  z3 := Tryz.sizeOf3
  v3 := Tryz.zeroValue3
  t4 := Tryz.underlying4
  a4 := Tryz.isAgg4
  z4 := Tryz.sizeOf4
  v4 := Tryz.zeroValue4
  t9 := Tryz.underlying9
  a9 := Tryz.isAgg9
  z9 := Tryz.sizeOf9
  v9 := Tryz.zeroValue9
  t20 := Tryz.underlying20
  a20 := Tryz.isAgg20
  z20 := Tryz.sizeOf20
  v20 := Tryz.zeroValue20
  t22 := Tryz.underlying33
  a22 := Tryz.isAgg33
  z22 := Tryz.sizeOf33
  v22 := Tryz.zeroValue33 }
theorem info62 : (Tryz.prog.info? 62).map (fun i => (i.zero, i.size, i.bytes)) = some (some (.agg #[.string ⟨#[]⟩, .int .i64 0, .string ⟨#[]⟩, .slice none 0 0, .slice none 0 0, .slice none 0 0]), 6, 112) := by kernel_rfl
theorem c_slices_Grow_Def (n : Nat) (M : Bs) (w0 : World) (hM : ∀ b, M b → b < w0.heap.size) (k : Int) (r : List Def) (hg : slices_Grow_Def n k = some r) :
    Calls Tryz.prog 125 [.slice none 0 0, .int .i64 k].toArray w0 (Ret noB w0 fun v w => ∃ (Ao : Option Addr) (co : Nat) (cso : List Value), v = .slice Ao (r).length co ∧ (Ob.row Ao (r).length co 62 6 cso).holds w ∧ (∀ b, (Ob.row Ao (r).length co 62 6 cso).ids b → w0.heap.size ≤ b) ∧ RdAll RDef (fun b => M b ∨ (Ob.row Ao (r).length co 62 6 cso).ids b) w cso r) := by
  obtain ⟨⟨h0, h1⟩, hg⟩ := chk_some hg
  obtain rfl := Option.some.inj hg
  obtain ⟨m, rfl⟩ : ∃ m : Nat, k = (m : Int) := ⟨k.toNat, by omega⟩
  rcases Nat.eq_zero_or_pos m with rfl | hm
  · refine (Any8.slices_Grow_room growL125 none 0 0 0 w0 (Nat.le_refl _) (by omega) (by omega) (by omega)).mono ?_
    rintro e w' ⟨rfl, rfl⟩
    exact ⟨_, rfl, Keeps.refl _ _, none, 0, [], rfl, World.ownsRow_nil _ 0 62 6, (fun b hb => by obtain ⟨p, hp, _⟩ := hb; cases hp), RdAll.nil _ _ _⟩
  · obtain ⟨i0, hi, hz0, hz1, hz2⟩ := info_parts info62
    refine (Any8.slices_Grow_grow growL125 i0 _ hi hz0 (by rw [hz1]; omega) none 0 0 m [] w0 (Nat.le_refl _) (by omega) (by rw [hz2]; omega) (by omega) (by simp) (fun _ => rfl) (fun a ha => by cases ha)).mono ?_
    rintro e w' ⟨rfl, rfl⟩
    refine ⟨_, rfl, ?_, _, _, [], rfl, ?_, fun b hb => ?_, RdAll.nil _ _ _⟩
    · exact Keeps.of_below (((Below.refl _ w0).drew).alloc (Nat.le_refl _) _)
    · exact grown_empty (sz := 6) (by rfl) hm (by omega)
    · obtain ⟨p, hp, rfl⟩ := hb
      cases hp
      exact Nat.le_refl _
def growL102_ren : Go.Shelf.Ren := ⟨fun | 4 => 102 | n => n, fun | 22 => 32 | 25 => 49 | n => n, fun | n => n⟩
theorem growL102 : Go.Proofs.Lays8.n4 Tryz.prog growL102_ren := {
  mixed := by kernel_rfl
  f4 := ⟨Tryz.f102.name, by decide, Tryz.func102.trans (congrArg some (by kernel_rfl))⟩
  t0 := Tryz.underlying0
  a0 := Tryz.isAgg0
  z0 := Tryz.sizeOf0
  v0 := Tryz.zeroValue0
  t3 := Tryz.underlying3
  a3 := Tryz.isAgg3
  z3 := Tryz.sizeOf3
  v3 := Tryz.zeroValue3
  t4 := Tryz.underlying4
  a4 := Tryz.isAgg4
  z4 := Tryz.sizeOf4
  v4 := Tryz.zeroValue4
  t9 := Tryz.underlying9
  a9 := Tryz.isAgg9
  z9 := Tryz.sizeOf9
  v9 := Tryz.zeroValue9
  t20 := Tryz.underlying20
  a20 := Tryz.isAgg20
  z20 := Tryz.sizeOf20
  v20 := Tryz.zeroValue20
  t22 := Tryz.underlying32
  a22 := Tryz.isAgg32
  z22 := Tryz.sizeOf32
  v22 := Tryz.zeroValue32 }
theorem info49 : (Tryz.prog.info? 49).map (fun i => (i.zero, i.size, i.bytes)) = some (some (.agg #[.string ⟨#[]⟩, .slice none 0 0, .slice none 0 0]), 3, 64) := by kernel_rfl
theorem c_slices_Grow_TypeDecl (n : Nat) (M : Bs) (w0 : World) (hM : ∀ b, M b → b < w0.heap.size) (k : Int) (r : List TypeDecl) (hg : slices_Grow_TypeDecl n k = some r) :
    Calls Tryz.prog 102 [.slice none 0 0, .int .i64 k].toArray w0 (Ret noB w0 fun v w => ∃ (Ao : Option Addr) (co : Nat) (cso : List Value), v = .slice Ao (r).length co ∧ (Ob.row Ao (r).length co 49 3 cso).holds w ∧ (∀ b, (Ob.row Ao (r).length co 49 3 cso).ids b → w0.heap.size ≤ b) ∧ RdAll RTypeDecl (fun b => M b ∨ (Ob.row Ao (r).length co 49 3 cso).ids b) w cso r) := by
  obtain ⟨⟨h0, h1⟩, hg⟩ := chk_some hg
  obtain rfl := Option.some.inj hg
  obtain ⟨m, rfl⟩ : ∃ m : Nat, k = (m : Int) := ⟨k.toNat, by omega⟩
  rcases Nat.eq_zero_or_pos m with rfl | hm
  · refine (Any8.slices_Grow_room growL102 none 0 0 0 w0 (Nat.le_refl _) (by omega) (by omega) (by omega)).mono ?_
    rintro e w' ⟨rfl, rfl⟩
    exact ⟨_, rfl, Keeps.refl _ _, none, 0, [], rfl, World.ownsRow_nil _ 0 49 3, (fun b hb => by obtain ⟨p, hp, _⟩ := hb; cases hp), RdAll.nil _ _ _⟩
  · obtain ⟨i0, hi, hz0, hz1, hz2⟩ := info_parts info49
    refine (Any8.slices_Grow_grow growL102 i0 _ hi hz0 (by rw [hz1]; omega) none 0 0 m [] w0 (Nat.le_refl _) (by omega) (by rw [hz2]; omega) (by omega) (by simp) (fun _ => rfl) (fun a ha => by cases ha)).mono ?_
    rintro e w' ⟨rfl, rfl⟩
    refine ⟨_, rfl, ?_, _, _, [], rfl, ?_, fun b hb => ?_, RdAll.nil _ _ _⟩
    · exact Keeps.of_below (((Below.refl _ w0).drew).alloc (Nat.le_refl _) _)
    · exact grown_empty (sz := 3) (by rfl) hm (by omega)
    · obtain ⟨p, hp, rfl⟩ := hb
      cases hp
      exact Nat.le_refl _
end Go.Proofs.YtbhjplflnkidgaaGreat
