/- Chapter 31: contracts of the choosers with loops, of the reference's choice -/
import Derived.Test.YtjklnbjblncgeaaW1
namespace Go.Proofs.Ytjklnbjblncgeaa
open Go.Gl Go.RowKit
set_option linter.unusedVariables false
set_option linter.unusedSimpArgs false

set_option maxHeartbeats 400000 in
theorem best_spec (M : Bs) (w0 : World) (hM : ∀ b, M b → b < w0.heap.size) (p s b : Int) (A : Option Addr) (n c : Nat) (xs : List Queued) (hsl : SlR RQ M w0 A n c xs) (hn : 0 < n ∧ n ≤ 1000) :
    Calls Try.prog 27 [.agg #[.int .i64 (p), .int .u64 (s), .int .i64 (b), .slice (A) (n) (c)]].toArray w0 (Ret noB w0 fun v w => v = .tuple #[.int .i64 ((bestUp xs n : Nat) : Int), .int .u64 s]) := by
  refine enter M noB Try.func27 rfl rfl hM ?_
  intro a hS
  replace hS := hS.add 0 (slF RQ (A) (n) (c) (xs)) (by exact Fact.change _ enterM hsl)
  apply wp_seq
  apply wp_region_lit
  refine l_seq rfl (l_box (zs := [.int .i64 (p), .int .u64 (s), .int .i64 (b), .slice (A) (n) (c)]) hS 1000 rfl rfl rfl rfl ?_); clear hS a; intro b1 a w hb hK hS
  clear hb
  clear hK
  refine q_seq hS rfl rfl rfl (y_assign hS rfl) ?_; clear hS a; intro a hS
  refine q_seq hS rfl rfl rfl (y_assign hS rfl) ?_; clear hS a; intro a hS
  apply wpList_nil
  refine p_norm ?_
  apply wp_seq
  apply wp_region_lit
  refine q_seq hS rfl rfl rfl (y_assign hS rfl) ?_; clear hS a; intro a hS
  apply wpList_nil
  refine p_norm ?_
  apply wp_seq
  apply wp_seq
  apply wp_region_lit
  refine q_seq hS rfl rfl rfl (y_boxField (o' := 3) hS rfl Try.underlying25 rfl rfl rfl) ?_; clear hS a; intro a hS
  refine q_seq hS rfl rfl rfl (y_loadBox1 (kk := 1000) hS rfl rfl rfl Try.underlying23 rfl) ?_; clear hS a; intro a hS
  refine q_seq hS rfl rfl rfl (y_lenSlice hS rfl Try.underlying23) ?_; clear hS a; intro a hS
  refine q_seq hS rfl rfl rfl (y_move hS rfl) ?_; clear hS a; intro a hS
  apply wpList_nil
  refine p_norm ?_
  apply wp_block
  refine c_loop (σ := Nat) (fun k a w => ∃ (j : Nat), (0 ≤ k ∧ k ≤ n) ∧ (j = bestUp xs k) ∧ St (⟨Try.f27.ntmps, M, noB, w0⟩ : Ctx) [(1, .pointer (some ⟨b1, 0, none⟩)), (4, .int .i64 (((j : Nat) : Int))), (8, .slice (A) (n) (c)), (9, .int .i64 (((n : Nat) : Int))), (10, .int .i64 (((k : Nat) : Int)))] [(1000, Ob.box b1 [.int .i64 (p), .int .u64 (s), .int .i64 (b), .slice (A) (n) (c)] 25)] [(0, slF RQ (A) (n) (c) (xs))] a w) (fun k => n - k) (0) ⟨0, by omega, rfl, (hS.sub ⟨rfl, rfl, rfl, rfl, rfl, trivial⟩ ⟨rfl, trivial⟩ ⟨rfl, trivial⟩)⟩ ?_
  clear hS a; rintro k a w ⟨j, hk, hj, hS⟩
  apply wp_seq
  apply wp_region_lit
  refine q_seq hS rfl rfl rfl (y_lss hS rfl rfl) ?_; clear hS a; intro a hS
  apply wpList_nil
  refine p_norm ?_
  apply wp_seq
  refine c_dec hS rfl (fun hc0 => ?_) (fun hc0 => ?_)
  · apply wp_skip
    refine p_norm ?_
    apply wp_seq
    apply wp_block
    apply wp_seq
    apply wp_region_lit
    refine q_seq hS rfl rfl rfl (y_move hS rfl) ?_; clear hS a; intro a hS
    obtain ⟨x2, hx2, p2, he2, hp2⟩ := SlR.elemAt (hS.fact (k := 0) rfl) (i := k) (by omega)
    refine q_seq hS rfl rfl rfl (y_elem (sz := 5) (i := k) hS rfl rfl Try.underlying23 rfl he2 (by omega) (by omega)) ?_; clear hS a; intro a hS
    obtain ⟨hl3, hm3, cs3, hd3, hq3⟩ := hp2
    obtain ⟨rfl, -⟩ := hd3
    refine q_seq hS rfl rfl rfl (y_ldp hS rfl hl3 hm3 (by simpa using hq3) Try.underlying45 rfl rfl) ?_; clear hS a; intro a hS
    refine l_seq rfl (l_alloc (zs := [.int .i64 (0), .int .i64 (0), .int .i64 (0), .int .i64 (0), .int .i64 (0)]) hS 1403 rfl rfl rfl rfl ?_); clear hS a; intro b4 a w hb hK hS
    clear hb
    clear hK
    refine q_seq hS rfl rfl rfl (y_assign hS rfl) ?_; clear hS a; intro a hS
    refine l_seq rfl (l_store (n := 5) (cs' := [.int .i64 (x2.1.1), .int .i64 (x2.1.2.1), .int .i64 (x2.1.2.2.1), .int .i64 (x2.1.2.2.2), .int .i64 (x2.2)]) hS 1403 rfl rfl rfl rfl rfl rfl rfl rfl ?_); clear hS; intro w hK hS; clear hK
    apply wpList_nil
    refine p_norm ?_
    apply wp_seq
    have hjn : j < n := by rw [hj]; exact Nat.lt_of_le_of_lt (bestUp_le xs k) (by omega)
    refine d_plan hS [] [(0, some 0), (1, some 0), (2, some 1403), (3, some 0), (4, some 1000), (5, some 0), (6, some 0), (7, some 0), (8, some 0), (9, some 0), (10, some 0)] rfl (by kernel_rfl) (by kernel_rfl) rfl ?_; clear hS; intro wr hZ hS; have hR := hS.wd
    refine q_take hS hR rfl rfl rfl rfl (y_boxField (o' := 0) hS rfl Try.underlying45 rfl rfl rfl) ?_; clear hS a; intro a hS
    refine q_take hS hR rfl rfl rfl rfl (y_boxField (o' := 3) hS rfl Try.underlying32 rfl rfl rfl) ?_; clear hS a; intro a hS
    refine q_take hS hR rfl rfl rfl rfl (y_loadBox1 (kk := 1403) hS rfl rfl rfl Try.underlying3 rfl) ?_; clear hS a; intro a hS
    refine q_take hS hR rfl rfl rfl rfl (y_boxField (o' := 3) hS rfl Try.underlying25 rfl rfl rfl) ?_; clear hS a; intro a hS
    refine q_take hS hR rfl rfl rfl rfl (y_loadBox1 (kk := 1000) hS rfl rfl rfl Try.underlying23 rfl) ?_; clear hS a; intro a hS
    refine q_take hS hR rfl rfl rfl rfl (y_move hS rfl) ?_; clear hS a; intro a hS
    obtain ⟨x5, hx5, p5, he5, hp5⟩ := SlR.elemAt (hS.fact (k := 0) rfl) (i := j) (by omega)
    refine q_take hS hR rfl rfl rfl rfl (y_elem (sz := 5) (i := j) hS rfl rfl Try.underlying23 rfl he5 (by omega) (by omega)) ?_; clear hS a; intro a hS
    refine q_take hS hR rfl rfl rfl rfl (y_ptrField (o' := 0) hS rfl Try.underlying45 rfl rfl rfl) ?_; clear hS a; intro a hS
    refine q_take hS hR rfl rfl rfl rfl (y_ptrField (o' := 3) hS rfl Try.underlying32 rfl rfl rfl) ?_; clear hS a; intro a hS
    obtain ⟨hl6, hm6, cs6, hd6, hq6⟩ := hp5
    obtain ⟨rfl, -⟩ := hd6
    refine q_take hS hR rfl rfl rfl rfl (y_ldp1 hS rfl hl6 hm6 (hq6 3 _ rfl) Try.underlying3 rfl) ?_; clear hS a; intro a hS
    refine q_take hS hR rfl rfl rfl rfl (y_lss hS rfl rfl) ?_; clear hS a; intro a hS
    clear hR hZ
    refine p_norm ?_
    refine c_dec hS rfl (fun hc1 => ?_) (fun hc1 => ?_)
    · apply wp_region_lit
      refine q_seq hS rfl rfl rfl (y_move hS rfl) ?_; clear hS a; intro a hS
      refine q_seq hS rfl rfl rfl (y_assign hS rfl) ?_; clear hS a; intro a hS
      apply wpList_nil
      refine p_inN ?_
      refine p_norm ?_
      apply wp_region_lit
      refine q_seq hS rfl rfl rfl (y_addN (i := k) (j := 1) hS rfl rfl (in64.2 (by omega))) ?_; clear hS a; intro a hS
      refine q_seq hS rfl rfl rfl (y_move hS rfl) ?_; clear hS a; intro a hS
      apply wpList_nil
      refine p_norm ?_
      exact ⟨k + 1, by omega, ⟨k, by omega, (by rw [bestUp, prioAt_of hx2, ← hj, prioAt_of hx5]; simp only [hc1, if_true, if_false]), (hS.sub ⟨rfl, rfl, rfl, rfl, rfl, trivial⟩ ⟨rfl, trivial⟩ ⟨rfl, trivial⟩)⟩⟩
    · apply wp_skip
      refine p_inN ?_
      refine p_norm ?_
      apply wp_region_lit
      refine q_seq hS rfl rfl rfl (y_addN (i := k) (j := 1) hS rfl rfl (in64.2 (by omega))) ?_; clear hS a; intro a hS
      refine q_seq hS rfl rfl rfl (y_move hS rfl) ?_; clear hS a; intro a hS
      apply wpList_nil
      refine p_norm ?_
      exact ⟨k + 1, by omega, ⟨j, by omega, (by rw [bestUp, prioAt_of hx2, ← hj, prioAt_of hx5]; simp only [hc1, if_true, if_false]), (hS.sub ⟨rfl, rfl, rfl, rfl, rfl, trivial⟩ ⟨rfl, trivial⟩ ⟨rfl, trivial⟩)⟩⟩
  · apply wp_exit
    refine p_then ?_
    refine p_then ?_
    refine p_in ?_
    refine p_norm ?_
    apply wp_seq
    refine d_plan hS [] [(0, some 0), (1, some 0), (2, some 1000), (3, some 0), (4, some 0)] rfl (by kernel_rfl) (by kernel_rfl) rfl ?_; clear hS; intro wr hZ hS; have hR := hS.wd
    refine q_take hS hR rfl rfl rfl rfl (y_move hS rfl) ?_; clear hS a; intro a hS
    refine q_take hS hR rfl rfl rfl rfl (y_boxField (o' := 1) hS rfl Try.underlying25 rfl rfl rfl) ?_; clear hS a; intro a hS
    refine q_take hS hR rfl rfl rfl rfl (y_loadBox1 (kk := 1000) hS rfl rfl rfl Try.underlying22 rfl) ?_; clear hS a; intro a hS
    refine q_take hS hR rfl rfl rfl rfl (y_assign hS rfl) ?_; clear hS a; intro a hS
    refine q_take hS hR rfl rfl rfl rfl (y_assign hS rfl) ?_; clear hS a; intro a hS
    clear hR hZ
    refine p_norm ?_
    apply wp_ret
    refine fin2 (fn := Try.f27) hS rfl (r_tmp hS rfl) (r_tmp hS rfl) ?_
    obtain rfl : k = n := by omega
    rw [hj]

set_option maxHeartbeats 400000 in
theorem random_spec (M : Bs) (w0 : World) (hM : ∀ b, M b → b < w0.heap.size) (p s b : Int) (A : Option Addr) (n c : Nat) (hn : 0 < n ∧ n ≤ 1000) :
    Calls Try.prog 28 [.agg #[.int .i64 (p), .int .u64 (s), .int .i64 (b), .slice (A) (n) (c)]].toArray w0 (Ret noB w0 fun v w => v = .tuple #[.int .i64 (((randIdx s n).toNat : Nat) : Int), .int .u64 (adv s)]) := by
  refine enter M noB Try.func28 rfl rfl hM ?_
  intro a hS
  apply wp_seq
  apply wp_region_lit
  refine l_seq rfl (l_box (zs := [.int .i64 (p), .int .u64 (s), .int .i64 (b), .slice (A) (n) (c)]) hS 1000 rfl rfl rfl rfl ?_); clear hS a; intro b1 a w hb hK hS
  clear hb
  clear hK
  refine q_seq hS rfl rfl rfl (y_assign hS rfl) ?_; clear hS a; intro a hS
  refine q_seq hS rfl rfl rfl (y_assign hS rfl) ?_; clear hS a; intro a hS
  apply wpList_nil
  refine p_norm ?_
  apply wp_seq
  apply wp_region_lit
  refine q_seq hS rfl rfl rfl (y_boxField (o' := 1) hS rfl Try.underlying25 rfl rfl rfl) ?_; clear hS a; intro a hS
  refine q_seq hS rfl rfl rfl (y_loadBox1 (kk := 1000) hS rfl rfl rfl Try.underlying22 rfl) ?_; clear hS a; intro a hS
  refine q_seq hS rfl rfl rfl (y_wmul hS rfl rfl) ?_; clear hS a; intro a hS
  refine q_seq hS rfl rfl rfl (y_wadd hS rfl rfl) ?_; clear hS a; intro a hS
  refine q_seq hS rfl rfl rfl (y_assign hS rfl) ?_; clear hS a; intro a hS
  apply wpList_nil
  refine p_norm ?_
  apply wp_seq
  have hr := randIdx_bd s n hn.1; unfold randIdx adv at hr
  apply wp_region_lit
  refine q_seq hS rfl rfl rfl (y_move hS rfl) ?_; clear hS a; intro a hS
  refine q_seq hS rfl rfl rfl (y_shr hS rfl rfl (by omega)) ?_; clear hS a; intro a hS
  refine q_seq hS rfl rfl rfl (y_boxField (o' := 3) hS rfl Try.underlying25 rfl rfl rfl) ?_; clear hS a; intro a hS
  refine q_seq hS rfl rfl rfl (y_loadBox1 (kk := 1000) hS rfl rfl rfl Try.underlying23 rfl) ?_; clear hS a; intro a hS
  refine q_seq hS rfl rfl rfl (y_lenSlice hS rfl Try.underlying23) ?_; clear hS a; intro a hS
  refine q_seq hS rfl rfl rfl (y_conv hS rfl Try.underlying3 Try.underlying22 (inu64.2 (by omega))) ?_; clear hS a; intro a hS
  refine q_seq hS rfl rfl rfl (y_rem hS rfl rfl (by omega)) ?_; clear hS a; intro a hS
  refine q_seq hS rfl rfl rfl (y_conv hS rfl Try.underlying22 Try.underlying3 (in64.2 (by omega))) ?_; clear hS a; intro a hS
  refine q_seq hS rfl rfl rfl (y_move hS rfl) ?_; clear hS a; intro a hS
  refine q_seq hS rfl rfl rfl (y_assign hS rfl) ?_; clear hS a; intro a hS
  refine q_seq hS rfl rfl rfl (y_assign hS rfl) ?_; clear hS a; intro a hS
  apply wpList_nil
  refine p_norm ?_
  apply wp_ret
  refine fin2 (fn := Try.f28) hS rfl (r_tmp hS rfl) (r_tmp hS rfl) ?_
  rw [Int.toNat_of_nonneg (randIdx_bd s n hn.1).1]
  rfl

set_option maxHeartbeats 400000 in
theorem choice_spec0 (M : Bs) (w0 : World) (hM : ∀ b, M b → b < w0.heap.size) (s b : Int) (A : Option Addr) (n c : Nat) (xs : List Queued) (hsl : SlR RQ M w0 A n c xs) (hn : 0 < n ∧ n ≤ 1000) :
    Calls Try.prog 23 [.agg #[.int .i64 (0), .int .u64 (s), .int .i64 (b), .slice (A) (n) (c)]].toArray w0 (Ret noB w0 fun v w => v = .int .i64 ((0 : Nat) : Int)) := by
  refine enter M noB Try.func23 rfl rfl hM ?_
  intro a hS
  replace hS := hS.add 0 (slF RQ (A) (n) (c) (xs)) (by exact Fact.change _ enterM hsl)
  apply wp_seq
  apply wp_region_lit
  refine l_seq rfl (l_box (zs := [.int .i64 (0), .int .u64 (s), .int .i64 (b), .slice (A) (n) (c)]) hS 1000 rfl rfl rfl rfl ?_); clear hS a; intro b1 a w hb hK hS
  clear hb
  clear hK
  refine q_seq hS rfl rfl rfl (y_assign hS rfl) ?_; clear hS a; intro a hS
  apply wpList_nil
  refine p_norm ?_
  apply wp_seq
  apply wp_seq
  apply wp_region_lit
  refine q_seq hS rfl rfl rfl (y_boxField (o' := 0) hS rfl Try.underlying25 rfl rfl rfl) ?_; clear hS a; intro a hS
  refine q_seq hS rfl rfl rfl (y_loadBox1 (kk := 1000) hS rfl rfl rfl Try.underlying3 rfl) ?_; clear hS a; intro a hS
  apply wpList_nil
  refine p_norm ?_
  apply wp_block
  apply wp_seq
  apply wp_region_lit
  refine q_seq hS rfl rfl rfl (y_eql hS rfl rfl) ?_; clear hS a; intro a hS
  refine q_seq hS rfl rfl rfl (y_assign hS rfl) ?_; clear hS a; intro a hS
  apply wpList_nil
  refine p_norm ?_
  refine c_f hS rfl ?_
  apply wp_seq
  apply wp_region_lit
  refine q_seq hS rfl rfl rfl (y_eql hS rfl rfl) ?_; clear hS a; intro a hS
  refine q_seq hS rfl rfl rfl (y_assign hS rfl) ?_; clear hS a; intro a hS
  apply wpList_nil
  refine p_norm ?_
  refine c_f hS rfl ?_
  apply wp_seq
  apply wp_region_lit
  refine q_seq hS rfl rfl rfl (y_eql hS rfl rfl) ?_; clear hS a; intro a hS
  refine q_seq hS rfl rfl rfl (y_assign hS rfl) ?_; clear hS a; intro a hS
  apply wpList_nil
  refine p_norm ?_
  refine c_f hS rfl ?_
  apply wp_skip
  refine p_inN ?_
  refine p_norm ?_
  apply wp_seq
  apply wp_region_lit
  refine q_seq hS rfl rfl rfl (y_assign hS rfl) ?_; clear hS a; intro a hS
  apply wpList_nil
  refine p_norm ?_
  apply wp_ret
  refine fin1 (fn := Try.f23) hS rfl (r_tmp hS rfl) ?_
  rfl

set_option maxHeartbeats 400000 in
theorem choice_spec1 (M : Bs) (w0 : World) (hM : ∀ b, M b → b < w0.heap.size) (s b : Int) (A : Option Addr) (n c : Nat) (xs : List Queued) (hsl : SlR RQ M w0 A n c xs) (hn : 0 < n ∧ n ≤ 1000) :
    Calls Try.prog 23 [.agg #[.int .i64 (1), .int .u64 (s), .int .i64 (b), .slice (A) (n) (c)]].toArray w0 (Ret noB w0 fun v w => v = .int .i64 ((n - 1 : Nat) : Int)) := by
  refine enter M noB Try.func23 rfl rfl hM ?_
  intro a hS
  replace hS := hS.add 0 (slF RQ (A) (n) (c) (xs)) (by exact Fact.change _ enterM hsl)
  apply wp_seq
  apply wp_region_lit
  refine l_seq rfl (l_box (zs := [.int .i64 (1), .int .u64 (s), .int .i64 (b), .slice (A) (n) (c)]) hS 1000 rfl rfl rfl rfl ?_); clear hS a; intro b1 a w hb hK hS
  clear hb
  clear hK
  refine q_seq hS rfl rfl rfl (y_assign hS rfl) ?_; clear hS a; intro a hS
  apply wpList_nil
  refine p_norm ?_
  apply wp_seq
  apply wp_seq
  apply wp_region_lit
  refine q_seq hS rfl rfl rfl (y_boxField (o' := 0) hS rfl Try.underlying25 rfl rfl rfl) ?_; clear hS a; intro a hS
  refine q_seq hS rfl rfl rfl (y_loadBox1 (kk := 1000) hS rfl rfl rfl Try.underlying3 rfl) ?_; clear hS a; intro a hS
  apply wpList_nil
  refine p_norm ?_
  apply wp_block
  apply wp_seq
  apply wp_region_lit
  refine q_seq hS rfl rfl rfl (y_eql hS rfl rfl) ?_; clear hS a; intro a hS
  refine q_seq hS rfl rfl rfl (y_assign hS rfl) ?_; clear hS a; intro a hS
  apply wpList_nil
  refine p_norm ?_
  refine c_t hS rfl ?_
  apply wp_seq
  apply wp_region_lit
  refine q_seq hS rfl rfl rfl (y_boxField (o' := 3) hS rfl Try.underlying25 rfl rfl rfl) ?_; clear hS a; intro a hS
  refine q_seq hS rfl rfl rfl (y_loadBox1 (kk := 1000) hS rfl rfl rfl Try.underlying23 rfl) ?_; clear hS a; intro a hS
  refine q_seq hS rfl rfl rfl (y_lenSlice hS rfl Try.underlying23) ?_; clear hS a; intro a hS
  refine q_seq hS rfl rfl rfl (y_sub hS rfl rfl (in64.2 (by omega))) ?_; clear hS a; intro a hS
  refine q_seq hS rfl rfl rfl (y_assign hS rfl) ?_; clear hS a; intro a hS
  apply wpList_nil
  refine p_norm ?_
  apply wp_ret
  refine p_inR ?_
  refine p_thenR ?_
  refine fin1 (fn := Try.f23) hS rfl (r_tmp hS rfl) ?_
  rw [show ((n : Nat) : Int) - 1 = ((n - 1 : Nat) : Int) by omega]

set_option maxHeartbeats 400000 in
theorem choice_spec2 (M : Bs) (w0 : World) (hM : ∀ b, M b → b < w0.heap.size) (s b : Int) (A : Option Addr) (n c : Nat) (xs : List Queued) (hsl : SlR RQ M w0 A n c xs) (hn : 0 < n ∧ n ≤ 1000) :
    Calls Try.prog 23 [.agg #[.int .i64 (2), .int .u64 (s), .int .i64 (b), .slice (A) (n) (c)]].toArray w0 (Ret noB w0 fun v w => v = .int .i64 ((bestUp xs n : Nat) : Int)) := by
  refine enter M noB Try.func23 rfl rfl hM ?_
  intro a hS
  replace hS := hS.add 0 (slF RQ (A) (n) (c) (xs)) (by exact Fact.change _ enterM hsl)
  apply wp_seq
  apply wp_region_lit
  refine l_seq rfl (l_box (zs := [.int .i64 (2), .int .u64 (s), .int .i64 (b), .slice (A) (n) (c)]) hS 1000 rfl rfl rfl rfl ?_); clear hS a; intro b1 a w hb hK hS
  clear hb
  clear hK
  refine q_seq hS rfl rfl rfl (y_assign hS rfl) ?_; clear hS a; intro a hS
  apply wpList_nil
  refine p_norm ?_
  apply wp_seq
  apply wp_seq
  apply wp_region_lit
  refine q_seq hS rfl rfl rfl (y_boxField (o' := 0) hS rfl Try.underlying25 rfl rfl rfl) ?_; clear hS a; intro a hS
  refine q_seq hS rfl rfl rfl (y_loadBox1 (kk := 1000) hS rfl rfl rfl Try.underlying3 rfl) ?_; clear hS a; intro a hS
  apply wpList_nil
  refine p_norm ?_
  apply wp_block
  apply wp_seq
  apply wp_region_lit
  refine q_seq hS rfl rfl rfl (y_eql hS rfl rfl) ?_; clear hS a; intro a hS
  refine q_seq hS rfl rfl rfl (y_assign hS rfl) ?_; clear hS a; intro a hS
  apply wpList_nil
  refine p_norm ?_
  refine c_f hS rfl ?_
  apply wp_seq
  apply wp_region_lit
  refine q_seq hS rfl rfl rfl (y_eql hS rfl rfl) ?_; clear hS a; intro a hS
  refine q_seq hS rfl rfl rfl (y_assign hS rfl) ?_; clear hS a; intro a hS
  apply wpList_nil
  refine p_norm ?_
  refine c_t hS rfl ?_
  apply wp_seq
  apply wp_region_lit
  refine q_seq hS rfl rfl rfl (y_assign hS rfl) ?_; clear hS a; intro a hS
  apply wpList_nil
  refine p_norm ?_
  apply wp_seq
  apply wp_seq
  apply wp_region_lit
  refine q_seq hS rfl rfl rfl (y_assign hS rfl) ?_; clear hS a; intro a hS
  apply wpList_nil
  refine p_norm ?_
  apply wp_block
  refine c_loop (σ := Nat) (fun k a w => ∃ (j : Nat), (1 ≤ k ∧ k ≤ n) ∧ (j = bestUp xs k) ∧ St (⟨Try.f23.ntmps, M, noB, w0⟩ : Ctx) [(1, .pointer (some ⟨b1, 0, none⟩)), (3, .int .i64 (((j : Nat) : Int))), (4, .int .i64 (((k : Nat) : Int)))] [(1000, Ob.box b1 [.int .i64 (2), .int .u64 (s), .int .i64 (b), .slice (A) (n) (c)] 25)] [(0, slF RQ (A) (n) (c) (xs))] a w) (fun k => n - k) (1) ⟨0, by omega, (bestUp_one xs).symm, (hS.sub ⟨rfl, rfl, rfl, trivial⟩ ⟨rfl, trivial⟩ ⟨rfl, trivial⟩)⟩ ?_
  clear hS a; rintro k a w ⟨j, hk, hj, hS⟩
  apply wp_seq
  apply wp_seq
  apply wp_region_lit
  refine q_seq hS rfl rfl rfl (y_move hS rfl) ?_; clear hS a; intro a hS
  refine q_seq hS rfl rfl rfl (y_boxField (o' := 3) hS rfl Try.underlying25 rfl rfl rfl) ?_; clear hS a; intro a hS
  refine q_seq hS rfl rfl rfl (y_loadBox1 (kk := 1000) hS rfl rfl rfl Try.underlying23 rfl) ?_; clear hS a; intro a hS
  refine q_seq hS rfl rfl rfl (y_lenSlice hS rfl Try.underlying23) ?_; clear hS a; intro a hS
  refine q_seq hS rfl rfl rfl (y_lss hS rfl rfl) ?_; clear hS a; intro a hS
  apply wpList_nil
  refine p_norm ?_
  refine c_dec hS rfl (fun hc2 => ?_) (fun hc2 => ?_)
  · apply wp_skip
    refine p_norm ?_
    apply wp_seq
    apply wp_block
    apply wp_seq
    have hjn : j < n := by rw [hj]; exact Nat.lt_of_le_of_lt (bestUp_le xs k) (by omega)
    refine d_plan hS [] [(0, some 0), (1, some 1000), (2, some 0), (3, some 0), (4, some 0), (5, some 0), (6, some 0), (7, some 0), (8, some 1000), (9, some 0), (10, some 0), (11, some 0), (12, some 0), (13, some 0), (14, some 0)] rfl (by kernel_rfl) (by kernel_rfl) rfl ?_; clear hS; intro wr hZ hS; have hR := hS.wd
    refine q_take hS hR rfl rfl rfl rfl (y_boxField (o' := 3) hS rfl Try.underlying25 rfl rfl rfl) ?_; clear hS a; intro a hS
    refine q_take hS hR rfl rfl rfl rfl (y_loadBox1 (kk := 1000) hS rfl rfl rfl Try.underlying23 rfl) ?_; clear hS a; intro a hS
    refine q_take hS hR rfl rfl rfl rfl (y_move hS rfl) ?_; clear hS a; intro a hS
    obtain ⟨x2, hx2, p2, he2, hp2⟩ := SlR.elemAt (hS.fact (k := 0) rfl) (i := k) (by omega)
    refine q_take hS hR rfl rfl rfl rfl (y_elem (sz := 5) (i := k) hS rfl rfl Try.underlying23 rfl he2 (by omega) (by omega)) ?_; clear hS a; intro a hS
    refine q_take hS hR rfl rfl rfl rfl (y_ptrField (o' := 0) hS rfl Try.underlying45 rfl rfl rfl) ?_; clear hS a; intro a hS
    refine q_take hS hR rfl rfl rfl rfl (y_ptrField (o' := 3) hS rfl Try.underlying32 rfl rfl rfl) ?_; clear hS a; intro a hS
    obtain ⟨hl3, hm3, cs3, hd3, hq3⟩ := hp2
    obtain ⟨rfl, -⟩ := hd3
    refine q_take hS hR rfl rfl rfl rfl (y_ldp1 hS rfl hl3 hm3 (hq3 3 _ rfl) Try.underlying3 rfl) ?_; clear hS a; intro a hS
    refine q_take hS hR rfl rfl rfl rfl (y_boxField (o' := 3) hS rfl Try.underlying25 rfl rfl rfl) ?_; clear hS a; intro a hS
    refine q_take hS hR rfl rfl rfl rfl (y_loadBox1 (kk := 1000) hS rfl rfl rfl Try.underlying23 rfl) ?_; clear hS a; intro a hS
    refine q_take hS hR rfl rfl rfl rfl (y_move hS rfl) ?_; clear hS a; intro a hS
    obtain ⟨x4, hx4, p4, he4, hp4⟩ := SlR.elemAt (hS.fact (k := 0) rfl) (i := j) (by omega)
    refine q_take hS hR rfl rfl rfl rfl (y_elem (sz := 5) (i := j) hS rfl rfl Try.underlying23 rfl he4 (by omega) (by omega)) ?_; clear hS a; intro a hS
    refine q_take hS hR rfl rfl rfl rfl (y_ptrField (o' := 0) hS rfl Try.underlying45 rfl rfl rfl) ?_; clear hS a; intro a hS
    refine q_take hS hR rfl rfl rfl rfl (y_ptrField (o' := 3) hS rfl Try.underlying32 rfl rfl rfl) ?_; clear hS a; intro a hS
    obtain ⟨hl5, hm5, cs5, hd5, hq5⟩ := hp4
    obtain ⟨rfl, -⟩ := hd5
    refine q_take hS hR rfl rfl rfl rfl (y_ldp1 hS rfl hl5 hm5 (hq5 3 _ rfl) Try.underlying3 rfl) ?_; clear hS a; intro a hS
    refine q_take hS hR rfl rfl rfl rfl (y_lss hS rfl rfl) ?_; clear hS a; intro a hS
    clear hR hZ
    refine p_norm ?_
    refine c_dec hS rfl (fun hc3 => ?_) (fun hc3 => ?_)
    · apply wp_region_lit
      refine q_seq hS rfl rfl rfl (y_move hS rfl) ?_; clear hS a; intro a hS
      refine q_seq hS rfl rfl rfl (y_assign hS rfl) ?_; clear hS a; intro a hS
      apply wpList_nil
      refine p_inN ?_
      refine p_norm ?_
      apply wp_region_lit
      refine q_seq hS rfl rfl rfl (y_move hS rfl) ?_; clear hS a; intro a hS
      refine q_seq hS rfl rfl rfl (y_addN (i := k) (j := 1) hS rfl rfl (in64.2 (by omega))) ?_; clear hS a; intro a hS
      refine q_seq hS rfl rfl rfl (y_assign hS rfl) ?_; clear hS a; intro a hS
      apply wpList_nil
      refine p_norm ?_
      exact ⟨k + 1, by omega, ⟨k, by omega, (by rw [bestUp, prioAt_of hx2, ← hj, prioAt_of hx4]; simp only [hc3, if_true, if_false]), (hS.sub ⟨rfl, rfl, rfl, trivial⟩ ⟨rfl, trivial⟩ ⟨rfl, trivial⟩)⟩⟩
    · apply wp_skip
      refine p_inN ?_
      refine p_norm ?_
      apply wp_region_lit
      refine q_seq hS rfl rfl rfl (y_move hS rfl) ?_; clear hS a; intro a hS
      refine q_seq hS rfl rfl rfl (y_addN (i := k) (j := 1) hS rfl rfl (in64.2 (by omega))) ?_; clear hS a; intro a hS
      refine q_seq hS rfl rfl rfl (y_assign hS rfl) ?_; clear hS a; intro a hS
      apply wpList_nil
      refine p_norm ?_
      exact ⟨k + 1, by omega, ⟨j, by omega, (by rw [bestUp, prioAt_of hx2, ← hj, prioAt_of hx4]; simp only [hc3, if_true, if_false]), (hS.sub ⟨rfl, rfl, rfl, trivial⟩ ⟨rfl, trivial⟩ ⟨rfl, trivial⟩)⟩⟩
  · apply wp_exit
    refine p_then ?_
    refine p_then ?_
    refine p_in ?_
    refine p_norm ?_
    apply wp_seq
    apply wp_region_lit
    refine q_seq hS rfl rfl rfl (y_move hS rfl) ?_; clear hS a; intro a hS
    refine q_seq hS rfl rfl rfl (y_assign hS rfl) ?_; clear hS a; intro a hS
    apply wpList_nil
    refine p_norm ?_
    apply wp_ret
    refine p_inR ?_
    refine p_thenR ?_
    refine fin1 (fn := Try.f23) hS rfl (r_tmp hS rfl) ?_
    obtain rfl : k = n := by omega
    rw [hj]

set_option maxHeartbeats 400000 in
theorem choice_spec3 (M : Bs) (w0 : World) (hM : ∀ b, M b → b < w0.heap.size) (s b : Int) (A : Option Addr) (n c : Nat) (xs : List Queued) (hsl : SlR RQ M w0 A n c xs) (hn : 0 < n ∧ n ≤ 1000) :
    Calls Try.prog 23 [.agg #[.int .i64 (3), .int .u64 (s), .int .i64 (b), .slice (A) (n) (c)]].toArray w0 (Ret noB w0 fun v w => v = .int .i64 (((randIdx s n).toNat : Nat) : Int)) := by
  refine enter M noB Try.func23 rfl rfl hM ?_
  intro a hS
  replace hS := hS.add 0 (slF RQ (A) (n) (c) (xs)) (by exact Fact.change _ enterM hsl)
  apply wp_seq
  apply wp_region_lit
  refine l_seq rfl (l_box (zs := [.int .i64 (3), .int .u64 (s), .int .i64 (b), .slice (A) (n) (c)]) hS 1000 rfl rfl rfl rfl ?_); clear hS a; intro b1 a w hb hK hS
  clear hb
  clear hK
  refine q_seq hS rfl rfl rfl (y_assign hS rfl) ?_; clear hS a; intro a hS
  apply wpList_nil
  refine p_norm ?_
  apply wp_seq
  apply wp_seq
  apply wp_region_lit
  refine q_seq hS rfl rfl rfl (y_boxField (o' := 0) hS rfl Try.underlying25 rfl rfl rfl) ?_; clear hS a; intro a hS
  refine q_seq hS rfl rfl rfl (y_loadBox1 (kk := 1000) hS rfl rfl rfl Try.underlying3 rfl) ?_; clear hS a; intro a hS
  apply wpList_nil
  refine p_norm ?_
  apply wp_block
  apply wp_seq
  apply wp_region_lit
  refine q_seq hS rfl rfl rfl (y_eql hS rfl rfl) ?_; clear hS a; intro a hS
  refine q_seq hS rfl rfl rfl (y_assign hS rfl) ?_; clear hS a; intro a hS
  apply wpList_nil
  refine p_norm ?_
  refine c_f hS rfl ?_
  apply wp_seq
  apply wp_region_lit
  refine q_seq hS rfl rfl rfl (y_eql hS rfl rfl) ?_; clear hS a; intro a hS
  refine q_seq hS rfl rfl rfl (y_assign hS rfl) ?_; clear hS a; intro a hS
  apply wpList_nil
  refine p_norm ?_
  refine c_f hS rfl ?_
  apply wp_seq
  apply wp_region_lit
  refine q_seq hS rfl rfl rfl (y_eql hS rfl rfl) ?_; clear hS a; intro a hS
  refine q_seq hS rfl rfl rfl (y_assign hS rfl) ?_; clear hS a; intro a hS
  apply wpList_nil
  refine p_norm ?_
  refine c_t hS rfl ?_
  apply wp_seq
  have hr := randIdx_bd s n hn.1; unfold randIdx at hr
  refine d_plan hS [] [(0, some 0), (1, some 1000), (4, some 0), (5, some 1000), (6, some 0), (7, some 0), (2, none), (3, none), (8, none), (9, none), (10, none)] rfl (by kernel_rfl) (by kernel_rfl) rfl ?_; clear hS; intro wr hZ hS; have hR := hS.wd
  refine q_take hS hR rfl rfl rfl rfl (y_boxField (o' := 1) hS rfl Try.underlying25 rfl rfl rfl) ?_; clear hS a; intro a hS
  refine q_take hS hR rfl rfl rfl rfl (y_loadBox1 (kk := 1000) hS rfl rfl rfl Try.underlying22 rfl) ?_; clear hS a; intro a hS
  refine q_take hS hR rfl rfl rfl rfl (y_boxField (o' := 3) hS rfl Try.underlying25 rfl rfl rfl) ?_; clear hS a; intro a hS
  refine q_take hS hR rfl rfl rfl rfl (y_loadBox1 (kk := 1000) hS rfl rfl rfl Try.underlying23 rfl) ?_; clear hS a; intro a hS
  refine q_take hS hR rfl rfl rfl rfl (y_lenSlice hS rfl Try.underlying23) ?_; clear hS a; intro a hS
  refine q_take hS hR rfl rfl rfl rfl (y_conv hS rfl Try.underlying3 Try.underlying22 (inu64.2 (by omega))) ?_; clear hS a; intro a hS
  refine l_take hS rfl rfl (l_call (cap := []) hS rfl Try.func24 rfl (by kernel_rfl) rfl rfl (adv_spec _ _ hS.lt _) ?_); clear hS a; intro v2 a w hK hp hS
  replace hZ := Nat.le_trans hZ hK.size; refine ⟨fun g _ h => h.grow hK, ?_⟩; clear hK
  obtain rfl := hp
  refine l_take hS rfl rfl (l_quiet hS rfl rfl (y_shr hS rfl rfl (by omega)) ?_); clear hS a; intro a hS; refine ⟨fun g _ h => h, ?_⟩
  refine l_take hS rfl rfl (l_quiet hS rfl rfl (y_rem hS rfl rfl (by omega)) ?_); clear hS a; intro a hS; refine ⟨fun g _ h => h, ?_⟩
  refine l_take hS rfl rfl (l_quiet hS rfl rfl (y_conv hS rfl Try.underlying22 Try.underlying3 (in64.2 (by omega))) ?_); clear hS a; intro a hS; refine ⟨fun g _ h => h, ?_⟩
  refine l_take hS rfl rfl (l_quiet hS rfl rfl (y_assign hS rfl) ?_); clear hS a; intro a hS; refine ⟨fun g _ h => h, ?_⟩
  clear hR hZ
  refine p_norm ?_
  apply wp_ret
  refine p_inR ?_
  refine p_thenR ?_
  refine fin1 (fn := Try.f23) hS rfl (r_tmp hS rfl) ?_
  rw [Int.toNat_of_nonneg (randIdx_bd s n hn.1).1]
  rfl

end Go.Proofs.Ytjklnbjblncgeaa
