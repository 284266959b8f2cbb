/- Chapter 31: the examples of the chapter hold -/
import Derived.Test.YtjklnbjblncgeaaW5
namespace Go.Proofs.Ytjklnbjblncgeaa
open Go.Gl Go.RowKit
set_option linter.unusedVariables false
set_option linter.unusedSimpArgs false

set_option maxHeartbeats 1000000 in
theorem example_spec (M : Bs) (w0 : World) (hM : ∀ b, M b → b < w0.heap.size)  :
    Calls Try.prog 12 [].toArray w0 (Ret noB w0 fun v w => v = .bool true) := by
  refine enter M noB Try.func12 rfl rfl hM ?_
  intro a hS
  apply wp_seq
  apply wp_region_lit
  refine q_seq hS rfl rfl rfl (y_assign hS rfl) ?_; clear hS a; intro a hS
  apply wpList_nil
  refine p_norm ?_
  apply wp_seq
  apply wp_seq
  apply wp_region_lit
  refine q_seq hS rfl rfl rfl (y_build (parts := [(0, .const (.int .i64 (0))), (1, .const (.int .i64 (5)))]) (ps := [(0, .int .i64 (0)), (1, .int .i64 (5))]) (cells := #[.int .i64 (0), .int .i64 (5)]) hS rfl (by kernel_rfl)) ?_; clear hS a; intro a hS
  refine q_seq hS rfl rfl rfl (y_build (parts := [(0, .const (.int .i64 (1))), (1, .const (.int .i64 (2)))]) (ps := [(0, .int .i64 (1)), (1, .int .i64 (2))]) (cells := #[.int .i64 (1), .int .i64 (2)]) hS rfl (by kernel_rfl)) ?_; clear hS a; intro a hS
  refine q_seq hS rfl rfl rfl (y_build (parts := [(0, .const (.int .i64 (2))), (1, .const (.int .i64 (1)))]) (ps := [(0, .int .i64 (2)), (1, .int .i64 (1))]) (cells := #[.int .i64 (2), .int .i64 (1)]) hS rfl (by kernel_rfl)) ?_; clear hS a; intro a hS
  refine l_seq rfl (l_buildDense (sz := 2) hS 1103 rfl rfl rfl Try.underlying59 rfl rfl rfl rfl rfl rfl rfl ?_); clear hS a; intro b1 a w hbb1 hK hS
  clear hbb1
  clear hK
  refine q_seq hS rfl rfl rfl (y_lenSlice hS rfl Try.underlying59) ?_; clear hS a; intro a hS
  refine q_seq hS rfl rfl rfl (y_move hS rfl) ?_; clear hS a; intro a hS
  apply wpList_nil
  refine p_norm ?_
  apply wp_block
  refine c_loop (σ := Nat) (fun k a w => (k ≤ 3) ∧ St (⟨Try.f12.ntmps, M, noB, w0⟩ : Ctx) [(20, .slice (some ⟨b1, 0, none⟩) (3) (3)), (21, .int .i64 (((3 : Nat) : Int))), (22, .int .i64 (((k : Nat) : Int)))] [(1103, Ob.row (some ⟨b1, 0, none⟩) (3) (3) 58 2 (cellsOfL [.agg #[.int .i64 (0), .int .i64 (5)], .agg #[.int .i64 (1), .int .i64 (2)], .agg #[.int .i64 (2), .int .i64 (1)]]))] [] a w) (fun k => 3 - k) (0) ⟨by omega, (hS.sub ⟨rfl, rfl, rfl, trivial⟩ ⟨rfl, trivial⟩ trivial)⟩ ?_
  clear hS a; rintro k a w ⟨hk, hS⟩
  apply wp_seq
  apply wp_region_lit
  refine q_seq hS rfl rfl rfl (y_lss hS rfl rfl) ?_; clear hS a; intro a hS
  apply wpList_nil
  refine p_norm ?_
  apply wp_seq
  refine c_dec hS rfl (fun hc0 => ?_) (fun hc0 => ?_)
  · apply wp_skip
    refine p_norm ?_
    apply wp_seq
    apply wp_block
    apply wp_seq
    rcases (by omega : k = 0 ∨ k = 1 ∨ k = 2) with rfl | rfl | rfl
    · apply wp_region_lit
      refine q_seq hS rfl rfl rfl (y_rowIndex (sz := 2) (i := 0) hS rfl rfl Try.underlying59 rfl rfl rfl (by omega)) ?_; clear hS a; intro a hS
      refine q_seq hS rfl rfl rfl (y_loadRow (kk := 1103) (vs := [.int .i64 (0), .int .i64 (5)]) hS rfl rfl rfl rfl Try.underlying58 rfl rfl) ?_; clear hS a; intro a hS
      refine l_seq rfl (l_alloc (zs := [.int .i64 (0), .int .i64 (0)]) hS 1302 rfl rfl rfl rfl ?_); clear hS a; intro b2 a w hb hK hS
      clear hb
      clear hK
      refine l_seq rfl (l_store (n := 2) (cs' := [.int .i64 (0), .int .i64 (5)]) hS 1302 rfl rfl rfl rfl rfl rfl rfl rfl ?_); clear hS; intro w hK hS; clear hK
      apply wpList_nil
      refine p_norm ?_
      apply wp_seq
      apply wp_region_lit
      refine q_seq hS rfl rfl rfl (y_arrIndex (o' := 0) (i := 0) (sz := 1) hS rfl rfl Try.underlying58 rfl rfl (by omega) rfl) ?_; clear hS a; intro a hS
      refine q_seq hS rfl rfl rfl (y_loadBox1 (kk := 1302) hS rfl rfl rfl Try.underlying3 rfl) ?_; clear hS a; intro a hS
      refine l_seq rfl (l_call (cap := []) hS rfl Try.func9 rfl (by kernel_rfl) rfl rfl (new_spec0 _ _ hS.lt _) ?_); clear hS a; intro v3 a w hK hp hS
      clear hK
      obtain rfl := hp
      refine q_seq hS rfl rfl rfl (y_move hS rfl) ?_; clear hS a; intro a hS
      refine q_seq hS rfl rfl rfl (y_extract hS rfl rfl) ?_; clear hS a; intro a hS
      refine q_seq hS rfl rfl rfl (y_extract hS rfl rfl) ?_; clear hS a; intro a hS
      refine l_seq rfl (l_alloc (zs := [.int .i64 (0), .int .u64 (0), .int .i64 (0), .slice (none) (0) (0)]) hS 1406 rfl rfl rfl rfl ?_); clear hS a; intro b4 a w hb hK hS
      clear hb
      clear hK
      refine l_seq rfl (l_store (n := 4) (cs' := [.int .i64 (0), .int .u64 (5), .int .i64 (0), .slice (none) (0) (0)]) hS 1406 rfl rfl rfl rfl rfl rfl rfl rfl ?_); clear hS; intro w hK hS; clear hK
      refine q_seq hS rfl rfl rfl (y_assign hS rfl) ?_; clear hS a; intro a hS
      apply wpList_nil
      refine p_norm ?_
      apply wp_seq
      refine d_plan hS [(7, 1406)] [(0, some 1406), (3, some 0), (5, some 0), (1, none), (2, none), (4, none), (6, none), (7, none)] rfl (by kernel_rfl) (by kernel_rfl) rfl ?_; clear hS; intro wr hZ hS; have hR := hS.wd
      refine q_take hS hR rfl rfl rfl rfl (y_loadBox (kk := 1406) (n := 4) (vs := [.int .i64 (0), .int .u64 (5), .int .i64 (0), .slice (none) (0) (0)]) hS rfl rfl Try.underlying25 rfl rfl rfl rfl) ?_; clear hS a; intro a hS
      refine q_take hS hR rfl rfl rfl rfl (y_build (parts := [(0, .const (.int .i64 (1))), (3, .const (.int .i64 (3)))]) (ps := [(0, .int .i64 (1)), (3, .int .i64 (3))]) (cells := #[.int .i64 (1), .int .i64 (0), .int .i64 (0), .int .i64 (3)]) hS rfl (by kernel_rfl)) ?_; clear hS a; intro a hS
      refine q_take hS hR rfl rfl rfl rfl (y_build (parts := [(0, .const (.int .i64 (2))), (3, .const (.int .i64 (3)))]) (ps := [(0, .int .i64 (2)), (3, .int .i64 (3))]) (cells := #[.int .i64 (2), .int .i64 (0), .int .i64 (0), .int .i64 (3)]) hS rfl (by kernel_rfl)) ?_; clear hS a; intro a hS
      refine l_take hS rfl rfl (l_call (cap := []) hS rfl Try.func21 rfl (by kernel_rfl) rfl rfl (task_spec _ _ hS.lt _) ?_); clear hS a; intro v5 a w hK hp hS
      replace hZ := Nat.le_trans hZ hK.size; refine ⟨fun g _ h => h.grow hK, ?_⟩; clear hK
      obtain rfl := hp
      refine l_take hS rfl rfl (l_call (cap := []) hS rfl Try.func15 rfl (by kernel_rfl) rfl rfl (push_spec _ _ hS.lt _ _ (0) _ (0) _ ([]) (5, 0, 0, 5) (SlR.nil_ _ _ _) (by omega) (by omega)) ?_); clear hS a; intro v7 a w hK hp hS
      replace hZ := Nat.le_trans hZ hK.size; refine ⟨fun g _ h => h.grow hK, ?_⟩; clear hK
      obtain ⟨A6, c6, rfl, h6⟩ := hp
      replace hS := hS.add 101 (slF RQ (A6) (1) (c6) ([((5, 0, 0, 5), 0)])) h6
      refine l_take hS rfl rfl (l_call (cap := []) hS rfl Try.func15 rfl (by kernel_rfl) rfl rfl (push_spec _ _ hS.lt _ _ (1) _ (1) _ ([((5, 0, 0, 5), 0)]) (1, 0, 0, 3) (hS.fact (k := 101) rfl) (by omega) (by omega)) ?_); clear hS a; intro v9 a w hK hp hS
      replace hZ := Nat.le_trans hZ hK.size; refine ⟨fun g _ h => h.grow hK, ?_⟩; clear hK
      obtain ⟨A8, c8, rfl, h8⟩ := hp
      replace hS := hS.add 102 (slF RQ (A8) (2) (c8) ([((5, 0, 0, 5), 0), ((1, 0, 0, 3), 1)])) h8
      refine l_take hS rfl rfl (l_call (cap := []) hS rfl Try.func15 rfl (by kernel_rfl) rfl rfl (push_spec _ _ hS.lt _ _ (2) _ (2) _ ([((5, 0, 0, 5), 0), ((1, 0, 0, 3), 1)]) (2, 0, 0, 3) (hS.fact (k := 102) rfl) (by omega) (by omega)) ?_); clear hS a; intro v11 a w hK hp hS
      replace hZ := Nat.le_trans hZ hK.size; refine ⟨fun g _ h => h.grow hK, ?_⟩; clear hK
      obtain ⟨A10, c10, rfl, h10⟩ := hp
      replace hS := hS.add 103 (slF RQ (A10) (3) (c10) ([((5, 0, 0, 5), 0), ((1, 0, 0, 3), 1), ((2, 0, 0, 3), 2)])) h10
      refine l_take hS rfl rfl (l_store (n := 4) (cs' := [.int .i64 (0), .int .u64 (5), .int .i64 (3), .slice (A10) (3) (c10)]) hS 1406 rfl rfl rfl rfl rfl rfl rfl rfl ?_); clear hS; intro w hK hS; replace hZ := Nat.le_trans hZ hK.size
      refine ⟨fun g hg h => h.obj hR (kk := 1406) rfl hK (by rintro rfl; exact absurd hg (by decide)), ?_⟩; clear hK
      clear hR hZ
      refine p_norm ?_
      apply wp_seq
      apply wp_region_lit
      refine q_seq hS rfl rfl rfl (y_loadBox (kk := 1406) (n := 4) (vs := [.int .i64 (0), .int .u64 (5), .int .i64 (3), .slice (A10) (3) (c10)]) hS rfl rfl Try.underlying25 rfl rfl rfl rfl) ?_; clear hS a; intro a hS
      refine l_seq rfl (l_call (cap := []) hS rfl Try.func13 rfl (by kernel_rfl) rfl rfl (pop_spec0 _ _ hS.lt _ _ _ _ _ ([((5, 0, 0, 5), 0), ((1, 0, 0, 3), 1), ((2, 0, 0, 3), 2)]) (hS.fact (k := 103) rfl) ⟨by omega, by omega⟩) ?_); clear hS a; intro v13 a w hK hp hS
      clear hK
      obtain ⟨A12, n12, c12, x12, hx12, rfl, h12⟩ := hp
      obtain rfl : ((5, 0, 0, 5), 0) = x12 := Option.some.inj (Eq.trans (by decide +kernel) hx12)
      obtain rfl : 2 = n12 := Eq.trans (by decide +kernel) h12.len
      refine q_seq hS rfl rfl rfl (y_move hS rfl) ?_; clear hS a; intro a hS
      refine q_seq hS rfl rfl rfl (y_extract hS rfl rfl) ?_; clear hS a; intro a hS
      refine q_seq hS rfl rfl rfl (y_extract hS rfl rfl) ?_; clear hS a; intro a hS
      refine q_seq hS rfl rfl rfl (y_extract hS rfl rfl) ?_; clear hS a; intro a hS
      refine l_seq rfl (l_alloc (zs := [.int .i64 (0), .int .u64 (0), .int .i64 (0), .slice (none) (0) (0)]) hS 1606 rfl rfl rfl rfl ?_); clear hS a; intro b14 a w hb hK hS
      clear hb
      clear hK
      refine l_seq rfl (l_alloc (zs := [.int .i64 (0), .int .i64 (0), .int .i64 (0), .int .i64 (0)]) hS 1607 rfl rfl rfl rfl ?_); clear hS a; intro b15 a w hb hK hS
      clear hb
      clear hK
      refine l_seq rfl (l_store (n := 4) (cs' := [.int .i64 (0), .int .u64 (5), .int .i64 (3), .slice (A12) (2) (c12)]) hS 1606 rfl rfl rfl rfl rfl rfl rfl rfl ?_); clear hS; intro w hK hS; clear hK
      refine l_seq rfl (l_store (n := 4) (cs' := [.int .i64 (5), .int .i64 (0), .int .i64 (0), .int .i64 (5)]) hS 1607 rfl rfl rfl rfl rfl rfl rfl rfl ?_); clear hS; intro w hK hS; clear hK
      refine q_seq hS rfl rfl rfl (y_assign hS rfl) ?_; clear hS a; intro a hS
      apply wpList_nil
      refine p_norm ?_
      apply wp_seq
      apply wp_region_lit
      refine q_seq hS rfl rfl rfl (y_move hS rfl) ?_; clear hS a; intro a hS
      refine q_seq hS rfl rfl rfl (y_neq hS rfl rfl) ?_; clear hS a; intro a hS
      refine q_seq hS rfl rfl rfl (y_move hS rfl) ?_; clear hS a; intro a hS
      refine g_yes hS rfl rfl rfl rfl (l_quiet hS rfl rfl (y_move hS rfl) ?_); clear hS a; intro a hS
      refine g_yes hS rfl rfl rfl rfl (l_quiet hS rfl rfl (y_not hS rfl) ?_); clear hS a; intro a hS
      refine q_seq hS rfl rfl rfl (y_pick_f hS rfl rfl) ?_; clear hS a; intro a hS
      refine q_seq hS rfl rfl rfl (y_move hS rfl) ?_; clear hS a; intro a hS
      refine g_yes hS rfl rfl rfl rfl (l_quiet hS rfl rfl (y_boxField (o' := 0) hS rfl Try.underlying32 rfl rfl rfl) ?_); clear hS a; intro a hS
      refine g_yes hS rfl rfl rfl rfl (l_quiet hS rfl rfl (y_loadBox1 (kk := 1607) hS rfl rfl rfl Try.underlying3 rfl) ?_); clear hS a; intro a hS
      refine g_yes hS rfl rfl rfl rfl (l_quiet hS rfl rfl (y_arrIndex (o' := 1) (i := 1) (sz := 1) hS rfl rfl Try.underlying58 rfl rfl (by omega) rfl) ?_); clear hS a; intro a hS
      refine g_yes hS rfl rfl rfl rfl (l_quiet hS rfl rfl (y_loadBox1 (kk := 1302) hS rfl rfl rfl Try.underlying3 rfl) ?_); clear hS a; intro a hS
      refine g_yes hS rfl rfl rfl rfl (l_quiet hS rfl rfl (y_neq hS rfl rfl) ?_); clear hS a; intro a hS
      refine q_seq hS rfl rfl rfl (y_pick_f hS rfl rfl) ?_; clear hS a; intro a hS
      refine q_seq hS rfl rfl rfl (y_move hS rfl) ?_; clear hS a; intro a hS
      refine g_yes hS rfl rfl rfl rfl (l_quiet hS rfl rfl (y_loadBox (kk := 1406) (n := 4) (vs := [.int .i64 (0), .int .u64 (5), .int .i64 (3), .slice (A10) (3) (c10)]) hS rfl rfl Try.underlying25 rfl rfl rfl rfl) ?_); clear hS a; intro a hS
      refine g_yes hS rfl rfl rfl rfl (l_call (cap := []) hS rfl Try.func14 rfl (by kernel_rfl) rfl rfl (len_spec _ _ hS.lt _ _ _ _ _ _) ?_); clear hS a; intro v16 a w hK hp hS
      clear hK
      obtain rfl := hp
      refine g_yes hS rfl rfl rfl rfl (l_quiet hS rfl rfl (y_neq hS rfl rfl) ?_); clear hS a; intro a hS
      refine q_seq hS rfl rfl rfl (y_pick_f hS rfl rfl) ?_; clear hS a; intro a hS
      refine q_seq hS rfl rfl rfl (y_move hS rfl) ?_; clear hS a; intro a hS
      refine g_yes hS rfl rfl rfl rfl (l_quiet hS rfl rfl (y_loadBox (kk := 1606) (n := 4) (vs := [.int .i64 (0), .int .u64 (5), .int .i64 (3), .slice (A12) (2) (c12)]) hS rfl rfl Try.underlying25 rfl rfl rfl rfl) ?_); clear hS a; intro a hS
      refine g_yes hS rfl rfl rfl rfl (l_call (cap := []) hS rfl Try.func14 rfl (by kernel_rfl) rfl rfl (len_spec _ _ hS.lt _ _ _ _ _ _) ?_); clear hS a; intro v17 a w hK hp hS
      clear hK
      obtain rfl := hp
      refine g_yes hS rfl rfl rfl rfl (l_quiet hS rfl rfl (y_neq hS rfl rfl) ?_); clear hS a; intro a hS
      refine q_seq hS rfl rfl rfl (y_pick_f hS rfl rfl) ?_; clear hS a; intro a hS
      refine q_seq hS rfl rfl rfl (y_move hS rfl) ?_; clear hS a; intro a hS
      refine g_yes hS rfl rfl rfl rfl (l_quiet hS rfl rfl (y_boxField (o' := 1) hS rfl Try.underlying25 rfl rfl rfl) ?_); clear hS a; intro a hS
      refine g_yes hS rfl rfl rfl rfl (l_quiet hS rfl rfl (y_loadBox1 (kk := 1606) hS rfl rfl rfl Try.underlying22 rfl) ?_); clear hS a; intro a hS
      refine g_yes hS rfl rfl rfl rfl (l_quiet hS rfl rfl (y_neq hS rfl rfl) ?_); clear hS a; intro a hS
      refine q_seq hS rfl rfl rfl (y_pick_f hS rfl rfl) ?_; clear hS a; intro a hS
      apply wpList_nil
      refine p_norm ?_
      refine c_f hS rfl ?_
      apply wp_skip
      refine p_inN ?_
      refine p_norm ?_
      apply wp_region_lit
      refine q_seq hS rfl rfl rfl (y_addN (i := 0) (j := 1) hS rfl rfl (in64.2 (by omega))) ?_; clear hS a; intro a hS
      refine q_seq hS rfl rfl rfl (y_move hS rfl) ?_; clear hS a; intro a hS
      apply wpList_nil
      refine p_norm ?_
      exact ⟨1, by omega, ⟨by omega, (hS.sub ⟨rfl, rfl, rfl, trivial⟩ ⟨rfl, trivial⟩ trivial)⟩⟩
    · apply wp_region_lit
      refine q_seq hS rfl rfl rfl (y_rowIndex (sz := 2) (i := 1) hS rfl rfl Try.underlying59 rfl rfl rfl (by omega)) ?_; clear hS a; intro a hS
      refine q_seq hS rfl rfl rfl (y_loadRow (kk := 1103) (vs := [.int .i64 (1), .int .i64 (2)]) hS rfl rfl rfl rfl Try.underlying58 rfl rfl) ?_; clear hS a; intro a hS
      refine l_seq rfl (l_alloc (zs := [.int .i64 (0), .int .i64 (0)]) hS 1302 rfl rfl rfl rfl ?_); clear hS a; intro b18 a w hb hK hS
      clear hb
      clear hK
      refine l_seq rfl (l_store (n := 2) (cs' := [.int .i64 (1), .int .i64 (2)]) hS 1302 rfl rfl rfl rfl rfl rfl rfl rfl ?_); clear hS; intro w hK hS; clear hK
      apply wpList_nil
      refine p_norm ?_
      apply wp_seq
      apply wp_region_lit
      refine q_seq hS rfl rfl rfl (y_arrIndex (o' := 0) (i := 0) (sz := 1) hS rfl rfl Try.underlying58 rfl rfl (by omega) rfl) ?_; clear hS a; intro a hS
      refine q_seq hS rfl rfl rfl (y_loadBox1 (kk := 1302) hS rfl rfl rfl Try.underlying3 rfl) ?_; clear hS a; intro a hS
      refine l_seq rfl (l_call (cap := []) hS rfl Try.func9 rfl (by kernel_rfl) rfl rfl (new_spec1 _ _ hS.lt _) ?_); clear hS a; intro v19 a w hK hp hS
      clear hK
      obtain rfl := hp
      refine q_seq hS rfl rfl rfl (y_move hS rfl) ?_; clear hS a; intro a hS
      refine q_seq hS rfl rfl rfl (y_extract hS rfl rfl) ?_; clear hS a; intro a hS
      refine q_seq hS rfl rfl rfl (y_extract hS rfl rfl) ?_; clear hS a; intro a hS
      refine l_seq rfl (l_alloc (zs := [.int .i64 (0), .int .u64 (0), .int .i64 (0), .slice (none) (0) (0)]) hS 1406 rfl rfl rfl rfl ?_); clear hS a; intro b20 a w hb hK hS
      clear hb
      clear hK
      refine l_seq rfl (l_store (n := 4) (cs' := [.int .i64 (1), .int .u64 (5), .int .i64 (0), .slice (none) (0) (0)]) hS 1406 rfl rfl rfl rfl rfl rfl rfl rfl ?_); clear hS; intro w hK hS; clear hK
      refine q_seq hS rfl rfl rfl (y_assign hS rfl) ?_; clear hS a; intro a hS
      apply wpList_nil
      refine p_norm ?_
      apply wp_seq
      refine d_plan hS [(7, 1406)] [(0, some 1406), (3, some 0), (5, some 0), (1, none), (2, none), (4, none), (6, none), (7, none)] rfl (by kernel_rfl) (by kernel_rfl) rfl ?_; clear hS; intro wr hZ hS; have hR := hS.wd
      refine q_take hS hR rfl rfl rfl rfl (y_loadBox (kk := 1406) (n := 4) (vs := [.int .i64 (1), .int .u64 (5), .int .i64 (0), .slice (none) (0) (0)]) hS rfl rfl Try.underlying25 rfl rfl rfl rfl) ?_; clear hS a; intro a hS
      refine q_take hS hR rfl rfl rfl rfl (y_build (parts := [(0, .const (.int .i64 (1))), (3, .const (.int .i64 (3)))]) (ps := [(0, .int .i64 (1)), (3, .int .i64 (3))]) (cells := #[.int .i64 (1), .int .i64 (0), .int .i64 (0), .int .i64 (3)]) hS rfl (by kernel_rfl)) ?_; clear hS a; intro a hS
      refine q_take hS hR rfl rfl rfl rfl (y_build (parts := [(0, .const (.int .i64 (2))), (3, .const (.int .i64 (3)))]) (ps := [(0, .int .i64 (2)), (3, .int .i64 (3))]) (cells := #[.int .i64 (2), .int .i64 (0), .int .i64 (0), .int .i64 (3)]) hS rfl (by kernel_rfl)) ?_; clear hS a; intro a hS
      refine l_take hS rfl rfl (l_call (cap := []) hS rfl Try.func21 rfl (by kernel_rfl) rfl rfl (task_spec _ _ hS.lt _) ?_); clear hS a; intro v21 a w hK hp hS
      replace hZ := Nat.le_trans hZ hK.size; refine ⟨fun g _ h => h.grow hK, ?_⟩; clear hK
      obtain rfl := hp
      refine l_take hS rfl rfl (l_call (cap := []) hS rfl Try.func15 rfl (by kernel_rfl) rfl rfl (push_spec _ _ hS.lt _ _ (0) _ (0) _ ([]) (5, 0, 0, 5) (SlR.nil_ _ _ _) (by omega) (by omega)) ?_); clear hS a; intro v23 a w hK hp hS
      replace hZ := Nat.le_trans hZ hK.size; refine ⟨fun g _ h => h.grow hK, ?_⟩; clear hK
      obtain ⟨A22, c22, rfl, h22⟩ := hp
      replace hS := hS.add 105 (slF RQ (A22) (1) (c22) ([((5, 0, 0, 5), 0)])) h22
      refine l_take hS rfl rfl (l_call (cap := []) hS rfl Try.func15 rfl (by kernel_rfl) rfl rfl (push_spec _ _ hS.lt _ _ (1) _ (1) _ ([((5, 0, 0, 5), 0)]) (1, 0, 0, 3) (hS.fact (k := 105) rfl) (by omega) (by omega)) ?_); clear hS a; intro v25 a w hK hp hS
      replace hZ := Nat.le_trans hZ hK.size; refine ⟨fun g _ h => h.grow hK, ?_⟩; clear hK
      obtain ⟨A24, c24, rfl, h24⟩ := hp
      replace hS := hS.add 106 (slF RQ (A24) (2) (c24) ([((5, 0, 0, 5), 0), ((1, 0, 0, 3), 1)])) h24
      refine l_take hS rfl rfl (l_call (cap := []) hS rfl Try.func15 rfl (by kernel_rfl) rfl rfl (push_spec _ _ hS.lt _ _ (2) _ (2) _ ([((5, 0, 0, 5), 0), ((1, 0, 0, 3), 1)]) (2, 0, 0, 3) (hS.fact (k := 106) rfl) (by omega) (by omega)) ?_); clear hS a; intro v27 a w hK hp hS
      replace hZ := Nat.le_trans hZ hK.size; refine ⟨fun g _ h => h.grow hK, ?_⟩; clear hK
      obtain ⟨A26, c26, rfl, h26⟩ := hp
      replace hS := hS.add 107 (slF RQ (A26) (3) (c26) ([((5, 0, 0, 5), 0), ((1, 0, 0, 3), 1), ((2, 0, 0, 3), 2)])) h26
      refine l_take hS rfl rfl (l_store (n := 4) (cs' := [.int .i64 (1), .int .u64 (5), .int .i64 (3), .slice (A26) (3) (c26)]) hS 1406 rfl rfl rfl rfl rfl rfl rfl rfl ?_); clear hS; intro w hK hS; replace hZ := Nat.le_trans hZ hK.size
      refine ⟨fun g hg h => h.obj hR (kk := 1406) rfl hK (by rintro rfl; exact absurd hg (by decide)), ?_⟩; clear hK
      clear hR hZ
      refine p_norm ?_
      apply wp_seq
      apply wp_region_lit
      refine q_seq hS rfl rfl rfl (y_loadBox (kk := 1406) (n := 4) (vs := [.int .i64 (1), .int .u64 (5), .int .i64 (3), .slice (A26) (3) (c26)]) hS rfl rfl Try.underlying25 rfl rfl rfl rfl) ?_; clear hS a; intro a hS
      refine l_seq rfl (l_call (cap := []) hS rfl Try.func13 rfl (by kernel_rfl) rfl rfl (pop_spec1 _ _ hS.lt _ _ _ _ _ ([((5, 0, 0, 5), 0), ((1, 0, 0, 3), 1), ((2, 0, 0, 3), 2)]) (hS.fact (k := 107) rfl) ⟨by omega, by omega⟩) ?_); clear hS a; intro v29 a w hK hp hS
      clear hK
      obtain ⟨A28, n28, c28, x28, hx28, rfl, h28⟩ := hp
      obtain rfl : ((2, 0, 0, 3), 2) = x28 := Option.some.inj (Eq.trans (by decide +kernel) hx28)
      obtain rfl : 2 = n28 := Eq.trans (by decide +kernel) h28.len
      refine q_seq hS rfl rfl rfl (y_move hS rfl) ?_; clear hS a; intro a hS
      refine q_seq hS rfl rfl rfl (y_extract hS rfl rfl) ?_; clear hS a; intro a hS
      refine q_seq hS rfl rfl rfl (y_extract hS rfl rfl) ?_; clear hS a; intro a hS
      refine q_seq hS rfl rfl rfl (y_extract hS rfl rfl) ?_; clear hS a; intro a hS
      refine l_seq rfl (l_alloc (zs := [.int .i64 (0), .int .u64 (0), .int .i64 (0), .slice (none) (0) (0)]) hS 1606 rfl rfl rfl rfl ?_); clear hS a; intro b30 a w hb hK hS
      clear hb
      clear hK
      refine l_seq rfl (l_alloc (zs := [.int .i64 (0), .int .i64 (0), .int .i64 (0), .int .i64 (0)]) hS 1607 rfl rfl rfl rfl ?_); clear hS a; intro b31 a w hb hK hS
      clear hb
      clear hK
      refine l_seq rfl (l_store (n := 4) (cs' := [.int .i64 (1), .int .u64 (5), .int .i64 (3), .slice (A28) (2) (c28)]) hS 1606 rfl rfl rfl rfl rfl rfl rfl rfl ?_); clear hS; intro w hK hS; clear hK
      refine l_seq rfl (l_store (n := 4) (cs' := [.int .i64 (2), .int .i64 (0), .int .i64 (0), .int .i64 (3)]) hS 1607 rfl rfl rfl rfl rfl rfl rfl rfl ?_); clear hS; intro w hK hS; clear hK
      refine q_seq hS rfl rfl rfl (y_assign hS rfl) ?_; clear hS a; intro a hS
      apply wpList_nil
      refine p_norm ?_
      apply wp_seq
      apply wp_region_lit
      refine q_seq hS rfl rfl rfl (y_move hS rfl) ?_; clear hS a; intro a hS
      refine q_seq hS rfl rfl rfl (y_neq hS rfl rfl) ?_; clear hS a; intro a hS
      refine q_seq hS rfl rfl rfl (y_move hS rfl) ?_; clear hS a; intro a hS
      refine g_yes hS rfl rfl rfl rfl (l_quiet hS rfl rfl (y_move hS rfl) ?_); clear hS a; intro a hS
      refine g_yes hS rfl rfl rfl rfl (l_quiet hS rfl rfl (y_not hS rfl) ?_); clear hS a; intro a hS
      refine q_seq hS rfl rfl rfl (y_pick_f hS rfl rfl) ?_; clear hS a; intro a hS
      refine q_seq hS rfl rfl rfl (y_move hS rfl) ?_; clear hS a; intro a hS
      refine g_yes hS rfl rfl rfl rfl (l_quiet hS rfl rfl (y_boxField (o' := 0) hS rfl Try.underlying32 rfl rfl rfl) ?_); clear hS a; intro a hS
      refine g_yes hS rfl rfl rfl rfl (l_quiet hS rfl rfl (y_loadBox1 (kk := 1607) hS rfl rfl rfl Try.underlying3 rfl) ?_); clear hS a; intro a hS
      refine g_yes hS rfl rfl rfl rfl (l_quiet hS rfl rfl (y_arrIndex (o' := 1) (i := 1) (sz := 1) hS rfl rfl Try.underlying58 rfl rfl (by omega) rfl) ?_); clear hS a; intro a hS
      refine g_yes hS rfl rfl rfl rfl (l_quiet hS rfl rfl (y_loadBox1 (kk := 1302) hS rfl rfl rfl Try.underlying3 rfl) ?_); clear hS a; intro a hS
      refine g_yes hS rfl rfl rfl rfl (l_quiet hS rfl rfl (y_neq hS rfl rfl) ?_); clear hS a; intro a hS
      refine q_seq hS rfl rfl rfl (y_pick_f hS rfl rfl) ?_; clear hS a; intro a hS
      refine q_seq hS rfl rfl rfl (y_move hS rfl) ?_; clear hS a; intro a hS
      refine g_yes hS rfl rfl rfl rfl (l_quiet hS rfl rfl (y_loadBox (kk := 1406) (n := 4) (vs := [.int .i64 (1), .int .u64 (5), .int .i64 (3), .slice (A26) (3) (c26)]) hS rfl rfl Try.underlying25 rfl rfl rfl rfl) ?_); clear hS a; intro a hS
      refine g_yes hS rfl rfl rfl rfl (l_call (cap := []) hS rfl Try.func14 rfl (by kernel_rfl) rfl rfl (len_spec _ _ hS.lt _ _ _ _ _ _) ?_); clear hS a; intro v32 a w hK hp hS
      clear hK
      obtain rfl := hp
      refine g_yes hS rfl rfl rfl rfl (l_quiet hS rfl rfl (y_neq hS rfl rfl) ?_); clear hS a; intro a hS
      refine q_seq hS rfl rfl rfl (y_pick_f hS rfl rfl) ?_; clear hS a; intro a hS
      refine q_seq hS rfl rfl rfl (y_move hS rfl) ?_; clear hS a; intro a hS
      refine g_yes hS rfl rfl rfl rfl (l_quiet hS rfl rfl (y_loadBox (kk := 1606) (n := 4) (vs := [.int .i64 (1), .int .u64 (5), .int .i64 (3), .slice (A28) (2) (c28)]) hS rfl rfl Try.underlying25 rfl rfl rfl rfl) ?_); clear hS a; intro a hS
      refine g_yes hS rfl rfl rfl rfl (l_call (cap := []) hS rfl Try.func14 rfl (by kernel_rfl) rfl rfl (len_spec _ _ hS.lt _ _ _ _ _ _) ?_); clear hS a; intro v33 a w hK hp hS
      clear hK
      obtain rfl := hp
      refine g_yes hS rfl rfl rfl rfl (l_quiet hS rfl rfl (y_neq hS rfl rfl) ?_); clear hS a; intro a hS
      refine q_seq hS rfl rfl rfl (y_pick_f hS rfl rfl) ?_; clear hS a; intro a hS
      refine q_seq hS rfl rfl rfl (y_move hS rfl) ?_; clear hS a; intro a hS
      refine g_yes hS rfl rfl rfl rfl (l_quiet hS rfl rfl (y_boxField (o' := 1) hS rfl Try.underlying25 rfl rfl rfl) ?_); clear hS a; intro a hS
      refine g_yes hS rfl rfl rfl rfl (l_quiet hS rfl rfl (y_loadBox1 (kk := 1606) hS rfl rfl rfl Try.underlying22 rfl) ?_); clear hS a; intro a hS
      refine g_yes hS rfl rfl rfl rfl (l_quiet hS rfl rfl (y_neq hS rfl rfl) ?_); clear hS a; intro a hS
      refine q_seq hS rfl rfl rfl (y_pick_f hS rfl rfl) ?_; clear hS a; intro a hS
      apply wpList_nil
      refine p_norm ?_
      refine c_f hS rfl ?_
      apply wp_skip
      refine p_inN ?_
      refine p_norm ?_
      apply wp_region_lit
      refine q_seq hS rfl rfl rfl (y_addN (i := 1) (j := 1) hS rfl rfl (in64.2 (by omega))) ?_; clear hS a; intro a hS
      refine q_seq hS rfl rfl rfl (y_move hS rfl) ?_; clear hS a; intro a hS
      apply wpList_nil
      refine p_norm ?_
      exact ⟨2, by omega, ⟨by omega, (hS.sub ⟨rfl, rfl, rfl, trivial⟩ ⟨rfl, trivial⟩ trivial)⟩⟩
    · apply wp_region_lit
      refine q_seq hS rfl rfl rfl (y_rowIndex (sz := 2) (i := 2) hS rfl rfl Try.underlying59 rfl rfl rfl (by omega)) ?_; clear hS a; intro a hS
      refine q_seq hS rfl rfl rfl (y_loadRow (kk := 1103) (vs := [.int .i64 (2), .int .i64 (1)]) hS rfl rfl rfl rfl Try.underlying58 rfl rfl) ?_; clear hS a; intro a hS
      refine l_seq rfl (l_alloc (zs := [.int .i64 (0), .int .i64 (0)]) hS 1302 rfl rfl rfl rfl ?_); clear hS a; intro b34 a w hb hK hS
      clear hb
      clear hK
      refine l_seq rfl (l_store (n := 2) (cs' := [.int .i64 (2), .int .i64 (1)]) hS 1302 rfl rfl rfl rfl rfl rfl rfl rfl ?_); clear hS; intro w hK hS; clear hK
      apply wpList_nil
      refine p_norm ?_
      apply wp_seq
      apply wp_region_lit
      refine q_seq hS rfl rfl rfl (y_arrIndex (o' := 0) (i := 0) (sz := 1) hS rfl rfl Try.underlying58 rfl rfl (by omega) rfl) ?_; clear hS a; intro a hS
      refine q_seq hS rfl rfl rfl (y_loadBox1 (kk := 1302) hS rfl rfl rfl Try.underlying3 rfl) ?_; clear hS a; intro a hS
      refine l_seq rfl (l_call (cap := []) hS rfl Try.func9 rfl (by kernel_rfl) rfl rfl (new_spec2 _ _ hS.lt _) ?_); clear hS a; intro v35 a w hK hp hS
      clear hK
      obtain rfl := hp
      refine q_seq hS rfl rfl rfl (y_move hS rfl) ?_; clear hS a; intro a hS
      refine q_seq hS rfl rfl rfl (y_extract hS rfl rfl) ?_; clear hS a; intro a hS
      refine q_seq hS rfl rfl rfl (y_extract hS rfl rfl) ?_; clear hS a; intro a hS
      refine l_seq rfl (l_alloc (zs := [.int .i64 (0), .int .u64 (0), .int .i64 (0), .slice (none) (0) (0)]) hS 1406 rfl rfl rfl rfl ?_); clear hS a; intro b36 a w hb hK hS
      clear hb
      clear hK
      refine l_seq rfl (l_store (n := 4) (cs' := [.int .i64 (2), .int .u64 (5), .int .i64 (0), .slice (none) (0) (0)]) hS 1406 rfl rfl rfl rfl rfl rfl rfl rfl ?_); clear hS; intro w hK hS; clear hK
      refine q_seq hS rfl rfl rfl (y_assign hS rfl) ?_; clear hS a; intro a hS
      apply wpList_nil
      refine p_norm ?_
      apply wp_seq
      refine d_plan hS [(7, 1406)] [(0, some 1406), (3, some 0), (5, some 0), (1, none), (2, none), (4, none), (6, none), (7, none)] rfl (by kernel_rfl) (by kernel_rfl) rfl ?_; clear hS; intro wr hZ hS; have hR := hS.wd
      refine q_take hS hR rfl rfl rfl rfl (y_loadBox (kk := 1406) (n := 4) (vs := [.int .i64 (2), .int .u64 (5), .int .i64 (0), .slice (none) (0) (0)]) hS rfl rfl Try.underlying25 rfl rfl rfl rfl) ?_; clear hS a; intro a hS
      refine q_take hS hR rfl rfl rfl rfl (y_build (parts := [(0, .const (.int .i64 (1))), (3, .const (.int .i64 (3)))]) (ps := [(0, .int .i64 (1)), (3, .int .i64 (3))]) (cells := #[.int .i64 (1), .int .i64 (0), .int .i64 (0), .int .i64 (3)]) hS rfl (by kernel_rfl)) ?_; clear hS a; intro a hS
      refine q_take hS hR rfl rfl rfl rfl (y_build (parts := [(0, .const (.int .i64 (2))), (3, .const (.int .i64 (3)))]) (ps := [(0, .int .i64 (2)), (3, .int .i64 (3))]) (cells := #[.int .i64 (2), .int .i64 (0), .int .i64 (0), .int .i64 (3)]) hS rfl (by kernel_rfl)) ?_; clear hS a; intro a hS
      refine l_take hS rfl rfl (l_call (cap := []) hS rfl Try.func21 rfl (by kernel_rfl) rfl rfl (task_spec _ _ hS.lt _) ?_); clear hS a; intro v37 a w hK hp hS
      replace hZ := Nat.le_trans hZ hK.size; refine ⟨fun g _ h => h.grow hK, ?_⟩; clear hK
      obtain rfl := hp
      refine l_take hS rfl rfl (l_call (cap := []) hS rfl Try.func15 rfl (by kernel_rfl) rfl rfl (push_spec _ _ hS.lt _ _ (0) _ (0) _ ([]) (5, 0, 0, 5) (SlR.nil_ _ _ _) (by omega) (by omega)) ?_); clear hS a; intro v39 a w hK hp hS
      replace hZ := Nat.le_trans hZ hK.size; refine ⟨fun g _ h => h.grow hK, ?_⟩; clear hK
      obtain ⟨A38, c38, rfl, h38⟩ := hp
      replace hS := hS.add 109 (slF RQ (A38) (1) (c38) ([((5, 0, 0, 5), 0)])) h38
      refine l_take hS rfl rfl (l_call (cap := []) hS rfl Try.func15 rfl (by kernel_rfl) rfl rfl (push_spec _ _ hS.lt _ _ (1) _ (1) _ ([((5, 0, 0, 5), 0)]) (1, 0, 0, 3) (hS.fact (k := 109) rfl) (by omega) (by omega)) ?_); clear hS a; intro v41 a w hK hp hS
      replace hZ := Nat.le_trans hZ hK.size; refine ⟨fun g _ h => h.grow hK, ?_⟩; clear hK
      obtain ⟨A40, c40, rfl, h40⟩ := hp
      replace hS := hS.add 110 (slF RQ (A40) (2) (c40) ([((5, 0, 0, 5), 0), ((1, 0, 0, 3), 1)])) h40
      refine l_take hS rfl rfl (l_call (cap := []) hS rfl Try.func15 rfl (by kernel_rfl) rfl rfl (push_spec _ _ hS.lt _ _ (2) _ (2) _ ([((5, 0, 0, 5), 0), ((1, 0, 0, 3), 1)]) (2, 0, 0, 3) (hS.fact (k := 110) rfl) (by omega) (by omega)) ?_); clear hS a; intro v43 a w hK hp hS
      replace hZ := Nat.le_trans hZ hK.size; refine ⟨fun g _ h => h.grow hK, ?_⟩; clear hK
      obtain ⟨A42, c42, rfl, h42⟩ := hp
      replace hS := hS.add 111 (slF RQ (A42) (3) (c42) ([((5, 0, 0, 5), 0), ((1, 0, 0, 3), 1), ((2, 0, 0, 3), 2)])) h42
      refine l_take hS rfl rfl (l_store (n := 4) (cs' := [.int .i64 (2), .int .u64 (5), .int .i64 (3), .slice (A42) (3) (c42)]) hS 1406 rfl rfl rfl rfl rfl rfl rfl rfl ?_); clear hS; intro w hK hS; replace hZ := Nat.le_trans hZ hK.size
      refine ⟨fun g hg h => h.obj hR (kk := 1406) rfl hK (by rintro rfl; exact absurd hg (by decide)), ?_⟩; clear hK
      clear hR hZ
      refine p_norm ?_
      apply wp_seq
      apply wp_region_lit
      refine q_seq hS rfl rfl rfl (y_loadBox (kk := 1406) (n := 4) (vs := [.int .i64 (2), .int .u64 (5), .int .i64 (3), .slice (A42) (3) (c42)]) hS rfl rfl Try.underlying25 rfl rfl rfl rfl) ?_; clear hS a; intro a hS
      refine l_seq rfl (l_call (cap := []) hS rfl Try.func13 rfl (by kernel_rfl) rfl rfl (pop_spec2 _ _ hS.lt _ _ _ _ _ ([((5, 0, 0, 5), 0), ((1, 0, 0, 3), 1), ((2, 0, 0, 3), 2)]) (hS.fact (k := 111) rfl) ⟨by omega, by omega⟩) ?_); clear hS a; intro v45 a w hK hp hS
      clear hK
      obtain ⟨A44, n44, c44, x44, hx44, rfl, h44⟩ := hp
      obtain rfl : ((1, 0, 0, 3), 1) = x44 := Option.some.inj (Eq.trans (by decide +kernel) hx44)
      obtain rfl : 2 = n44 := Eq.trans (by decide +kernel) h44.len
      refine q_seq hS rfl rfl rfl (y_move hS rfl) ?_; clear hS a; intro a hS
      refine q_seq hS rfl rfl rfl (y_extract hS rfl rfl) ?_; clear hS a; intro a hS
      refine q_seq hS rfl rfl rfl (y_extract hS rfl rfl) ?_; clear hS a; intro a hS
      refine q_seq hS rfl rfl rfl (y_extract hS rfl rfl) ?_; clear hS a; intro a hS
      refine l_seq rfl (l_alloc (zs := [.int .i64 (0), .int .u64 (0), .int .i64 (0), .slice (none) (0) (0)]) hS 1606 rfl rfl rfl rfl ?_); clear hS a; intro b46 a w hb hK hS
      clear hb
      clear hK
      refine l_seq rfl (l_alloc (zs := [.int .i64 (0), .int .i64 (0), .int .i64 (0), .int .i64 (0)]) hS 1607 rfl rfl rfl rfl ?_); clear hS a; intro b47 a w hb hK hS
      clear hb
      clear hK
      refine l_seq rfl (l_store (n := 4) (cs' := [.int .i64 (2), .int .u64 (5), .int .i64 (3), .slice (A44) (2) (c44)]) hS 1606 rfl rfl rfl rfl rfl rfl rfl rfl ?_); clear hS; intro w hK hS; clear hK
      refine l_seq rfl (l_store (n := 4) (cs' := [.int .i64 (1), .int .i64 (0), .int .i64 (0), .int .i64 (3)]) hS 1607 rfl rfl rfl rfl rfl rfl rfl rfl ?_); clear hS; intro w hK hS; clear hK
      refine q_seq hS rfl rfl rfl (y_assign hS rfl) ?_; clear hS a; intro a hS
      apply wpList_nil
      refine p_norm ?_
      apply wp_seq
      apply wp_region_lit
      refine q_seq hS rfl rfl rfl (y_move hS rfl) ?_; clear hS a; intro a hS
      refine q_seq hS rfl rfl rfl (y_neq hS rfl rfl) ?_; clear hS a; intro a hS
      refine q_seq hS rfl rfl rfl (y_move hS rfl) ?_; clear hS a; intro a hS
      refine g_yes hS rfl rfl rfl rfl (l_quiet hS rfl rfl (y_move hS rfl) ?_); clear hS a; intro a hS
      refine g_yes hS rfl rfl rfl rfl (l_quiet hS rfl rfl (y_not hS rfl) ?_); clear hS a; intro a hS
      refine q_seq hS rfl rfl rfl (y_pick_f hS rfl rfl) ?_; clear hS a; intro a hS
      refine q_seq hS rfl rfl rfl (y_move hS rfl) ?_; clear hS a; intro a hS
      refine g_yes hS rfl rfl rfl rfl (l_quiet hS rfl rfl (y_boxField (o' := 0) hS rfl Try.underlying32 rfl rfl rfl) ?_); clear hS a; intro a hS
      refine g_yes hS rfl rfl rfl rfl (l_quiet hS rfl rfl (y_loadBox1 (kk := 1607) hS rfl rfl rfl Try.underlying3 rfl) ?_); clear hS a; intro a hS
      refine g_yes hS rfl rfl rfl rfl (l_quiet hS rfl rfl (y_arrIndex (o' := 1) (i := 1) (sz := 1) hS rfl rfl Try.underlying58 rfl rfl (by omega) rfl) ?_); clear hS a; intro a hS
      refine g_yes hS rfl rfl rfl rfl (l_quiet hS rfl rfl (y_loadBox1 (kk := 1302) hS rfl rfl rfl Try.underlying3 rfl) ?_); clear hS a; intro a hS
      refine g_yes hS rfl rfl rfl rfl (l_quiet hS rfl rfl (y_neq hS rfl rfl) ?_); clear hS a; intro a hS
      refine q_seq hS rfl rfl rfl (y_pick_f hS rfl rfl) ?_; clear hS a; intro a hS
      refine q_seq hS rfl rfl rfl (y_move hS rfl) ?_; clear hS a; intro a hS
      refine g_yes hS rfl rfl rfl rfl (l_quiet hS rfl rfl (y_loadBox (kk := 1406) (n := 4) (vs := [.int .i64 (2), .int .u64 (5), .int .i64 (3), .slice (A42) (3) (c42)]) hS rfl rfl Try.underlying25 rfl rfl rfl rfl) ?_); clear hS a; intro a hS
      refine g_yes hS rfl rfl rfl rfl (l_call (cap := []) hS rfl Try.func14 rfl (by kernel_rfl) rfl rfl (len_spec _ _ hS.lt _ _ _ _ _ _) ?_); clear hS a; intro v48 a w hK hp hS
      clear hK
      obtain rfl := hp
      refine g_yes hS rfl rfl rfl rfl (l_quiet hS rfl rfl (y_neq hS rfl rfl) ?_); clear hS a; intro a hS
      refine q_seq hS rfl rfl rfl (y_pick_f hS rfl rfl) ?_; clear hS a; intro a hS
      refine q_seq hS rfl rfl rfl (y_move hS rfl) ?_; clear hS a; intro a hS
      refine g_yes hS rfl rfl rfl rfl (l_quiet hS rfl rfl (y_loadBox (kk := 1606) (n := 4) (vs := [.int .i64 (2), .int .u64 (5), .int .i64 (3), .slice (A44) (2) (c44)]) hS rfl rfl Try.underlying25 rfl rfl rfl rfl) ?_); clear hS a; intro a hS
      refine g_yes hS rfl rfl rfl rfl (l_call (cap := []) hS rfl Try.func14 rfl (by kernel_rfl) rfl rfl (len_spec _ _ hS.lt _ _ _ _ _ _) ?_); clear hS a; intro v49 a w hK hp hS
      clear hK
      obtain rfl := hp
      refine g_yes hS rfl rfl rfl rfl (l_quiet hS rfl rfl (y_neq hS rfl rfl) ?_); clear hS a; intro a hS
      refine q_seq hS rfl rfl rfl (y_pick_f hS rfl rfl) ?_; clear hS a; intro a hS
      refine q_seq hS rfl rfl rfl (y_move hS rfl) ?_; clear hS a; intro a hS
      refine g_yes hS rfl rfl rfl rfl (l_quiet hS rfl rfl (y_boxField (o' := 1) hS rfl Try.underlying25 rfl rfl rfl) ?_); clear hS a; intro a hS
      refine g_yes hS rfl rfl rfl rfl (l_quiet hS rfl rfl (y_loadBox1 (kk := 1606) hS rfl rfl rfl Try.underlying22 rfl) ?_); clear hS a; intro a hS
      refine g_yes hS rfl rfl rfl rfl (l_quiet hS rfl rfl (y_neq hS rfl rfl) ?_); clear hS a; intro a hS
      refine q_seq hS rfl rfl rfl (y_pick_f hS rfl rfl) ?_; clear hS a; intro a hS
      apply wpList_nil
      refine p_norm ?_
      refine c_f hS rfl ?_
      apply wp_skip
      refine p_inN ?_
      refine p_norm ?_
      apply wp_region_lit
      refine q_seq hS rfl rfl rfl (y_addN (i := 2) (j := 1) hS rfl rfl (in64.2 (by omega))) ?_; clear hS a; intro a hS
      refine q_seq hS rfl rfl rfl (y_move hS rfl) ?_; clear hS a; intro a hS
      apply wpList_nil
      refine p_norm ?_
      exact ⟨3, by omega, ⟨by omega, (hS.sub ⟨rfl, rfl, rfl, trivial⟩ ⟨rfl, trivial⟩ trivial)⟩⟩
  · apply wp_exit
    refine p_then ?_
    refine p_then ?_
    refine p_in ?_
    refine p_norm ?_
    apply wp_seq
    apply wp_region_lit
    refine l_seq rfl (l_call (cap := []) hS rfl Try.func9 rfl (by kernel_rfl) rfl rfl (new_spec3 _ _ hS.lt _) ?_); clear hS a; intro v50 a w hK hp hS
    clear hK
    obtain rfl := hp
    refine q_seq hS rfl rfl rfl (y_move hS rfl) ?_; clear hS a; intro a hS
    refine q_seq hS rfl rfl rfl (y_extract hS rfl rfl) ?_; clear hS a; intro a hS
    refine q_seq hS rfl rfl rfl (y_extract hS rfl rfl) ?_; clear hS a; intro a hS
    refine l_seq rfl (l_alloc (zs := [.int .i64 (0), .int .u64 (0), .int .i64 (0), .slice (none) (0) (0)]) hS 2004 rfl rfl rfl rfl ?_); clear hS a; intro b51 a w hb hK hS
    clear hb
    clear hK
    refine l_seq rfl (l_store (n := 4) (cs' := [.int .i64 (3), .int .u64 (0), .int .i64 (0), .slice (none) (0) (0)]) hS 2004 rfl rfl rfl rfl rfl rfl rfl rfl ?_); clear hS; intro w hK hS; clear hK
    refine q_seq hS rfl rfl rfl (y_assign hS rfl) ?_; clear hS a; intro a hS
    apply wpList_nil
    refine p_norm ?_
    apply wp_seq
    refine d_plan hS [(7, 2004)] [(0, some 2004), (1, none), (2, none), (3, none), (4, none), (5, none), (6, none), (7, none)] rfl (by kernel_rfl) (by kernel_rfl) rfl ?_; clear hS; intro wr hZ hS; have hR := hS.wd
    refine q_take hS hR rfl rfl rfl rfl (y_loadBox (kk := 2004) (n := 4) (vs := [.int .i64 (3), .int .u64 (0), .int .i64 (0), .slice (none) (0) (0)]) hS rfl rfl Try.underlying25 rfl rfl rfl rfl) ?_; clear hS a; intro a hS
    refine l_take hS rfl rfl (l_call (cap := []) hS rfl Try.func21 rfl (by kernel_rfl) rfl rfl (task_spec _ _ hS.lt _) ?_); clear hS a; intro v52 a w hK hp hS
    replace hZ := Nat.le_trans hZ hK.size; refine ⟨fun g _ h => h.grow hK, ?_⟩; clear hK
    obtain rfl := hp
    refine l_take hS rfl rfl (l_call (cap := []) hS rfl Try.func15 rfl (by kernel_rfl) rfl rfl (push_spec _ _ hS.lt _ _ (0) _ (0) _ ([]) (1, 0, 0, 1) (SlR.nil_ _ _ _) (by omega) (by omega)) ?_); clear hS a; intro v54 a w hK hp hS
    replace hZ := Nat.le_trans hZ hK.size; refine ⟨fun g _ h => h.grow hK, ?_⟩; clear hK
    obtain ⟨A53, c53, rfl, h53⟩ := hp
    replace hS := hS.add 113 (slF RQ (A53) (1) (c53) ([((1, 0, 0, 1), 0)])) h53
    refine l_take hS rfl rfl (l_call (cap := []) hS rfl Try.func21 rfl (by kernel_rfl) rfl rfl (task_spec _ _ hS.lt _) ?_); clear hS a; intro v55 a w hK hp hS
    replace hZ := Nat.le_trans hZ hK.size; refine ⟨fun g _ h => h.grow hK, ?_⟩; clear hK
    obtain rfl := hp
    refine l_take hS rfl rfl (l_call (cap := []) hS rfl Try.func15 rfl (by kernel_rfl) rfl rfl (push_spec _ _ hS.lt _ _ (1) _ (1) _ ([((1, 0, 0, 1), 0)]) (2, 0, 0, 2) (hS.fact (k := 113) rfl) (by omega) (by omega)) ?_); clear hS a; intro v57 a w hK hp hS
    replace hZ := Nat.le_trans hZ hK.size; refine ⟨fun g _ h => h.grow hK, ?_⟩; clear hK
    obtain ⟨A56, c56, rfl, h56⟩ := hp
    replace hS := hS.add 114 (slF RQ (A56) (2) (c56) ([((1, 0, 0, 1), 0), ((2, 0, 0, 2), 1)])) h56
    refine l_take hS rfl rfl (l_call (cap := []) hS rfl Try.func21 rfl (by kernel_rfl) rfl rfl (task_spec _ _ hS.lt _) ?_); clear hS a; intro v58 a w hK hp hS
    replace hZ := Nat.le_trans hZ hK.size; refine ⟨fun g _ h => h.grow hK, ?_⟩; clear hK
    obtain rfl := hp
    refine l_take hS rfl rfl (l_call (cap := []) hS rfl Try.func15 rfl (by kernel_rfl) rfl rfl (push_spec _ _ hS.lt _ _ (2) _ (2) _ ([((1, 0, 0, 1), 0), ((2, 0, 0, 2), 1)]) (3, 0, 0, 3) (hS.fact (k := 114) rfl) (by omega) (by omega)) ?_); clear hS a; intro v60 a w hK hp hS
    replace hZ := Nat.le_trans hZ hK.size; refine ⟨fun g _ h => h.grow hK, ?_⟩; clear hK
    obtain ⟨A59, c59, rfl, h59⟩ := hp
    replace hS := hS.add 115 (slF RQ (A59) (3) (c59) ([((1, 0, 0, 1), 0), ((2, 0, 0, 2), 1), ((3, 0, 0, 3), 2)])) h59
    refine l_take hS rfl rfl (l_store (n := 4) (cs' := [.int .i64 (3), .int .u64 (0), .int .i64 (3), .slice (A59) (3) (c59)]) hS 2004 rfl rfl rfl rfl rfl rfl rfl rfl ?_); clear hS; intro w hK hS; replace hZ := Nat.le_trans hZ hK.size
    refine ⟨fun g hg h => h.obj hR (kk := 2004) rfl hK (by rintro rfl; exact absurd hg (by decide)), ?_⟩; clear hK
    clear hR hZ
    refine p_norm ?_
    apply wp_seq
    apply wp_region_lit
    refine q_seq hS rfl rfl rfl (y_loadBox (kk := 2004) (n := 4) (vs := [.int .i64 (3), .int .u64 (0), .int .i64 (3), .slice (A59) (3) (c59)]) hS rfl rfl Try.underlying25 rfl rfl rfl rfl) ?_; clear hS a; intro a hS
    refine l_seq rfl (l_call (cap := []) hS rfl Try.func13 rfl (by kernel_rfl) rfl rfl (pop_spec3 _ _ hS.lt _ _ _ _ _ ([((1, 0, 0, 1), 0), ((2, 0, 0, 2), 1), ((3, 0, 0, 3), 2)]) (hS.fact (k := 115) rfl) ⟨by omega, by omega⟩) ?_); clear hS a; intro v62 a w hK hp hS
    clear hK
    obtain ⟨A61, n61, c61, x61, hx61, rfl, h61⟩ := hp
    obtain rfl : ((3, 0, 0, 3), 2) = x61 := Option.some.inj (Eq.trans (by decide +kernel) hx61)
    obtain rfl : 2 = n61 := Eq.trans (by decide +kernel) h61.len
    rw [show adv 0 = 1442695040888963407 from by decide +kernel] at hS
    refine q_seq hS rfl rfl rfl (y_move hS rfl) ?_; clear hS a; intro a hS
    refine q_seq hS rfl rfl rfl (y_extract hS rfl rfl) ?_; clear hS a; intro a hS
    refine q_seq hS rfl rfl rfl (y_extract hS rfl rfl) ?_; clear hS a; intro a hS
    refine q_seq hS rfl rfl rfl (y_extract hS rfl rfl) ?_; clear hS a; intro a hS
    refine l_seq rfl (l_alloc (zs := [.int .i64 (0), .int .u64 (0), .int .i64 (0), .slice (none) (0) (0)]) hS 2206 rfl rfl rfl rfl ?_); clear hS a; intro b63 a w hb hK hS
    clear hb
    clear hK
    refine l_seq rfl (l_alloc (zs := [.int .i64 (0), .int .i64 (0), .int .i64 (0), .int .i64 (0)]) hS 2207 rfl rfl rfl rfl ?_); clear hS a; intro b64 a w hb hK hS
    clear hb
    clear hK
    refine l_seq rfl (l_store (n := 4) (cs' := [.int .i64 (3), .int .u64 (1442695040888963407), .int .i64 (3), .slice (A61) (2) (c61)]) hS 2206 rfl rfl rfl rfl rfl rfl rfl rfl ?_); clear hS; intro w hK hS; clear hK
    refine l_seq rfl (l_store (n := 4) (cs' := [.int .i64 (3), .int .i64 (0), .int .i64 (0), .int .i64 (3)]) hS 2207 rfl rfl rfl rfl rfl rfl rfl rfl ?_); clear hS; intro w hK hS; clear hK
    refine q_seq hS rfl rfl rfl (y_assign hS rfl) ?_; clear hS a; intro a hS
    apply wpList_nil
    refine p_norm ?_
    apply wp_seq
    apply wp_region_lit
    refine l_seq rfl (l_call (cap := []) hS rfl Try.func9 rfl (by kernel_rfl) rfl rfl (new_other _ _ hS.lt _ _ (by omega)) ?_); clear hS a; intro v65 a w hK hp hS
    clear hK
    obtain rfl := hp
    refine q_seq hS rfl rfl rfl (y_move hS rfl) ?_; clear hS a; intro a hS
    refine q_seq hS rfl rfl rfl (y_extract hS rfl rfl) ?_; clear hS a; intro a hS
    refine q_seq hS rfl rfl rfl (y_extract hS rfl rfl) ?_; clear hS a; intro a hS
    refine l_seq rfl (l_alloc (zs := [.int .i64 (0), .int .u64 (0), .int .i64 (0), .slice (none) (0) (0)]) hS 2304 rfl rfl rfl rfl ?_); clear hS a; intro b66 a w hb hK hS
    clear hb
    clear hK
    refine l_seq rfl (l_store (n := 4) (cs' := [.int .i64 (0), .int .u64 (0), .int .i64 (0), .slice (none) (0) (0)]) hS 2304 rfl rfl rfl rfl rfl rfl rfl rfl ?_); clear hS; intro w hK hS; clear hK
    refine q_seq hS rfl rfl rfl (y_assign hS rfl) ?_; clear hS a; intro a hS
    apply wpList_nil
    refine p_norm ?_
    apply wp_seq
    apply wp_region_lit
    refine l_seq rfl (l_call (cap := []) hS rfl Try.func9 rfl (by kernel_rfl) rfl rfl (new_other _ _ hS.lt _ _ (by omega)) ?_); clear hS a; intro v67 a w hK hp hS
    clear hK
    obtain rfl := hp
    refine q_seq hS rfl rfl rfl (y_move hS rfl) ?_; clear hS a; intro a hS
    refine q_seq hS rfl rfl rfl (y_extract hS rfl rfl) ?_; clear hS a; intro a hS
    refine q_seq hS rfl rfl rfl (y_extract hS rfl rfl) ?_; clear hS a; intro a hS
    refine l_seq rfl (l_alloc (zs := [.int .i64 (0), .int .u64 (0), .int .i64 (0), .slice (none) (0) (0)]) hS 2404 rfl rfl rfl rfl ?_); clear hS a; intro b68 a w hb hK hS
    clear hb
    clear hK
    refine l_seq rfl (l_store (n := 4) (cs' := [.int .i64 (0), .int .u64 (0), .int .i64 (0), .slice (none) (0) (0)]) hS 2404 rfl rfl rfl rfl rfl rfl rfl rfl ?_); clear hS; intro w hK hS; clear hK
    refine q_seq hS rfl rfl rfl (y_assign hS rfl) ?_; clear hS a; intro a hS
    apply wpList_nil
    refine p_norm ?_
    apply wp_seq
    apply wp_region_lit
    refine q_seq hS rfl rfl rfl (y_move hS rfl) ?_; clear hS a; intro a hS
    refine q_seq hS rfl rfl rfl (y_move hS rfl) ?_; clear hS a; intro a hS
    refine g_yes hS rfl rfl rfl rfl (l_quiet hS rfl rfl (y_boxField (o' := 0) hS rfl Try.underlying32 rfl rfl rfl) ?_); clear hS a; intro a hS
    refine g_yes hS rfl rfl rfl rfl (l_quiet hS rfl rfl (y_loadBox1 (kk := 2207) hS rfl rfl rfl Try.underlying3 rfl) ?_); clear hS a; intro a hS
    refine g_yes hS rfl rfl rfl rfl (l_quiet hS rfl rfl (y_eql hS rfl rfl) ?_); clear hS a; intro a hS
    refine q_seq hS rfl rfl rfl (y_pick_t hS rfl rfl) ?_; clear hS a; intro a hS
    refine q_seq hS rfl rfl rfl (y_move hS rfl) ?_; clear hS a; intro a hS
    refine g_yes hS rfl rfl rfl rfl (l_quiet hS rfl rfl (y_boxField (o' := 1) hS rfl Try.underlying25 rfl rfl rfl) ?_); clear hS a; intro a hS
    refine g_yes hS rfl rfl rfl rfl (l_quiet hS rfl rfl (y_loadBox1 (kk := 2206) hS rfl rfl rfl Try.underlying22 rfl) ?_); clear hS a; intro a hS
    refine g_yes hS rfl rfl rfl rfl (l_quiet hS rfl rfl (y_eql hS rfl rfl) ?_); clear hS a; intro a hS
    refine q_seq hS rfl rfl rfl (y_pick_t hS rfl rfl) ?_; clear hS a; intro a hS
    refine q_seq hS rfl rfl rfl (y_move hS rfl) ?_; clear hS a; intro a hS
    refine g_yes hS rfl rfl rfl rfl (l_quiet hS rfl rfl (y_move hS rfl) ?_); clear hS a; intro a hS
    refine g_yes hS rfl rfl rfl rfl (l_quiet hS rfl rfl (y_eql hS rfl rfl) ?_); clear hS a; intro a hS
    refine q_seq hS rfl rfl rfl (y_pick_t hS rfl rfl) ?_; clear hS a; intro a hS
    refine q_seq hS rfl rfl rfl (y_move hS rfl) ?_; clear hS a; intro a hS
    refine g_yes hS rfl rfl rfl rfl (l_quiet hS rfl rfl (y_move hS rfl) ?_); clear hS a; intro a hS
    refine g_yes hS rfl rfl rfl rfl (l_quiet hS rfl rfl (y_eql hS rfl rfl) ?_); clear hS a; intro a hS
    refine q_seq hS rfl rfl rfl (y_pick_t hS rfl rfl) ?_; clear hS a; intro a hS
    refine q_seq hS rfl rfl rfl (y_assign hS rfl) ?_; clear hS a; intro a hS
    apply wpList_nil
    refine p_norm ?_
    apply wp_ret
    refine fin1 (fn := Try.f12) hS rfl (r_tmp hS rfl) ?_
    rfl

end Go.Proofs.Ytjklnbjblncgeaa
