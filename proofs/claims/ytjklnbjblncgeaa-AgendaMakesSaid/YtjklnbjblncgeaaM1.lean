/- Chapter 31: the law AgendaMakes, walked -/
import Derived.Test.YtjklnbjblncgeaaW6
namespace Go.Proofs.Ytjklnbjblncgeaa
open Go.Gl Go.RowKit
set_option linter.unusedVariables false
set_option linter.unusedSimpArgs false

set_option maxHeartbeats 400000 in
theorem makes0 (M : Bs) (w0 : World) (hM : ∀ b, M b → b < w0.heap.size) (s : Int) :
    Calls Try.prog 3 [.int .i64 (0), .int .u64 (s)].toArray w0 (Ret noB w0 fun v w => v = .bool true) := by
  refine enter M noB Try.func3 rfl rfl hM ?_
  intro a hS
  apply wp_seq
  apply wp_region_lit
  refine q_seq hS rfl rfl rfl (y_assign hS rfl) ?_; clear hS a; intro a hS
  apply wpList_nil
  refine p_norm ?_
  apply wp_seq
  apply wp_region_lit
  refine q_seq hS rfl rfl rfl (y_move hS rfl) ?_; clear hS a; intro a hS
  refine q_seq hS rfl rfl rfl (y_move hS rfl) ?_; clear hS a; intro a hS
  refine l_seq rfl (l_call (cap := []) hS rfl Try.func9 rfl (by kernel_rfl) rfl rfl (new_spec0 _ _ hS.lt _) ?_); clear hS a; intro v1 a w hK hp hS
  clear hK
  obtain rfl := hp
  refine q_seq hS rfl rfl rfl (y_move hS rfl) ?_; clear hS a; intro a hS
  refine q_seq hS rfl rfl rfl (y_extract hS rfl rfl) ?_; clear hS a; intro a hS
  refine q_seq hS rfl rfl rfl (y_extract hS rfl rfl) ?_; clear hS a; intro a hS
  refine l_seq rfl (l_alloc (zs := [.int .i64 (0), .int .u64 (0), .int .i64 (0), .slice (none) (0) (0)]) hS 1106 rfl rfl rfl rfl ?_); clear hS a; intro b2 a w hb hK hS
  clear hb
  clear hK
  refine l_seq rfl (l_store (n := 4) (cs' := [.int .i64 (0), .int .u64 (s), .int .i64 (0), .slice (none) (0) (0)]) hS 1106 rfl rfl rfl rfl rfl rfl rfl rfl ?_); clear hS; intro w hK hS; clear hK
  refine q_seq hS rfl rfl rfl (y_assign hS rfl) ?_; clear hS a; intro a hS
  apply wpList_nil
  refine p_norm ?_
  apply wp_seq
  apply wp_region_lit
  refine q_seq hS rfl rfl rfl (y_move hS rfl) ?_; clear hS a; intro a hS
  refine q_seq hS rfl rfl rfl (y_move hS rfl) ?_; clear hS a; intro a hS
  refine l_seq rfl (l_call (cap := []) hS rfl Try.func10 rfl (by kernel_rfl) rfl rfl (rnew_spec0 _ _ hS.lt _) ?_); clear hS a; intro v3 a w hK hp hS
  clear hK
  obtain rfl := hp
  refine q_seq hS rfl rfl rfl (y_move hS rfl) ?_; clear hS a; intro a hS
  refine q_seq hS rfl rfl rfl (y_extract hS rfl rfl) ?_; clear hS a; intro a hS
  refine q_seq hS rfl rfl rfl (y_extract hS rfl rfl) ?_; clear hS a; intro a hS
  refine l_seq rfl (l_alloc (zs := [.int .i64 (0), .int .u64 (0), .int .i64 (0), .slice (none) (0) (0)]) hS 1206 rfl rfl rfl rfl ?_); clear hS a; intro b4 a w hb hK hS
  clear hb
  clear hK
  refine l_seq rfl (l_store (n := 4) (cs' := [.int .i64 (0), .int .u64 (s), .int .i64 (0), .slice (none) (0) (0)]) hS 1206 rfl rfl rfl rfl rfl rfl rfl rfl ?_); clear hS; intro w hK hS; clear hK
  refine q_seq hS rfl rfl rfl (y_assign hS rfl) ?_; clear hS a; intro a hS
  apply wpList_nil
  refine p_norm ?_
  apply wp_seq
  apply wp_seq
  apply wp_region_lit
  refine q_seq hS rfl rfl rfl (y_move hS rfl) ?_; clear hS a; intro a hS
  refine q_seq hS rfl rfl rfl (y_move hS rfl) ?_; clear hS a; intro a hS
  refine q_seq hS rfl rfl rfl (y_neq hS rfl rfl) ?_; clear hS a; intro a hS
  refine q_seq hS rfl rfl rfl (y_move hS rfl) ?_; clear hS a; intro a hS
  refine g_yes hS rfl rfl rfl rfl (l_quiet hS rfl rfl (y_loadBox (kk := 1106) (n := 4) (vs := [.int .i64 (0), .int .u64 (s), .int .i64 (0), .slice (none) (0) (0)]) hS rfl rfl Try.underlying25 rfl rfl rfl rfl) ?_); clear hS a; intro a hS
  refine g_yes hS rfl rfl rfl rfl (l_quiet hS rfl rfl (y_loadBox (kk := 1206) (n := 4) (vs := [.int .i64 (0), .int .u64 (s), .int .i64 (0), .slice (none) (0) (0)]) hS rfl rfl Try.underlying25 rfl rfl rfl rfl) ?_); clear hS a; intro a hS
  refine g_yes hS rfl rfl rfl rfl (l_call (cap := []) hS rfl Try.func11 rfl (by kernel_rfl) rfl rfl (same_spec _ _ hS.lt _ _ _ _ _ _ _ _ ([]) (SlR.nil_ _ _ _) (SlR.nil_ _ _ _) (by omega)) ?_); clear hS a; intro v5 a w hK hp hS
  clear hK
  obtain rfl := hp
  refine g_yes hS rfl rfl rfl rfl (l_quiet hS rfl rfl (y_not hS rfl) ?_); clear hS a; intro a hS
  refine q_seq hS rfl rfl rfl (y_pick_f hS rfl rfl) ?_; clear hS a; intro a hS
  apply wpList_nil
  refine p_norm ?_
  refine c_f hS rfl ?_
  apply wp_skip
  refine p_norm ?_
  apply wp_seq
  apply wp_seq
  apply wp_region_lit
  refine q_seq hS rfl rfl rfl (y_move hS rfl) ?_; clear hS a; intro a hS
  refine q_seq hS rfl rfl rfl (y_neq hS rfl rfl) ?_; clear hS a; intro a hS
  apply wpList_nil
  refine p_norm ?_
  refine c_f hS rfl ?_
  apply wp_skip
  refine p_norm ?_
  apply wp_seq
  apply wp_region_lit
  refine q_seq hS rfl rfl rfl (y_loadBox (kk := 1106) (n := 4) (vs := [.int .i64 (0), .int .u64 (s), .int .i64 (0), .slice (none) (0) (0)]) hS rfl rfl Try.underlying25 rfl rfl rfl rfl) ?_; clear hS a; intro a hS
  refine l_seq rfl (l_call (cap := []) hS rfl Try.func13 rfl (by kernel_rfl) rfl rfl (pop_nil0 _ _ hS.lt _ _ _ _) ?_); clear hS a; intro v6 a w hK hp hS
  clear hK
  obtain rfl := hp
  refine q_seq hS rfl rfl rfl (y_move hS rfl) ?_; clear hS a; intro a hS
  refine q_seq hS rfl rfl rfl (y_extract hS rfl rfl) ?_; clear hS a; intro a hS
  refine q_seq hS rfl rfl rfl (y_extract hS rfl rfl) ?_; clear hS a; intro a hS
  refine q_seq hS rfl rfl rfl (y_extract hS rfl rfl) ?_; clear hS a; intro a hS
  refine l_seq rfl (l_alloc (zs := [.int .i64 (0), .int .u64 (0), .int .i64 (0), .slice (none) (0) (0)]) hS 1706 rfl rfl rfl rfl ?_); clear hS a; intro b7 a w hb hK hS
  clear hb
  clear hK
  refine l_seq rfl (l_alloc (zs := [.int .i64 (0), .int .i64 (0), .int .i64 (0), .int .i64 (0)]) hS 1707 rfl rfl rfl rfl ?_); clear hS a; intro b8 a w hb hK hS
  clear hb
  clear hK
  refine l_seq rfl (l_store (n := 4) (cs' := [.int .i64 (0), .int .u64 (s), .int .i64 (0), .slice (none) (0) (0)]) hS 1706 rfl rfl rfl rfl rfl rfl rfl rfl ?_); clear hS; intro w hK hS; clear hK
  refine l_seq rfl (l_store (n := 4) (cs' := [.int .i64 (0), .int .i64 (0), .int .i64 (0), .int .i64 (0)]) hS 1707 rfl rfl rfl rfl rfl rfl rfl rfl ?_); clear hS; intro w hK hS; clear hK
  refine q_seq hS rfl rfl rfl (y_assign hS rfl) ?_; clear hS a; intro a hS
  apply wpList_nil
  refine p_norm ?_
  apply wp_seq
  apply wp_region_lit
  refine q_seq hS rfl rfl rfl (y_move hS rfl) ?_; clear hS a; intro a hS
  refine q_seq hS rfl rfl rfl (y_not hS rfl) ?_; clear hS a; intro a hS
  refine q_seq hS rfl rfl rfl (y_move hS rfl) ?_; clear hS a; intro a hS
  refine g_yes hS rfl rfl rfl rfl (l_quiet hS rfl rfl (y_loadBox (kk := 1707) (n := 4) (vs := [.int .i64 (0), .int .i64 (0), .int .i64 (0), .int .i64 (0)]) hS rfl rfl Try.underlying32 rfl rfl rfl rfl) ?_); clear hS a; intro a hS
  refine g_yes hS rfl rfl rfl rfl (l_quiet hS rfl rfl (y_build (parts := []) (ps := []) (cells := #[.int .i64 (0), .int .i64 (0), .int .i64 (0), .int .i64 (0)]) hS rfl (by kernel_rfl)) ?_); clear hS a; intro a hS
  refine g_yes hS rfl rfl rfl rfl (l_quiet hS rfl rfl (y_eqlS hS rfl rfl (by kernel_rfl) (fun w' => eq32 9998 _ _ _ _ _ _ _ _ w')) ?_); clear hS a; intro a hS
  rw [show decide (((0, 0, 0, 0) : Task) = (0, 0, 0, 0)) = true from decide_eq_true rfl] at hS
  refine q_seq hS rfl rfl rfl (y_pick_t hS rfl rfl) ?_; clear hS a; intro a hS
  refine q_seq hS rfl rfl rfl (y_move hS rfl) ?_; clear hS a; intro a hS
  refine g_yes hS rfl rfl rfl rfl (l_quiet hS rfl rfl (y_loadBox (kk := 1706) (n := 4) (vs := [.int .i64 (0), .int .u64 (s), .int .i64 (0), .slice (none) (0) (0)]) hS rfl rfl Try.underlying25 rfl rfl rfl rfl) ?_); clear hS a; intro a hS
  refine g_yes hS rfl rfl rfl rfl (l_quiet hS rfl rfl (y_loadBox (kk := 1106) (n := 4) (vs := [.int .i64 (0), .int .u64 (s), .int .i64 (0), .slice (none) (0) (0)]) hS rfl rfl Try.underlying25 rfl rfl rfl rfl) ?_); clear hS a; intro a hS
  refine g_yes hS rfl rfl rfl rfl (l_call (cap := []) hS rfl Try.func11 rfl (by kernel_rfl) rfl rfl (same_spec _ _ hS.lt _ _ _ _ _ _ _ _ ([]) (SlR.nil_ _ _ _) (SlR.nil_ _ _ _) (by omega)) ?_); clear hS a; intro v9 a w hK hp hS
  clear hK
  obtain rfl := hp
  refine q_seq hS rfl rfl rfl (y_pick_t hS rfl rfl) ?_; clear hS a; intro a hS
  refine q_seq hS rfl rfl rfl (y_move hS rfl) ?_; clear hS a; intro a hS
  refine g_yes hS rfl rfl rfl rfl (l_quiet hS rfl rfl (y_loadBox (kk := 1106) (n := 4) (vs := [.int .i64 (0), .int .u64 (s), .int .i64 (0), .slice (none) (0) (0)]) hS rfl rfl Try.underlying25 rfl rfl rfl rfl) ?_); clear hS a; intro a hS
  refine g_yes hS rfl rfl rfl rfl (l_call (cap := []) hS rfl Try.func14 rfl (by kernel_rfl) rfl rfl (len_spec _ _ hS.lt _ _ _ _ _ _) ?_); clear hS a; intro v10 a w hK hp hS
  clear hK
  obtain rfl := hp
  refine g_yes hS rfl rfl rfl rfl (l_quiet hS rfl rfl (y_eql hS rfl rfl) ?_); clear hS a; intro a hS
  refine q_seq hS rfl rfl rfl (y_pick_t hS rfl rfl) ?_; clear hS a; intro a hS
  refine q_seq hS rfl rfl rfl (y_move hS rfl) ?_; clear hS a; intro a hS
  refine g_yes hS rfl rfl rfl rfl (l_call (cap := []) hS rfl Try.func12 rfl (by kernel_rfl) rfl rfl (example_spec _ _ hS.lt) ?_); clear hS a; intro v11 a w hK hp hS
  clear hK
  obtain rfl := hp
  refine q_seq hS rfl rfl rfl (y_pick_t hS rfl rfl) ?_; clear hS a; intro a hS
  refine q_seq hS rfl rfl rfl (y_assign hS rfl) ?_; clear hS a; intro a hS
  apply wpList_nil
  refine p_norm ?_
  apply wp_ret
  refine fin1 (fn := Try.f3) hS rfl (r_tmp hS rfl) ?_
  rfl

set_option maxHeartbeats 400000 in
theorem makes1 (M : Bs) (w0 : World) (hM : ∀ b, M b → b < w0.heap.size) (s : Int) :
    Calls Try.prog 3 [.int .i64 (1), .int .u64 (s)].toArray w0 (Ret noB w0 fun v w => v = .bool true) := by
  refine enter M noB Try.func3 rfl rfl hM ?_
  intro a hS
  apply wp_seq
  apply wp_region_lit
  refine q_seq hS rfl rfl rfl (y_assign hS rfl) ?_; clear hS a; intro a hS
  apply wpList_nil
  refine p_norm ?_
  apply wp_seq
  apply wp_region_lit
  refine q_seq hS rfl rfl rfl (y_move hS rfl) ?_; clear hS a; intro a hS
  refine q_seq hS rfl rfl rfl (y_move hS rfl) ?_; clear hS a; intro a hS
  refine l_seq rfl (l_call (cap := []) hS rfl Try.func9 rfl (by kernel_rfl) rfl rfl (new_spec1 _ _ hS.lt _) ?_); clear hS a; intro v1 a w hK hp hS
  clear hK
  obtain rfl := hp
  refine q_seq hS rfl rfl rfl (y_move hS rfl) ?_; clear hS a; intro a hS
  refine q_seq hS rfl rfl rfl (y_extract hS rfl rfl) ?_; clear hS a; intro a hS
  refine q_seq hS rfl rfl rfl (y_extract hS rfl rfl) ?_; clear hS a; intro a hS
  refine l_seq rfl (l_alloc (zs := [.int .i64 (0), .int .u64 (0), .int .i64 (0), .slice (none) (0) (0)]) hS 1106 rfl rfl rfl rfl ?_); clear hS a; intro b2 a w hb hK hS
  clear hb
  clear hK
  refine l_seq rfl (l_store (n := 4) (cs' := [.int .i64 (1), .int .u64 (s), .int .i64 (0), .slice (none) (0) (0)]) hS 1106 rfl rfl rfl rfl rfl rfl rfl rfl ?_); clear hS; intro w hK hS; clear hK
  refine q_seq hS rfl rfl rfl (y_assign hS rfl) ?_; clear hS a; intro a hS
  apply wpList_nil
  refine p_norm ?_
  apply wp_seq
  apply wp_region_lit
  refine q_seq hS rfl rfl rfl (y_move hS rfl) ?_; clear hS a; intro a hS
  refine q_seq hS rfl rfl rfl (y_move hS rfl) ?_; clear hS a; intro a hS
  refine l_seq rfl (l_call (cap := []) hS rfl Try.func10 rfl (by kernel_rfl) rfl rfl (rnew_spec1 _ _ hS.lt _) ?_); clear hS a; intro v3 a w hK hp hS
  clear hK
  obtain rfl := hp
  refine q_seq hS rfl rfl rfl (y_move hS rfl) ?_; clear hS a; intro a hS
  refine q_seq hS rfl rfl rfl (y_extract hS rfl rfl) ?_; clear hS a; intro a hS
  refine q_seq hS rfl rfl rfl (y_extract hS rfl rfl) ?_; clear hS a; intro a hS
  refine l_seq rfl (l_alloc (zs := [.int .i64 (0), .int .u64 (0), .int .i64 (0), .slice (none) (0) (0)]) hS 1206 rfl rfl rfl rfl ?_); clear hS a; intro b4 a w hb hK hS
  clear hb
  clear hK
  refine l_seq rfl (l_store (n := 4) (cs' := [.int .i64 (1), .int .u64 (s), .int .i64 (0), .slice (none) (0) (0)]) hS 1206 rfl rfl rfl rfl rfl rfl rfl rfl ?_); clear hS; intro w hK hS; clear hK
  refine q_seq hS rfl rfl rfl (y_assign hS rfl) ?_; clear hS a; intro a hS
  apply wpList_nil
  refine p_norm ?_
  apply wp_seq
  apply wp_seq
  apply wp_region_lit
  refine q_seq hS rfl rfl rfl (y_move hS rfl) ?_; clear hS a; intro a hS
  refine q_seq hS rfl rfl rfl (y_move hS rfl) ?_; clear hS a; intro a hS
  refine q_seq hS rfl rfl rfl (y_neq hS rfl rfl) ?_; clear hS a; intro a hS
  refine q_seq hS rfl rfl rfl (y_move hS rfl) ?_; clear hS a; intro a hS
  refine g_yes hS rfl rfl rfl rfl (l_quiet hS rfl rfl (y_loadBox (kk := 1106) (n := 4) (vs := [.int .i64 (1), .int .u64 (s), .int .i64 (0), .slice (none) (0) (0)]) hS rfl rfl Try.underlying25 rfl rfl rfl rfl) ?_); clear hS a; intro a hS
  refine g_yes hS rfl rfl rfl rfl (l_quiet hS rfl rfl (y_loadBox (kk := 1206) (n := 4) (vs := [.int .i64 (1), .int .u64 (s), .int .i64 (0), .slice (none) (0) (0)]) hS rfl rfl Try.underlying25 rfl rfl rfl rfl) ?_); clear hS a; intro a hS
  refine g_yes hS rfl rfl rfl rfl (l_call (cap := []) hS rfl Try.func11 rfl (by kernel_rfl) rfl rfl (same_spec _ _ hS.lt _ _ _ _ _ _ _ _ ([]) (SlR.nil_ _ _ _) (SlR.nil_ _ _ _) (by omega)) ?_); clear hS a; intro v5 a w hK hp hS
  clear hK
  obtain rfl := hp
  refine g_yes hS rfl rfl rfl rfl (l_quiet hS rfl rfl (y_not hS rfl) ?_); clear hS a; intro a hS
  refine q_seq hS rfl rfl rfl (y_pick_f hS rfl rfl) ?_; clear hS a; intro a hS
  apply wpList_nil
  refine p_norm ?_
  refine c_f hS rfl ?_
  apply wp_skip
  refine p_norm ?_
  apply wp_seq
  apply wp_seq
  apply wp_region_lit
  refine q_seq hS rfl rfl rfl (y_move hS rfl) ?_; clear hS a; intro a hS
  refine q_seq hS rfl rfl rfl (y_neq hS rfl rfl) ?_; clear hS a; intro a hS
  apply wpList_nil
  refine p_norm ?_
  refine c_f hS rfl ?_
  apply wp_skip
  refine p_norm ?_
  apply wp_seq
  apply wp_region_lit
  refine q_seq hS rfl rfl rfl (y_loadBox (kk := 1106) (n := 4) (vs := [.int .i64 (1), .int .u64 (s), .int .i64 (0), .slice (none) (0) (0)]) hS rfl rfl Try.underlying25 rfl rfl rfl rfl) ?_; clear hS a; intro a hS
  refine l_seq rfl (l_call (cap := []) hS rfl Try.func13 rfl (by kernel_rfl) rfl rfl (pop_nil1 _ _ hS.lt _ _ _ _) ?_); clear hS a; intro v6 a w hK hp hS
  clear hK
  obtain rfl := hp
  refine q_seq hS rfl rfl rfl (y_move hS rfl) ?_; clear hS a; intro a hS
  refine q_seq hS rfl rfl rfl (y_extract hS rfl rfl) ?_; clear hS a; intro a hS
  refine q_seq hS rfl rfl rfl (y_extract hS rfl rfl) ?_; clear hS a; intro a hS
  refine q_seq hS rfl rfl rfl (y_extract hS rfl rfl) ?_; clear hS a; intro a hS
  refine l_seq rfl (l_alloc (zs := [.int .i64 (0), .int .u64 (0), .int .i64 (0), .slice (none) (0) (0)]) hS 1706 rfl rfl rfl rfl ?_); clear hS a; intro b7 a w hb hK hS
  clear hb
  clear hK
  refine l_seq rfl (l_alloc (zs := [.int .i64 (0), .int .i64 (0), .int .i64 (0), .int .i64 (0)]) hS 1707 rfl rfl rfl rfl ?_); clear hS a; intro b8 a w hb hK hS
  clear hb
  clear hK
  refine l_seq rfl (l_store (n := 4) (cs' := [.int .i64 (1), .int .u64 (s), .int .i64 (0), .slice (none) (0) (0)]) hS 1706 rfl rfl rfl rfl rfl rfl rfl rfl ?_); clear hS; intro w hK hS; clear hK
  refine l_seq rfl (l_store (n := 4) (cs' := [.int .i64 (0), .int .i64 (0), .int .i64 (0), .int .i64 (0)]) hS 1707 rfl rfl rfl rfl rfl rfl rfl rfl ?_); clear hS; intro w hK hS; clear hK
  refine q_seq hS rfl rfl rfl (y_assign hS rfl) ?_; clear hS a; intro a hS
  apply wpList_nil
  refine p_norm ?_
  apply wp_seq
  apply wp_region_lit
  refine q_seq hS rfl rfl rfl (y_move hS rfl) ?_; clear hS a; intro a hS
  refine q_seq hS rfl rfl rfl (y_not hS rfl) ?_; clear hS a; intro a hS
  refine q_seq hS rfl rfl rfl (y_move hS rfl) ?_; clear hS a; intro a hS
  refine g_yes hS rfl rfl rfl rfl (l_quiet hS rfl rfl (y_loadBox (kk := 1707) (n := 4) (vs := [.int .i64 (0), .int .i64 (0), .int .i64 (0), .int .i64 (0)]) hS rfl rfl Try.underlying32 rfl rfl rfl rfl) ?_); clear hS a; intro a hS
  refine g_yes hS rfl rfl rfl rfl (l_quiet hS rfl rfl (y_build (parts := []) (ps := []) (cells := #[.int .i64 (0), .int .i64 (0), .int .i64 (0), .int .i64 (0)]) hS rfl (by kernel_rfl)) ?_); clear hS a; intro a hS
  refine g_yes hS rfl rfl rfl rfl (l_quiet hS rfl rfl (y_eqlS hS rfl rfl (by kernel_rfl) (fun w' => eq32 9998 _ _ _ _ _ _ _ _ w')) ?_); clear hS a; intro a hS
  rw [show decide (((0, 0, 0, 0) : Task) = (0, 0, 0, 0)) = true from decide_eq_true rfl] at hS
  refine q_seq hS rfl rfl rfl (y_pick_t hS rfl rfl) ?_; clear hS a; intro a hS
  refine q_seq hS rfl rfl rfl (y_move hS rfl) ?_; clear hS a; intro a hS
  refine g_yes hS rfl rfl rfl rfl (l_quiet hS rfl rfl (y_loadBox (kk := 1706) (n := 4) (vs := [.int .i64 (1), .int .u64 (s), .int .i64 (0), .slice (none) (0) (0)]) hS rfl rfl Try.underlying25 rfl rfl rfl rfl) ?_); clear hS a; intro a hS
  refine g_yes hS rfl rfl rfl rfl (l_quiet hS rfl rfl (y_loadBox (kk := 1106) (n := 4) (vs := [.int .i64 (1), .int .u64 (s), .int .i64 (0), .slice (none) (0) (0)]) hS rfl rfl Try.underlying25 rfl rfl rfl rfl) ?_); clear hS a; intro a hS
  refine g_yes hS rfl rfl rfl rfl (l_call (cap := []) hS rfl Try.func11 rfl (by kernel_rfl) rfl rfl (same_spec _ _ hS.lt _ _ _ _ _ _ _ _ ([]) (SlR.nil_ _ _ _) (SlR.nil_ _ _ _) (by omega)) ?_); clear hS a; intro v9 a w hK hp hS
  clear hK
  obtain rfl := hp
  refine q_seq hS rfl rfl rfl (y_pick_t hS rfl rfl) ?_; clear hS a; intro a hS
  refine q_seq hS rfl rfl rfl (y_move hS rfl) ?_; clear hS a; intro a hS
  refine g_yes hS rfl rfl rfl rfl (l_quiet hS rfl rfl (y_loadBox (kk := 1106) (n := 4) (vs := [.int .i64 (1), .int .u64 (s), .int .i64 (0), .slice (none) (0) (0)]) hS rfl rfl Try.underlying25 rfl rfl rfl rfl) ?_); clear hS a; intro a hS
  refine g_yes hS rfl rfl rfl rfl (l_call (cap := []) hS rfl Try.func14 rfl (by kernel_rfl) rfl rfl (len_spec _ _ hS.lt _ _ _ _ _ _) ?_); clear hS a; intro v10 a w hK hp hS
  clear hK
  obtain rfl := hp
  refine g_yes hS rfl rfl rfl rfl (l_quiet hS rfl rfl (y_eql hS rfl rfl) ?_); clear hS a; intro a hS
  refine q_seq hS rfl rfl rfl (y_pick_t hS rfl rfl) ?_; clear hS a; intro a hS
  refine q_seq hS rfl rfl rfl (y_move hS rfl) ?_; clear hS a; intro a hS
  refine g_yes hS rfl rfl rfl rfl (l_call (cap := []) hS rfl Try.func12 rfl (by kernel_rfl) rfl rfl (example_spec _ _ hS.lt) ?_); clear hS a; intro v11 a w hK hp hS
  clear hK
  obtain rfl := hp
  refine q_seq hS rfl rfl rfl (y_pick_t hS rfl rfl) ?_; clear hS a; intro a hS
  refine q_seq hS rfl rfl rfl (y_assign hS rfl) ?_; clear hS a; intro a hS
  apply wpList_nil
  refine p_norm ?_
  apply wp_ret
  refine fin1 (fn := Try.f3) hS rfl (r_tmp hS rfl) ?_
  rfl

set_option maxHeartbeats 400000 in
theorem makes2 (M : Bs) (w0 : World) (hM : ∀ b, M b → b < w0.heap.size) (s : Int) :
    Calls Try.prog 3 [.int .i64 (2), .int .u64 (s)].toArray w0 (Ret noB w0 fun v w => v = .bool true) := by
  refine enter M noB Try.func3 rfl rfl hM ?_
  intro a hS
  apply wp_seq
  apply wp_region_lit
  refine q_seq hS rfl rfl rfl (y_assign hS rfl) ?_; clear hS a; intro a hS
  apply wpList_nil
  refine p_norm ?_
  apply wp_seq
  apply wp_region_lit
  refine q_seq hS rfl rfl rfl (y_move hS rfl) ?_; clear hS a; intro a hS
  refine q_seq hS rfl rfl rfl (y_move hS rfl) ?_; clear hS a; intro a hS
  refine l_seq rfl (l_call (cap := []) hS rfl Try.func9 rfl (by kernel_rfl) rfl rfl (new_spec2 _ _ hS.lt _) ?_); clear hS a; intro v1 a w hK hp hS
  clear hK
  obtain rfl := hp
  refine q_seq hS rfl rfl rfl (y_move hS rfl) ?_; clear hS a; intro a hS
  refine q_seq hS rfl rfl rfl (y_extract hS rfl rfl) ?_; clear hS a; intro a hS
  refine q_seq hS rfl rfl rfl (y_extract hS rfl rfl) ?_; clear hS a; intro a hS
  refine l_seq rfl (l_alloc (zs := [.int .i64 (0), .int .u64 (0), .int .i64 (0), .slice (none) (0) (0)]) hS 1106 rfl rfl rfl rfl ?_); clear hS a; intro b2 a w hb hK hS
  clear hb
  clear hK
  refine l_seq rfl (l_store (n := 4) (cs' := [.int .i64 (2), .int .u64 (s), .int .i64 (0), .slice (none) (0) (0)]) hS 1106 rfl rfl rfl rfl rfl rfl rfl rfl ?_); clear hS; intro w hK hS; clear hK
  refine q_seq hS rfl rfl rfl (y_assign hS rfl) ?_; clear hS a; intro a hS
  apply wpList_nil
  refine p_norm ?_
  apply wp_seq
  apply wp_region_lit
  refine q_seq hS rfl rfl rfl (y_move hS rfl) ?_; clear hS a; intro a hS
  refine q_seq hS rfl rfl rfl (y_move hS rfl) ?_; clear hS a; intro a hS
  refine l_seq rfl (l_call (cap := []) hS rfl Try.func10 rfl (by kernel_rfl) rfl rfl (rnew_spec2 _ _ hS.lt _) ?_); clear hS a; intro v3 a w hK hp hS
  clear hK
  obtain rfl := hp
  refine q_seq hS rfl rfl rfl (y_move hS rfl) ?_; clear hS a; intro a hS
  refine q_seq hS rfl rfl rfl (y_extract hS rfl rfl) ?_; clear hS a; intro a hS
  refine q_seq hS rfl rfl rfl (y_extract hS rfl rfl) ?_; clear hS a; intro a hS
  refine l_seq rfl (l_alloc (zs := [.int .i64 (0), .int .u64 (0), .int .i64 (0), .slice (none) (0) (0)]) hS 1206 rfl rfl rfl rfl ?_); clear hS a; intro b4 a w hb hK hS
  clear hb
  clear hK
  refine l_seq rfl (l_store (n := 4) (cs' := [.int .i64 (2), .int .u64 (s), .int .i64 (0), .slice (none) (0) (0)]) hS 1206 rfl rfl rfl rfl rfl rfl rfl rfl ?_); clear hS; intro w hK hS; clear hK
  refine q_seq hS rfl rfl rfl (y_assign hS rfl) ?_; clear hS a; intro a hS
  apply wpList_nil
  refine p_norm ?_
  apply wp_seq
  apply wp_seq
  apply wp_region_lit
  refine q_seq hS rfl rfl rfl (y_move hS rfl) ?_; clear hS a; intro a hS
  refine q_seq hS rfl rfl rfl (y_move hS rfl) ?_; clear hS a; intro a hS
  refine q_seq hS rfl rfl rfl (y_neq hS rfl rfl) ?_; clear hS a; intro a hS
  refine q_seq hS rfl rfl rfl (y_move hS rfl) ?_; clear hS a; intro a hS
  refine g_yes hS rfl rfl rfl rfl (l_quiet hS rfl rfl (y_loadBox (kk := 1106) (n := 4) (vs := [.int .i64 (2), .int .u64 (s), .int .i64 (0), .slice (none) (0) (0)]) hS rfl rfl Try.underlying25 rfl rfl rfl rfl) ?_); clear hS a; intro a hS
  refine g_yes hS rfl rfl rfl rfl (l_quiet hS rfl rfl (y_loadBox (kk := 1206) (n := 4) (vs := [.int .i64 (2), .int .u64 (s), .int .i64 (0), .slice (none) (0) (0)]) hS rfl rfl Try.underlying25 rfl rfl rfl rfl) ?_); clear hS a; intro a hS
  refine g_yes hS rfl rfl rfl rfl (l_call (cap := []) hS rfl Try.func11 rfl (by kernel_rfl) rfl rfl (same_spec _ _ hS.lt _ _ _ _ _ _ _ _ ([]) (SlR.nil_ _ _ _) (SlR.nil_ _ _ _) (by omega)) ?_); clear hS a; intro v5 a w hK hp hS
  clear hK
  obtain rfl := hp
  refine g_yes hS rfl rfl rfl rfl (l_quiet hS rfl rfl (y_not hS rfl) ?_); clear hS a; intro a hS
  refine q_seq hS rfl rfl rfl (y_pick_f hS rfl rfl) ?_; clear hS a; intro a hS
  apply wpList_nil
  refine p_norm ?_
  refine c_f hS rfl ?_
  apply wp_skip
  refine p_norm ?_
  apply wp_seq
  apply wp_seq
  apply wp_region_lit
  refine q_seq hS rfl rfl rfl (y_move hS rfl) ?_; clear hS a; intro a hS
  refine q_seq hS rfl rfl rfl (y_neq hS rfl rfl) ?_; clear hS a; intro a hS
  apply wpList_nil
  refine p_norm ?_
  refine c_f hS rfl ?_
  apply wp_skip
  refine p_norm ?_
  apply wp_seq
  apply wp_region_lit
  refine q_seq hS rfl rfl rfl (y_loadBox (kk := 1106) (n := 4) (vs := [.int .i64 (2), .int .u64 (s), .int .i64 (0), .slice (none) (0) (0)]) hS rfl rfl Try.underlying25 rfl rfl rfl rfl) ?_; clear hS a; intro a hS
  refine l_seq rfl (l_call (cap := []) hS rfl Try.func13 rfl (by kernel_rfl) rfl rfl (pop_nil2 _ _ hS.lt _ _ _ _) ?_); clear hS a; intro v6 a w hK hp hS
  clear hK
  obtain rfl := hp
  refine q_seq hS rfl rfl rfl (y_move hS rfl) ?_; clear hS a; intro a hS
  refine q_seq hS rfl rfl rfl (y_extract hS rfl rfl) ?_; clear hS a; intro a hS
  refine q_seq hS rfl rfl rfl (y_extract hS rfl rfl) ?_; clear hS a; intro a hS
  refine q_seq hS rfl rfl rfl (y_extract hS rfl rfl) ?_; clear hS a; intro a hS
  refine l_seq rfl (l_alloc (zs := [.int .i64 (0), .int .u64 (0), .int .i64 (0), .slice (none) (0) (0)]) hS 1706 rfl rfl rfl rfl ?_); clear hS a; intro b7 a w hb hK hS
  clear hb
  clear hK
  refine l_seq rfl (l_alloc (zs := [.int .i64 (0), .int .i64 (0), .int .i64 (0), .int .i64 (0)]) hS 1707 rfl rfl rfl rfl ?_); clear hS a; intro b8 a w hb hK hS
  clear hb
  clear hK
  refine l_seq rfl (l_store (n := 4) (cs' := [.int .i64 (2), .int .u64 (s), .int .i64 (0), .slice (none) (0) (0)]) hS 1706 rfl rfl rfl rfl rfl rfl rfl rfl ?_); clear hS; intro w hK hS; clear hK
  refine l_seq rfl (l_store (n := 4) (cs' := [.int .i64 (0), .int .i64 (0), .int .i64 (0), .int .i64 (0)]) hS 1707 rfl rfl rfl rfl rfl rfl rfl rfl ?_); clear hS; intro w hK hS; clear hK
  refine q_seq hS rfl rfl rfl (y_assign hS rfl) ?_; clear hS a; intro a hS
  apply wpList_nil
  refine p_norm ?_
  apply wp_seq
  apply wp_region_lit
  refine q_seq hS rfl rfl rfl (y_move hS rfl) ?_; clear hS a; intro a hS
  refine q_seq hS rfl rfl rfl (y_not hS rfl) ?_; clear hS a; intro a hS
  refine q_seq hS rfl rfl rfl (y_move hS rfl) ?_; clear hS a; intro a hS
  refine g_yes hS rfl rfl rfl rfl (l_quiet hS rfl rfl (y_loadBox (kk := 1707) (n := 4) (vs := [.int .i64 (0), .int .i64 (0), .int .i64 (0), .int .i64 (0)]) hS rfl rfl Try.underlying32 rfl rfl rfl rfl) ?_); clear hS a; intro a hS
  refine g_yes hS rfl rfl rfl rfl (l_quiet hS rfl rfl (y_build (parts := []) (ps := []) (cells := #[.int .i64 (0), .int .i64 (0), .int .i64 (0), .int .i64 (0)]) hS rfl (by kernel_rfl)) ?_); clear hS a; intro a hS
  refine g_yes hS rfl rfl rfl rfl (l_quiet hS rfl rfl (y_eqlS hS rfl rfl (by kernel_rfl) (fun w' => eq32 9998 _ _ _ _ _ _ _ _ w')) ?_); clear hS a; intro a hS
  rw [show decide (((0, 0, 0, 0) : Task) = (0, 0, 0, 0)) = true from decide_eq_true rfl] at hS
  refine q_seq hS rfl rfl rfl (y_pick_t hS rfl rfl) ?_; clear hS a; intro a hS
  refine q_seq hS rfl rfl rfl (y_move hS rfl) ?_; clear hS a; intro a hS
  refine g_yes hS rfl rfl rfl rfl (l_quiet hS rfl rfl (y_loadBox (kk := 1706) (n := 4) (vs := [.int .i64 (2), .int .u64 (s), .int .i64 (0), .slice (none) (0) (0)]) hS rfl rfl Try.underlying25 rfl rfl rfl rfl) ?_); clear hS a; intro a hS
  refine g_yes hS rfl rfl rfl rfl (l_quiet hS rfl rfl (y_loadBox (kk := 1106) (n := 4) (vs := [.int .i64 (2), .int .u64 (s), .int .i64 (0), .slice (none) (0) (0)]) hS rfl rfl Try.underlying25 rfl rfl rfl rfl) ?_); clear hS a; intro a hS
  refine g_yes hS rfl rfl rfl rfl (l_call (cap := []) hS rfl Try.func11 rfl (by kernel_rfl) rfl rfl (same_spec _ _ hS.lt _ _ _ _ _ _ _ _ ([]) (SlR.nil_ _ _ _) (SlR.nil_ _ _ _) (by omega)) ?_); clear hS a; intro v9 a w hK hp hS
  clear hK
  obtain rfl := hp
  refine q_seq hS rfl rfl rfl (y_pick_t hS rfl rfl) ?_; clear hS a; intro a hS
  refine q_seq hS rfl rfl rfl (y_move hS rfl) ?_; clear hS a; intro a hS
  refine g_yes hS rfl rfl rfl rfl (l_quiet hS rfl rfl (y_loadBox (kk := 1106) (n := 4) (vs := [.int .i64 (2), .int .u64 (s), .int .i64 (0), .slice (none) (0) (0)]) hS rfl rfl Try.underlying25 rfl rfl rfl rfl) ?_); clear hS a; intro a hS
  refine g_yes hS rfl rfl rfl rfl (l_call (cap := []) hS rfl Try.func14 rfl (by kernel_rfl) rfl rfl (len_spec _ _ hS.lt _ _ _ _ _ _) ?_); clear hS a; intro v10 a w hK hp hS
  clear hK
  obtain rfl := hp
  refine g_yes hS rfl rfl rfl rfl (l_quiet hS rfl rfl (y_eql hS rfl rfl) ?_); clear hS a; intro a hS
  refine q_seq hS rfl rfl rfl (y_pick_t hS rfl rfl) ?_; clear hS a; intro a hS
  refine q_seq hS rfl rfl rfl (y_move hS rfl) ?_; clear hS a; intro a hS
  refine g_yes hS rfl rfl rfl rfl (l_call (cap := []) hS rfl Try.func12 rfl (by kernel_rfl) rfl rfl (example_spec _ _ hS.lt) ?_); clear hS a; intro v11 a w hK hp hS
  clear hK
  obtain rfl := hp
  refine q_seq hS rfl rfl rfl (y_pick_t hS rfl rfl) ?_; clear hS a; intro a hS
  refine q_seq hS rfl rfl rfl (y_assign hS rfl) ?_; clear hS a; intro a hS
  apply wpList_nil
  refine p_norm ?_
  apply wp_ret
  refine fin1 (fn := Try.f3) hS rfl (r_tmp hS rfl) ?_
  rfl

set_option maxHeartbeats 400000 in
theorem makes3 (M : Bs) (w0 : World) (hM : ∀ b, M b → b < w0.heap.size) (s : Int) :
    Calls Try.prog 3 [.int .i64 (3), .int .u64 (s)].toArray w0 (Ret noB w0 fun v w => v = .bool true) := by
  refine enter M noB Try.func3 rfl rfl hM ?_
  intro a hS
  apply wp_seq
  apply wp_region_lit
  refine q_seq hS rfl rfl rfl (y_assign hS rfl) ?_; clear hS a; intro a hS
  apply wpList_nil
  refine p_norm ?_
  apply wp_seq
  apply wp_region_lit
  refine q_seq hS rfl rfl rfl (y_move hS rfl) ?_; clear hS a; intro a hS
  refine q_seq hS rfl rfl rfl (y_move hS rfl) ?_; clear hS a; intro a hS
  refine l_seq rfl (l_call (cap := []) hS rfl Try.func9 rfl (by kernel_rfl) rfl rfl (new_spec3 _ _ hS.lt _) ?_); clear hS a; intro v1 a w hK hp hS
  clear hK
  obtain rfl := hp
  refine q_seq hS rfl rfl rfl (y_move hS rfl) ?_; clear hS a; intro a hS
  refine q_seq hS rfl rfl rfl (y_extract hS rfl rfl) ?_; clear hS a; intro a hS
  refine q_seq hS rfl rfl rfl (y_extract hS rfl rfl) ?_; clear hS a; intro a hS
  refine l_seq rfl (l_alloc (zs := [.int .i64 (0), .int .u64 (0), .int .i64 (0), .slice (none) (0) (0)]) hS 1106 rfl rfl rfl rfl ?_); clear hS a; intro b2 a w hb hK hS
  clear hb
  clear hK
  refine l_seq rfl (l_store (n := 4) (cs' := [.int .i64 (3), .int .u64 (s), .int .i64 (0), .slice (none) (0) (0)]) hS 1106 rfl rfl rfl rfl rfl rfl rfl rfl ?_); clear hS; intro w hK hS; clear hK
  refine q_seq hS rfl rfl rfl (y_assign hS rfl) ?_; clear hS a; intro a hS
  apply wpList_nil
  refine p_norm ?_
  apply wp_seq
  apply wp_region_lit
  refine q_seq hS rfl rfl rfl (y_move hS rfl) ?_; clear hS a; intro a hS
  refine q_seq hS rfl rfl rfl (y_move hS rfl) ?_; clear hS a; intro a hS
  refine l_seq rfl (l_call (cap := []) hS rfl Try.func10 rfl (by kernel_rfl) rfl rfl (rnew_spec3 _ _ hS.lt _) ?_); clear hS a; intro v3 a w hK hp hS
  clear hK
  obtain rfl := hp
  refine q_seq hS rfl rfl rfl (y_move hS rfl) ?_; clear hS a; intro a hS
  refine q_seq hS rfl rfl rfl (y_extract hS rfl rfl) ?_; clear hS a; intro a hS
  refine q_seq hS rfl rfl rfl (y_extract hS rfl rfl) ?_; clear hS a; intro a hS
  refine l_seq rfl (l_alloc (zs := [.int .i64 (0), .int .u64 (0), .int .i64 (0), .slice (none) (0) (0)]) hS 1206 rfl rfl rfl rfl ?_); clear hS a; intro b4 a w hb hK hS
  clear hb
  clear hK
  refine l_seq rfl (l_store (n := 4) (cs' := [.int .i64 (3), .int .u64 (s), .int .i64 (0), .slice (none) (0) (0)]) hS 1206 rfl rfl rfl rfl rfl rfl rfl rfl ?_); clear hS; intro w hK hS; clear hK
  refine q_seq hS rfl rfl rfl (y_assign hS rfl) ?_; clear hS a; intro a hS
  apply wpList_nil
  refine p_norm ?_
  apply wp_seq
  apply wp_seq
  apply wp_region_lit
  refine q_seq hS rfl rfl rfl (y_move hS rfl) ?_; clear hS a; intro a hS
  refine q_seq hS rfl rfl rfl (y_move hS rfl) ?_; clear hS a; intro a hS
  refine q_seq hS rfl rfl rfl (y_neq hS rfl rfl) ?_; clear hS a; intro a hS
  refine q_seq hS rfl rfl rfl (y_move hS rfl) ?_; clear hS a; intro a hS
  refine g_yes hS rfl rfl rfl rfl (l_quiet hS rfl rfl (y_loadBox (kk := 1106) (n := 4) (vs := [.int .i64 (3), .int .u64 (s), .int .i64 (0), .slice (none) (0) (0)]) hS rfl rfl Try.underlying25 rfl rfl rfl rfl) ?_); clear hS a; intro a hS
  refine g_yes hS rfl rfl rfl rfl (l_quiet hS rfl rfl (y_loadBox (kk := 1206) (n := 4) (vs := [.int .i64 (3), .int .u64 (s), .int .i64 (0), .slice (none) (0) (0)]) hS rfl rfl Try.underlying25 rfl rfl rfl rfl) ?_); clear hS a; intro a hS
  refine g_yes hS rfl rfl rfl rfl (l_call (cap := []) hS rfl Try.func11 rfl (by kernel_rfl) rfl rfl (same_spec _ _ hS.lt _ _ _ _ _ _ _ _ ([]) (SlR.nil_ _ _ _) (SlR.nil_ _ _ _) (by omega)) ?_); clear hS a; intro v5 a w hK hp hS
  clear hK
  obtain rfl := hp
  refine g_yes hS rfl rfl rfl rfl (l_quiet hS rfl rfl (y_not hS rfl) ?_); clear hS a; intro a hS
  refine q_seq hS rfl rfl rfl (y_pick_f hS rfl rfl) ?_; clear hS a; intro a hS
  apply wpList_nil
  refine p_norm ?_
  refine c_f hS rfl ?_
  apply wp_skip
  refine p_norm ?_
  apply wp_seq
  apply wp_seq
  apply wp_region_lit
  refine q_seq hS rfl rfl rfl (y_move hS rfl) ?_; clear hS a; intro a hS
  refine q_seq hS rfl rfl rfl (y_neq hS rfl rfl) ?_; clear hS a; intro a hS
  apply wpList_nil
  refine p_norm ?_
  refine c_f hS rfl ?_
  apply wp_skip
  refine p_norm ?_
  apply wp_seq
  apply wp_region_lit
  refine q_seq hS rfl rfl rfl (y_loadBox (kk := 1106) (n := 4) (vs := [.int .i64 (3), .int .u64 (s), .int .i64 (0), .slice (none) (0) (0)]) hS rfl rfl Try.underlying25 rfl rfl rfl rfl) ?_; clear hS a; intro a hS
  refine l_seq rfl (l_call (cap := []) hS rfl Try.func13 rfl (by kernel_rfl) rfl rfl (pop_nil3 _ _ hS.lt _ _ _ _) ?_); clear hS a; intro v6 a w hK hp hS
  clear hK
  obtain rfl := hp
  refine q_seq hS rfl rfl rfl (y_move hS rfl) ?_; clear hS a; intro a hS
  refine q_seq hS rfl rfl rfl (y_extract hS rfl rfl) ?_; clear hS a; intro a hS
  refine q_seq hS rfl rfl rfl (y_extract hS rfl rfl) ?_; clear hS a; intro a hS
  refine q_seq hS rfl rfl rfl (y_extract hS rfl rfl) ?_; clear hS a; intro a hS
  refine l_seq rfl (l_alloc (zs := [.int .i64 (0), .int .u64 (0), .int .i64 (0), .slice (none) (0) (0)]) hS 1706 rfl rfl rfl rfl ?_); clear hS a; intro b7 a w hb hK hS
  clear hb
  clear hK
  refine l_seq rfl (l_alloc (zs := [.int .i64 (0), .int .i64 (0), .int .i64 (0), .int .i64 (0)]) hS 1707 rfl rfl rfl rfl ?_); clear hS a; intro b8 a w hb hK hS
  clear hb
  clear hK
  refine l_seq rfl (l_store (n := 4) (cs' := [.int .i64 (3), .int .u64 (s), .int .i64 (0), .slice (none) (0) (0)]) hS 1706 rfl rfl rfl rfl rfl rfl rfl rfl ?_); clear hS; intro w hK hS; clear hK
  refine l_seq rfl (l_store (n := 4) (cs' := [.int .i64 (0), .int .i64 (0), .int .i64 (0), .int .i64 (0)]) hS 1707 rfl rfl rfl rfl rfl rfl rfl rfl ?_); clear hS; intro w hK hS; clear hK
  refine q_seq hS rfl rfl rfl (y_assign hS rfl) ?_; clear hS a; intro a hS
  apply wpList_nil
  refine p_norm ?_
  apply wp_seq
  apply wp_region_lit
  refine q_seq hS rfl rfl rfl (y_move hS rfl) ?_; clear hS a; intro a hS
  refine q_seq hS rfl rfl rfl (y_not hS rfl) ?_; clear hS a; intro a hS
  refine q_seq hS rfl rfl rfl (y_move hS rfl) ?_; clear hS a; intro a hS
  refine g_yes hS rfl rfl rfl rfl (l_quiet hS rfl rfl (y_loadBox (kk := 1707) (n := 4) (vs := [.int .i64 (0), .int .i64 (0), .int .i64 (0), .int .i64 (0)]) hS rfl rfl Try.underlying32 rfl rfl rfl rfl) ?_); clear hS a; intro a hS
  refine g_yes hS rfl rfl rfl rfl (l_quiet hS rfl rfl (y_build (parts := []) (ps := []) (cells := #[.int .i64 (0), .int .i64 (0), .int .i64 (0), .int .i64 (0)]) hS rfl (by kernel_rfl)) ?_); clear hS a; intro a hS
  refine g_yes hS rfl rfl rfl rfl (l_quiet hS rfl rfl (y_eqlS hS rfl rfl (by kernel_rfl) (fun w' => eq32 9998 _ _ _ _ _ _ _ _ w')) ?_); clear hS a; intro a hS
  rw [show decide (((0, 0, 0, 0) : Task) = (0, 0, 0, 0)) = true from decide_eq_true rfl] at hS
  refine q_seq hS rfl rfl rfl (y_pick_t hS rfl rfl) ?_; clear hS a; intro a hS
  refine q_seq hS rfl rfl rfl (y_move hS rfl) ?_; clear hS a; intro a hS
  refine g_yes hS rfl rfl rfl rfl (l_quiet hS rfl rfl (y_loadBox (kk := 1706) (n := 4) (vs := [.int .i64 (3), .int .u64 (s), .int .i64 (0), .slice (none) (0) (0)]) hS rfl rfl Try.underlying25 rfl rfl rfl rfl) ?_); clear hS a; intro a hS
  refine g_yes hS rfl rfl rfl rfl (l_quiet hS rfl rfl (y_loadBox (kk := 1106) (n := 4) (vs := [.int .i64 (3), .int .u64 (s), .int .i64 (0), .slice (none) (0) (0)]) hS rfl rfl Try.underlying25 rfl rfl rfl rfl) ?_); clear hS a; intro a hS
  refine g_yes hS rfl rfl rfl rfl (l_call (cap := []) hS rfl Try.func11 rfl (by kernel_rfl) rfl rfl (same_spec _ _ hS.lt _ _ _ _ _ _ _ _ ([]) (SlR.nil_ _ _ _) (SlR.nil_ _ _ _) (by omega)) ?_); clear hS a; intro v9 a w hK hp hS
  clear hK
  obtain rfl := hp
  refine q_seq hS rfl rfl rfl (y_pick_t hS rfl rfl) ?_; clear hS a; intro a hS
  refine q_seq hS rfl rfl rfl (y_move hS rfl) ?_; clear hS a; intro a hS
  refine g_yes hS rfl rfl rfl rfl (l_quiet hS rfl rfl (y_loadBox (kk := 1106) (n := 4) (vs := [.int .i64 (3), .int .u64 (s), .int .i64 (0), .slice (none) (0) (0)]) hS rfl rfl Try.underlying25 rfl rfl rfl rfl) ?_); clear hS a; intro a hS
  refine g_yes hS rfl rfl rfl rfl (l_call (cap := []) hS rfl Try.func14 rfl (by kernel_rfl) rfl rfl (len_spec _ _ hS.lt _ _ _ _ _ _) ?_); clear hS a; intro v10 a w hK hp hS
  clear hK
  obtain rfl := hp
  refine g_yes hS rfl rfl rfl rfl (l_quiet hS rfl rfl (y_eql hS rfl rfl) ?_); clear hS a; intro a hS
  refine q_seq hS rfl rfl rfl (y_pick_t hS rfl rfl) ?_; clear hS a; intro a hS
  refine q_seq hS rfl rfl rfl (y_move hS rfl) ?_; clear hS a; intro a hS
  refine g_yes hS rfl rfl rfl rfl (l_call (cap := []) hS rfl Try.func12 rfl (by kernel_rfl) rfl rfl (example_spec _ _ hS.lt) ?_); clear hS a; intro v11 a w hK hp hS
  clear hK
  obtain rfl := hp
  refine q_seq hS rfl rfl rfl (y_pick_t hS rfl rfl) ?_; clear hS a; intro a hS
  refine q_seq hS rfl rfl rfl (y_assign hS rfl) ?_; clear hS a; intro a hS
  apply wpList_nil
  refine p_norm ?_
  apply wp_ret
  refine fin1 (fn := Try.f3) hS rfl (r_tmp hS rfl) ?_
  rfl

set_option maxHeartbeats 400000 in
theorem makes_other (M : Bs) (w0 : World) (hM : ∀ b, M b → b < w0.heap.size) (p s : Int) (hp : p < 0 ∨ 3 < p) :
    Calls Try.prog 3 [.int .i64 (p), .int .u64 (s)].toArray w0 (Ret noB w0 fun v w => v = .bool true) := by
  refine enter M noB Try.func3 rfl rfl hM ?_
  intro a hS
  apply wp_seq
  apply wp_region_lit
  refine q_seq hS rfl rfl rfl (y_assign hS rfl) ?_; clear hS a; intro a hS
  apply wpList_nil
  refine p_norm ?_
  apply wp_seq
  apply wp_region_lit
  refine q_seq hS rfl rfl rfl (y_move hS rfl) ?_; clear hS a; intro a hS
  refine q_seq hS rfl rfl rfl (y_move hS rfl) ?_; clear hS a; intro a hS
  refine l_seq rfl (l_call (cap := []) hS rfl Try.func9 rfl (by kernel_rfl) rfl rfl (new_other _ _ hS.lt _ _ (by omega)) ?_); clear hS a; intro v1 a w hK hp hS
  clear hK
  obtain rfl := hp
  refine q_seq hS rfl rfl rfl (y_move hS rfl) ?_; clear hS a; intro a hS
  refine q_seq hS rfl rfl rfl (y_extract hS rfl rfl) ?_; clear hS a; intro a hS
  refine q_seq hS rfl rfl rfl (y_extract hS rfl rfl) ?_; clear hS a; intro a hS
  refine l_seq rfl (l_alloc (zs := [.int .i64 (0), .int .u64 (0), .int .i64 (0), .slice (none) (0) (0)]) hS 1106 rfl rfl rfl rfl ?_); clear hS a; intro b2 a w hb hK hS
  clear hb
  clear hK
  refine l_seq rfl (l_store (n := 4) (cs' := [.int .i64 (0), .int .u64 (0), .int .i64 (0), .slice (none) (0) (0)]) hS 1106 rfl rfl rfl rfl rfl rfl rfl rfl ?_); clear hS; intro w hK hS; clear hK
  refine q_seq hS rfl rfl rfl (y_assign hS rfl) ?_; clear hS a; intro a hS
  apply wpList_nil
  refine p_norm ?_
  apply wp_seq
  apply wp_region_lit
  refine q_seq hS rfl rfl rfl (y_move hS rfl) ?_; clear hS a; intro a hS
  refine q_seq hS rfl rfl rfl (y_move hS rfl) ?_; clear hS a; intro a hS
  refine l_seq rfl (l_call (cap := []) hS rfl Try.func10 rfl (by kernel_rfl) rfl rfl (rnew_other _ _ hS.lt _ _ (by omega)) ?_); clear hS a; intro v3 a w hK hp hS
  clear hK
  obtain rfl := hp
  refine q_seq hS rfl rfl rfl (y_move hS rfl) ?_; clear hS a; intro a hS
  refine q_seq hS rfl rfl rfl (y_extract hS rfl rfl) ?_; clear hS a; intro a hS
  refine q_seq hS rfl rfl rfl (y_extract hS rfl rfl) ?_; clear hS a; intro a hS
  refine l_seq rfl (l_alloc (zs := [.int .i64 (0), .int .u64 (0), .int .i64 (0), .slice (none) (0) (0)]) hS 1206 rfl rfl rfl rfl ?_); clear hS a; intro b4 a w hb hK hS
  clear hb
  clear hK
  refine l_seq rfl (l_store (n := 4) (cs' := [.int .i64 (0), .int .u64 (0), .int .i64 (0), .slice (none) (0) (0)]) hS 1206 rfl rfl rfl rfl rfl rfl rfl rfl ?_); clear hS; intro w hK hS; clear hK
  refine q_seq hS rfl rfl rfl (y_assign hS rfl) ?_; clear hS a; intro a hS
  apply wpList_nil
  refine p_norm ?_
  apply wp_seq
  apply wp_seq
  apply wp_region_lit
  refine q_seq hS rfl rfl rfl (y_move hS rfl) ?_; clear hS a; intro a hS
  refine q_seq hS rfl rfl rfl (y_move hS rfl) ?_; clear hS a; intro a hS
  refine q_seq hS rfl rfl rfl (y_neq hS rfl rfl) ?_; clear hS a; intro a hS
  refine q_seq hS rfl rfl rfl (y_move hS rfl) ?_; clear hS a; intro a hS
  refine g_yes hS rfl rfl rfl rfl (l_quiet hS rfl rfl (y_loadBox (kk := 1106) (n := 4) (vs := [.int .i64 (0), .int .u64 (0), .int .i64 (0), .slice (none) (0) (0)]) hS rfl rfl Try.underlying25 rfl rfl rfl rfl) ?_); clear hS a; intro a hS
  refine g_yes hS rfl rfl rfl rfl (l_quiet hS rfl rfl (y_loadBox (kk := 1206) (n := 4) (vs := [.int .i64 (0), .int .u64 (0), .int .i64 (0), .slice (none) (0) (0)]) hS rfl rfl Try.underlying25 rfl rfl rfl rfl) ?_); clear hS a; intro a hS
  refine g_yes hS rfl rfl rfl rfl (l_call (cap := []) hS rfl Try.func11 rfl (by kernel_rfl) rfl rfl (same_spec _ _ hS.lt _ _ _ _ _ _ _ _ ([]) (SlR.nil_ _ _ _) (SlR.nil_ _ _ _) (by omega)) ?_); clear hS a; intro v5 a w hK hp hS
  clear hK
  obtain rfl := hp
  refine g_yes hS rfl rfl rfl rfl (l_quiet hS rfl rfl (y_not hS rfl) ?_); clear hS a; intro a hS
  refine q_seq hS rfl rfl rfl (y_pick_f hS rfl rfl) ?_; clear hS a; intro a hS
  apply wpList_nil
  refine p_norm ?_
  refine c_f hS rfl ?_
  apply wp_skip
  refine p_norm ?_
  apply wp_seq
  apply wp_seq
  apply wp_region_lit
  refine q_seq hS rfl rfl rfl (y_move hS rfl) ?_; clear hS a; intro a hS
  refine q_seq hS rfl rfl rfl (y_neq hS rfl rfl) ?_; clear hS a; intro a hS
  apply wpList_nil
  refine p_norm ?_
  refine c_t hS rfl ?_
  apply wp_seq
  apply wp_region_lit
  refine l_seq rfl (l_call (cap := []) hS rfl Try.func12 rfl (by kernel_rfl) rfl rfl (example_spec _ _ hS.lt) ?_); clear hS a; intro v6 a w hK hp hS
  clear hK
  obtain rfl := hp
  refine q_seq hS rfl rfl rfl (y_assign hS rfl) ?_; clear hS a; intro a hS
  apply wpList_nil
  refine p_norm ?_
  apply wp_ret
  refine p_thenR ?_
  refine fin1 (fn := Try.f3) hS rfl (r_tmp hS rfl) ?_
  rfl

end Go.Proofs.Ytjklnbjblncgeaa
