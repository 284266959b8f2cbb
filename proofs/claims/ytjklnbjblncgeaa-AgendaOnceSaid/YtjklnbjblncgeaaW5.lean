/- Chapter 31: contracts of the reference's Pop and Same, of task and place -/
import Derived.Test.YtjklnbjblncgeaaW4
namespace Go.Proofs.Ytjklnbjblncgeaa
open Go.Gl Go.RowKit
set_option linter.unusedVariables false
set_option linter.unusedSimpArgs false

set_option maxHeartbeats 400000 in
theorem rpop_spec0 (M : Bs) (w0 : World) (hM : ∀ b, M b → b < w0.heap.size) (s b : Int) (A : Option Addr) (n c : Nat) (xs : List Queued) (hsl : SlR RQ M w0 A n c xs) (hn : 0 < n ∧ n ≤ 1000) :
    Calls Try.prog 17 [.agg #[.int .i64 (0), .int .u64 (s), .int .i64 (b), .slice (A) (n) (c)]].toArray w0 (Ret noB w0 fun v w => ∃ A' n' c' x, xs[0]? = some x ∧ v = .tuple #[.agg #[.int .i64 0, .int .u64 (s), .int .i64 b, .slice A' n' c'], .agg #[.int .i64 x.1.1, .int .i64 x.1.2.1, .int .i64 x.1.2.2.1, .int .i64 x.1.2.2.2], .bool true] ∧ SlR RQ M w A' n' c' (popRest xs (0))) := by
  have hi : 0 < n := hn.1
  refine enter M noB Try.func17 rfl rfl hM ?_
  intro a hS
  replace hS := hS.add 0 (slF RQ (A) (n) (c) (xs)) (by exact Fact.change _ enterM hsl)
  apply wp_seq
  apply wp_region_lit
  refine l_seq rfl (l_box (zs := [.int .i64 (0), .int .u64 (s), .int .i64 (b), .slice (A) (n) (c)]) hS 1000 rfl rfl rfl rfl ?_); clear hS a; intro b1 a w hb hK hS
  clear hb
  clear hK
  refine l_seq rfl (l_alloc (zs := [.int .i64 (0), .int .u64 (0), .int .i64 (0), .slice (none) (0) (0)]) hS 1001 rfl rfl rfl rfl ?_); clear hS a; intro b2 a w hb hK hS
  clear hb
  clear hK
  refine l_seq rfl (l_alloc (zs := [.int .i64 (0), .int .i64 (0), .int .i64 (0), .int .i64 (0)]) hS 1002 rfl rfl rfl rfl ?_); clear hS a; intro b3 a w hb hK hS
  clear hb
  clear hK
  refine q_seq hS rfl rfl rfl (y_assign hS rfl) ?_; clear hS a; intro a hS
  apply wpList_nil
  refine p_norm ?_
  apply wp_seq
  apply wp_seq
  apply wp_region_lit
  refine q_seq hS rfl rfl rfl (y_boxField (o' := 3) hS rfl Try.underlying25 rfl rfl rfl) ?_; clear hS a; intro a hS
  refine q_seq hS rfl rfl rfl (y_loadBox1 (kk := 1000) hS rfl rfl rfl Try.underlying23 rfl) ?_; clear hS a; intro a hS
  refine q_seq hS rfl rfl rfl (y_lenSlice hS rfl Try.underlying23) ?_; clear hS a; intro a hS
  refine q_seq hS rfl rfl rfl (y_eql hS rfl rfl) ?_; clear hS a; intro a hS
  apply wpList_nil
  refine p_norm ?_
  refine c_dec hS rfl (fun hc0 => ?_) (fun hc0 => ?_)
  · exfalso; omega
  · apply wp_skip
    refine p_norm ?_
    apply wp_seq
    apply wp_region_lit
    refine q_seq hS rfl rfl rfl (y_loadBox (kk := 1000) (n := 4) (vs := [.int .i64 (0), .int .u64 (s), .int .i64 (b), .slice (A) (n) (c)]) hS rfl rfl Try.underlying25 rfl rfl rfl rfl) ?_; clear hS a; intro a hS
    refine l_seq rfl (l_call (cap := []) hS rfl Try.func23 rfl (by kernel_rfl) rfl rfl (choice_spec0 _ _ hS.lt _ _ _ _ _ xs (hS.fact (k := 0) rfl) hn) ?_); clear hS a; intro v4 a w hK hp hS
    clear hK
    obtain rfl := hp
    refine q_seq hS rfl rfl rfl (y_assign hS rfl) ?_; clear hS a; intro a hS
    apply wpList_nil
    refine p_norm ?_
    apply wp_seq
    apply wp_region_lit
    refine q_seq hS rfl rfl rfl (y_boxField (o' := 3) hS rfl Try.underlying25 rfl rfl rfl) ?_; clear hS a; intro a hS
    refine q_seq hS rfl rfl rfl (y_loadBox1 (kk := 1000) hS rfl rfl rfl Try.underlying23 rfl) ?_; clear hS a; intro a hS
    refine q_seq hS rfl rfl rfl (y_move hS rfl) ?_; clear hS a; intro a hS
    obtain ⟨x5, hx5, p5, he5, hp5⟩ := SlR.elemAt (hS.fact (k := 0) rfl) (i := 0) (by omega)
    refine q_seq hS rfl rfl rfl (y_elem (sz := 5) (i := 0) hS rfl rfl Try.underlying23 rfl he5 (by omega) (by omega)) ?_; clear hS a; intro a hS
    refine q_seq hS rfl rfl rfl (y_ptrField (o' := 0) hS rfl Try.underlying45 rfl rfl rfl) ?_; clear hS a; intro a hS
    obtain ⟨hl6, hm6, cs6, hd6, hq6⟩ := hp5
    obtain ⟨rfl, -⟩ := hd6
    refine q_seq hS rfl rfl rfl (y_ldp (cs := [.int .i64 (x5.1.1), .int .i64 (x5.1.2.1), .int .i64 (x5.1.2.2.1), .int .i64 (x5.1.2.2.2)]) hS rfl hl6 hm6 (fun j v hj => hq6 (0 + j) v (by rcases j with _ | (_ | (_ | (_ | _))) <;> first | exact hj | cases hj)) Try.underlying32 rfl rfl) ?_; clear hS a; intro a hS
    refine l_seq rfl (l_alloc (zs := [.int .i64 (0), .int .i64 (0), .int .i64 (0), .int .i64 (0)]) hS 1406 rfl rfl rfl rfl ?_); clear hS a; intro b7 a w hb hK hS
    clear hb
    clear hK
    refine l_seq rfl (l_store (n := 4) (cs' := [.int .i64 (x5.1.1), .int .i64 (x5.1.2.1), .int .i64 (x5.1.2.2.1), .int .i64 (x5.1.2.2.2)]) hS 1406 rfl rfl rfl rfl rfl rfl rfl rfl ?_); clear hS; intro w hK hS; clear hK
    apply wpList_nil
    refine p_norm ?_
    apply wp_seq
    apply wp_region_lit
    refine q_seq hS rfl rfl rfl (y_assign hS rfl) ?_; clear hS a; intro a hS
    apply wpList_nil
    refine p_norm ?_
    apply wp_seq
    apply wp_region_lit
    refine q_seq hS rfl rfl rfl (y_move hS rfl) ?_; clear hS a; intro a hS
    refine q_seq hS rfl rfl rfl (y_boxField (o' := 3) hS rfl Try.underlying25 rfl rfl rfl) ?_; clear hS a; intro a hS
    refine q_seq hS rfl rfl rfl (y_loadBox1 (kk := 1000) hS rfl rfl rfl Try.underlying23 rfl) ?_; clear hS a; intro a hS
    refine q_seq hS rfl rfl rfl (y_move hS rfl) ?_; clear hS a; intro a hS
    have hcap101 := (hS.fact (k := 0) rfl).cap
    refine q_seq hS rfl rfl rfl (y_sliceHN (sz := 5) (i := 0) hS rfl rfl Try.underlying23 rfl (by omega) (by omega)) ?_; clear hS a; intro a hS
    replace hS := hS.add 101 (slF RQ (A) (0) (c) ((xs).take (0))) (SlR.takeCut (hS.fact (k := 0) rfl) (i := 0) (e := c) (by omega) (by omega) (by omega))
    replace hS := hS.nilRow 501605 45 5 rfl
    replace hS := hS.add 102 (rdF RQ ([]) ([])) (RdAll.nil _ _ _)
    obtain ⟨ns8, hs8, hn8⟩ := SlR.src (hS.fact (k := 101) rfl)
    replace hS := hS.add 103 (rdF RQ (ns8) ((xs).take (0))) (hn8)
    refine l_seq rfl (l_append (sz := 5) (by_ := 40) (N := 0) (ys := ns8) hS 501605 rfl rfl rfl Try.underlying23 rfl rfl rfl rfl rfl hs8 (by omega) rfl (by omega) (by omega) rfl ?_); clear hS a; intro A9 c9 a w hA hK hS
    clear hK hA
    replace hS := hS.add 104 (rdF RQ (ns8) ((xs).take (0))) (RdAll.append (hS.fact (k := 102) rfl) (hS.fact (k := 103) rfl))
    refine q_seq hS rfl rfl rfl (y_assign hS rfl) ?_; clear hS a; intro a hS
    apply wpList_nil
    refine p_norm ?_
    apply wp_seq
    apply wp_region_lit
    refine q_seq hS rfl rfl rfl (y_move hS rfl) ?_; clear hS a; intro a hS
    refine q_seq hS rfl rfl rfl (y_boxField (o' := 3) hS rfl Try.underlying25 rfl rfl rfl) ?_; clear hS a; intro a hS
    refine q_seq hS rfl rfl rfl (y_loadBox1 (kk := 1000) hS rfl rfl rfl Try.underlying23 rfl) ?_; clear hS a; intro a hS
    refine q_seq hS rfl rfl rfl (y_move hS rfl) ?_; clear hS a; intro a hS
    refine q_seq hS rfl rfl rfl (y_addN (i := 0) (j := 1) hS rfl rfl (in64.2 (by omega))) ?_; clear hS a; intro a hS
    have hcap105 := (hS.fact (k := 0) rfl).cap
    refine q_seq hS rfl rfl rfl (y_sliceLN (sz := 5) (i := 0 + 1) hS rfl rfl Try.underlying23 rfl (by omega) (by omega) (by omega)) ?_; clear hS a; intro a hS
    replace hS := hS.add 105 (slF RQ (if c = (0 + 1) then A else (A).map (·.add ((0 + 1) * 5))) (n - (0 + 1)) (c - (0 + 1)) ((xs).drop ((0 + 1)))) (SlR.dropCut (hS.fact (k := 0) rfl) (i := (0 + 1)) (by omega))
    obtain ⟨ns10, hs10, hn10⟩ := SlR.src (hS.fact (k := 105) rfl)
    replace hS := hS.add 106 (rdF RQ (ns10) ((xs).drop ((0 + 1)))) (hn10)
    refine l_seq rfl (l_append (sz := 5) (by_ := 40) (N := n - (0 + 1)) (ys := ns8 ++ ns10) hS 501605 rfl rfl rfl Try.underlying23 rfl rfl rfl rfl rfl hs10 (by omega) rfl (by omega) (by omega) rfl ?_); clear hS a; intro A11 c11 a w hA hK hS
    clear hK hA
    replace hS := hS.add 107 (rdF RQ (ns8 ++ ns10) ((xs).take (0) ++ (xs).drop ((0 + 1)))) (RdAll.append (hS.fact (k := 104) rfl) (hS.fact (k := 106) rfl))
    refine q_seq hS rfl rfl rfl (y_assign hS rfl) ?_; clear hS a; intro a hS
    apply wpList_nil
    refine p_norm ?_
    apply wp_seq
    apply wp_region_lit
    refine q_seq hS rfl rfl rfl (y_move hS rfl) ?_; clear hS a; intro a hS
    refine q_seq hS rfl rfl rfl (y_boxField (o' := 3) hS rfl Try.underlying25 rfl rfl rfl) ?_; clear hS a; intro a hS
    refine l_seq rfl (l_store (n := 1) (cs' := [.int .i64 (0), .int .u64 (s), .int .i64 (b), .slice (A11) (n - (0 + 1)) (c11)]) hS 1000 rfl rfl rfl rfl rfl rfl rfl rfl ?_); clear hS; intro w hK hS; clear hK
    apply wpList_nil
    refine p_norm ?_
    apply wp_seq
    apply wp_seq
    apply wp_region_lit
    refine q_seq hS rfl rfl rfl (y_boxField (o' := 0) hS rfl Try.underlying25 rfl rfl rfl) ?_; clear hS a; intro a hS
    refine q_seq hS rfl rfl rfl (y_loadBox1 (kk := 1000) hS rfl rfl rfl Try.underlying3 rfl) ?_; clear hS a; intro a hS
    refine q_seq hS rfl rfl rfl (y_eql hS rfl rfl) ?_; clear hS a; intro a hS
    apply wpList_nil
    refine p_norm ?_
    refine c_f hS rfl ?_
    apply wp_skip
    refine p_norm ?_
    apply wp_seq
    refine d_plan hS [(2, 1001), (3, 1002)] [(0, some 1000), (1, some 1406), (2, none), (3, none), (4, none)] rfl (by kernel_rfl) (by kernel_rfl) rfl ?_; clear hS; intro wr hZ hS; have hR := hS.wd
    refine q_take hS hR rfl rfl rfl rfl (y_loadBox (kk := 1000) (n := 4) (vs := [.int .i64 (0), .int .u64 (s), .int .i64 (b), .slice (A11) (n - (0 + 1)) (c11)]) hS rfl rfl Try.underlying25 rfl rfl rfl rfl) ?_; clear hS a; intro a hS
    refine q_take hS hR rfl rfl rfl rfl (y_loadBox (kk := 1406) (n := 4) (vs := [.int .i64 (x5.1.1), .int .i64 (x5.1.2.1), .int .i64 (x5.1.2.2.1), .int .i64 (x5.1.2.2.2)]) hS rfl rfl Try.underlying32 rfl rfl rfl rfl) ?_; clear hS a; intro a hS
    refine l_take hS rfl rfl (l_store (n := 4) (cs' := [.int .i64 (0), .int .u64 (s), .int .i64 (b), .slice (A11) (n - (0 + 1)) (c11)]) hS 1001 rfl rfl rfl rfl rfl rfl rfl rfl ?_); clear hS; intro w hK hS; replace hZ := Nat.le_trans hZ hK.size
    refine ⟨fun g hg h => h.obj hR (kk := 1001) rfl hK (by rintro rfl; exact absurd hg (by decide)), ?_⟩; clear hK
    refine l_take hS rfl rfl (l_store (n := 4) (cs' := [.int .i64 (x5.1.1), .int .i64 (x5.1.2.1), .int .i64 (x5.1.2.2.1), .int .i64 (x5.1.2.2.2)]) hS 1002 rfl rfl rfl rfl rfl rfl rfl rfl ?_); clear hS; intro w hK hS; replace hZ := Nat.le_trans hZ hK.size
    refine ⟨fun g hg h => h.obj hR (kk := 1002) rfl hK (by rintro rfl; exact absurd hg (by decide)), ?_⟩; clear hK
    refine l_take hS rfl rfl (l_quiet hS rfl rfl (y_assign hS rfl) ?_); clear hS a; intro a hS; refine ⟨fun g _ h => h, ?_⟩
    clear hR hZ
    refine p_norm ?_
    apply wp_ret
    refine fin3 (fn := Try.f17) hS rfl (r_cell (kk := 1001) (n := 4) (vs := [.int .i64 (0), .int .u64 (s), .int .i64 (b), .slice (A11) (n - (0 + 1)) (c11)]) hS rfl rfl Try.underlying25 rfl rfl rfl rfl) (r_cell (kk := 1002) (n := 4) (vs := [.int .i64 (x5.1.1), .int .i64 (x5.1.2.1), .int .i64 (x5.1.2.2.1), .int .i64 (x5.1.2.2.2)]) hS rfl rfl Try.underlying32 rfl rfl rfl rfl) (r_tmp hS rfl) ?_
    have hq := hS.rowOut (R := RQ) (kk := 501605) rfl rfl (hS.fact (k := 107) rfl)
    exact ⟨_, _, _, x5, hx5, rfl, hq⟩

set_option maxHeartbeats 400000 in
theorem rpop_spec1 (M : Bs) (w0 : World) (hM : ∀ b, M b → b < w0.heap.size) (s b : Int) (A : Option Addr) (n c : Nat) (xs : List Queued) (hsl : SlR RQ M w0 A n c xs) (hn : 0 < n ∧ n ≤ 1000) :
    Calls Try.prog 17 [.agg #[.int .i64 (1), .int .u64 (s), .int .i64 (b), .slice (A) (n) (c)]].toArray w0 (Ret noB w0 fun v w => ∃ A' n' c' x, xs[n - 1]? = some x ∧ v = .tuple #[.agg #[.int .i64 1, .int .u64 (s), .int .i64 b, .slice A' n' c'], .agg #[.int .i64 x.1.1, .int .i64 x.1.2.1, .int .i64 x.1.2.2.1, .int .i64 x.1.2.2.2], .bool true] ∧ SlR RQ M w A' n' c' (popRest xs (n - 1))) := by
  have hi : n - 1 < n := by omega
  refine enter M noB Try.func17 rfl rfl hM ?_
  intro a hS
  replace hS := hS.add 0 (slF RQ (A) (n) (c) (xs)) (by exact Fact.change _ enterM hsl)
  apply wp_seq
  apply wp_region_lit
  refine l_seq rfl (l_box (zs := [.int .i64 (1), .int .u64 (s), .int .i64 (b), .slice (A) (n) (c)]) hS 1000 rfl rfl rfl rfl ?_); clear hS a; intro b1 a w hb hK hS
  clear hb
  clear hK
  refine l_seq rfl (l_alloc (zs := [.int .i64 (0), .int .u64 (0), .int .i64 (0), .slice (none) (0) (0)]) hS 1001 rfl rfl rfl rfl ?_); clear hS a; intro b2 a w hb hK hS
  clear hb
  clear hK
  refine l_seq rfl (l_alloc (zs := [.int .i64 (0), .int .i64 (0), .int .i64 (0), .int .i64 (0)]) hS 1002 rfl rfl rfl rfl ?_); clear hS a; intro b3 a w hb hK hS
  clear hb
  clear hK
  refine q_seq hS rfl rfl rfl (y_assign hS rfl) ?_; clear hS a; intro a hS
  apply wpList_nil
  refine p_norm ?_
  apply wp_seq
  apply wp_seq
  apply wp_region_lit
  refine q_seq hS rfl rfl rfl (y_boxField (o' := 3) hS rfl Try.underlying25 rfl rfl rfl) ?_; clear hS a; intro a hS
  refine q_seq hS rfl rfl rfl (y_loadBox1 (kk := 1000) hS rfl rfl rfl Try.underlying23 rfl) ?_; clear hS a; intro a hS
  refine q_seq hS rfl rfl rfl (y_lenSlice hS rfl Try.underlying23) ?_; clear hS a; intro a hS
  refine q_seq hS rfl rfl rfl (y_eql hS rfl rfl) ?_; clear hS a; intro a hS
  apply wpList_nil
  refine p_norm ?_
  refine c_dec hS rfl (fun hc0 => ?_) (fun hc0 => ?_)
  · exfalso; omega
  · apply wp_skip
    refine p_norm ?_
    apply wp_seq
    apply wp_region_lit
    refine q_seq hS rfl rfl rfl (y_loadBox (kk := 1000) (n := 4) (vs := [.int .i64 (1), .int .u64 (s), .int .i64 (b), .slice (A) (n) (c)]) hS rfl rfl Try.underlying25 rfl rfl rfl rfl) ?_; clear hS a; intro a hS
    refine l_seq rfl (l_call (cap := []) hS rfl Try.func23 rfl (by kernel_rfl) rfl rfl (choice_spec1 _ _ hS.lt _ _ _ _ _ xs (hS.fact (k := 0) rfl) hn) ?_); clear hS a; intro v4 a w hK hp hS
    clear hK
    obtain rfl := hp
    refine q_seq hS rfl rfl rfl (y_assign hS rfl) ?_; clear hS a; intro a hS
    apply wpList_nil
    refine p_norm ?_
    apply wp_seq
    apply wp_region_lit
    refine q_seq hS rfl rfl rfl (y_boxField (o' := 3) hS rfl Try.underlying25 rfl rfl rfl) ?_; clear hS a; intro a hS
    refine q_seq hS rfl rfl rfl (y_loadBox1 (kk := 1000) hS rfl rfl rfl Try.underlying23 rfl) ?_; clear hS a; intro a hS
    refine q_seq hS rfl rfl rfl (y_move hS rfl) ?_; clear hS a; intro a hS
    obtain ⟨x5, hx5, p5, he5, hp5⟩ := SlR.elemAt (hS.fact (k := 0) rfl) (i := n - 1) (by omega)
    refine q_seq hS rfl rfl rfl (y_elem (sz := 5) (i := n - 1) hS rfl rfl Try.underlying23 rfl he5 (by omega) (by omega)) ?_; clear hS a; intro a hS
    refine q_seq hS rfl rfl rfl (y_ptrField (o' := 0) hS rfl Try.underlying45 rfl rfl rfl) ?_; clear hS a; intro a hS
    obtain ⟨hl6, hm6, cs6, hd6, hq6⟩ := hp5
    obtain ⟨rfl, -⟩ := hd6
    refine q_seq hS rfl rfl rfl (y_ldp (cs := [.int .i64 (x5.1.1), .int .i64 (x5.1.2.1), .int .i64 (x5.1.2.2.1), .int .i64 (x5.1.2.2.2)]) hS rfl hl6 hm6 (fun j v hj => hq6 (0 + j) v (by rcases j with _ | (_ | (_ | (_ | _))) <;> first | exact hj | cases hj)) Try.underlying32 rfl rfl) ?_; clear hS a; intro a hS
    refine l_seq rfl (l_alloc (zs := [.int .i64 (0), .int .i64 (0), .int .i64 (0), .int .i64 (0)]) hS 1406 rfl rfl rfl rfl ?_); clear hS a; intro b7 a w hb hK hS
    clear hb
    clear hK
    refine l_seq rfl (l_store (n := 4) (cs' := [.int .i64 (x5.1.1), .int .i64 (x5.1.2.1), .int .i64 (x5.1.2.2.1), .int .i64 (x5.1.2.2.2)]) hS 1406 rfl rfl rfl rfl rfl rfl rfl rfl ?_); clear hS; intro w hK hS; clear hK
    apply wpList_nil
    refine p_norm ?_
    apply wp_seq
    apply wp_region_lit
    refine q_seq hS rfl rfl rfl (y_assign hS rfl) ?_; clear hS a; intro a hS
    apply wpList_nil
    refine p_norm ?_
    apply wp_seq
    apply wp_region_lit
    refine q_seq hS rfl rfl rfl (y_move hS rfl) ?_; clear hS a; intro a hS
    refine q_seq hS rfl rfl rfl (y_boxField (o' := 3) hS rfl Try.underlying25 rfl rfl rfl) ?_; clear hS a; intro a hS
    refine q_seq hS rfl rfl rfl (y_loadBox1 (kk := 1000) hS rfl rfl rfl Try.underlying23 rfl) ?_; clear hS a; intro a hS
    refine q_seq hS rfl rfl rfl (y_move hS rfl) ?_; clear hS a; intro a hS
    have hcap101 := (hS.fact (k := 0) rfl).cap
    refine q_seq hS rfl rfl rfl (y_sliceHN (sz := 5) (i := n - 1) hS rfl rfl Try.underlying23 rfl (by omega) (by omega)) ?_; clear hS a; intro a hS
    replace hS := hS.add 101 (slF RQ (A) (n - 1) (c) ((xs).take (n - 1))) (SlR.takeCut (hS.fact (k := 0) rfl) (i := n - 1) (e := c) (by omega) (by omega) (by omega))
    replace hS := hS.nilRow 501605 45 5 rfl
    replace hS := hS.add 102 (rdF RQ ([]) ([])) (RdAll.nil _ _ _)
    obtain ⟨ns8, hs8, hn8⟩ := SlR.src (hS.fact (k := 101) rfl)
    replace hS := hS.add 103 (rdF RQ (ns8) ((xs).take (n - 1))) (hn8)
    refine l_seq rfl (l_append (sz := 5) (by_ := 40) (N := n - 1) (ys := ns8) hS 501605 rfl rfl rfl Try.underlying23 rfl rfl rfl rfl rfl hs8 (by omega) rfl (by omega) (by omega) rfl ?_); clear hS a; intro A9 c9 a w hA hK hS
    clear hK hA
    replace hS := hS.add 104 (rdF RQ (ns8) ((xs).take (n - 1))) (RdAll.append (hS.fact (k := 102) rfl) (hS.fact (k := 103) rfl))
    refine q_seq hS rfl rfl rfl (y_assign hS rfl) ?_; clear hS a; intro a hS
    apply wpList_nil
    refine p_norm ?_
    apply wp_seq
    apply wp_region_lit
    refine q_seq hS rfl rfl rfl (y_move hS rfl) ?_; clear hS a; intro a hS
    refine q_seq hS rfl rfl rfl (y_boxField (o' := 3) hS rfl Try.underlying25 rfl rfl rfl) ?_; clear hS a; intro a hS
    refine q_seq hS rfl rfl rfl (y_loadBox1 (kk := 1000) hS rfl rfl rfl Try.underlying23 rfl) ?_; clear hS a; intro a hS
    refine q_seq hS rfl rfl rfl (y_move hS rfl) ?_; clear hS a; intro a hS
    refine q_seq hS rfl rfl rfl (y_addN (i := n - 1) (j := 1) hS rfl rfl (in64.2 (by omega))) ?_; clear hS a; intro a hS
    have hcap105 := (hS.fact (k := 0) rfl).cap
    refine q_seq hS rfl rfl rfl (y_sliceLN (sz := 5) (i := n - 1 + 1) hS rfl rfl Try.underlying23 rfl (by omega) (by omega) (by omega)) ?_; clear hS a; intro a hS
    replace hS := hS.add 105 (slF RQ (if c = (n - 1 + 1) then A else (A).map (·.add ((n - 1 + 1) * 5))) (n - (n - 1 + 1)) (c - (n - 1 + 1)) ((xs).drop ((n - 1 + 1)))) (SlR.dropCut (hS.fact (k := 0) rfl) (i := (n - 1 + 1)) (by omega))
    obtain ⟨ns10, hs10, hn10⟩ := SlR.src (hS.fact (k := 105) rfl)
    replace hS := hS.add 106 (rdF RQ (ns10) ((xs).drop ((n - 1 + 1)))) (hn10)
    refine l_seq rfl (l_append (sz := 5) (by_ := 40) (N := n - 1 + n - (n - 1 + 1)) (ys := ns8 ++ ns10) hS 501605 rfl rfl rfl Try.underlying23 rfl rfl rfl rfl rfl hs10 (by omega) rfl (by omega) (by omega) rfl ?_); clear hS a; intro A11 c11 a w hA hK hS
    clear hK hA
    replace hS := hS.add 107 (rdF RQ (ns8 ++ ns10) ((xs).take (n - 1) ++ (xs).drop ((n - 1 + 1)))) (RdAll.append (hS.fact (k := 104) rfl) (hS.fact (k := 106) rfl))
    refine q_seq hS rfl rfl rfl (y_assign hS rfl) ?_; clear hS a; intro a hS
    apply wpList_nil
    refine p_norm ?_
    apply wp_seq
    apply wp_region_lit
    refine q_seq hS rfl rfl rfl (y_move hS rfl) ?_; clear hS a; intro a hS
    refine q_seq hS rfl rfl rfl (y_boxField (o' := 3) hS rfl Try.underlying25 rfl rfl rfl) ?_; clear hS a; intro a hS
    refine l_seq rfl (l_store (n := 1) (cs' := [.int .i64 (1), .int .u64 (s), .int .i64 (b), .slice (A11) (n - 1 + n - (n - 1 + 1)) (c11)]) hS 1000 rfl rfl rfl rfl rfl rfl rfl rfl ?_); clear hS; intro w hK hS; clear hK
    apply wpList_nil
    refine p_norm ?_
    apply wp_seq
    apply wp_seq
    apply wp_region_lit
    refine q_seq hS rfl rfl rfl (y_boxField (o' := 0) hS rfl Try.underlying25 rfl rfl rfl) ?_; clear hS a; intro a hS
    refine q_seq hS rfl rfl rfl (y_loadBox1 (kk := 1000) hS rfl rfl rfl Try.underlying3 rfl) ?_; clear hS a; intro a hS
    refine q_seq hS rfl rfl rfl (y_eql hS rfl rfl) ?_; clear hS a; intro a hS
    apply wpList_nil
    refine p_norm ?_
    refine c_f hS rfl ?_
    apply wp_skip
    refine p_norm ?_
    apply wp_seq
    refine d_plan hS [(2, 1001), (3, 1002)] [(0, some 1000), (1, some 1406), (2, none), (3, none), (4, none)] rfl (by kernel_rfl) (by kernel_rfl) rfl ?_; clear hS; intro wr hZ hS; have hR := hS.wd
    refine q_take hS hR rfl rfl rfl rfl (y_loadBox (kk := 1000) (n := 4) (vs := [.int .i64 (1), .int .u64 (s), .int .i64 (b), .slice (A11) (n - 1 + n - (n - 1 + 1)) (c11)]) hS rfl rfl Try.underlying25 rfl rfl rfl rfl) ?_; clear hS a; intro a hS
    refine q_take hS hR rfl rfl rfl rfl (y_loadBox (kk := 1406) (n := 4) (vs := [.int .i64 (x5.1.1), .int .i64 (x5.1.2.1), .int .i64 (x5.1.2.2.1), .int .i64 (x5.1.2.2.2)]) hS rfl rfl Try.underlying32 rfl rfl rfl rfl) ?_; clear hS a; intro a hS
    refine l_take hS rfl rfl (l_store (n := 4) (cs' := [.int .i64 (1), .int .u64 (s), .int .i64 (b), .slice (A11) (n - 1 + n - (n - 1 + 1)) (c11)]) hS 1001 rfl rfl rfl rfl rfl rfl rfl rfl ?_); clear hS; intro w hK hS; replace hZ := Nat.le_trans hZ hK.size
    refine ⟨fun g hg h => h.obj hR (kk := 1001) rfl hK (by rintro rfl; exact absurd hg (by decide)), ?_⟩; clear hK
    refine l_take hS rfl rfl (l_store (n := 4) (cs' := [.int .i64 (x5.1.1), .int .i64 (x5.1.2.1), .int .i64 (x5.1.2.2.1), .int .i64 (x5.1.2.2.2)]) hS 1002 rfl rfl rfl rfl rfl rfl rfl rfl ?_); clear hS; intro w hK hS; replace hZ := Nat.le_trans hZ hK.size
    refine ⟨fun g hg h => h.obj hR (kk := 1002) rfl hK (by rintro rfl; exact absurd hg (by decide)), ?_⟩; clear hK
    refine l_take hS rfl rfl (l_quiet hS rfl rfl (y_assign hS rfl) ?_); clear hS a; intro a hS; refine ⟨fun g _ h => h, ?_⟩
    clear hR hZ
    refine p_norm ?_
    apply wp_ret
    refine fin3 (fn := Try.f17) hS rfl (r_cell (kk := 1001) (n := 4) (vs := [.int .i64 (1), .int .u64 (s), .int .i64 (b), .slice (A11) (n - 1 + n - (n - 1 + 1)) (c11)]) hS rfl rfl Try.underlying25 rfl rfl rfl rfl) (r_cell (kk := 1002) (n := 4) (vs := [.int .i64 (x5.1.1), .int .i64 (x5.1.2.1), .int .i64 (x5.1.2.2.1), .int .i64 (x5.1.2.2.2)]) hS rfl rfl Try.underlying32 rfl rfl rfl rfl) (r_tmp hS rfl) ?_
    have hq := hS.rowOut (R := RQ) (kk := 501605) rfl rfl (hS.fact (k := 107) rfl)
    exact ⟨_, _, _, x5, hx5, rfl, hq⟩

set_option maxHeartbeats 400000 in
theorem rpop_spec2 (M : Bs) (w0 : World) (hM : ∀ b, M b → b < w0.heap.size) (s b : Int) (A : Option Addr) (n c : Nat) (xs : List Queued) (hsl : SlR RQ M w0 A n c xs) (hn : 0 < n ∧ n ≤ 1000) :
    Calls Try.prog 17 [.agg #[.int .i64 (2), .int .u64 (s), .int .i64 (b), .slice (A) (n) (c)]].toArray w0 (Ret noB w0 fun v w => ∃ A' n' c' x, xs[bestUp xs n]? = some x ∧ v = .tuple #[.agg #[.int .i64 2, .int .u64 (s), .int .i64 b, .slice A' n' c'], .agg #[.int .i64 x.1.1, .int .i64 x.1.2.1, .int .i64 x.1.2.2.1, .int .i64 x.1.2.2.2], .bool true] ∧ SlR RQ M w A' n' c' (popRest xs (bestUp xs n))) := by
  have hi : bestUp xs n < n := bestUp_lt xs n hn.1
  refine enter M noB Try.func17 rfl rfl hM ?_
  intro a hS
  replace hS := hS.add 0 (slF RQ (A) (n) (c) (xs)) (by exact Fact.change _ enterM hsl)
  apply wp_seq
  apply wp_region_lit
  refine l_seq rfl (l_box (zs := [.int .i64 (2), .int .u64 (s), .int .i64 (b), .slice (A) (n) (c)]) hS 1000 rfl rfl rfl rfl ?_); clear hS a; intro b1 a w hb hK hS
  clear hb
  clear hK
  refine l_seq rfl (l_alloc (zs := [.int .i64 (0), .int .u64 (0), .int .i64 (0), .slice (none) (0) (0)]) hS 1001 rfl rfl rfl rfl ?_); clear hS a; intro b2 a w hb hK hS
  clear hb
  clear hK
  refine l_seq rfl (l_alloc (zs := [.int .i64 (0), .int .i64 (0), .int .i64 (0), .int .i64 (0)]) hS 1002 rfl rfl rfl rfl ?_); clear hS a; intro b3 a w hb hK hS
  clear hb
  clear hK
  refine q_seq hS rfl rfl rfl (y_assign hS rfl) ?_; clear hS a; intro a hS
  apply wpList_nil
  refine p_norm ?_
  apply wp_seq
  apply wp_seq
  apply wp_region_lit
  refine q_seq hS rfl rfl rfl (y_boxField (o' := 3) hS rfl Try.underlying25 rfl rfl rfl) ?_; clear hS a; intro a hS
  refine q_seq hS rfl rfl rfl (y_loadBox1 (kk := 1000) hS rfl rfl rfl Try.underlying23 rfl) ?_; clear hS a; intro a hS
  refine q_seq hS rfl rfl rfl (y_lenSlice hS rfl Try.underlying23) ?_; clear hS a; intro a hS
  refine q_seq hS rfl rfl rfl (y_eql hS rfl rfl) ?_; clear hS a; intro a hS
  apply wpList_nil
  refine p_norm ?_
  refine c_dec hS rfl (fun hc0 => ?_) (fun hc0 => ?_)
  · exfalso; omega
  · apply wp_skip
    refine p_norm ?_
    apply wp_seq
    apply wp_region_lit
    refine q_seq hS rfl rfl rfl (y_loadBox (kk := 1000) (n := 4) (vs := [.int .i64 (2), .int .u64 (s), .int .i64 (b), .slice (A) (n) (c)]) hS rfl rfl Try.underlying25 rfl rfl rfl rfl) ?_; clear hS a; intro a hS
    refine l_seq rfl (l_call (cap := []) hS rfl Try.func23 rfl (by kernel_rfl) rfl rfl (choice_spec2 _ _ hS.lt _ _ _ _ _ xs (hS.fact (k := 0) rfl) hn) ?_); clear hS a; intro v4 a w hK hp hS
    clear hK
    obtain rfl := hp
    refine q_seq hS rfl rfl rfl (y_assign hS rfl) ?_; clear hS a; intro a hS
    apply wpList_nil
    refine p_norm ?_
    apply wp_seq
    apply wp_region_lit
    refine q_seq hS rfl rfl rfl (y_boxField (o' := 3) hS rfl Try.underlying25 rfl rfl rfl) ?_; clear hS a; intro a hS
    refine q_seq hS rfl rfl rfl (y_loadBox1 (kk := 1000) hS rfl rfl rfl Try.underlying23 rfl) ?_; clear hS a; intro a hS
    refine q_seq hS rfl rfl rfl (y_move hS rfl) ?_; clear hS a; intro a hS
    obtain ⟨x5, hx5, p5, he5, hp5⟩ := SlR.elemAt (hS.fact (k := 0) rfl) (i := bestUp xs n) (by omega)
    refine q_seq hS rfl rfl rfl (y_elem (sz := 5) (i := bestUp xs n) hS rfl rfl Try.underlying23 rfl he5 (by omega) (by omega)) ?_; clear hS a; intro a hS
    refine q_seq hS rfl rfl rfl (y_ptrField (o' := 0) hS rfl Try.underlying45 rfl rfl rfl) ?_; clear hS a; intro a hS
    obtain ⟨hl6, hm6, cs6, hd6, hq6⟩ := hp5
    obtain ⟨rfl, -⟩ := hd6
    refine q_seq hS rfl rfl rfl (y_ldp (cs := [.int .i64 (x5.1.1), .int .i64 (x5.1.2.1), .int .i64 (x5.1.2.2.1), .int .i64 (x5.1.2.2.2)]) hS rfl hl6 hm6 (fun j v hj => hq6 (0 + j) v (by rcases j with _ | (_ | (_ | (_ | _))) <;> first | exact hj | cases hj)) Try.underlying32 rfl rfl) ?_; clear hS a; intro a hS
    refine l_seq rfl (l_alloc (zs := [.int .i64 (0), .int .i64 (0), .int .i64 (0), .int .i64 (0)]) hS 1406 rfl rfl rfl rfl ?_); clear hS a; intro b7 a w hb hK hS
    clear hb
    clear hK
    refine l_seq rfl (l_store (n := 4) (cs' := [.int .i64 (x5.1.1), .int .i64 (x5.1.2.1), .int .i64 (x5.1.2.2.1), .int .i64 (x5.1.2.2.2)]) hS 1406 rfl rfl rfl rfl rfl rfl rfl rfl ?_); clear hS; intro w hK hS; clear hK
    apply wpList_nil
    refine p_norm ?_
    apply wp_seq
    apply wp_region_lit
    refine q_seq hS rfl rfl rfl (y_assign hS rfl) ?_; clear hS a; intro a hS
    apply wpList_nil
    refine p_norm ?_
    apply wp_seq
    apply wp_region_lit
    refine q_seq hS rfl rfl rfl (y_move hS rfl) ?_; clear hS a; intro a hS
    refine q_seq hS rfl rfl rfl (y_boxField (o' := 3) hS rfl Try.underlying25 rfl rfl rfl) ?_; clear hS a; intro a hS
    refine q_seq hS rfl rfl rfl (y_loadBox1 (kk := 1000) hS rfl rfl rfl Try.underlying23 rfl) ?_; clear hS a; intro a hS
    refine q_seq hS rfl rfl rfl (y_move hS rfl) ?_; clear hS a; intro a hS
    have hcap101 := (hS.fact (k := 0) rfl).cap
    refine q_seq hS rfl rfl rfl (y_sliceHN (sz := 5) (i := bestUp xs n) hS rfl rfl Try.underlying23 rfl (by omega) (by omega)) ?_; clear hS a; intro a hS
    replace hS := hS.add 101 (slF RQ (A) (bestUp xs n) (c) ((xs).take (bestUp xs n))) (SlR.takeCut (hS.fact (k := 0) rfl) (i := bestUp xs n) (e := c) (by omega) (by omega) (by omega))
    replace hS := hS.nilRow 501605 45 5 rfl
    replace hS := hS.add 102 (rdF RQ ([]) ([])) (RdAll.nil _ _ _)
    obtain ⟨ns8, hs8, hn8⟩ := SlR.src (hS.fact (k := 101) rfl)
    replace hS := hS.add 103 (rdF RQ (ns8) ((xs).take (bestUp xs n))) (hn8)
    refine l_seq rfl (l_append (sz := 5) (by_ := 40) (N := bestUp xs n) (ys := ns8) hS 501605 rfl rfl rfl Try.underlying23 rfl rfl rfl rfl rfl hs8 (by omega) rfl (by omega) (by omega) rfl ?_); clear hS a; intro A9 c9 a w hA hK hS
    clear hK hA
    replace hS := hS.add 104 (rdF RQ (ns8) ((xs).take (bestUp xs n))) (RdAll.append (hS.fact (k := 102) rfl) (hS.fact (k := 103) rfl))
    refine q_seq hS rfl rfl rfl (y_assign hS rfl) ?_; clear hS a; intro a hS
    apply wpList_nil
    refine p_norm ?_
    apply wp_seq
    apply wp_region_lit
    refine q_seq hS rfl rfl rfl (y_move hS rfl) ?_; clear hS a; intro a hS
    refine q_seq hS rfl rfl rfl (y_boxField (o' := 3) hS rfl Try.underlying25 rfl rfl rfl) ?_; clear hS a; intro a hS
    refine q_seq hS rfl rfl rfl (y_loadBox1 (kk := 1000) hS rfl rfl rfl Try.underlying23 rfl) ?_; clear hS a; intro a hS
    refine q_seq hS rfl rfl rfl (y_move hS rfl) ?_; clear hS a; intro a hS
    refine q_seq hS rfl rfl rfl (y_addN (i := bestUp xs n) (j := 1) hS rfl rfl (in64.2 (by omega))) ?_; clear hS a; intro a hS
    have hcap105 := (hS.fact (k := 0) rfl).cap
    refine q_seq hS rfl rfl rfl (y_sliceLN (sz := 5) (i := bestUp xs n + 1) hS rfl rfl Try.underlying23 rfl (by omega) (by omega) (by omega)) ?_; clear hS a; intro a hS
    replace hS := hS.add 105 (slF RQ (if c = (bestUp xs n + 1) then A else (A).map (·.add ((bestUp xs n + 1) * 5))) (n - (bestUp xs n + 1)) (c - (bestUp xs n + 1)) ((xs).drop ((bestUp xs n + 1)))) (SlR.dropCut (hS.fact (k := 0) rfl) (i := (bestUp xs n + 1)) (by omega))
    obtain ⟨ns10, hs10, hn10⟩ := SlR.src (hS.fact (k := 105) rfl)
    replace hS := hS.add 106 (rdF RQ (ns10) ((xs).drop ((bestUp xs n + 1)))) (hn10)
    refine l_seq rfl (l_append (sz := 5) (by_ := 40) (N := bestUp xs n + n - (bestUp xs n + 1)) (ys := ns8 ++ ns10) hS 501605 rfl rfl rfl Try.underlying23 rfl rfl rfl rfl rfl hs10 (by omega) rfl (by omega) (by omega) rfl ?_); clear hS a; intro A11 c11 a w hA hK hS
    clear hK hA
    replace hS := hS.add 107 (rdF RQ (ns8 ++ ns10) ((xs).take (bestUp xs n) ++ (xs).drop ((bestUp xs n + 1)))) (RdAll.append (hS.fact (k := 104) rfl) (hS.fact (k := 106) rfl))
    refine q_seq hS rfl rfl rfl (y_assign hS rfl) ?_; clear hS a; intro a hS
    apply wpList_nil
    refine p_norm ?_
    apply wp_seq
    apply wp_region_lit
    refine q_seq hS rfl rfl rfl (y_move hS rfl) ?_; clear hS a; intro a hS
    refine q_seq hS rfl rfl rfl (y_boxField (o' := 3) hS rfl Try.underlying25 rfl rfl rfl) ?_; clear hS a; intro a hS
    refine l_seq rfl (l_store (n := 1) (cs' := [.int .i64 (2), .int .u64 (s), .int .i64 (b), .slice (A11) (bestUp xs n + n - (bestUp xs n + 1)) (c11)]) hS 1000 rfl rfl rfl rfl rfl rfl rfl rfl ?_); clear hS; intro w hK hS; clear hK
    apply wpList_nil
    refine p_norm ?_
    apply wp_seq
    apply wp_seq
    apply wp_region_lit
    refine q_seq hS rfl rfl rfl (y_boxField (o' := 0) hS rfl Try.underlying25 rfl rfl rfl) ?_; clear hS a; intro a hS
    refine q_seq hS rfl rfl rfl (y_loadBox1 (kk := 1000) hS rfl rfl rfl Try.underlying3 rfl) ?_; clear hS a; intro a hS
    refine q_seq hS rfl rfl rfl (y_eql hS rfl rfl) ?_; clear hS a; intro a hS
    apply wpList_nil
    refine p_norm ?_
    refine c_f hS rfl ?_
    apply wp_skip
    refine p_norm ?_
    apply wp_seq
    refine d_plan hS [(2, 1001), (3, 1002)] [(0, some 1000), (1, some 1406), (2, none), (3, none), (4, none)] rfl (by kernel_rfl) (by kernel_rfl) rfl ?_; clear hS; intro wr hZ hS; have hR := hS.wd
    refine q_take hS hR rfl rfl rfl rfl (y_loadBox (kk := 1000) (n := 4) (vs := [.int .i64 (2), .int .u64 (s), .int .i64 (b), .slice (A11) (bestUp xs n + n - (bestUp xs n + 1)) (c11)]) hS rfl rfl Try.underlying25 rfl rfl rfl rfl) ?_; clear hS a; intro a hS
    refine q_take hS hR rfl rfl rfl rfl (y_loadBox (kk := 1406) (n := 4) (vs := [.int .i64 (x5.1.1), .int .i64 (x5.1.2.1), .int .i64 (x5.1.2.2.1), .int .i64 (x5.1.2.2.2)]) hS rfl rfl Try.underlying32 rfl rfl rfl rfl) ?_; clear hS a; intro a hS
    refine l_take hS rfl rfl (l_store (n := 4) (cs' := [.int .i64 (2), .int .u64 (s), .int .i64 (b), .slice (A11) (bestUp xs n + n - (bestUp xs n + 1)) (c11)]) hS 1001 rfl rfl rfl rfl rfl rfl rfl rfl ?_); clear hS; intro w hK hS; replace hZ := Nat.le_trans hZ hK.size
    refine ⟨fun g hg h => h.obj hR (kk := 1001) rfl hK (by rintro rfl; exact absurd hg (by decide)), ?_⟩; clear hK
    refine l_take hS rfl rfl (l_store (n := 4) (cs' := [.int .i64 (x5.1.1), .int .i64 (x5.1.2.1), .int .i64 (x5.1.2.2.1), .int .i64 (x5.1.2.2.2)]) hS 1002 rfl rfl rfl rfl rfl rfl rfl rfl ?_); clear hS; intro w hK hS; replace hZ := Nat.le_trans hZ hK.size
    refine ⟨fun g hg h => h.obj hR (kk := 1002) rfl hK (by rintro rfl; exact absurd hg (by decide)), ?_⟩; clear hK
    refine l_take hS rfl rfl (l_quiet hS rfl rfl (y_assign hS rfl) ?_); clear hS a; intro a hS; refine ⟨fun g _ h => h, ?_⟩
    clear hR hZ
    refine p_norm ?_
    apply wp_ret
    refine fin3 (fn := Try.f17) hS rfl (r_cell (kk := 1001) (n := 4) (vs := [.int .i64 (2), .int .u64 (s), .int .i64 (b), .slice (A11) (bestUp xs n + n - (bestUp xs n + 1)) (c11)]) hS rfl rfl Try.underlying25 rfl rfl rfl rfl) (r_cell (kk := 1002) (n := 4) (vs := [.int .i64 (x5.1.1), .int .i64 (x5.1.2.1), .int .i64 (x5.1.2.2.1), .int .i64 (x5.1.2.2.2)]) hS rfl rfl Try.underlying32 rfl rfl rfl rfl) (r_tmp hS rfl) ?_
    have hq := hS.rowOut (R := RQ) (kk := 501605) rfl rfl (hS.fact (k := 107) rfl)
    exact ⟨_, _, _, x5, hx5, rfl, hq⟩

set_option maxHeartbeats 400000 in
theorem rpop_spec3 (M : Bs) (w0 : World) (hM : ∀ b, M b → b < w0.heap.size) (s b : Int) (A : Option Addr) (n c : Nat) (xs : List Queued) (hsl : SlR RQ M w0 A n c xs) (hn : 0 < n ∧ n ≤ 1000) :
    Calls Try.prog 17 [.agg #[.int .i64 (3), .int .u64 (s), .int .i64 (b), .slice (A) (n) (c)]].toArray w0 (Ret noB w0 fun v w => ∃ A' n' c' x, xs[(randIdx s n).toNat]? = some x ∧ v = .tuple #[.agg #[.int .i64 3, .int .u64 (adv s), .int .i64 b, .slice A' n' c'], .agg #[.int .i64 x.1.1, .int .i64 x.1.2.1, .int .i64 x.1.2.2.1, .int .i64 x.1.2.2.2], .bool true] ∧ SlR RQ M w A' n' c' (popRest xs ((randIdx s n).toNat))) := by
  have hi : (randIdx s n).toNat < n := by have := randIdx_bd s n hn.1; omega
  refine enter M noB Try.func17 rfl rfl hM ?_
  intro a hS
  replace hS := hS.add 0 (slF RQ (A) (n) (c) (xs)) (by exact Fact.change _ enterM hsl)
  apply wp_seq
  apply wp_region_lit
  refine l_seq rfl (l_box (zs := [.int .i64 (3), .int .u64 (s), .int .i64 (b), .slice (A) (n) (c)]) hS 1000 rfl rfl rfl rfl ?_); clear hS a; intro b1 a w hb hK hS
  clear hb
  clear hK
  refine l_seq rfl (l_alloc (zs := [.int .i64 (0), .int .u64 (0), .int .i64 (0), .slice (none) (0) (0)]) hS 1001 rfl rfl rfl rfl ?_); clear hS a; intro b2 a w hb hK hS
  clear hb
  clear hK
  refine l_seq rfl (l_alloc (zs := [.int .i64 (0), .int .i64 (0), .int .i64 (0), .int .i64 (0)]) hS 1002 rfl rfl rfl rfl ?_); clear hS a; intro b3 a w hb hK hS
  clear hb
  clear hK
  refine q_seq hS rfl rfl rfl (y_assign hS rfl) ?_; clear hS a; intro a hS
  apply wpList_nil
  refine p_norm ?_
  apply wp_seq
  apply wp_seq
  apply wp_region_lit
  refine q_seq hS rfl rfl rfl (y_boxField (o' := 3) hS rfl Try.underlying25 rfl rfl rfl) ?_; clear hS a; intro a hS
  refine q_seq hS rfl rfl rfl (y_loadBox1 (kk := 1000) hS rfl rfl rfl Try.underlying23 rfl) ?_; clear hS a; intro a hS
  refine q_seq hS rfl rfl rfl (y_lenSlice hS rfl Try.underlying23) ?_; clear hS a; intro a hS
  refine q_seq hS rfl rfl rfl (y_eql hS rfl rfl) ?_; clear hS a; intro a hS
  apply wpList_nil
  refine p_norm ?_
  refine c_dec hS rfl (fun hc0 => ?_) (fun hc0 => ?_)
  · exfalso; omega
  · apply wp_skip
    refine p_norm ?_
    apply wp_seq
    apply wp_region_lit
    refine q_seq hS rfl rfl rfl (y_loadBox (kk := 1000) (n := 4) (vs := [.int .i64 (3), .int .u64 (s), .int .i64 (b), .slice (A) (n) (c)]) hS rfl rfl Try.underlying25 rfl rfl rfl rfl) ?_; clear hS a; intro a hS
    refine l_seq rfl (l_call (cap := []) hS rfl Try.func23 rfl (by kernel_rfl) rfl rfl (choice_spec3 _ _ hS.lt _ _ _ _ _ xs (hS.fact (k := 0) rfl) hn) ?_); clear hS a; intro v4 a w hK hp hS
    clear hK
    obtain rfl := hp
    refine q_seq hS rfl rfl rfl (y_assign hS rfl) ?_; clear hS a; intro a hS
    apply wpList_nil
    refine p_norm ?_
    apply wp_seq
    apply wp_region_lit
    refine q_seq hS rfl rfl rfl (y_boxField (o' := 3) hS rfl Try.underlying25 rfl rfl rfl) ?_; clear hS a; intro a hS
    refine q_seq hS rfl rfl rfl (y_loadBox1 (kk := 1000) hS rfl rfl rfl Try.underlying23 rfl) ?_; clear hS a; intro a hS
    refine q_seq hS rfl rfl rfl (y_move hS rfl) ?_; clear hS a; intro a hS
    obtain ⟨x5, hx5, p5, he5, hp5⟩ := SlR.elemAt (hS.fact (k := 0) rfl) (i := (randIdx s n).toNat) (by omega)
    refine q_seq hS rfl rfl rfl (y_elem (sz := 5) (i := (randIdx s n).toNat) hS rfl rfl Try.underlying23 rfl he5 (by omega) (by omega)) ?_; clear hS a; intro a hS
    refine q_seq hS rfl rfl rfl (y_ptrField (o' := 0) hS rfl Try.underlying45 rfl rfl rfl) ?_; clear hS a; intro a hS
    obtain ⟨hl6, hm6, cs6, hd6, hq6⟩ := hp5
    obtain ⟨rfl, -⟩ := hd6
    refine q_seq hS rfl rfl rfl (y_ldp (cs := [.int .i64 (x5.1.1), .int .i64 (x5.1.2.1), .int .i64 (x5.1.2.2.1), .int .i64 (x5.1.2.2.2)]) hS rfl hl6 hm6 (fun j v hj => hq6 (0 + j) v (by rcases j with _ | (_ | (_ | (_ | _))) <;> first | exact hj | cases hj)) Try.underlying32 rfl rfl) ?_; clear hS a; intro a hS
    refine l_seq rfl (l_alloc (zs := [.int .i64 (0), .int .i64 (0), .int .i64 (0), .int .i64 (0)]) hS 1406 rfl rfl rfl rfl ?_); clear hS a; intro b7 a w hb hK hS
    clear hb
    clear hK
    refine l_seq rfl (l_store (n := 4) (cs' := [.int .i64 (x5.1.1), .int .i64 (x5.1.2.1), .int .i64 (x5.1.2.2.1), .int .i64 (x5.1.2.2.2)]) hS 1406 rfl rfl rfl rfl rfl rfl rfl rfl ?_); clear hS; intro w hK hS; clear hK
    apply wpList_nil
    refine p_norm ?_
    apply wp_seq
    apply wp_region_lit
    refine q_seq hS rfl rfl rfl (y_assign hS rfl) ?_; clear hS a; intro a hS
    apply wpList_nil
    refine p_norm ?_
    apply wp_seq
    apply wp_region_lit
    refine q_seq hS rfl rfl rfl (y_move hS rfl) ?_; clear hS a; intro a hS
    refine q_seq hS rfl rfl rfl (y_boxField (o' := 3) hS rfl Try.underlying25 rfl rfl rfl) ?_; clear hS a; intro a hS
    refine q_seq hS rfl rfl rfl (y_loadBox1 (kk := 1000) hS rfl rfl rfl Try.underlying23 rfl) ?_; clear hS a; intro a hS
    refine q_seq hS rfl rfl rfl (y_move hS rfl) ?_; clear hS a; intro a hS
    have hcap101 := (hS.fact (k := 0) rfl).cap
    refine q_seq hS rfl rfl rfl (y_sliceHN (sz := 5) (i := (randIdx s n).toNat) hS rfl rfl Try.underlying23 rfl (by omega) (by omega)) ?_; clear hS a; intro a hS
    replace hS := hS.add 101 (slF RQ (A) ((randIdx s n).toNat) (c) ((xs).take ((randIdx s n).toNat))) (SlR.takeCut (hS.fact (k := 0) rfl) (i := (randIdx s n).toNat) (e := c) (by omega) (by omega) (by omega))
    replace hS := hS.nilRow 501605 45 5 rfl
    replace hS := hS.add 102 (rdF RQ ([]) ([])) (RdAll.nil _ _ _)
    obtain ⟨ns8, hs8, hn8⟩ := SlR.src (hS.fact (k := 101) rfl)
    replace hS := hS.add 103 (rdF RQ (ns8) ((xs).take ((randIdx s n).toNat))) (hn8)
    refine l_seq rfl (l_append (sz := 5) (by_ := 40) (N := (randIdx s n).toNat) (ys := ns8) hS 501605 rfl rfl rfl Try.underlying23 rfl rfl rfl rfl rfl hs8 (by omega) rfl (by omega) (by omega) rfl ?_); clear hS a; intro A9 c9 a w hA hK hS
    clear hK hA
    replace hS := hS.add 104 (rdF RQ (ns8) ((xs).take ((randIdx s n).toNat))) (RdAll.append (hS.fact (k := 102) rfl) (hS.fact (k := 103) rfl))
    refine q_seq hS rfl rfl rfl (y_assign hS rfl) ?_; clear hS a; intro a hS
    apply wpList_nil
    refine p_norm ?_
    apply wp_seq
    apply wp_region_lit
    refine q_seq hS rfl rfl rfl (y_move hS rfl) ?_; clear hS a; intro a hS
    refine q_seq hS rfl rfl rfl (y_boxField (o' := 3) hS rfl Try.underlying25 rfl rfl rfl) ?_; clear hS a; intro a hS
    refine q_seq hS rfl rfl rfl (y_loadBox1 (kk := 1000) hS rfl rfl rfl Try.underlying23 rfl) ?_; clear hS a; intro a hS
    refine q_seq hS rfl rfl rfl (y_move hS rfl) ?_; clear hS a; intro a hS
    refine q_seq hS rfl rfl rfl (y_addN (i := (randIdx s n).toNat) (j := 1) hS rfl rfl (in64.2 (by omega))) ?_; clear hS a; intro a hS
    have hcap105 := (hS.fact (k := 0) rfl).cap
    refine q_seq hS rfl rfl rfl (y_sliceLN (sz := 5) (i := (randIdx s n).toNat + 1) hS rfl rfl Try.underlying23 rfl (by omega) (by omega) (by omega)) ?_; clear hS a; intro a hS
    replace hS := hS.add 105 (slF RQ (if c = ((randIdx s n).toNat + 1) then A else (A).map (·.add (((randIdx s n).toNat + 1) * 5))) (n - ((randIdx s n).toNat + 1)) (c - ((randIdx s n).toNat + 1)) ((xs).drop (((randIdx s n).toNat + 1)))) (SlR.dropCut (hS.fact (k := 0) rfl) (i := ((randIdx s n).toNat + 1)) (by omega))
    obtain ⟨ns10, hs10, hn10⟩ := SlR.src (hS.fact (k := 105) rfl)
    replace hS := hS.add 106 (rdF RQ (ns10) ((xs).drop (((randIdx s n).toNat + 1)))) (hn10)
    refine l_seq rfl (l_append (sz := 5) (by_ := 40) (N := (randIdx s n).toNat + n - ((randIdx s n).toNat + 1)) (ys := ns8 ++ ns10) hS 501605 rfl rfl rfl Try.underlying23 rfl rfl rfl rfl rfl hs10 (by omega) rfl (by omega) (by omega) rfl ?_); clear hS a; intro A11 c11 a w hA hK hS
    clear hK hA
    replace hS := hS.add 107 (rdF RQ (ns8 ++ ns10) ((xs).take ((randIdx s n).toNat) ++ (xs).drop (((randIdx s n).toNat + 1)))) (RdAll.append (hS.fact (k := 104) rfl) (hS.fact (k := 106) rfl))
    refine q_seq hS rfl rfl rfl (y_assign hS rfl) ?_; clear hS a; intro a hS
    apply wpList_nil
    refine p_norm ?_
    apply wp_seq
    apply wp_region_lit
    refine q_seq hS rfl rfl rfl (y_move hS rfl) ?_; clear hS a; intro a hS
    refine q_seq hS rfl rfl rfl (y_boxField (o' := 3) hS rfl Try.underlying25 rfl rfl rfl) ?_; clear hS a; intro a hS
    refine l_seq rfl (l_store (n := 1) (cs' := [.int .i64 (3), .int .u64 (s), .int .i64 (b), .slice (A11) ((randIdx s n).toNat + n - ((randIdx s n).toNat + 1)) (c11)]) hS 1000 rfl rfl rfl rfl rfl rfl rfl rfl ?_); clear hS; intro w hK hS; clear hK
    apply wpList_nil
    refine p_norm ?_
    apply wp_seq
    apply wp_seq
    apply wp_region_lit
    refine q_seq hS rfl rfl rfl (y_boxField (o' := 0) hS rfl Try.underlying25 rfl rfl rfl) ?_; clear hS a; intro a hS
    refine q_seq hS rfl rfl rfl (y_loadBox1 (kk := 1000) hS rfl rfl rfl Try.underlying3 rfl) ?_; clear hS a; intro a hS
    refine q_seq hS rfl rfl rfl (y_eql hS rfl rfl) ?_; clear hS a; intro a hS
    apply wpList_nil
    refine p_norm ?_
    refine c_t hS rfl ?_
    apply wp_region_lit
    refine q_seq hS rfl rfl rfl (y_boxField (o' := 1) hS rfl Try.underlying25 rfl rfl rfl) ?_; clear hS a; intro a hS
    refine q_seq hS rfl rfl rfl (y_loadBox1 (kk := 1000) hS rfl rfl rfl Try.underlying22 rfl) ?_; clear hS a; intro a hS
    refine l_seq rfl (l_call (cap := []) hS rfl Try.func24 rfl (by kernel_rfl) rfl rfl (adv_spec _ _ hS.lt _) ?_); clear hS a; intro v12 a w hK hp hS
    clear hK
    obtain rfl := hp
    refine q_seq hS rfl rfl rfl (y_boxField (o' := 1) hS rfl Try.underlying25 rfl rfl rfl) ?_; clear hS a; intro a hS
    refine l_seq rfl (l_store (n := 1) (cs' := [.int .i64 (3), .int .u64 (adv (s)), .int .i64 (b), .slice (A11) ((randIdx s n).toNat + n - ((randIdx s n).toNat + 1)) (c11)]) hS 1000 rfl rfl rfl rfl rfl rfl rfl rfl ?_); clear hS; intro w hK hS; clear hK
    apply wpList_nil
    refine p_norm ?_
    apply wp_seq
    refine d_plan hS [(2, 1001), (3, 1002)] [(0, some 1000), (1, some 1406), (2, none), (3, none), (4, none)] rfl (by kernel_rfl) (by kernel_rfl) rfl ?_; clear hS; intro wr hZ hS; have hR := hS.wd
    refine q_take hS hR rfl rfl rfl rfl (y_loadBox (kk := 1000) (n := 4) (vs := [.int .i64 (3), .int .u64 (adv (s)), .int .i64 (b), .slice (A11) ((randIdx s n).toNat + n - ((randIdx s n).toNat + 1)) (c11)]) hS rfl rfl Try.underlying25 rfl rfl rfl rfl) ?_; clear hS a; intro a hS
    refine q_take hS hR rfl rfl rfl rfl (y_loadBox (kk := 1406) (n := 4) (vs := [.int .i64 (x5.1.1), .int .i64 (x5.1.2.1), .int .i64 (x5.1.2.2.1), .int .i64 (x5.1.2.2.2)]) hS rfl rfl Try.underlying32 rfl rfl rfl rfl) ?_; clear hS a; intro a hS
    refine l_take hS rfl rfl (l_store (n := 4) (cs' := [.int .i64 (3), .int .u64 (adv (s)), .int .i64 (b), .slice (A11) ((randIdx s n).toNat + n - ((randIdx s n).toNat + 1)) (c11)]) hS 1001 rfl rfl rfl rfl rfl rfl rfl rfl ?_); clear hS; intro w hK hS; replace hZ := Nat.le_trans hZ hK.size
    refine ⟨fun g hg h => h.obj hR (kk := 1001) rfl hK (by rintro rfl; exact absurd hg (by decide)), ?_⟩; clear hK
    refine l_take hS rfl rfl (l_store (n := 4) (cs' := [.int .i64 (x5.1.1), .int .i64 (x5.1.2.1), .int .i64 (x5.1.2.2.1), .int .i64 (x5.1.2.2.2)]) hS 1002 rfl rfl rfl rfl rfl rfl rfl rfl ?_); clear hS; intro w hK hS; replace hZ := Nat.le_trans hZ hK.size
    refine ⟨fun g hg h => h.obj hR (kk := 1002) rfl hK (by rintro rfl; exact absurd hg (by decide)), ?_⟩; clear hK
    refine l_take hS rfl rfl (l_quiet hS rfl rfl (y_assign hS rfl) ?_); clear hS a; intro a hS; refine ⟨fun g _ h => h, ?_⟩
    clear hR hZ
    refine p_norm ?_
    apply wp_ret
    refine fin3 (fn := Try.f17) hS rfl (r_cell (kk := 1001) (n := 4) (vs := [.int .i64 (3), .int .u64 (adv (s)), .int .i64 (b), .slice (A11) ((randIdx s n).toNat + n - ((randIdx s n).toNat + 1)) (c11)]) hS rfl rfl Try.underlying25 rfl rfl rfl rfl) (r_cell (kk := 1002) (n := 4) (vs := [.int .i64 (x5.1.1), .int .i64 (x5.1.2.1), .int .i64 (x5.1.2.2.1), .int .i64 (x5.1.2.2.2)]) hS rfl rfl Try.underlying32 rfl rfl rfl rfl) (r_tmp hS rfl) ?_
    have hq := hS.rowOut (R := RQ) (kk := 501605) rfl rfl (hS.fact (k := 107) rfl)
    exact ⟨_, _, _, x5, hx5, rfl, hq⟩

set_option maxHeartbeats 400000 in
theorem rpop_nil0 (M : Bs) (w0 : World) (hM : ∀ b, M b → b < w0.heap.size) (s b : Int) (A : Option Addr) (c : Nat) :
    Calls Try.prog 17 [.agg #[.int .i64 (0), .int .u64 (s), .int .i64 (b), .slice (A) (0) (c)]].toArray w0 (Ret noB w0 fun v w => v = .tuple #[.agg #[.int .i64 0, .int .u64 s, .int .i64 b, .slice A 0 c], .agg #[.int .i64 0, .int .i64 0, .int .i64 0, .int .i64 0], .bool false]) := by
  refine enter M noB Try.func17 rfl rfl hM ?_
  intro a hS
  apply wp_seq
  apply wp_region_lit
  refine l_seq rfl (l_box (zs := [.int .i64 (0), .int .u64 (s), .int .i64 (b), .slice (A) (0) (c)]) hS 1000 rfl rfl rfl rfl ?_); clear hS a; intro b1 a w hb hK hS
  clear hb
  clear hK
  refine l_seq rfl (l_alloc (zs := [.int .i64 (0), .int .u64 (0), .int .i64 (0), .slice (none) (0) (0)]) hS 1001 rfl rfl rfl rfl ?_); clear hS a; intro b2 a w hb hK hS
  clear hb
  clear hK
  refine l_seq rfl (l_alloc (zs := [.int .i64 (0), .int .i64 (0), .int .i64 (0), .int .i64 (0)]) hS 1002 rfl rfl rfl rfl ?_); clear hS a; intro b3 a w hb hK hS
  clear hb
  clear hK
  refine q_seq hS rfl rfl rfl (y_assign hS rfl) ?_; clear hS a; intro a hS
  apply wpList_nil
  refine p_norm ?_
  apply wp_seq
  apply wp_seq
  apply wp_region_lit
  refine q_seq hS rfl rfl rfl (y_boxField (o' := 3) hS rfl Try.underlying25 rfl rfl rfl) ?_; clear hS a; intro a hS
  refine q_seq hS rfl rfl rfl (y_loadBox1 (kk := 1000) hS rfl rfl rfl Try.underlying23 rfl) ?_; clear hS a; intro a hS
  refine q_seq hS rfl rfl rfl (y_lenSlice hS rfl Try.underlying23) ?_; clear hS a; intro a hS
  refine q_seq hS rfl rfl rfl (y_eql hS rfl rfl) ?_; clear hS a; intro a hS
  apply wpList_nil
  refine p_norm ?_
  refine c_t hS rfl ?_
  apply wp_seq
  apply wp_region_lit
  refine q_seq hS rfl rfl rfl (y_loadBox (kk := 1000) (n := 4) (vs := [.int .i64 (0), .int .u64 (s), .int .i64 (b), .slice (A) (0) (c)]) hS rfl rfl Try.underlying25 rfl rfl rfl rfl) ?_; clear hS a; intro a hS
  refine q_seq hS rfl rfl rfl (y_build (parts := []) (ps := []) (cells := #[.int .i64 (0), .int .i64 (0), .int .i64 (0), .int .i64 (0)]) hS rfl (by kernel_rfl)) ?_; clear hS a; intro a hS
  refine l_seq rfl (l_store (n := 4) (cs' := [.int .i64 (0), .int .u64 (s), .int .i64 (b), .slice (A) (0) (c)]) hS 1001 rfl rfl rfl rfl rfl rfl rfl rfl ?_); clear hS; intro w hK hS; clear hK
  refine l_seq rfl (l_store (n := 4) (cs' := [.int .i64 (0), .int .i64 (0), .int .i64 (0), .int .i64 (0)]) hS 1002 rfl rfl rfl rfl rfl rfl rfl rfl ?_); clear hS; intro w hK hS; clear hK
  refine q_seq hS rfl rfl rfl (y_assign hS rfl) ?_; clear hS a; intro a hS
  apply wpList_nil
  refine p_norm ?_
  apply wp_ret
  refine p_thenR ?_
  refine fin3 (fn := Try.f17) hS rfl (r_cell (kk := 1001) (n := 4) (vs := [.int .i64 (0), .int .u64 (s), .int .i64 (b), .slice (A) (0) (c)]) hS rfl rfl Try.underlying25 rfl rfl rfl rfl) (r_cell (kk := 1002) (n := 4) (vs := [.int .i64 (0), .int .i64 (0), .int .i64 (0), .int .i64 (0)]) hS rfl rfl Try.underlying32 rfl rfl rfl rfl) (r_tmp hS rfl) ?_
  rfl

set_option maxHeartbeats 400000 in
theorem rpop_nil1 (M : Bs) (w0 : World) (hM : ∀ b, M b → b < w0.heap.size) (s b : Int) (A : Option Addr) (c : Nat) :
    Calls Try.prog 17 [.agg #[.int .i64 (1), .int .u64 (s), .int .i64 (b), .slice (A) (0) (c)]].toArray w0 (Ret noB w0 fun v w => v = .tuple #[.agg #[.int .i64 1, .int .u64 s, .int .i64 b, .slice A 0 c], .agg #[.int .i64 0, .int .i64 0, .int .i64 0, .int .i64 0], .bool false]) := by
  refine enter M noB Try.func17 rfl rfl hM ?_
  intro a hS
  apply wp_seq
  apply wp_region_lit
  refine l_seq rfl (l_box (zs := [.int .i64 (1), .int .u64 (s), .int .i64 (b), .slice (A) (0) (c)]) hS 1000 rfl rfl rfl rfl ?_); clear hS a; intro b1 a w hb hK hS
  clear hb
  clear hK
  refine l_seq rfl (l_alloc (zs := [.int .i64 (0), .int .u64 (0), .int .i64 (0), .slice (none) (0) (0)]) hS 1001 rfl rfl rfl rfl ?_); clear hS a; intro b2 a w hb hK hS
  clear hb
  clear hK
  refine l_seq rfl (l_alloc (zs := [.int .i64 (0), .int .i64 (0), .int .i64 (0), .int .i64 (0)]) hS 1002 rfl rfl rfl rfl ?_); clear hS a; intro b3 a w hb hK hS
  clear hb
  clear hK
  refine q_seq hS rfl rfl rfl (y_assign hS rfl) ?_; clear hS a; intro a hS
  apply wpList_nil
  refine p_norm ?_
  apply wp_seq
  apply wp_seq
  apply wp_region_lit
  refine q_seq hS rfl rfl rfl (y_boxField (o' := 3) hS rfl Try.underlying25 rfl rfl rfl) ?_; clear hS a; intro a hS
  refine q_seq hS rfl rfl rfl (y_loadBox1 (kk := 1000) hS rfl rfl rfl Try.underlying23 rfl) ?_; clear hS a; intro a hS
  refine q_seq hS rfl rfl rfl (y_lenSlice hS rfl Try.underlying23) ?_; clear hS a; intro a hS
  refine q_seq hS rfl rfl rfl (y_eql hS rfl rfl) ?_; clear hS a; intro a hS
  apply wpList_nil
  refine p_norm ?_
  refine c_t hS rfl ?_
  apply wp_seq
  apply wp_region_lit
  refine q_seq hS rfl rfl rfl (y_loadBox (kk := 1000) (n := 4) (vs := [.int .i64 (1), .int .u64 (s), .int .i64 (b), .slice (A) (0) (c)]) hS rfl rfl Try.underlying25 rfl rfl rfl rfl) ?_; clear hS a; intro a hS
  refine q_seq hS rfl rfl rfl (y_build (parts := []) (ps := []) (cells := #[.int .i64 (0), .int .i64 (0), .int .i64 (0), .int .i64 (0)]) hS rfl (by kernel_rfl)) ?_; clear hS a; intro a hS
  refine l_seq rfl (l_store (n := 4) (cs' := [.int .i64 (1), .int .u64 (s), .int .i64 (b), .slice (A) (0) (c)]) hS 1001 rfl rfl rfl rfl rfl rfl rfl rfl ?_); clear hS; intro w hK hS; clear hK
  refine l_seq rfl (l_store (n := 4) (cs' := [.int .i64 (0), .int .i64 (0), .int .i64 (0), .int .i64 (0)]) hS 1002 rfl rfl rfl rfl rfl rfl rfl rfl ?_); clear hS; intro w hK hS; clear hK
  refine q_seq hS rfl rfl rfl (y_assign hS rfl) ?_; clear hS a; intro a hS
  apply wpList_nil
  refine p_norm ?_
  apply wp_ret
  refine p_thenR ?_
  refine fin3 (fn := Try.f17) hS rfl (r_cell (kk := 1001) (n := 4) (vs := [.int .i64 (1), .int .u64 (s), .int .i64 (b), .slice (A) (0) (c)]) hS rfl rfl Try.underlying25 rfl rfl rfl rfl) (r_cell (kk := 1002) (n := 4) (vs := [.int .i64 (0), .int .i64 (0), .int .i64 (0), .int .i64 (0)]) hS rfl rfl Try.underlying32 rfl rfl rfl rfl) (r_tmp hS rfl) ?_
  rfl

set_option maxHeartbeats 400000 in
theorem rpop_nil2 (M : Bs) (w0 : World) (hM : ∀ b, M b → b < w0.heap.size) (s b : Int) (A : Option Addr) (c : Nat) :
    Calls Try.prog 17 [.agg #[.int .i64 (2), .int .u64 (s), .int .i64 (b), .slice (A) (0) (c)]].toArray w0 (Ret noB w0 fun v w => v = .tuple #[.agg #[.int .i64 2, .int .u64 s, .int .i64 b, .slice A 0 c], .agg #[.int .i64 0, .int .i64 0, .int .i64 0, .int .i64 0], .bool false]) := by
  refine enter M noB Try.func17 rfl rfl hM ?_
  intro a hS
  apply wp_seq
  apply wp_region_lit
  refine l_seq rfl (l_box (zs := [.int .i64 (2), .int .u64 (s), .int .i64 (b), .slice (A) (0) (c)]) hS 1000 rfl rfl rfl rfl ?_); clear hS a; intro b1 a w hb hK hS
  clear hb
  clear hK
  refine l_seq rfl (l_alloc (zs := [.int .i64 (0), .int .u64 (0), .int .i64 (0), .slice (none) (0) (0)]) hS 1001 rfl rfl rfl rfl ?_); clear hS a; intro b2 a w hb hK hS
  clear hb
  clear hK
  refine l_seq rfl (l_alloc (zs := [.int .i64 (0), .int .i64 (0), .int .i64 (0), .int .i64 (0)]) hS 1002 rfl rfl rfl rfl ?_); clear hS a; intro b3 a w hb hK hS
  clear hb
  clear hK
  refine q_seq hS rfl rfl rfl (y_assign hS rfl) ?_; clear hS a; intro a hS
  apply wpList_nil
  refine p_norm ?_
  apply wp_seq
  apply wp_seq
  apply wp_region_lit
  refine q_seq hS rfl rfl rfl (y_boxField (o' := 3) hS rfl Try.underlying25 rfl rfl rfl) ?_; clear hS a; intro a hS
  refine q_seq hS rfl rfl rfl (y_loadBox1 (kk := 1000) hS rfl rfl rfl Try.underlying23 rfl) ?_; clear hS a; intro a hS
  refine q_seq hS rfl rfl rfl (y_lenSlice hS rfl Try.underlying23) ?_; clear hS a; intro a hS
  refine q_seq hS rfl rfl rfl (y_eql hS rfl rfl) ?_; clear hS a; intro a hS
  apply wpList_nil
  refine p_norm ?_
  refine c_t hS rfl ?_
  apply wp_seq
  apply wp_region_lit
  refine q_seq hS rfl rfl rfl (y_loadBox (kk := 1000) (n := 4) (vs := [.int .i64 (2), .int .u64 (s), .int .i64 (b), .slice (A) (0) (c)]) hS rfl rfl Try.underlying25 rfl rfl rfl rfl) ?_; clear hS a; intro a hS
  refine q_seq hS rfl rfl rfl (y_build (parts := []) (ps := []) (cells := #[.int .i64 (0), .int .i64 (0), .int .i64 (0), .int .i64 (0)]) hS rfl (by kernel_rfl)) ?_; clear hS a; intro a hS
  refine l_seq rfl (l_store (n := 4) (cs' := [.int .i64 (2), .int .u64 (s), .int .i64 (b), .slice (A) (0) (c)]) hS 1001 rfl rfl rfl rfl rfl rfl rfl rfl ?_); clear hS; intro w hK hS; clear hK
  refine l_seq rfl (l_store (n := 4) (cs' := [.int .i64 (0), .int .i64 (0), .int .i64 (0), .int .i64 (0)]) hS 1002 rfl rfl rfl rfl rfl rfl rfl rfl ?_); clear hS; intro w hK hS; clear hK
  refine q_seq hS rfl rfl rfl (y_assign hS rfl) ?_; clear hS a; intro a hS
  apply wpList_nil
  refine p_norm ?_
  apply wp_ret
  refine p_thenR ?_
  refine fin3 (fn := Try.f17) hS rfl (r_cell (kk := 1001) (n := 4) (vs := [.int .i64 (2), .int .u64 (s), .int .i64 (b), .slice (A) (0) (c)]) hS rfl rfl Try.underlying25 rfl rfl rfl rfl) (r_cell (kk := 1002) (n := 4) (vs := [.int .i64 (0), .int .i64 (0), .int .i64 (0), .int .i64 (0)]) hS rfl rfl Try.underlying32 rfl rfl rfl rfl) (r_tmp hS rfl) ?_
  rfl

set_option maxHeartbeats 400000 in
theorem rpop_nil3 (M : Bs) (w0 : World) (hM : ∀ b, M b → b < w0.heap.size) (s b : Int) (A : Option Addr) (c : Nat) :
    Calls Try.prog 17 [.agg #[.int .i64 (3), .int .u64 (s), .int .i64 (b), .slice (A) (0) (c)]].toArray w0 (Ret noB w0 fun v w => v = .tuple #[.agg #[.int .i64 3, .int .u64 s, .int .i64 b, .slice A 0 c], .agg #[.int .i64 0, .int .i64 0, .int .i64 0, .int .i64 0], .bool false]) := by
  refine enter M noB Try.func17 rfl rfl hM ?_
  intro a hS
  apply wp_seq
  apply wp_region_lit
  refine l_seq rfl (l_box (zs := [.int .i64 (3), .int .u64 (s), .int .i64 (b), .slice (A) (0) (c)]) hS 1000 rfl rfl rfl rfl ?_); clear hS a; intro b1 a w hb hK hS
  clear hb
  clear hK
  refine l_seq rfl (l_alloc (zs := [.int .i64 (0), .int .u64 (0), .int .i64 (0), .slice (none) (0) (0)]) hS 1001 rfl rfl rfl rfl ?_); clear hS a; intro b2 a w hb hK hS
  clear hb
  clear hK
  refine l_seq rfl (l_alloc (zs := [.int .i64 (0), .int .i64 (0), .int .i64 (0), .int .i64 (0)]) hS 1002 rfl rfl rfl rfl ?_); clear hS a; intro b3 a w hb hK hS
  clear hb
  clear hK
  refine q_seq hS rfl rfl rfl (y_assign hS rfl) ?_; clear hS a; intro a hS
  apply wpList_nil
  refine p_norm ?_
  apply wp_seq
  apply wp_seq
  apply wp_region_lit
  refine q_seq hS rfl rfl rfl (y_boxField (o' := 3) hS rfl Try.underlying25 rfl rfl rfl) ?_; clear hS a; intro a hS
  refine q_seq hS rfl rfl rfl (y_loadBox1 (kk := 1000) hS rfl rfl rfl Try.underlying23 rfl) ?_; clear hS a; intro a hS
  refine q_seq hS rfl rfl rfl (y_lenSlice hS rfl Try.underlying23) ?_; clear hS a; intro a hS
  refine q_seq hS rfl rfl rfl (y_eql hS rfl rfl) ?_; clear hS a; intro a hS
  apply wpList_nil
  refine p_norm ?_
  refine c_t hS rfl ?_
  apply wp_seq
  apply wp_region_lit
  refine q_seq hS rfl rfl rfl (y_loadBox (kk := 1000) (n := 4) (vs := [.int .i64 (3), .int .u64 (s), .int .i64 (b), .slice (A) (0) (c)]) hS rfl rfl Try.underlying25 rfl rfl rfl rfl) ?_; clear hS a; intro a hS
  refine q_seq hS rfl rfl rfl (y_build (parts := []) (ps := []) (cells := #[.int .i64 (0), .int .i64 (0), .int .i64 (0), .int .i64 (0)]) hS rfl (by kernel_rfl)) ?_; clear hS a; intro a hS
  refine l_seq rfl (l_store (n := 4) (cs' := [.int .i64 (3), .int .u64 (s), .int .i64 (b), .slice (A) (0) (c)]) hS 1001 rfl rfl rfl rfl rfl rfl rfl rfl ?_); clear hS; intro w hK hS; clear hK
  refine l_seq rfl (l_store (n := 4) (cs' := [.int .i64 (0), .int .i64 (0), .int .i64 (0), .int .i64 (0)]) hS 1002 rfl rfl rfl rfl rfl rfl rfl rfl ?_); clear hS; intro w hK hS; clear hK
  refine q_seq hS rfl rfl rfl (y_assign hS rfl) ?_; clear hS a; intro a hS
  apply wpList_nil
  refine p_norm ?_
  apply wp_ret
  refine p_thenR ?_
  refine fin3 (fn := Try.f17) hS rfl (r_cell (kk := 1001) (n := 4) (vs := [.int .i64 (3), .int .u64 (s), .int .i64 (b), .slice (A) (0) (c)]) hS rfl rfl Try.underlying25 rfl rfl rfl rfl) (r_cell (kk := 1002) (n := 4) (vs := [.int .i64 (0), .int .i64 (0), .int .i64 (0), .int .i64 (0)]) hS rfl rfl Try.underlying32 rfl rfl rfl rfl) (r_tmp hS rfl) ?_
  rfl

set_option maxHeartbeats 400000 in
theorem same_spec (M : Bs) (w0 : World) (hM : ∀ b, M b → b < w0.heap.size) (p s b : Int) (A A' : Option Addr) (n c c' : Nat) (xs : List Queued) (hsl : SlR RQ M w0 A n c xs) (hsl' : SlR RQ M w0 A' n c' xs) (hn : n ≤ 1000) :
    Calls Try.prog 11 [.agg #[.int .i64 (p), .int .u64 (s), .int .i64 (b), .slice (A) (n) (c)], .agg #[.int .i64 (p), .int .u64 (s), .int .i64 (b), .slice (A') (n) (c')]].toArray w0 (Ret noB w0 fun v w => v = .bool true) := by
  refine enter M noB Try.func11 rfl rfl hM ?_
  intro a hS
  replace hS := hS.add 0 (slF RQ (A) (n) (c) (xs)) (by exact Fact.change _ enterM hsl)
  replace hS := hS.add 1 (slF RQ (A') (n) (c') (xs)) (by exact Fact.change _ enterM hsl')
  apply wp_seq
  apply wp_region_lit
  refine l_seq rfl (l_box (zs := [.int .i64 (p), .int .u64 (s), .int .i64 (b), .slice (A) (n) (c)]) hS 1000 rfl rfl rfl rfl ?_); clear hS a; intro b1 a w hb hK hS
  clear hb
  clear hK
  refine l_seq rfl (l_box (zs := [.int .i64 (p), .int .u64 (s), .int .i64 (b), .slice (A') (n) (c')]) hS 1001 rfl rfl rfl rfl ?_); clear hS a; intro b2 a w hb hK hS
  clear hb
  clear hK
  refine q_seq hS rfl rfl rfl (y_assign hS rfl) ?_; clear hS a; intro a hS
  apply wpList_nil
  refine p_norm ?_
  apply wp_seq
  apply wp_seq
  apply wp_region_lit
  refine q_seq hS rfl rfl rfl (y_boxField (o' := 0) hS rfl Try.underlying25 rfl rfl rfl) ?_; clear hS a; intro a hS
  refine q_seq hS rfl rfl rfl (y_loadBox1 (kk := 1000) hS rfl rfl rfl Try.underlying3 rfl) ?_; clear hS a; intro a hS
  refine q_seq hS rfl rfl rfl (y_boxField (o' := 0) hS rfl Try.underlying25 rfl rfl rfl) ?_; clear hS a; intro a hS
  refine q_seq hS rfl rfl rfl (y_loadBox1 (kk := 1001) hS rfl rfl rfl Try.underlying3 rfl) ?_; clear hS a; intro a hS
  refine q_seq hS rfl rfl rfl (y_neq hS rfl rfl) ?_; clear hS a; intro a hS
  rw [show decide ((p) ≠ (p)) = false from decide_eq_false (fun h => h rfl)] at hS
  refine q_seq hS rfl rfl rfl (y_move hS rfl) ?_; clear hS a; intro a hS
  refine g_yes hS rfl rfl rfl rfl (l_quiet hS rfl rfl (y_boxField (o' := 1) hS rfl Try.underlying25 rfl rfl rfl) ?_); clear hS a; intro a hS
  refine g_yes hS rfl rfl rfl rfl (l_quiet hS rfl rfl (y_loadBox1 (kk := 1000) hS rfl rfl rfl Try.underlying22 rfl) ?_); clear hS a; intro a hS
  refine g_yes hS rfl rfl rfl rfl (l_quiet hS rfl rfl (y_boxField (o' := 1) hS rfl Try.underlying25 rfl rfl rfl) ?_); clear hS a; intro a hS
  refine g_yes hS rfl rfl rfl rfl (l_quiet hS rfl rfl (y_loadBox1 (kk := 1001) hS rfl rfl rfl Try.underlying22 rfl) ?_); clear hS a; intro a hS
  refine g_yes hS rfl rfl rfl rfl (l_quiet hS rfl rfl (y_neq hS rfl rfl) ?_); clear hS a; intro a hS
  rw [show decide ((s) ≠ (s)) = false from decide_eq_false (fun h => h rfl)] at hS
  refine q_seq hS rfl rfl rfl (y_pick_f hS rfl rfl) ?_; clear hS a; intro a hS
  refine q_seq hS rfl rfl rfl (y_move hS rfl) ?_; clear hS a; intro a hS
  refine g_yes hS rfl rfl rfl rfl (l_quiet hS rfl rfl (y_boxField (o' := 2) hS rfl Try.underlying25 rfl rfl rfl) ?_); clear hS a; intro a hS
  refine g_yes hS rfl rfl rfl rfl (l_quiet hS rfl rfl (y_loadBox1 (kk := 1000) hS rfl rfl rfl Try.underlying3 rfl) ?_); clear hS a; intro a hS
  refine g_yes hS rfl rfl rfl rfl (l_quiet hS rfl rfl (y_boxField (o' := 2) hS rfl Try.underlying25 rfl rfl rfl) ?_); clear hS a; intro a hS
  refine g_yes hS rfl rfl rfl rfl (l_quiet hS rfl rfl (y_loadBox1 (kk := 1001) hS rfl rfl rfl Try.underlying3 rfl) ?_); clear hS a; intro a hS
  refine g_yes hS rfl rfl rfl rfl (l_quiet hS rfl rfl (y_neq hS rfl rfl) ?_); clear hS a; intro a hS
  rw [show decide ((b) ≠ (b)) = false from decide_eq_false (fun h => h rfl)] at hS
  refine q_seq hS rfl rfl rfl (y_pick_f hS rfl rfl) ?_; clear hS a; intro a hS
  refine q_seq hS rfl rfl rfl (y_move hS rfl) ?_; clear hS a; intro a hS
  refine g_yes hS rfl rfl rfl rfl (l_quiet hS rfl rfl (y_boxField (o' := 3) hS rfl Try.underlying25 rfl rfl rfl) ?_); clear hS a; intro a hS
  refine g_yes hS rfl rfl rfl rfl (l_quiet hS rfl rfl (y_loadBox1 (kk := 1000) hS rfl rfl rfl Try.underlying23 rfl) ?_); clear hS a; intro a hS
  refine g_yes hS rfl rfl rfl rfl (l_quiet hS rfl rfl (y_lenSlice hS rfl Try.underlying23) ?_); clear hS a; intro a hS
  refine g_yes hS rfl rfl rfl rfl (l_quiet hS rfl rfl (y_boxField (o' := 3) hS rfl Try.underlying25 rfl rfl rfl) ?_); clear hS a; intro a hS
  refine g_yes hS rfl rfl rfl rfl (l_quiet hS rfl rfl (y_loadBox1 (kk := 1001) hS rfl rfl rfl Try.underlying23 rfl) ?_); clear hS a; intro a hS
  refine g_yes hS rfl rfl rfl rfl (l_quiet hS rfl rfl (y_lenSlice hS rfl Try.underlying23) ?_); clear hS a; intro a hS
  refine g_yes hS rfl rfl rfl rfl (l_quiet hS rfl rfl (y_neq hS rfl rfl) ?_); clear hS a; intro a hS
  rw [show decide ((((n : Nat) : Int)) ≠ (((n : Nat) : Int))) = false from decide_eq_false (fun h => h rfl)] at hS
  refine q_seq hS rfl rfl rfl (y_pick_f hS rfl rfl) ?_; clear hS a; intro a hS
  apply wpList_nil
  refine p_norm ?_
  refine c_f hS rfl ?_
  apply wp_skip
  refine p_norm ?_
  apply wp_seq
  apply wp_seq
  apply wp_region_lit
  refine q_seq hS rfl rfl rfl (y_assign hS rfl) ?_; clear hS a; intro a hS
  apply wpList_nil
  refine p_norm ?_
  apply wp_block
  refine c_loop (σ := Nat) (fun k a w => (k ≤ n) ∧ St (⟨Try.f11.ntmps, M, noB, w0⟩ : Ctx) [(2, .pointer (some ⟨b1, 0, none⟩)), (3, .pointer (some ⟨b2, 0, none⟩)), (5, .int .i64 (((k : Nat) : Int)))] [(1000, Ob.box b1 [.int .i64 (p), .int .u64 (s), .int .i64 (b), .slice (A) (n) (c)] 25), (1001, Ob.box b2 [.int .i64 (p), .int .u64 (s), .int .i64 (b), .slice (A') (n) (c')] 25)] [(0, slF RQ (A) (n) (c) (xs)), (1, slF RQ (A') (n) (c') (xs))] a w) (fun k => n - k) (0) ⟨Nat.zero_le _, (hS.sub ⟨rfl, rfl, rfl, trivial⟩ ⟨rfl, rfl, trivial⟩ ⟨rfl, rfl, trivial⟩)⟩ ?_
  clear hS a; rintro k a w ⟨hk, hS⟩
  apply wp_seq
  apply wp_seq
  apply wp_region_lit
  refine q_seq hS rfl rfl rfl (y_move hS rfl) ?_; clear hS a; intro a hS
  refine q_seq hS rfl rfl rfl (y_boxField (o' := 3) hS rfl Try.underlying25 rfl rfl rfl) ?_; clear hS a; intro a hS
  refine q_seq hS rfl rfl rfl (y_loadBox1 (kk := 1000) hS rfl rfl rfl Try.underlying23 rfl) ?_; clear hS a; intro a hS
  refine q_seq hS rfl rfl rfl (y_lenSlice hS rfl Try.underlying23) ?_; clear hS a; intro a hS
  refine q_seq hS rfl rfl rfl (y_lss hS rfl rfl) ?_; clear hS a; intro a hS
  apply wpList_nil
  refine p_norm ?_
  refine c_dec hS rfl (fun hc1 => ?_) (fun hc1 => ?_)
  · apply wp_skip
    refine p_norm ?_
    apply wp_seq
    apply wp_block
    apply wp_seq
    refine d_plan hS [] [(0, some 0), (1, some 1000), (2, some 0), (3, some 0), (4, some 0), (5, some 0), (6, some 1001), (7, some 0), (8, some 0), (9, some 0), (10, some 0)] rfl (by kernel_rfl) (by kernel_rfl) rfl ?_; clear hS; intro wr hZ hS; have hR := hS.wd
    refine q_take hS hR rfl rfl rfl rfl (y_boxField (o' := 3) hS rfl Try.underlying25 rfl rfl rfl) ?_; clear hS a; intro a hS
    refine q_take hS hR rfl rfl rfl rfl (y_loadBox1 (kk := 1000) hS rfl rfl rfl Try.underlying23 rfl) ?_; clear hS a; intro a hS
    refine q_take hS hR rfl rfl rfl rfl (y_move hS rfl) ?_; clear hS a; intro a hS
    obtain ⟨x3, hx3, p3, he3, hp3⟩ := SlR.elemAt (hS.fact (k := 0) rfl) (i := k) (by omega)
    refine q_take hS hR rfl rfl rfl rfl (y_elem (sz := 5) (i := k) hS rfl rfl Try.underlying23 rfl he3 (by omega) (by omega)) ?_; clear hS a; intro a hS
    obtain ⟨hl4, hm4, cs4, hd4, hq4⟩ := hp3
    obtain ⟨rfl, -⟩ := hd4
    refine q_take hS hR rfl rfl rfl rfl (y_ldp hS rfl hl4 hm4 (by simpa using hq4) Try.underlying45 rfl rfl) ?_; clear hS a; intro a hS
    refine q_take hS hR rfl rfl rfl rfl (y_boxField (o' := 3) hS rfl Try.underlying25 rfl rfl rfl) ?_; clear hS a; intro a hS
    refine q_take hS hR rfl rfl rfl rfl (y_loadBox1 (kk := 1001) hS rfl rfl rfl Try.underlying23 rfl) ?_; clear hS a; intro a hS
    refine q_take hS hR rfl rfl rfl rfl (y_move hS rfl) ?_; clear hS a; intro a hS
    obtain ⟨x5, hx5, p5, he5, hp5⟩ := SlR.elemAt (hS.fact (k := 1) rfl) (i := k) (by omega)
    refine q_take hS hR rfl rfl rfl rfl (y_elem (sz := 5) (i := k) hS rfl rfl Try.underlying23 rfl he5 (by omega) (by omega)) ?_; clear hS a; intro a hS
    obtain ⟨hl6, hm6, cs6, hd6, hq6⟩ := hp5
    obtain ⟨rfl, -⟩ := hd6
    refine q_take hS hR rfl rfl rfl rfl (y_ldp hS rfl hl6 hm6 (by simpa using hq6) Try.underlying45 rfl rfl) ?_; clear hS a; intro a hS
    obtain rfl : x3 = x5 := by rw [hx3] at hx5; exact Option.some.inj hx5
    refine q_take hS hR rfl rfl rfl rfl (y_neqS hS rfl rfl (by kernel_rfl) (fun w' => eq45 9997 _ _ _ _ _ _ _ _ _ _ w')) ?_; clear hS a; intro a hS
    clear hR hZ
    refine p_norm ?_
    refine c_not hS rfl (fun hc2 => ?_) (fun hc2 => ?_)
    · exact absurd rfl hc2
    · apply wp_skip
      refine p_inN ?_
      refine p_norm ?_
      apply wp_region_lit
      refine q_seq hS rfl rfl rfl (y_move hS rfl) ?_; clear hS a; intro a hS
      refine q_seq hS rfl rfl rfl (y_addN (i := k) (j := 1) hS rfl rfl (in64.2 (by omega))) ?_; clear hS a; intro a hS
      refine q_seq hS rfl rfl rfl (y_assign hS rfl) ?_; clear hS a; intro a hS
      apply wpList_nil
      refine p_norm ?_
      exact ⟨k + 1, by omega, ⟨by omega, (hS.sub ⟨rfl, rfl, rfl, trivial⟩ ⟨rfl, rfl, trivial⟩ ⟨rfl, rfl, trivial⟩)⟩⟩
  · apply wp_exit
    refine p_then ?_
    refine p_then ?_
    refine p_in ?_
    refine p_norm ?_
    apply wp_seq
    apply wp_region_lit
    refine q_seq hS rfl rfl rfl (y_assign hS rfl) ?_; clear hS a; intro a hS
    apply wpList_nil
    refine p_norm ?_
    apply wp_ret
    refine fin1 (fn := Try.f11) hS rfl (r_tmp hS rfl) ?_
    rfl

set_option maxHeartbeats 400000 in
theorem task_spec (M : Bs) (w0 : World) (hM : ∀ b, M b → b < w0.heap.size) (p : Int) :
    Calls Try.prog 21 [.int .i64 (p)].toArray w0 (Ret noB w0 fun v w => v = .agg #[.int .i64 p, .int .i64 0, .int .i64 0, .int .i64 p]) := by
  refine enter M noB Try.func21 rfl rfl hM ?_
  intro a hS
  apply wp_seq
  apply wp_region_lit
  refine l_seq rfl (l_alloc (zs := [.int .i64 (0), .int .i64 (0), .int .i64 (0), .int .i64 (0)]) hS 1000 rfl rfl rfl rfl ?_); clear hS a; intro b1 a w hb hK hS
  clear hb
  clear hK
  apply wpList_nil
  refine p_norm ?_
  apply wp_seq
  apply wp_region_lit
  refine q_seq hS rfl rfl rfl (y_move hS rfl) ?_; clear hS a; intro a hS
  refine q_seq hS rfl rfl rfl (y_move hS rfl) ?_; clear hS a; intro a hS
  refine q_seq hS rfl rfl rfl (y_build (parts := [(0, .tmp 3), (3, .tmp 4)]) (ps := [(0, .int .i64 (p)), (3, .int .i64 (p))]) (cells := #[.int .i64 (p), .int .i64 (0), .int .i64 (0), .int .i64 (p)]) hS rfl (by kernel_rfl)) ?_; clear hS a; intro a hS
  refine l_seq rfl (l_store (n := 4) (cs' := [.int .i64 (p), .int .i64 (0), .int .i64 (0), .int .i64 (p)]) hS 1000 rfl rfl rfl rfl rfl rfl rfl rfl ?_); clear hS; intro w hK hS; clear hK
  apply wpList_nil
  refine p_norm ?_
  apply wp_ret
  refine fin1 (fn := Try.f21) hS rfl (r_cell (kk := 1000) (n := 4) (vs := [.int .i64 (p), .int .i64 (0), .int .i64 (0), .int .i64 (p)]) hS rfl rfl Try.underlying32 rfl rfl rfl rfl) ?_
  rfl

end Go.Proofs.Ytjklnbjblncgeaa
