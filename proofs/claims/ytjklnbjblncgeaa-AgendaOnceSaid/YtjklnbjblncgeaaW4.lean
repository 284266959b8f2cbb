/- Chapter 31: contracts of Pop, of the reference's Pop and Same -/
import Derived.Test.YtjklnbjblncgeaaW3
namespace Go.Proofs.Ytjklnbjblncgeaa
open Go.Gl Go.RowKit
set_option linter.unusedVariables false
set_option linter.unusedSimpArgs false

set_option maxHeartbeats 400000 in
theorem pop_spec0 (M : Bs) (w0 : World) (hM : ∀ b, M b → b < w0.heap.size) (s b : Int) (A : Option Addr) (n c : Nat) (xs : List Queued) (hsl : SlR RQ M w0 A n c xs) (hn : 0 < n ∧ n ≤ 1000) :
    Calls Try.prog 13 [.agg #[.int .i64 (0), .int .u64 (s), .int .i64 (b), .slice (A) (n) (c)]].toArray w0 (Ret noB w0 fun v w => ∃ A' n' c' x, xs[0]? = some x ∧ v = .tuple #[.agg #[.int .i64 0, .int .u64 (s), .int .i64 b, .slice A' n' c'], .agg #[.int .i64 x.1.1, .int .i64 x.1.2.1, .int .i64 x.1.2.2.1, .int .i64 x.1.2.2.2], .bool true] ∧ SlR RQ M w A' n' c' (popRest xs (0))) := by
  have hi : 0 < n := hn.1
  refine enter M noB Try.func13 rfl rfl hM ?_
  intro a hS
  replace hS := hS.add 0 (slF RQ (A) (n) (c) (xs)) (by exact Fact.change _ enterM hsl)
  apply wp_seq
  apply wp_region_lit
  refine l_seq rfl (l_box (zs := [.int .i64 (0), .int .u64 (s), .int .i64 (b), .slice (A) (n) (c)]) hS 1000 rfl rfl rfl rfl ?_); clear hS a; intro b1 a w hb hK hS
  clear hb
  clear hK
  refine l_seq rfl (l_alloc (zs := [.int .i64 (0), .int .u64 (0), .int .i64 (0), .slice (none) (0) (0)]) hS 1001 rfl rfl rfl rfl ?_); clear hS a; intro b2 a w hb hK hS
  clear hb
  clear hK
  refine l_seq rfl (l_alloc (zs := [.int .i64 (0), .int .i64 (0), .int .i64 (0), .int .i64 (0)]) hS 1002 rfl rfl rfl rfl ?_); clear hS a; intro b3 a w hb hK hS
  clear hb
  clear hK
  refine q_seq hS rfl rfl rfl (y_assign hS rfl) ?_; clear hS a; intro a hS
  apply wpList_nil
  refine p_norm ?_
  apply wp_seq
  apply wp_region_lit
  refine q_seq hS rfl rfl rfl (y_boxField (o' := 0) hS rfl Try.underlying25 rfl rfl rfl) ?_; clear hS a; intro a hS
  refine q_seq hS rfl rfl rfl (y_loadBox1 (kk := 1000) hS rfl rfl rfl Try.underlying3 rfl) ?_; clear hS a; intro a hS
  refine l_seq rfl (l_call (cap := []) hS rfl Try.func20 rfl (by kernel_rfl) rfl rfl (pol_spec0 _ _ hS.lt) ?_); clear hS a; intro v4 a w hK hp hS
  clear hK
  obtain rfl := hp
  refine q_seq hS rfl rfl rfl (y_move hS rfl) ?_; clear hS a; intro a hS
  refine q_seq hS rfl rfl rfl (y_extract hS rfl rfl) ?_; clear hS a; intro a hS
  refine q_seq hS rfl rfl rfl (y_extract hS rfl rfl) ?_; clear hS a; intro a hS
  refine l_seq rfl (l_alloc (zs := [.nilFunc]) hS 1106 rfl rfl rfl rfl ?_); clear hS a; intro b5 a w hb hK hS
  clear hb
  clear hK
  refine l_seq rfl (l_store (n := 1) (cs' := [.func (.func 25) #[] #[]]) hS 1106 rfl rfl rfl rfl rfl rfl rfl rfl ?_); clear hS; intro w hK hS; clear hK
  refine q_seq hS rfl rfl rfl (y_assign hS rfl) ?_; clear hS a; intro a hS
  apply wpList_nil
  refine p_norm ?_
  apply wp_seq
  apply wp_seq
  apply wp_region_lit
  refine q_seq hS rfl rfl rfl (y_move hS rfl) ?_; clear hS a; intro a hS
  refine q_seq hS rfl rfl rfl (y_not hS rfl) ?_; clear hS a; intro a hS
  refine q_seq hS rfl rfl rfl (y_move hS rfl) ?_; clear hS a; intro a hS
  refine g_yes hS rfl rfl rfl rfl (l_quiet hS rfl rfl (y_boxField (o' := 3) hS rfl Try.underlying25 rfl rfl rfl) ?_); clear hS a; intro a hS
  refine g_yes hS rfl rfl rfl rfl (l_quiet hS rfl rfl (y_loadBox1 (kk := 1000) hS rfl rfl rfl Try.underlying23 rfl) ?_); clear hS a; intro a hS
  refine g_yes hS rfl rfl rfl rfl (l_quiet hS rfl rfl (y_lenSlice hS rfl Try.underlying23) ?_); clear hS a; intro a hS
  refine g_yes hS rfl rfl rfl rfl (l_quiet hS rfl rfl (y_eql hS rfl rfl) ?_); clear hS a; intro a hS
  refine q_seq hS rfl rfl rfl (y_pick_f hS rfl rfl) ?_; clear hS a; intro a hS
  apply wpList_nil
  refine p_norm ?_
  refine c_dec hS rfl (fun hc0 => ?_) (fun hc0 => ?_)
  · exfalso; omega
  · apply wp_skip
    refine p_norm ?_
    apply wp_seq
    apply wp_region_lit
    refine q_seq hS rfl rfl rfl (y_boxField (o' := 0) hS rfl Try.underlying55 rfl rfl rfl) ?_; clear hS a; intro a hS
    refine q_seq hS rfl rfl rfl (y_loadBox1 (kk := 1106) hS rfl rfl rfl Try.underlying53 rfl) ?_; clear hS a; intro a hS
    refine q_seq hS rfl rfl rfl (y_loadBox (kk := 1000) (n := 4) (vs := [.int .i64 (0), .int .u64 (s), .int .i64 (b), .slice (A) (n) (c)]) hS rfl rfl Try.underlying25 rfl rfl rfl rfl) ?_; clear hS a; intro a hS
    refine l_seq rfl (l_call (cap := []) hS rfl Try.func25 rfl (by kernel_rfl) rfl rfl (first_spec _ _ hS.lt _ _ _ _ _ _) ?_); clear hS a; intro v6 a w hK hp hS
    clear hK
    obtain rfl := hp
    refine q_seq hS rfl rfl rfl (y_move hS rfl) ?_; clear hS a; intro a hS
    refine q_seq hS rfl rfl rfl (y_extract hS rfl rfl) ?_; clear hS a; intro a hS
    refine q_seq hS rfl rfl rfl (y_extract hS rfl rfl) ?_; clear hS a; intro a hS
    refine q_seq hS rfl rfl rfl (y_assign hS rfl) ?_; clear hS a; intro a hS
    refine q_seq hS rfl rfl rfl (y_assign hS rfl) ?_; clear hS a; intro a hS
    apply wpList_nil
    refine p_norm ?_
    apply wp_seq
    apply wp_region_lit
    refine q_seq hS rfl rfl rfl (y_boxField (o' := 3) hS rfl Try.underlying25 rfl rfl rfl) ?_; clear hS a; intro a hS
    refine q_seq hS rfl rfl rfl (y_loadBox1 (kk := 1000) hS rfl rfl rfl Try.underlying23 rfl) ?_; clear hS a; intro a hS
    refine q_seq hS rfl rfl rfl (y_move hS rfl) ?_; clear hS a; intro a hS
    obtain ⟨x7, hx7, p7, he7, hp7⟩ := SlR.elemAt (hS.fact (k := 0) rfl) (i := 0) (by omega)
    refine q_seq hS rfl rfl rfl (y_elem (sz := 5) (i := 0) hS rfl rfl Try.underlying23 rfl he7 (by omega) (by omega)) ?_; clear hS a; intro a hS
    refine q_seq hS rfl rfl rfl (y_ptrField (o' := 0) hS rfl Try.underlying45 rfl rfl rfl) ?_; clear hS a; intro a hS
    obtain ⟨hl8, hm8, cs8, hd8, hq8⟩ := hp7
    obtain ⟨rfl, -⟩ := hd8
    refine q_seq hS rfl rfl rfl (y_ldp (cs := [.int .i64 (x7.1.1), .int .i64 (x7.1.2.1), .int .i64 (x7.1.2.2.1), .int .i64 (x7.1.2.2.2)]) hS rfl hl8 hm8 (fun j v hj => hq8 (0 + j) v (by rcases j with _ | (_ | (_ | (_ | _))) <;> first | exact hj | cases hj)) Try.underlying32 rfl rfl) ?_; clear hS a; intro a hS
    refine l_seq rfl (l_alloc (zs := [.int .i64 (0), .int .i64 (0), .int .i64 (0), .int .i64 (0)]) hS 1506 rfl rfl rfl rfl ?_); clear hS a; intro b9 a w hb hK hS
    clear hb
    clear hK
    refine l_seq rfl (l_store (n := 4) (cs' := [.int .i64 (x7.1.1), .int .i64 (x7.1.2.1), .int .i64 (x7.1.2.2.1), .int .i64 (x7.1.2.2.2)]) hS 1506 rfl rfl rfl rfl rfl rfl rfl rfl ?_); clear hS; intro w hK hS; clear hK
    apply wpList_nil
    refine p_norm ?_
    apply wp_seq
    refine d_plan hS [(12, 1000)] [(0, some 0), (1, some 1000), (2, some 0), (3, some 0), (4, some 0), (5, some 1000), (6, some 0), (7, some 0), (8, some 0), (9, none), (10, none), (11, none), (12, none)] rfl (by kernel_rfl) (by kernel_rfl) rfl ?_; clear hS; intro wr hZ hS; have hR := hS.wd
    refine q_take hS hR rfl rfl rfl rfl (y_boxField (o' := 3) hS rfl Try.underlying25 rfl rfl rfl) ?_; clear hS a; intro a hS
    refine q_take hS hR rfl rfl rfl rfl (y_loadBox1 (kk := 1000) hS rfl rfl rfl Try.underlying23 rfl) ?_; clear hS a; intro a hS
    refine q_take hS hR rfl rfl rfl rfl (y_move hS rfl) ?_; clear hS a; intro a hS
    have hcap101 := (hS.fact (k := 0) rfl).cap
    refine q_take hS hR rfl rfl rfl rfl (y_sliceHN (sz := 5) (i := 0) hS rfl rfl Try.underlying23 rfl (by omega) (by omega)) ?_; clear hS a; intro a hS
    replace hS := hS.add 101 (slF RQ (A) (0) (c) ((xs).take (0))) (SlR.takeCut (hS.fact (k := 0) rfl) (i := 0) (e := c) (by omega) (by omega) (by omega))
    refine q_take hS hR rfl rfl rfl rfl (y_boxField (o' := 3) hS rfl Try.underlying25 rfl rfl rfl) ?_; clear hS a; intro a hS
    refine q_take hS hR rfl rfl rfl rfl (y_loadBox1 (kk := 1000) hS rfl rfl rfl Try.underlying23 rfl) ?_; clear hS a; intro a hS
    refine q_take hS hR rfl rfl rfl rfl (y_move hS rfl) ?_; clear hS a; intro a hS
    refine q_take hS hR rfl rfl rfl rfl (y_addN (i := 0) (j := 1) hS rfl rfl (in64.2 (by omega))) ?_; clear hS a; intro a hS
    have hcap102 := (hS.fact (k := 0) rfl).cap
    refine q_take hS hR rfl rfl rfl rfl (y_sliceLN (sz := 5) (i := 0 + 1) hS rfl rfl Try.underlying23 rfl (by omega) (by omega) (by omega)) ?_; clear hS a; intro a hS
    replace hS := hS.add 102 (slF RQ (if c = (0 + 1) then A else (A).map (·.add ((0 + 1) * 5))) (n - (0 + 1)) (c - (0 + 1)) ((xs).drop ((0 + 1)))) (SlR.dropCut (hS.fact (k := 0) rfl) (i := (0 + 1)) (by omega))
    refine l_take hS rfl rfl (l_buildDense (sz := 1) hS 1609 rfl rfl rfl Try.underlying64 rfl rfl rfl rfl rfl rfl rfl ?_); clear hS a; intro b10 a w hbb10 hK hS
    have hNb10 := NewA.lit hZ hbb10
    clear hbb10
    replace hZ := Nat.le_trans hZ hK.size; refine ⟨fun g _ h => h.grow hK, ?_⟩; clear hK
    replace hS := hS.freeze (R := (Rep.list RQ)) (kk := 1609) (L' := [(1000, Ob.box b1 [.int .i64 (0), .int .u64 (s), .int .i64 (b), .slice (A) (n) (c)] 25), (1001, Ob.box b2 [.int .i64 (0), .int .u64 (0), .int .i64 (0), .slice (none) (0) (0)] 25), (1002, Ob.box b3 [.int .i64 (0), .int .i64 (0), .int .i64 (0), .int .i64 (0)] 32), (1106, Ob.box b5 [.func (.func 25) #[] #[]] 55), (1506, Ob.box b9 [.int .i64 (x7.1.1), .int .i64 (x7.1.2.1), .int .i64 (x7.1.2.2.1), .int .i64 (x7.1.2.2.2)] 32)]) 103 rfl rfl (RdAll.append (R := Rep.list RQ) (RdAll.single ⟨_, _, _, rfl, hS.fact (k := 101) rfl⟩) (RdAll.single ⟨_, _, _, rfl, hS.fact (k := 102) rfl⟩)) ⟨rfl, rfl, rfl, rfl, rfl, trivial⟩ rfl
    have hll11 : lens [(xs).take (0), (xs).drop ((0 + 1))] ≤ 2000 := by have h1 := (hS.fact (k := 101) rfl).len; have h2 := (hS.fact (k := 102) rfl).len; simp only [lens, List.map_cons, List.map_nil, List.sum_cons, List.sum_nil]; omega
    refine l_take hS rfl rfl (l_call (cap := []) hS rfl Try.func22 rfl (by kernel_rfl) rfl rfl (concat_spec _ _ hS.lt _ _ _ _ (hS.fact (k := 103) rfl) (by omega) hll11) ?_); clear hS a; intro v12 a w hK hp hS
    replace hZ := Nat.le_trans hZ hK.size; refine ⟨fun g _ h => h.grow hK, ?_⟩; clear hK
    obtain ⟨A11, n11, c11, rfl, hr11⟩ := hp
    replace hS := hS.add 104 (slF RQ (A11) (n11) (c11) ([(xs).take (0), (xs).drop ((0 + 1))].flatten)) hr11
    refine l_take hS rfl rfl (l_quiet hS rfl rfl (y_boxField (o' := 3) hS rfl Try.underlying25 rfl rfl rfl) ?_); clear hS a; intro a hS; refine ⟨fun g _ h => h, ?_⟩
    refine l_take hS rfl rfl (l_store (n := 1) (cs' := [.int .i64 (0), .int .u64 (s), .int .i64 (b), .slice (A11) (n11) (c11)]) hS 1000 rfl rfl rfl rfl rfl rfl rfl rfl ?_); clear hS; intro w hK hS; replace hZ := Nat.le_trans hZ hK.size
    refine ⟨fun g hg h => h.obj hR (kk := 1000) rfl hK (by rintro rfl; exact absurd hg (by decide)), ?_⟩; clear hK
    clear hR hZ
    refine p_norm ?_
    apply wp_seq
    apply wp_region_lit
    refine q_seq hS rfl rfl rfl (y_move hS rfl) ?_; clear hS a; intro a hS
    refine q_seq hS rfl rfl rfl (y_boxField (o' := 1) hS rfl Try.underlying25 rfl rfl rfl) ?_; clear hS a; intro a hS
    refine l_seq rfl (l_store (n := 1) (cs' := [.int .i64 (0), .int .u64 (s), .int .i64 (b), .slice (A11) (n11) (c11)]) hS 1000 rfl rfl rfl rfl rfl rfl rfl rfl ?_); clear hS; intro w hK hS; clear hK
    apply wpList_nil
    refine p_norm ?_
    apply wp_seq
    refine d_plan hS [(2, 1001), (3, 1002)] [(0, some 1000), (1, some 1506), (2, none), (3, none), (4, none)] rfl (by kernel_rfl) (by kernel_rfl) rfl ?_; clear hS; intro wr hZ hS; have hR := hS.wd
    refine q_take hS hR rfl rfl rfl rfl (y_loadBox (kk := 1000) (n := 4) (vs := [.int .i64 (0), .int .u64 (s), .int .i64 (b), .slice (A11) (n11) (c11)]) hS rfl rfl Try.underlying25 rfl rfl rfl rfl) ?_; clear hS a; intro a hS
    refine q_take hS hR rfl rfl rfl rfl (y_loadBox (kk := 1506) (n := 4) (vs := [.int .i64 (x7.1.1), .int .i64 (x7.1.2.1), .int .i64 (x7.1.2.2.1), .int .i64 (x7.1.2.2.2)]) hS rfl rfl Try.underlying32 rfl rfl rfl rfl) ?_; clear hS a; intro a hS
    refine l_take hS rfl rfl (l_store (n := 4) (cs' := [.int .i64 (0), .int .u64 (s), .int .i64 (b), .slice (A11) (n11) (c11)]) hS 1001 rfl rfl rfl rfl rfl rfl rfl rfl ?_); clear hS; intro w hK hS; replace hZ := Nat.le_trans hZ hK.size
    refine ⟨fun g hg h => h.obj hR (kk := 1001) rfl hK (by rintro rfl; exact absurd hg (by decide)), ?_⟩; clear hK
    refine l_take hS rfl rfl (l_store (n := 4) (cs' := [.int .i64 (x7.1.1), .int .i64 (x7.1.2.1), .int .i64 (x7.1.2.2.1), .int .i64 (x7.1.2.2.2)]) hS 1002 rfl rfl rfl rfl rfl rfl rfl rfl ?_); clear hS; intro w hK hS; replace hZ := Nat.le_trans hZ hK.size
    refine ⟨fun g hg h => h.obj hR (kk := 1002) rfl hK (by rintro rfl; exact absurd hg (by decide)), ?_⟩; clear hK
    refine l_take hS rfl rfl (l_quiet hS rfl rfl (y_assign hS rfl) ?_); clear hS a; intro a hS; refine ⟨fun g _ h => h, ?_⟩
    clear hR hZ
    refine p_norm ?_
    apply wp_ret
    refine fin3 (fn := Try.f13) hS rfl (r_cell (kk := 1001) (n := 4) (vs := [.int .i64 (0), .int .u64 (s), .int .i64 (b), .slice (A11) (n11) (c11)]) hS rfl rfl Try.underlying25 rfl rfl rfl rfl) (r_cell (kk := 1002) (n := 4) (vs := [.int .i64 (x7.1.1), .int .i64 (x7.1.2.1), .int .i64 (x7.1.2.2.1), .int .i64 (x7.1.2.2.2)]) hS rfl rfl Try.underlying32 rfl rfl rfl rfl) (r_tmp hS rfl) ?_
    have hq := hS.out (k := 104) rfl
    refine ⟨_, _, _, x7, hx7, rfl, ?_⟩
    have e : ∀ (a b : List Queued), [a, b].flatten = a ++ b := fun a b => by simp
    rw [e] at hq
    exact hq

set_option maxHeartbeats 400000 in
theorem pop_spec1 (M : Bs) (w0 : World) (hM : ∀ b, M b → b < w0.heap.size) (s b : Int) (A : Option Addr) (n c : Nat) (xs : List Queued) (hsl : SlR RQ M w0 A n c xs) (hn : 0 < n ∧ n ≤ 1000) :
    Calls Try.prog 13 [.agg #[.int .i64 (1), .int .u64 (s), .int .i64 (b), .slice (A) (n) (c)]].toArray w0 (Ret noB w0 fun v w => ∃ A' n' c' x, xs[n - 1]? = some x ∧ v = .tuple #[.agg #[.int .i64 1, .int .u64 (s), .int .i64 b, .slice A' n' c'], .agg #[.int .i64 x.1.1, .int .i64 x.1.2.1, .int .i64 x.1.2.2.1, .int .i64 x.1.2.2.2], .bool true] ∧ SlR RQ M w A' n' c' (popRest xs (n - 1))) := by
  have hi : n - 1 < n := by omega
  refine enter M noB Try.func13 rfl rfl hM ?_
  intro a hS
  replace hS := hS.add 0 (slF RQ (A) (n) (c) (xs)) (by exact Fact.change _ enterM hsl)
  apply wp_seq
  apply wp_region_lit
  refine l_seq rfl (l_box (zs := [.int .i64 (1), .int .u64 (s), .int .i64 (b), .slice (A) (n) (c)]) hS 1000 rfl rfl rfl rfl ?_); clear hS a; intro b1 a w hb hK hS
  clear hb
  clear hK
  refine l_seq rfl (l_alloc (zs := [.int .i64 (0), .int .u64 (0), .int .i64 (0), .slice (none) (0) (0)]) hS 1001 rfl rfl rfl rfl ?_); clear hS a; intro b2 a w hb hK hS
  clear hb
  clear hK
  refine l_seq rfl (l_alloc (zs := [.int .i64 (0), .int .i64 (0), .int .i64 (0), .int .i64 (0)]) hS 1002 rfl rfl rfl rfl ?_); clear hS a; intro b3 a w hb hK hS
  clear hb
  clear hK
  refine q_seq hS rfl rfl rfl (y_assign hS rfl) ?_; clear hS a; intro a hS
  apply wpList_nil
  refine p_norm ?_
  apply wp_seq
  apply wp_region_lit
  refine q_seq hS rfl rfl rfl (y_boxField (o' := 0) hS rfl Try.underlying25 rfl rfl rfl) ?_; clear hS a; intro a hS
  refine q_seq hS rfl rfl rfl (y_loadBox1 (kk := 1000) hS rfl rfl rfl Try.underlying3 rfl) ?_; clear hS a; intro a hS
  refine l_seq rfl (l_call (cap := []) hS rfl Try.func20 rfl (by kernel_rfl) rfl rfl (pol_spec1 _ _ hS.lt) ?_); clear hS a; intro v4 a w hK hp hS
  clear hK
  obtain rfl := hp
  refine q_seq hS rfl rfl rfl (y_move hS rfl) ?_; clear hS a; intro a hS
  refine q_seq hS rfl rfl rfl (y_extract hS rfl rfl) ?_; clear hS a; intro a hS
  refine q_seq hS rfl rfl rfl (y_extract hS rfl rfl) ?_; clear hS a; intro a hS
  refine l_seq rfl (l_alloc (zs := [.nilFunc]) hS 1106 rfl rfl rfl rfl ?_); clear hS a; intro b5 a w hb hK hS
  clear hb
  clear hK
  refine l_seq rfl (l_store (n := 1) (cs' := [.func (.func 26) #[] #[]]) hS 1106 rfl rfl rfl rfl rfl rfl rfl rfl ?_); clear hS; intro w hK hS; clear hK
  refine q_seq hS rfl rfl rfl (y_assign hS rfl) ?_; clear hS a; intro a hS
  apply wpList_nil
  refine p_norm ?_
  apply wp_seq
  apply wp_seq
  apply wp_region_lit
  refine q_seq hS rfl rfl rfl (y_move hS rfl) ?_; clear hS a; intro a hS
  refine q_seq hS rfl rfl rfl (y_not hS rfl) ?_; clear hS a; intro a hS
  refine q_seq hS rfl rfl rfl (y_move hS rfl) ?_; clear hS a; intro a hS
  refine g_yes hS rfl rfl rfl rfl (l_quiet hS rfl rfl (y_boxField (o' := 3) hS rfl Try.underlying25 rfl rfl rfl) ?_); clear hS a; intro a hS
  refine g_yes hS rfl rfl rfl rfl (l_quiet hS rfl rfl (y_loadBox1 (kk := 1000) hS rfl rfl rfl Try.underlying23 rfl) ?_); clear hS a; intro a hS
  refine g_yes hS rfl rfl rfl rfl (l_quiet hS rfl rfl (y_lenSlice hS rfl Try.underlying23) ?_); clear hS a; intro a hS
  refine g_yes hS rfl rfl rfl rfl (l_quiet hS rfl rfl (y_eql hS rfl rfl) ?_); clear hS a; intro a hS
  refine q_seq hS rfl rfl rfl (y_pick_f hS rfl rfl) ?_; clear hS a; intro a hS
  apply wpList_nil
  refine p_norm ?_
  refine c_dec hS rfl (fun hc0 => ?_) (fun hc0 => ?_)
  · exfalso; omega
  · apply wp_skip
    refine p_norm ?_
    apply wp_seq
    apply wp_region_lit
    refine q_seq hS rfl rfl rfl (y_boxField (o' := 0) hS rfl Try.underlying55 rfl rfl rfl) ?_; clear hS a; intro a hS
    refine q_seq hS rfl rfl rfl (y_loadBox1 (kk := 1106) hS rfl rfl rfl Try.underlying53 rfl) ?_; clear hS a; intro a hS
    refine q_seq hS rfl rfl rfl (y_loadBox (kk := 1000) (n := 4) (vs := [.int .i64 (1), .int .u64 (s), .int .i64 (b), .slice (A) (n) (c)]) hS rfl rfl Try.underlying25 rfl rfl rfl rfl) ?_; clear hS a; intro a hS
    refine l_seq rfl (l_call (cap := []) hS rfl Try.func26 rfl (by kernel_rfl) rfl rfl (last_spec _ _ hS.lt _ _ _ _ _ _ hn) ?_); clear hS a; intro v6 a w hK hp hS
    clear hK
    obtain rfl := hp
    refine q_seq hS rfl rfl rfl (y_move hS rfl) ?_; clear hS a; intro a hS
    refine q_seq hS rfl rfl rfl (y_extract hS rfl rfl) ?_; clear hS a; intro a hS
    refine q_seq hS rfl rfl rfl (y_extract hS rfl rfl) ?_; clear hS a; intro a hS
    refine q_seq hS rfl rfl rfl (y_assign hS rfl) ?_; clear hS a; intro a hS
    refine q_seq hS rfl rfl rfl (y_assign hS rfl) ?_; clear hS a; intro a hS
    apply wpList_nil
    refine p_norm ?_
    apply wp_seq
    apply wp_region_lit
    refine q_seq hS rfl rfl rfl (y_boxField (o' := 3) hS rfl Try.underlying25 rfl rfl rfl) ?_; clear hS a; intro a hS
    refine q_seq hS rfl rfl rfl (y_loadBox1 (kk := 1000) hS rfl rfl rfl Try.underlying23 rfl) ?_; clear hS a; intro a hS
    refine q_seq hS rfl rfl rfl (y_move hS rfl) ?_; clear hS a; intro a hS
    obtain ⟨x7, hx7, p7, he7, hp7⟩ := SlR.elemAt (hS.fact (k := 0) rfl) (i := n - 1) (by omega)
    refine q_seq hS rfl rfl rfl (y_elem (sz := 5) (i := n - 1) hS rfl rfl Try.underlying23 rfl he7 (by omega) (by omega)) ?_; clear hS a; intro a hS
    refine q_seq hS rfl rfl rfl (y_ptrField (o' := 0) hS rfl Try.underlying45 rfl rfl rfl) ?_; clear hS a; intro a hS
    obtain ⟨hl8, hm8, cs8, hd8, hq8⟩ := hp7
    obtain ⟨rfl, -⟩ := hd8
    refine q_seq hS rfl rfl rfl (y_ldp (cs := [.int .i64 (x7.1.1), .int .i64 (x7.1.2.1), .int .i64 (x7.1.2.2.1), .int .i64 (x7.1.2.2.2)]) hS rfl hl8 hm8 (fun j v hj => hq8 (0 + j) v (by rcases j with _ | (_ | (_ | (_ | _))) <;> first | exact hj | cases hj)) Try.underlying32 rfl rfl) ?_; clear hS a; intro a hS
    refine l_seq rfl (l_alloc (zs := [.int .i64 (0), .int .i64 (0), .int .i64 (0), .int .i64 (0)]) hS 1506 rfl rfl rfl rfl ?_); clear hS a; intro b9 a w hb hK hS
    clear hb
    clear hK
    refine l_seq rfl (l_store (n := 4) (cs' := [.int .i64 (x7.1.1), .int .i64 (x7.1.2.1), .int .i64 (x7.1.2.2.1), .int .i64 (x7.1.2.2.2)]) hS 1506 rfl rfl rfl rfl rfl rfl rfl rfl ?_); clear hS; intro w hK hS; clear hK
    apply wpList_nil
    refine p_norm ?_
    apply wp_seq
    refine d_plan hS [(12, 1000)] [(0, some 0), (1, some 1000), (2, some 0), (3, some 0), (4, some 0), (5, some 1000), (6, some 0), (7, some 0), (8, some 0), (9, none), (10, none), (11, none), (12, none)] rfl (by kernel_rfl) (by kernel_rfl) rfl ?_; clear hS; intro wr hZ hS; have hR := hS.wd
    refine q_take hS hR rfl rfl rfl rfl (y_boxField (o' := 3) hS rfl Try.underlying25 rfl rfl rfl) ?_; clear hS a; intro a hS
    refine q_take hS hR rfl rfl rfl rfl (y_loadBox1 (kk := 1000) hS rfl rfl rfl Try.underlying23 rfl) ?_; clear hS a; intro a hS
    refine q_take hS hR rfl rfl rfl rfl (y_move hS rfl) ?_; clear hS a; intro a hS
    have hcap101 := (hS.fact (k := 0) rfl).cap
    refine q_take hS hR rfl rfl rfl rfl (y_sliceHN (sz := 5) (i := n - 1) hS rfl rfl Try.underlying23 rfl (by omega) (by omega)) ?_; clear hS a; intro a hS
    replace hS := hS.add 101 (slF RQ (A) (n - 1) (c) ((xs).take (n - 1))) (SlR.takeCut (hS.fact (k := 0) rfl) (i := n - 1) (e := c) (by omega) (by omega) (by omega))
    refine q_take hS hR rfl rfl rfl rfl (y_boxField (o' := 3) hS rfl Try.underlying25 rfl rfl rfl) ?_; clear hS a; intro a hS
    refine q_take hS hR rfl rfl rfl rfl (y_loadBox1 (kk := 1000) hS rfl rfl rfl Try.underlying23 rfl) ?_; clear hS a; intro a hS
    refine q_take hS hR rfl rfl rfl rfl (y_move hS rfl) ?_; clear hS a; intro a hS
    refine q_take hS hR rfl rfl rfl rfl (y_addN (i := n - 1) (j := 1) hS rfl rfl (in64.2 (by omega))) ?_; clear hS a; intro a hS
    have hcap102 := (hS.fact (k := 0) rfl).cap
    refine q_take hS hR rfl rfl rfl rfl (y_sliceLN (sz := 5) (i := n - 1 + 1) hS rfl rfl Try.underlying23 rfl (by omega) (by omega) (by omega)) ?_; clear hS a; intro a hS
    replace hS := hS.add 102 (slF RQ (if c = (n - 1 + 1) then A else (A).map (·.add ((n - 1 + 1) * 5))) (n - (n - 1 + 1)) (c - (n - 1 + 1)) ((xs).drop ((n - 1 + 1)))) (SlR.dropCut (hS.fact (k := 0) rfl) (i := (n - 1 + 1)) (by omega))
    refine l_take hS rfl rfl (l_buildDense (sz := 1) hS 1609 rfl rfl rfl Try.underlying64 rfl rfl rfl rfl rfl rfl rfl ?_); clear hS a; intro b10 a w hbb10 hK hS
    have hNb10 := NewA.lit hZ hbb10
    clear hbb10
    replace hZ := Nat.le_trans hZ hK.size; refine ⟨fun g _ h => h.grow hK, ?_⟩; clear hK
    replace hS := hS.freeze (R := (Rep.list RQ)) (kk := 1609) (L' := [(1000, Ob.box b1 [.int .i64 (1), .int .u64 (s), .int .i64 (b), .slice (A) (n) (c)] 25), (1001, Ob.box b2 [.int .i64 (0), .int .u64 (0), .int .i64 (0), .slice (none) (0) (0)] 25), (1002, Ob.box b3 [.int .i64 (0), .int .i64 (0), .int .i64 (0), .int .i64 (0)] 32), (1106, Ob.box b5 [.func (.func 26) #[] #[]] 55), (1506, Ob.box b9 [.int .i64 (x7.1.1), .int .i64 (x7.1.2.1), .int .i64 (x7.1.2.2.1), .int .i64 (x7.1.2.2.2)] 32)]) 103 rfl rfl (RdAll.append (R := Rep.list RQ) (RdAll.single ⟨_, _, _, rfl, hS.fact (k := 101) rfl⟩) (RdAll.single ⟨_, _, _, rfl, hS.fact (k := 102) rfl⟩)) ⟨rfl, rfl, rfl, rfl, rfl, trivial⟩ rfl
    have hll11 : lens [(xs).take (n - 1), (xs).drop ((n - 1 + 1))] ≤ 2000 := by have h1 := (hS.fact (k := 101) rfl).len; have h2 := (hS.fact (k := 102) rfl).len; simp only [lens, List.map_cons, List.map_nil, List.sum_cons, List.sum_nil]; omega
    refine l_take hS rfl rfl (l_call (cap := []) hS rfl Try.func22 rfl (by kernel_rfl) rfl rfl (concat_spec _ _ hS.lt _ _ _ _ (hS.fact (k := 103) rfl) (by omega) hll11) ?_); clear hS a; intro v12 a w hK hp hS
    replace hZ := Nat.le_trans hZ hK.size; refine ⟨fun g _ h => h.grow hK, ?_⟩; clear hK
    obtain ⟨A11, n11, c11, rfl, hr11⟩ := hp
    replace hS := hS.add 104 (slF RQ (A11) (n11) (c11) ([(xs).take (n - 1), (xs).drop ((n - 1 + 1))].flatten)) hr11
    refine l_take hS rfl rfl (l_quiet hS rfl rfl (y_boxField (o' := 3) hS rfl Try.underlying25 rfl rfl rfl) ?_); clear hS a; intro a hS; refine ⟨fun g _ h => h, ?_⟩
    refine l_take hS rfl rfl (l_store (n := 1) (cs' := [.int .i64 (1), .int .u64 (s), .int .i64 (b), .slice (A11) (n11) (c11)]) hS 1000 rfl rfl rfl rfl rfl rfl rfl rfl ?_); clear hS; intro w hK hS; replace hZ := Nat.le_trans hZ hK.size
    refine ⟨fun g hg h => h.obj hR (kk := 1000) rfl hK (by rintro rfl; exact absurd hg (by decide)), ?_⟩; clear hK
    clear hR hZ
    refine p_norm ?_
    apply wp_seq
    apply wp_region_lit
    refine q_seq hS rfl rfl rfl (y_move hS rfl) ?_; clear hS a; intro a hS
    refine q_seq hS rfl rfl rfl (y_boxField (o' := 1) hS rfl Try.underlying25 rfl rfl rfl) ?_; clear hS a; intro a hS
    refine l_seq rfl (l_store (n := 1) (cs' := [.int .i64 (1), .int .u64 (s), .int .i64 (b), .slice (A11) (n11) (c11)]) hS 1000 rfl rfl rfl rfl rfl rfl rfl rfl ?_); clear hS; intro w hK hS; clear hK
    apply wpList_nil
    refine p_norm ?_
    apply wp_seq
    refine d_plan hS [(2, 1001), (3, 1002)] [(0, some 1000), (1, some 1506), (2, none), (3, none), (4, none)] rfl (by kernel_rfl) (by kernel_rfl) rfl ?_; clear hS; intro wr hZ hS; have hR := hS.wd
    refine q_take hS hR rfl rfl rfl rfl (y_loadBox (kk := 1000) (n := 4) (vs := [.int .i64 (1), .int .u64 (s), .int .i64 (b), .slice (A11) (n11) (c11)]) hS rfl rfl Try.underlying25 rfl rfl rfl rfl) ?_; clear hS a; intro a hS
    refine q_take hS hR rfl rfl rfl rfl (y_loadBox (kk := 1506) (n := 4) (vs := [.int .i64 (x7.1.1), .int .i64 (x7.1.2.1), .int .i64 (x7.1.2.2.1), .int .i64 (x7.1.2.2.2)]) hS rfl rfl Try.underlying32 rfl rfl rfl rfl) ?_; clear hS a; intro a hS
    refine l_take hS rfl rfl (l_store (n := 4) (cs' := [.int .i64 (1), .int .u64 (s), .int .i64 (b), .slice (A11) (n11) (c11)]) hS 1001 rfl rfl rfl rfl rfl rfl rfl rfl ?_); clear hS; intro w hK hS; replace hZ := Nat.le_trans hZ hK.size
    refine ⟨fun g hg h => h.obj hR (kk := 1001) rfl hK (by rintro rfl; exact absurd hg (by decide)), ?_⟩; clear hK
    refine l_take hS rfl rfl (l_store (n := 4) (cs' := [.int .i64 (x7.1.1), .int .i64 (x7.1.2.1), .int .i64 (x7.1.2.2.1), .int .i64 (x7.1.2.2.2)]) hS 1002 rfl rfl rfl rfl rfl rfl rfl rfl ?_); clear hS; intro w hK hS; replace hZ := Nat.le_trans hZ hK.size
    refine ⟨fun g hg h => h.obj hR (kk := 1002) rfl hK (by rintro rfl; exact absurd hg (by decide)), ?_⟩; clear hK
    refine l_take hS rfl rfl (l_quiet hS rfl rfl (y_assign hS rfl) ?_); clear hS a; intro a hS; refine ⟨fun g _ h => h, ?_⟩
    clear hR hZ
    refine p_norm ?_
    apply wp_ret
    refine fin3 (fn := Try.f13) hS rfl (r_cell (kk := 1001) (n := 4) (vs := [.int .i64 (1), .int .u64 (s), .int .i64 (b), .slice (A11) (n11) (c11)]) hS rfl rfl Try.underlying25 rfl rfl rfl rfl) (r_cell (kk := 1002) (n := 4) (vs := [.int .i64 (x7.1.1), .int .i64 (x7.1.2.1), .int .i64 (x7.1.2.2.1), .int .i64 (x7.1.2.2.2)]) hS rfl rfl Try.underlying32 rfl rfl rfl rfl) (r_tmp hS rfl) ?_
    have hq := hS.out (k := 104) rfl
    refine ⟨_, _, _, x7, hx7, rfl, ?_⟩
    have e : ∀ (a b : List Queued), [a, b].flatten = a ++ b := fun a b => by simp
    rw [e] at hq
    exact hq

set_option maxHeartbeats 400000 in
theorem pop_spec2 (M : Bs) (w0 : World) (hM : ∀ b, M b → b < w0.heap.size) (s b : Int) (A : Option Addr) (n c : Nat) (xs : List Queued) (hsl : SlR RQ M w0 A n c xs) (hn : 0 < n ∧ n ≤ 1000) :
    Calls Try.prog 13 [.agg #[.int .i64 (2), .int .u64 (s), .int .i64 (b), .slice (A) (n) (c)]].toArray w0 (Ret noB w0 fun v w => ∃ A' n' c' x, xs[bestUp xs n]? = some x ∧ v = .tuple #[.agg #[.int .i64 2, .int .u64 (s), .int .i64 b, .slice A' n' c'], .agg #[.int .i64 x.1.1, .int .i64 x.1.2.1, .int .i64 x.1.2.2.1, .int .i64 x.1.2.2.2], .bool true] ∧ SlR RQ M w A' n' c' (popRest xs (bestUp xs n))) := by
  have hi : bestUp xs n < n := bestUp_lt xs n hn.1
  refine enter M noB Try.func13 rfl rfl hM ?_
  intro a hS
  replace hS := hS.add 0 (slF RQ (A) (n) (c) (xs)) (by exact Fact.change _ enterM hsl)
  apply wp_seq
  apply wp_region_lit
  refine l_seq rfl (l_box (zs := [.int .i64 (2), .int .u64 (s), .int .i64 (b), .slice (A) (n) (c)]) hS 1000 rfl rfl rfl rfl ?_); clear hS a; intro b1 a w hb hK hS
  clear hb
  clear hK
  refine l_seq rfl (l_alloc (zs := [.int .i64 (0), .int .u64 (0), .int .i64 (0), .slice (none) (0) (0)]) hS 1001 rfl rfl rfl rfl ?_); clear hS a; intro b2 a w hb hK hS
  clear hb
  clear hK
  refine l_seq rfl (l_alloc (zs := [.int .i64 (0), .int .i64 (0), .int .i64 (0), .int .i64 (0)]) hS 1002 rfl rfl rfl rfl ?_); clear hS a; intro b3 a w hb hK hS
  clear hb
  clear hK
  refine q_seq hS rfl rfl rfl (y_assign hS rfl) ?_; clear hS a; intro a hS
  apply wpList_nil
  refine p_norm ?_
  apply wp_seq
  apply wp_region_lit
  refine q_seq hS rfl rfl rfl (y_boxField (o' := 0) hS rfl Try.underlying25 rfl rfl rfl) ?_; clear hS a; intro a hS
  refine q_seq hS rfl rfl rfl (y_loadBox1 (kk := 1000) hS rfl rfl rfl Try.underlying3 rfl) ?_; clear hS a; intro a hS
  refine l_seq rfl (l_call (cap := []) hS rfl Try.func20 rfl (by kernel_rfl) rfl rfl (pol_spec2 _ _ hS.lt) ?_); clear hS a; intro v4 a w hK hp hS
  clear hK
  obtain rfl := hp
  refine q_seq hS rfl rfl rfl (y_move hS rfl) ?_; clear hS a; intro a hS
  refine q_seq hS rfl rfl rfl (y_extract hS rfl rfl) ?_; clear hS a; intro a hS
  refine q_seq hS rfl rfl rfl (y_extract hS rfl rfl) ?_; clear hS a; intro a hS
  refine l_seq rfl (l_alloc (zs := [.nilFunc]) hS 1106 rfl rfl rfl rfl ?_); clear hS a; intro b5 a w hb hK hS
  clear hb
  clear hK
  refine l_seq rfl (l_store (n := 1) (cs' := [.func (.func 27) #[] #[]]) hS 1106 rfl rfl rfl rfl rfl rfl rfl rfl ?_); clear hS; intro w hK hS; clear hK
  refine q_seq hS rfl rfl rfl (y_assign hS rfl) ?_; clear hS a; intro a hS
  apply wpList_nil
  refine p_norm ?_
  apply wp_seq
  apply wp_seq
  apply wp_region_lit
  refine q_seq hS rfl rfl rfl (y_move hS rfl) ?_; clear hS a; intro a hS
  refine q_seq hS rfl rfl rfl (y_not hS rfl) ?_; clear hS a; intro a hS
  refine q_seq hS rfl rfl rfl (y_move hS rfl) ?_; clear hS a; intro a hS
  refine g_yes hS rfl rfl rfl rfl (l_quiet hS rfl rfl (y_boxField (o' := 3) hS rfl Try.underlying25 rfl rfl rfl) ?_); clear hS a; intro a hS
  refine g_yes hS rfl rfl rfl rfl (l_quiet hS rfl rfl (y_loadBox1 (kk := 1000) hS rfl rfl rfl Try.underlying23 rfl) ?_); clear hS a; intro a hS
  refine g_yes hS rfl rfl rfl rfl (l_quiet hS rfl rfl (y_lenSlice hS rfl Try.underlying23) ?_); clear hS a; intro a hS
  refine g_yes hS rfl rfl rfl rfl (l_quiet hS rfl rfl (y_eql hS rfl rfl) ?_); clear hS a; intro a hS
  refine q_seq hS rfl rfl rfl (y_pick_f hS rfl rfl) ?_; clear hS a; intro a hS
  apply wpList_nil
  refine p_norm ?_
  refine c_dec hS rfl (fun hc0 => ?_) (fun hc0 => ?_)
  · exfalso; omega
  · apply wp_skip
    refine p_norm ?_
    apply wp_seq
    apply wp_region_lit
    refine q_seq hS rfl rfl rfl (y_boxField (o' := 0) hS rfl Try.underlying55 rfl rfl rfl) ?_; clear hS a; intro a hS
    refine q_seq hS rfl rfl rfl (y_loadBox1 (kk := 1106) hS rfl rfl rfl Try.underlying53 rfl) ?_; clear hS a; intro a hS
    refine q_seq hS rfl rfl rfl (y_loadBox (kk := 1000) (n := 4) (vs := [.int .i64 (2), .int .u64 (s), .int .i64 (b), .slice (A) (n) (c)]) hS rfl rfl Try.underlying25 rfl rfl rfl rfl) ?_; clear hS a; intro a hS
    refine l_seq rfl (l_call (cap := []) hS rfl Try.func27 rfl (by kernel_rfl) rfl rfl (best_spec _ _ hS.lt _ _ _ _ _ _ xs (hS.fact (k := 0) rfl) hn) ?_); clear hS a; intro v6 a w hK hp hS
    clear hK
    obtain rfl := hp
    refine q_seq hS rfl rfl rfl (y_move hS rfl) ?_; clear hS a; intro a hS
    refine q_seq hS rfl rfl rfl (y_extract hS rfl rfl) ?_; clear hS a; intro a hS
    refine q_seq hS rfl rfl rfl (y_extract hS rfl rfl) ?_; clear hS a; intro a hS
    refine q_seq hS rfl rfl rfl (y_assign hS rfl) ?_; clear hS a; intro a hS
    refine q_seq hS rfl rfl rfl (y_assign hS rfl) ?_; clear hS a; intro a hS
    apply wpList_nil
    refine p_norm ?_
    apply wp_seq
    apply wp_region_lit
    refine q_seq hS rfl rfl rfl (y_boxField (o' := 3) hS rfl Try.underlying25 rfl rfl rfl) ?_; clear hS a; intro a hS
    refine q_seq hS rfl rfl rfl (y_loadBox1 (kk := 1000) hS rfl rfl rfl Try.underlying23 rfl) ?_; clear hS a; intro a hS
    refine q_seq hS rfl rfl rfl (y_move hS rfl) ?_; clear hS a; intro a hS
    obtain ⟨x7, hx7, p7, he7, hp7⟩ := SlR.elemAt (hS.fact (k := 0) rfl) (i := bestUp xs n) (by omega)
    refine q_seq hS rfl rfl rfl (y_elem (sz := 5) (i := bestUp xs n) hS rfl rfl Try.underlying23 rfl he7 (by omega) (by omega)) ?_; clear hS a; intro a hS
    refine q_seq hS rfl rfl rfl (y_ptrField (o' := 0) hS rfl Try.underlying45 rfl rfl rfl) ?_; clear hS a; intro a hS
    obtain ⟨hl8, hm8, cs8, hd8, hq8⟩ := hp7
    obtain ⟨rfl, -⟩ := hd8
    refine q_seq hS rfl rfl rfl (y_ldp (cs := [.int .i64 (x7.1.1), .int .i64 (x7.1.2.1), .int .i64 (x7.1.2.2.1), .int .i64 (x7.1.2.2.2)]) hS rfl hl8 hm8 (fun j v hj => hq8 (0 + j) v (by rcases j with _ | (_ | (_ | (_ | _))) <;> first | exact hj | cases hj)) Try.underlying32 rfl rfl) ?_; clear hS a; intro a hS
    refine l_seq rfl (l_alloc (zs := [.int .i64 (0), .int .i64 (0), .int .i64 (0), .int .i64 (0)]) hS 1506 rfl rfl rfl rfl ?_); clear hS a; intro b9 a w hb hK hS
    clear hb
    clear hK
    refine l_seq rfl (l_store (n := 4) (cs' := [.int .i64 (x7.1.1), .int .i64 (x7.1.2.1), .int .i64 (x7.1.2.2.1), .int .i64 (x7.1.2.2.2)]) hS 1506 rfl rfl rfl rfl rfl rfl rfl rfl ?_); clear hS; intro w hK hS; clear hK
    apply wpList_nil
    refine p_norm ?_
    apply wp_seq
    refine d_plan hS [(12, 1000)] [(0, some 0), (1, some 1000), (2, some 0), (3, some 0), (4, some 0), (5, some 1000), (6, some 0), (7, some 0), (8, some 0), (9, none), (10, none), (11, none), (12, none)] rfl (by kernel_rfl) (by kernel_rfl) rfl ?_; clear hS; intro wr hZ hS; have hR := hS.wd
    refine q_take hS hR rfl rfl rfl rfl (y_boxField (o' := 3) hS rfl Try.underlying25 rfl rfl rfl) ?_; clear hS a; intro a hS
    refine q_take hS hR rfl rfl rfl rfl (y_loadBox1 (kk := 1000) hS rfl rfl rfl Try.underlying23 rfl) ?_; clear hS a; intro a hS
    refine q_take hS hR rfl rfl rfl rfl (y_move hS rfl) ?_; clear hS a; intro a hS
    have hcap101 := (hS.fact (k := 0) rfl).cap
    refine q_take hS hR rfl rfl rfl rfl (y_sliceHN (sz := 5) (i := bestUp xs n) hS rfl rfl Try.underlying23 rfl (by omega) (by omega)) ?_; clear hS a; intro a hS
    replace hS := hS.add 101 (slF RQ (A) (bestUp xs n) (c) ((xs).take (bestUp xs n))) (SlR.takeCut (hS.fact (k := 0) rfl) (i := bestUp xs n) (e := c) (by omega) (by omega) (by omega))
    refine q_take hS hR rfl rfl rfl rfl (y_boxField (o' := 3) hS rfl Try.underlying25 rfl rfl rfl) ?_; clear hS a; intro a hS
    refine q_take hS hR rfl rfl rfl rfl (y_loadBox1 (kk := 1000) hS rfl rfl rfl Try.underlying23 rfl) ?_; clear hS a; intro a hS
    refine q_take hS hR rfl rfl rfl rfl (y_move hS rfl) ?_; clear hS a; intro a hS
    refine q_take hS hR rfl rfl rfl rfl (y_addN (i := bestUp xs n) (j := 1) hS rfl rfl (in64.2 (by omega))) ?_; clear hS a; intro a hS
    have hcap102 := (hS.fact (k := 0) rfl).cap
    refine q_take hS hR rfl rfl rfl rfl (y_sliceLN (sz := 5) (i := bestUp xs n + 1) hS rfl rfl Try.underlying23 rfl (by omega) (by omega) (by omega)) ?_; clear hS a; intro a hS
    replace hS := hS.add 102 (slF RQ (if c = (bestUp xs n + 1) then A else (A).map (·.add ((bestUp xs n + 1) * 5))) (n - (bestUp xs n + 1)) (c - (bestUp xs n + 1)) ((xs).drop ((bestUp xs n + 1)))) (SlR.dropCut (hS.fact (k := 0) rfl) (i := (bestUp xs n + 1)) (by omega))
    refine l_take hS rfl rfl (l_buildDense (sz := 1) hS 1609 rfl rfl rfl Try.underlying64 rfl rfl rfl rfl rfl rfl rfl ?_); clear hS a; intro b10 a w hbb10 hK hS
    have hNb10 := NewA.lit hZ hbb10
    clear hbb10
    replace hZ := Nat.le_trans hZ hK.size; refine ⟨fun g _ h => h.grow hK, ?_⟩; clear hK
    replace hS := hS.freeze (R := (Rep.list RQ)) (kk := 1609) (L' := [(1000, Ob.box b1 [.int .i64 (2), .int .u64 (s), .int .i64 (b), .slice (A) (n) (c)] 25), (1001, Ob.box b2 [.int .i64 (0), .int .u64 (0), .int .i64 (0), .slice (none) (0) (0)] 25), (1002, Ob.box b3 [.int .i64 (0), .int .i64 (0), .int .i64 (0), .int .i64 (0)] 32), (1106, Ob.box b5 [.func (.func 27) #[] #[]] 55), (1506, Ob.box b9 [.int .i64 (x7.1.1), .int .i64 (x7.1.2.1), .int .i64 (x7.1.2.2.1), .int .i64 (x7.1.2.2.2)] 32)]) 103 rfl rfl (RdAll.append (R := Rep.list RQ) (RdAll.single ⟨_, _, _, rfl, hS.fact (k := 101) rfl⟩) (RdAll.single ⟨_, _, _, rfl, hS.fact (k := 102) rfl⟩)) ⟨rfl, rfl, rfl, rfl, rfl, trivial⟩ rfl
    have hll11 : lens [(xs).take (bestUp xs n), (xs).drop ((bestUp xs n + 1))] ≤ 2000 := by have h1 := (hS.fact (k := 101) rfl).len; have h2 := (hS.fact (k := 102) rfl).len; simp only [lens, List.map_cons, List.map_nil, List.sum_cons, List.sum_nil]; omega
    refine l_take hS rfl rfl (l_call (cap := []) hS rfl Try.func22 rfl (by kernel_rfl) rfl rfl (concat_spec _ _ hS.lt _ _ _ _ (hS.fact (k := 103) rfl) (by omega) hll11) ?_); clear hS a; intro v12 a w hK hp hS
    replace hZ := Nat.le_trans hZ hK.size; refine ⟨fun g _ h => h.grow hK, ?_⟩; clear hK
    obtain ⟨A11, n11, c11, rfl, hr11⟩ := hp
    replace hS := hS.add 104 (slF RQ (A11) (n11) (c11) ([(xs).take (bestUp xs n), (xs).drop ((bestUp xs n + 1))].flatten)) hr11
    refine l_take hS rfl rfl (l_quiet hS rfl rfl (y_boxField (o' := 3) hS rfl Try.underlying25 rfl rfl rfl) ?_); clear hS a; intro a hS; refine ⟨fun g _ h => h, ?_⟩
    refine l_take hS rfl rfl (l_store (n := 1) (cs' := [.int .i64 (2), .int .u64 (s), .int .i64 (b), .slice (A11) (n11) (c11)]) hS 1000 rfl rfl rfl rfl rfl rfl rfl rfl ?_); clear hS; intro w hK hS; replace hZ := Nat.le_trans hZ hK.size
    refine ⟨fun g hg h => h.obj hR (kk := 1000) rfl hK (by rintro rfl; exact absurd hg (by decide)), ?_⟩; clear hK
    clear hR hZ
    refine p_norm ?_
    apply wp_seq
    apply wp_region_lit
    refine q_seq hS rfl rfl rfl (y_move hS rfl) ?_; clear hS a; intro a hS
    refine q_seq hS rfl rfl rfl (y_boxField (o' := 1) hS rfl Try.underlying25 rfl rfl rfl) ?_; clear hS a; intro a hS
    refine l_seq rfl (l_store (n := 1) (cs' := [.int .i64 (2), .int .u64 (s), .int .i64 (b), .slice (A11) (n11) (c11)]) hS 1000 rfl rfl rfl rfl rfl rfl rfl rfl ?_); clear hS; intro w hK hS; clear hK
    apply wpList_nil
    refine p_norm ?_
    apply wp_seq
    refine d_plan hS [(2, 1001), (3, 1002)] [(0, some 1000), (1, some 1506), (2, none), (3, none), (4, none)] rfl (by kernel_rfl) (by kernel_rfl) rfl ?_; clear hS; intro wr hZ hS; have hR := hS.wd
    refine q_take hS hR rfl rfl rfl rfl (y_loadBox (kk := 1000) (n := 4) (vs := [.int .i64 (2), .int .u64 (s), .int .i64 (b), .slice (A11) (n11) (c11)]) hS rfl rfl Try.underlying25 rfl rfl rfl rfl) ?_; clear hS a; intro a hS
    refine q_take hS hR rfl rfl rfl rfl (y_loadBox (kk := 1506) (n := 4) (vs := [.int .i64 (x7.1.1), .int .i64 (x7.1.2.1), .int .i64 (x7.1.2.2.1), .int .i64 (x7.1.2.2.2)]) hS rfl rfl Try.underlying32 rfl rfl rfl rfl) ?_; clear hS a; intro a hS
    refine l_take hS rfl rfl (l_store (n := 4) (cs' := [.int .i64 (2), .int .u64 (s), .int .i64 (b), .slice (A11) (n11) (c11)]) hS 1001 rfl rfl rfl rfl rfl rfl rfl rfl ?_); clear hS; intro w hK hS; replace hZ := Nat.le_trans hZ hK.size
    refine ⟨fun g hg h => h.obj hR (kk := 1001) rfl hK (by rintro rfl; exact absurd hg (by decide)), ?_⟩; clear hK
    refine l_take hS rfl rfl (l_store (n := 4) (cs' := [.int .i64 (x7.1.1), .int .i64 (x7.1.2.1), .int .i64 (x7.1.2.2.1), .int .i64 (x7.1.2.2.2)]) hS 1002 rfl rfl rfl rfl rfl rfl rfl rfl ?_); clear hS; intro w hK hS; replace hZ := Nat.le_trans hZ hK.size
    refine ⟨fun g hg h => h.obj hR (kk := 1002) rfl hK (by rintro rfl; exact absurd hg (by decide)), ?_⟩; clear hK
    refine l_take hS rfl rfl (l_quiet hS rfl rfl (y_assign hS rfl) ?_); clear hS a; intro a hS; refine ⟨fun g _ h => h, ?_⟩
    clear hR hZ
    refine p_norm ?_
    apply wp_ret
    refine fin3 (fn := Try.f13) hS rfl (r_cell (kk := 1001) (n := 4) (vs := [.int .i64 (2), .int .u64 (s), .int .i64 (b), .slice (A11) (n11) (c11)]) hS rfl rfl Try.underlying25 rfl rfl rfl rfl) (r_cell (kk := 1002) (n := 4) (vs := [.int .i64 (x7.1.1), .int .i64 (x7.1.2.1), .int .i64 (x7.1.2.2.1), .int .i64 (x7.1.2.2.2)]) hS rfl rfl Try.underlying32 rfl rfl rfl rfl) (r_tmp hS rfl) ?_
    have hq := hS.out (k := 104) rfl
    refine ⟨_, _, _, x7, hx7, rfl, ?_⟩
    have e : ∀ (a b : List Queued), [a, b].flatten = a ++ b := fun a b => by simp
    rw [e] at hq
    exact hq

set_option maxHeartbeats 400000 in
theorem pop_spec3 (M : Bs) (w0 : World) (hM : ∀ b, M b → b < w0.heap.size) (s b : Int) (A : Option Addr) (n c : Nat) (xs : List Queued) (hsl : SlR RQ M w0 A n c xs) (hn : 0 < n ∧ n ≤ 1000) :
    Calls Try.prog 13 [.agg #[.int .i64 (3), .int .u64 (s), .int .i64 (b), .slice (A) (n) (c)]].toArray w0 (Ret noB w0 fun v w => ∃ A' n' c' x, xs[(randIdx s n).toNat]? = some x ∧ v = .tuple #[.agg #[.int .i64 3, .int .u64 (adv s), .int .i64 b, .slice A' n' c'], .agg #[.int .i64 x.1.1, .int .i64 x.1.2.1, .int .i64 x.1.2.2.1, .int .i64 x.1.2.2.2], .bool true] ∧ SlR RQ M w A' n' c' (popRest xs ((randIdx s n).toNat))) := by
  have hi : (randIdx s n).toNat < n := by have := randIdx_bd s n hn.1; omega
  refine enter M noB Try.func13 rfl rfl hM ?_
  intro a hS
  replace hS := hS.add 0 (slF RQ (A) (n) (c) (xs)) (by exact Fact.change _ enterM hsl)
  apply wp_seq
  apply wp_region_lit
  refine l_seq rfl (l_box (zs := [.int .i64 (3), .int .u64 (s), .int .i64 (b), .slice (A) (n) (c)]) hS 1000 rfl rfl rfl rfl ?_); clear hS a; intro b1 a w hb hK hS
  clear hb
  clear hK
  refine l_seq rfl (l_alloc (zs := [.int .i64 (0), .int .u64 (0), .int .i64 (0), .slice (none) (0) (0)]) hS 1001 rfl rfl rfl rfl ?_); clear hS a; intro b2 a w hb hK hS
  clear hb
  clear hK
  refine l_seq rfl (l_alloc (zs := [.int .i64 (0), .int .i64 (0), .int .i64 (0), .int .i64 (0)]) hS 1002 rfl rfl rfl rfl ?_); clear hS a; intro b3 a w hb hK hS
  clear hb
  clear hK
  refine q_seq hS rfl rfl rfl (y_assign hS rfl) ?_; clear hS a; intro a hS
  apply wpList_nil
  refine p_norm ?_
  apply wp_seq
  apply wp_region_lit
  refine q_seq hS rfl rfl rfl (y_boxField (o' := 0) hS rfl Try.underlying25 rfl rfl rfl) ?_; clear hS a; intro a hS
  refine q_seq hS rfl rfl rfl (y_loadBox1 (kk := 1000) hS rfl rfl rfl Try.underlying3 rfl) ?_; clear hS a; intro a hS
  refine l_seq rfl (l_call (cap := []) hS rfl Try.func20 rfl (by kernel_rfl) rfl rfl (pol_spec3 _ _ hS.lt) ?_); clear hS a; intro v4 a w hK hp hS
  clear hK
  obtain rfl := hp
  refine q_seq hS rfl rfl rfl (y_move hS rfl) ?_; clear hS a; intro a hS
  refine q_seq hS rfl rfl rfl (y_extract hS rfl rfl) ?_; clear hS a; intro a hS
  refine q_seq hS rfl rfl rfl (y_extract hS rfl rfl) ?_; clear hS a; intro a hS
  refine l_seq rfl (l_alloc (zs := [.nilFunc]) hS 1106 rfl rfl rfl rfl ?_); clear hS a; intro b5 a w hb hK hS
  clear hb
  clear hK
  refine l_seq rfl (l_store (n := 1) (cs' := [.func (.func 28) #[] #[]]) hS 1106 rfl rfl rfl rfl rfl rfl rfl rfl ?_); clear hS; intro w hK hS; clear hK
  refine q_seq hS rfl rfl rfl (y_assign hS rfl) ?_; clear hS a; intro a hS
  apply wpList_nil
  refine p_norm ?_
  apply wp_seq
  apply wp_seq
  apply wp_region_lit
  refine q_seq hS rfl rfl rfl (y_move hS rfl) ?_; clear hS a; intro a hS
  refine q_seq hS rfl rfl rfl (y_not hS rfl) ?_; clear hS a; intro a hS
  refine q_seq hS rfl rfl rfl (y_move hS rfl) ?_; clear hS a; intro a hS
  refine g_yes hS rfl rfl rfl rfl (l_quiet hS rfl rfl (y_boxField (o' := 3) hS rfl Try.underlying25 rfl rfl rfl) ?_); clear hS a; intro a hS
  refine g_yes hS rfl rfl rfl rfl (l_quiet hS rfl rfl (y_loadBox1 (kk := 1000) hS rfl rfl rfl Try.underlying23 rfl) ?_); clear hS a; intro a hS
  refine g_yes hS rfl rfl rfl rfl (l_quiet hS rfl rfl (y_lenSlice hS rfl Try.underlying23) ?_); clear hS a; intro a hS
  refine g_yes hS rfl rfl rfl rfl (l_quiet hS rfl rfl (y_eql hS rfl rfl) ?_); clear hS a; intro a hS
  refine q_seq hS rfl rfl rfl (y_pick_f hS rfl rfl) ?_; clear hS a; intro a hS
  apply wpList_nil
  refine p_norm ?_
  refine c_dec hS rfl (fun hc0 => ?_) (fun hc0 => ?_)
  · exfalso; omega
  · apply wp_skip
    refine p_norm ?_
    apply wp_seq
    apply wp_region_lit
    refine q_seq hS rfl rfl rfl (y_boxField (o' := 0) hS rfl Try.underlying55 rfl rfl rfl) ?_; clear hS a; intro a hS
    refine q_seq hS rfl rfl rfl (y_loadBox1 (kk := 1106) hS rfl rfl rfl Try.underlying53 rfl) ?_; clear hS a; intro a hS
    refine q_seq hS rfl rfl rfl (y_loadBox (kk := 1000) (n := 4) (vs := [.int .i64 (3), .int .u64 (s), .int .i64 (b), .slice (A) (n) (c)]) hS rfl rfl Try.underlying25 rfl rfl rfl rfl) ?_; clear hS a; intro a hS
    refine l_seq rfl (l_call (cap := []) hS rfl Try.func28 rfl (by kernel_rfl) rfl rfl (random_spec _ _ hS.lt _ _ _ _ _ _ hn) ?_); clear hS a; intro v6 a w hK hp hS
    clear hK
    obtain rfl := hp
    refine q_seq hS rfl rfl rfl (y_move hS rfl) ?_; clear hS a; intro a hS
    refine q_seq hS rfl rfl rfl (y_extract hS rfl rfl) ?_; clear hS a; intro a hS
    refine q_seq hS rfl rfl rfl (y_extract hS rfl rfl) ?_; clear hS a; intro a hS
    refine q_seq hS rfl rfl rfl (y_assign hS rfl) ?_; clear hS a; intro a hS
    refine q_seq hS rfl rfl rfl (y_assign hS rfl) ?_; clear hS a; intro a hS
    apply wpList_nil
    refine p_norm ?_
    apply wp_seq
    apply wp_region_lit
    refine q_seq hS rfl rfl rfl (y_boxField (o' := 3) hS rfl Try.underlying25 rfl rfl rfl) ?_; clear hS a; intro a hS
    refine q_seq hS rfl rfl rfl (y_loadBox1 (kk := 1000) hS rfl rfl rfl Try.underlying23 rfl) ?_; clear hS a; intro a hS
    refine q_seq hS rfl rfl rfl (y_move hS rfl) ?_; clear hS a; intro a hS
    obtain ⟨x7, hx7, p7, he7, hp7⟩ := SlR.elemAt (hS.fact (k := 0) rfl) (i := (randIdx s n).toNat) (by omega)
    refine q_seq hS rfl rfl rfl (y_elem (sz := 5) (i := (randIdx s n).toNat) hS rfl rfl Try.underlying23 rfl he7 (by omega) (by omega)) ?_; clear hS a; intro a hS
    refine q_seq hS rfl rfl rfl (y_ptrField (o' := 0) hS rfl Try.underlying45 rfl rfl rfl) ?_; clear hS a; intro a hS
    obtain ⟨hl8, hm8, cs8, hd8, hq8⟩ := hp7
    obtain ⟨rfl, -⟩ := hd8
    refine q_seq hS rfl rfl rfl (y_ldp (cs := [.int .i64 (x7.1.1), .int .i64 (x7.1.2.1), .int .i64 (x7.1.2.2.1), .int .i64 (x7.1.2.2.2)]) hS rfl hl8 hm8 (fun j v hj => hq8 (0 + j) v (by rcases j with _ | (_ | (_ | (_ | _))) <;> first | exact hj | cases hj)) Try.underlying32 rfl rfl) ?_; clear hS a; intro a hS
    refine l_seq rfl (l_alloc (zs := [.int .i64 (0), .int .i64 (0), .int .i64 (0), .int .i64 (0)]) hS 1506 rfl rfl rfl rfl ?_); clear hS a; intro b9 a w hb hK hS
    clear hb
    clear hK
    refine l_seq rfl (l_store (n := 4) (cs' := [.int .i64 (x7.1.1), .int .i64 (x7.1.2.1), .int .i64 (x7.1.2.2.1), .int .i64 (x7.1.2.2.2)]) hS 1506 rfl rfl rfl rfl rfl rfl rfl rfl ?_); clear hS; intro w hK hS; clear hK
    apply wpList_nil
    refine p_norm ?_
    apply wp_seq
    refine d_plan hS [(12, 1000)] [(0, some 0), (1, some 1000), (2, some 0), (3, some 0), (4, some 0), (5, some 1000), (6, some 0), (7, some 0), (8, some 0), (9, none), (10, none), (11, none), (12, none)] rfl (by kernel_rfl) (by kernel_rfl) rfl ?_; clear hS; intro wr hZ hS; have hR := hS.wd
    refine q_take hS hR rfl rfl rfl rfl (y_boxField (o' := 3) hS rfl Try.underlying25 rfl rfl rfl) ?_; clear hS a; intro a hS
    refine q_take hS hR rfl rfl rfl rfl (y_loadBox1 (kk := 1000) hS rfl rfl rfl Try.underlying23 rfl) ?_; clear hS a; intro a hS
    refine q_take hS hR rfl rfl rfl rfl (y_move hS rfl) ?_; clear hS a; intro a hS
    have hcap101 := (hS.fact (k := 0) rfl).cap
    refine q_take hS hR rfl rfl rfl rfl (y_sliceHN (sz := 5) (i := (randIdx s n).toNat) hS rfl rfl Try.underlying23 rfl (by omega) (by omega)) ?_; clear hS a; intro a hS
    replace hS := hS.add 101 (slF RQ (A) ((randIdx s n).toNat) (c) ((xs).take ((randIdx s n).toNat))) (SlR.takeCut (hS.fact (k := 0) rfl) (i := (randIdx s n).toNat) (e := c) (by omega) (by omega) (by omega))
    refine q_take hS hR rfl rfl rfl rfl (y_boxField (o' := 3) hS rfl Try.underlying25 rfl rfl rfl) ?_; clear hS a; intro a hS
    refine q_take hS hR rfl rfl rfl rfl (y_loadBox1 (kk := 1000) hS rfl rfl rfl Try.underlying23 rfl) ?_; clear hS a; intro a hS
    refine q_take hS hR rfl rfl rfl rfl (y_move hS rfl) ?_; clear hS a; intro a hS
    refine q_take hS hR rfl rfl rfl rfl (y_addN (i := (randIdx s n).toNat) (j := 1) hS rfl rfl (in64.2 (by omega))) ?_; clear hS a; intro a hS
    have hcap102 := (hS.fact (k := 0) rfl).cap
    refine q_take hS hR rfl rfl rfl rfl (y_sliceLN (sz := 5) (i := (randIdx s n).toNat + 1) hS rfl rfl Try.underlying23 rfl (by omega) (by omega) (by omega)) ?_; clear hS a; intro a hS
    replace hS := hS.add 102 (slF RQ (if c = ((randIdx s n).toNat + 1) then A else (A).map (·.add (((randIdx s n).toNat + 1) * 5))) (n - ((randIdx s n).toNat + 1)) (c - ((randIdx s n).toNat + 1)) ((xs).drop (((randIdx s n).toNat + 1)))) (SlR.dropCut (hS.fact (k := 0) rfl) (i := ((randIdx s n).toNat + 1)) (by omega))
    refine l_take hS rfl rfl (l_buildDense (sz := 1) hS 1609 rfl rfl rfl Try.underlying64 rfl rfl rfl rfl rfl rfl rfl ?_); clear hS a; intro b10 a w hbb10 hK hS
    have hNb10 := NewA.lit hZ hbb10
    clear hbb10
    replace hZ := Nat.le_trans hZ hK.size; refine ⟨fun g _ h => h.grow hK, ?_⟩; clear hK
    replace hS := hS.freeze (R := (Rep.list RQ)) (kk := 1609) (L' := [(1000, Ob.box b1 [.int .i64 (3), .int .u64 (s), .int .i64 (b), .slice (A) (n) (c)] 25), (1001, Ob.box b2 [.int .i64 (0), .int .u64 (0), .int .i64 (0), .slice (none) (0) (0)] 25), (1002, Ob.box b3 [.int .i64 (0), .int .i64 (0), .int .i64 (0), .int .i64 (0)] 32), (1106, Ob.box b5 [.func (.func 28) #[] #[]] 55), (1506, Ob.box b9 [.int .i64 (x7.1.1), .int .i64 (x7.1.2.1), .int .i64 (x7.1.2.2.1), .int .i64 (x7.1.2.2.2)] 32)]) 103 rfl rfl (RdAll.append (R := Rep.list RQ) (RdAll.single ⟨_, _, _, rfl, hS.fact (k := 101) rfl⟩) (RdAll.single ⟨_, _, _, rfl, hS.fact (k := 102) rfl⟩)) ⟨rfl, rfl, rfl, rfl, rfl, trivial⟩ rfl
    have hll11 : lens [(xs).take ((randIdx s n).toNat), (xs).drop (((randIdx s n).toNat + 1))] ≤ 2000 := by have h1 := (hS.fact (k := 101) rfl).len; have h2 := (hS.fact (k := 102) rfl).len; simp only [lens, List.map_cons, List.map_nil, List.sum_cons, List.sum_nil]; omega
    refine l_take hS rfl rfl (l_call (cap := []) hS rfl Try.func22 rfl (by kernel_rfl) rfl rfl (concat_spec _ _ hS.lt _ _ _ _ (hS.fact (k := 103) rfl) (by omega) hll11) ?_); clear hS a; intro v12 a w hK hp hS
    replace hZ := Nat.le_trans hZ hK.size; refine ⟨fun g _ h => h.grow hK, ?_⟩; clear hK
    obtain ⟨A11, n11, c11, rfl, hr11⟩ := hp
    replace hS := hS.add 104 (slF RQ (A11) (n11) (c11) ([(xs).take ((randIdx s n).toNat), (xs).drop (((randIdx s n).toNat + 1))].flatten)) hr11
    refine l_take hS rfl rfl (l_quiet hS rfl rfl (y_boxField (o' := 3) hS rfl Try.underlying25 rfl rfl rfl) ?_); clear hS a; intro a hS; refine ⟨fun g _ h => h, ?_⟩
    refine l_take hS rfl rfl (l_store (n := 1) (cs' := [.int .i64 (3), .int .u64 (s), .int .i64 (b), .slice (A11) (n11) (c11)]) hS 1000 rfl rfl rfl rfl rfl rfl rfl rfl ?_); clear hS; intro w hK hS; replace hZ := Nat.le_trans hZ hK.size
    refine ⟨fun g hg h => h.obj hR (kk := 1000) rfl hK (by rintro rfl; exact absurd hg (by decide)), ?_⟩; clear hK
    clear hR hZ
    refine p_norm ?_
    apply wp_seq
    apply wp_region_lit
    refine q_seq hS rfl rfl rfl (y_move hS rfl) ?_; clear hS a; intro a hS
    refine q_seq hS rfl rfl rfl (y_boxField (o' := 1) hS rfl Try.underlying25 rfl rfl rfl) ?_; clear hS a; intro a hS
    refine l_seq rfl (l_store (n := 1) (cs' := [.int .i64 (3), .int .u64 (adv s), .int .i64 (b), .slice (A11) (n11) (c11)]) hS 1000 rfl rfl rfl rfl rfl rfl rfl rfl ?_); clear hS; intro w hK hS; clear hK
    apply wpList_nil
    refine p_norm ?_
    apply wp_seq
    refine d_plan hS [(2, 1001), (3, 1002)] [(0, some 1000), (1, some 1506), (2, none), (3, none), (4, none)] rfl (by kernel_rfl) (by kernel_rfl) rfl ?_; clear hS; intro wr hZ hS; have hR := hS.wd
    refine q_take hS hR rfl rfl rfl rfl (y_loadBox (kk := 1000) (n := 4) (vs := [.int .i64 (3), .int .u64 (adv s), .int .i64 (b), .slice (A11) (n11) (c11)]) hS rfl rfl Try.underlying25 rfl rfl rfl rfl) ?_; clear hS a; intro a hS
    refine q_take hS hR rfl rfl rfl rfl (y_loadBox (kk := 1506) (n := 4) (vs := [.int .i64 (x7.1.1), .int .i64 (x7.1.2.1), .int .i64 (x7.1.2.2.1), .int .i64 (x7.1.2.2.2)]) hS rfl rfl Try.underlying32 rfl rfl rfl rfl) ?_; clear hS a; intro a hS
    refine l_take hS rfl rfl (l_store (n := 4) (cs' := [.int .i64 (3), .int .u64 (adv s), .int .i64 (b), .slice (A11) (n11) (c11)]) hS 1001 rfl rfl rfl rfl rfl rfl rfl rfl ?_); clear hS; intro w hK hS; replace hZ := Nat.le_trans hZ hK.size
    refine ⟨fun g hg h => h.obj hR (kk := 1001) rfl hK (by rintro rfl; exact absurd hg (by decide)), ?_⟩; clear hK
    refine l_take hS rfl rfl (l_store (n := 4) (cs' := [.int .i64 (x7.1.1), .int .i64 (x7.1.2.1), .int .i64 (x7.1.2.2.1), .int .i64 (x7.1.2.2.2)]) hS 1002 rfl rfl rfl rfl rfl rfl rfl rfl ?_); clear hS; intro w hK hS; replace hZ := Nat.le_trans hZ hK.size
    refine ⟨fun g hg h => h.obj hR (kk := 1002) rfl hK (by rintro rfl; exact absurd hg (by decide)), ?_⟩; clear hK
    refine l_take hS rfl rfl (l_quiet hS rfl rfl (y_assign hS rfl) ?_); clear hS a; intro a hS; refine ⟨fun g _ h => h, ?_⟩
    clear hR hZ
    refine p_norm ?_
    apply wp_ret
    refine fin3 (fn := Try.f13) hS rfl (r_cell (kk := 1001) (n := 4) (vs := [.int .i64 (3), .int .u64 (adv s), .int .i64 (b), .slice (A11) (n11) (c11)]) hS rfl rfl Try.underlying25 rfl rfl rfl rfl) (r_cell (kk := 1002) (n := 4) (vs := [.int .i64 (x7.1.1), .int .i64 (x7.1.2.1), .int .i64 (x7.1.2.2.1), .int .i64 (x7.1.2.2.2)]) hS rfl rfl Try.underlying32 rfl rfl rfl rfl) (r_tmp hS rfl) ?_
    have hq := hS.out (k := 104) rfl
    refine ⟨_, _, _, x7, hx7, rfl, ?_⟩
    have e : ∀ (a b : List Queued), [a, b].flatten = a ++ b := fun a b => by simp
    rw [e] at hq
    exact hq

set_option maxHeartbeats 400000 in
theorem pop_nil0 (M : Bs) (w0 : World) (hM : ∀ b, M b → b < w0.heap.size) (s b : Int) (A : Option Addr) (c : Nat) :
    Calls Try.prog 13 [.agg #[.int .i64 (0), .int .u64 (s), .int .i64 (b), .slice (A) (0) (c)]].toArray w0 (Ret noB w0 fun v w => v = .tuple #[.agg #[.int .i64 0, .int .u64 s, .int .i64 b, .slice A 0 c], .agg #[.int .i64 0, .int .i64 0, .int .i64 0, .int .i64 0], .bool false]) := by
  refine enter M noB Try.func13 rfl rfl hM ?_
  intro a hS
  apply wp_seq
  apply wp_region_lit
  refine l_seq rfl (l_box (zs := [.int .i64 (0), .int .u64 (s), .int .i64 (b), .slice (A) (0) (c)]) hS 1000 rfl rfl rfl rfl ?_); clear hS a; intro b1 a w hb hK hS
  clear hb
  clear hK
  refine l_seq rfl (l_alloc (zs := [.int .i64 (0), .int .u64 (0), .int .i64 (0), .slice (none) (0) (0)]) hS 1001 rfl rfl rfl rfl ?_); clear hS a; intro b2 a w hb hK hS
  clear hb
  clear hK
  refine l_seq rfl (l_alloc (zs := [.int .i64 (0), .int .i64 (0), .int .i64 (0), .int .i64 (0)]) hS 1002 rfl rfl rfl rfl ?_); clear hS a; intro b3 a w hb hK hS
  clear hb
  clear hK
  refine q_seq hS rfl rfl rfl (y_assign hS rfl) ?_; clear hS a; intro a hS
  apply wpList_nil
  refine p_norm ?_
  apply wp_seq
  apply wp_region_lit
  refine q_seq hS rfl rfl rfl (y_boxField (o' := 0) hS rfl Try.underlying25 rfl rfl rfl) ?_; clear hS a; intro a hS
  refine q_seq hS rfl rfl rfl (y_loadBox1 (kk := 1000) hS rfl rfl rfl Try.underlying3 rfl) ?_; clear hS a; intro a hS
  refine l_seq rfl (l_call (cap := []) hS rfl Try.func20 rfl (by kernel_rfl) rfl rfl (pol_spec0 _ _ hS.lt) ?_); clear hS a; intro v4 a w hK hp hS
  clear hK
  obtain rfl := hp
  refine q_seq hS rfl rfl rfl (y_move hS rfl) ?_; clear hS a; intro a hS
  refine q_seq hS rfl rfl rfl (y_extract hS rfl rfl) ?_; clear hS a; intro a hS
  refine q_seq hS rfl rfl rfl (y_extract hS rfl rfl) ?_; clear hS a; intro a hS
  refine l_seq rfl (l_alloc (zs := [.nilFunc]) hS 1106 rfl rfl rfl rfl ?_); clear hS a; intro b5 a w hb hK hS
  clear hb
  clear hK
  refine l_seq rfl (l_store (n := 1) (cs' := [.func (.func 25) #[] #[]]) hS 1106 rfl rfl rfl rfl rfl rfl rfl rfl ?_); clear hS; intro w hK hS; clear hK
  refine q_seq hS rfl rfl rfl (y_assign hS rfl) ?_; clear hS a; intro a hS
  apply wpList_nil
  refine p_norm ?_
  apply wp_seq
  apply wp_seq
  apply wp_region_lit
  refine q_seq hS rfl rfl rfl (y_move hS rfl) ?_; clear hS a; intro a hS
  refine q_seq hS rfl rfl rfl (y_not hS rfl) ?_; clear hS a; intro a hS
  refine q_seq hS rfl rfl rfl (y_move hS rfl) ?_; clear hS a; intro a hS
  refine g_yes hS rfl rfl rfl rfl (l_quiet hS rfl rfl (y_boxField (o' := 3) hS rfl Try.underlying25 rfl rfl rfl) ?_); clear hS a; intro a hS
  refine g_yes hS rfl rfl rfl rfl (l_quiet hS rfl rfl (y_loadBox1 (kk := 1000) hS rfl rfl rfl Try.underlying23 rfl) ?_); clear hS a; intro a hS
  refine g_yes hS rfl rfl rfl rfl (l_quiet hS rfl rfl (y_lenSlice hS rfl Try.underlying23) ?_); clear hS a; intro a hS
  refine g_yes hS rfl rfl rfl rfl (l_quiet hS rfl rfl (y_eql hS rfl rfl) ?_); clear hS a; intro a hS
  refine q_seq hS rfl rfl rfl (y_pick_f hS rfl rfl) ?_; clear hS a; intro a hS
  apply wpList_nil
  refine p_norm ?_
  refine c_t hS rfl ?_
  apply wp_seq
  apply wp_region_lit
  refine q_seq hS rfl rfl rfl (y_loadBox (kk := 1000) (n := 4) (vs := [.int .i64 (0), .int .u64 (s), .int .i64 (b), .slice (A) (0) (c)]) hS rfl rfl Try.underlying25 rfl rfl rfl rfl) ?_; clear hS a; intro a hS
  refine q_seq hS rfl rfl rfl (y_build (parts := []) (ps := []) (cells := #[.int .i64 (0), .int .i64 (0), .int .i64 (0), .int .i64 (0)]) hS rfl (by kernel_rfl)) ?_; clear hS a; intro a hS
  refine l_seq rfl (l_store (n := 4) (cs' := [.int .i64 (0), .int .u64 (s), .int .i64 (b), .slice (A) (0) (c)]) hS 1001 rfl rfl rfl rfl rfl rfl rfl rfl ?_); clear hS; intro w hK hS; clear hK
  refine l_seq rfl (l_store (n := 4) (cs' := [.int .i64 (0), .int .i64 (0), .int .i64 (0), .int .i64 (0)]) hS 1002 rfl rfl rfl rfl rfl rfl rfl rfl ?_); clear hS; intro w hK hS; clear hK
  refine q_seq hS rfl rfl rfl (y_assign hS rfl) ?_; clear hS a; intro a hS
  apply wpList_nil
  refine p_norm ?_
  apply wp_ret
  refine p_thenR ?_
  refine fin3 (fn := Try.f13) hS rfl (r_cell (kk := 1001) (n := 4) (vs := [.int .i64 (0), .int .u64 (s), .int .i64 (b), .slice (A) (0) (c)]) hS rfl rfl Try.underlying25 rfl rfl rfl rfl) (r_cell (kk := 1002) (n := 4) (vs := [.int .i64 (0), .int .i64 (0), .int .i64 (0), .int .i64 (0)]) hS rfl rfl Try.underlying32 rfl rfl rfl rfl) (r_tmp hS rfl) ?_
  rfl

set_option maxHeartbeats 400000 in
theorem pop_nil1 (M : Bs) (w0 : World) (hM : ∀ b, M b → b < w0.heap.size) (s b : Int) (A : Option Addr) (c : Nat) :
    Calls Try.prog 13 [.agg #[.int .i64 (1), .int .u64 (s), .int .i64 (b), .slice (A) (0) (c)]].toArray w0 (Ret noB w0 fun v w => v = .tuple #[.agg #[.int .i64 1, .int .u64 s, .int .i64 b, .slice A 0 c], .agg #[.int .i64 0, .int .i64 0, .int .i64 0, .int .i64 0], .bool false]) := by
  refine enter M noB Try.func13 rfl rfl hM ?_
  intro a hS
  apply wp_seq
  apply wp_region_lit
  refine l_seq rfl (l_box (zs := [.int .i64 (1), .int .u64 (s), .int .i64 (b), .slice (A) (0) (c)]) hS 1000 rfl rfl rfl rfl ?_); clear hS a; intro b1 a w hb hK hS
  clear hb
  clear hK
  refine l_seq rfl (l_alloc (zs := [.int .i64 (0), .int .u64 (0), .int .i64 (0), .slice (none) (0) (0)]) hS 1001 rfl rfl rfl rfl ?_); clear hS a; intro b2 a w hb hK hS
  clear hb
  clear hK
  refine l_seq rfl (l_alloc (zs := [.int .i64 (0), .int .i64 (0), .int .i64 (0), .int .i64 (0)]) hS 1002 rfl rfl rfl rfl ?_); clear hS a; intro b3 a w hb hK hS
  clear hb
  clear hK
  refine q_seq hS rfl rfl rfl (y_assign hS rfl) ?_; clear hS a; intro a hS
  apply wpList_nil
  refine p_norm ?_
  apply wp_seq
  apply wp_region_lit
  refine q_seq hS rfl rfl rfl (y_boxField (o' := 0) hS rfl Try.underlying25 rfl rfl rfl) ?_; clear hS a; intro a hS
  refine q_seq hS rfl rfl rfl (y_loadBox1 (kk := 1000) hS rfl rfl rfl Try.underlying3 rfl) ?_; clear hS a; intro a hS
  refine l_seq rfl (l_call (cap := []) hS rfl Try.func20 rfl (by kernel_rfl) rfl rfl (pol_spec1 _ _ hS.lt) ?_); clear hS a; intro v4 a w hK hp hS
  clear hK
  obtain rfl := hp
  refine q_seq hS rfl rfl rfl (y_move hS rfl) ?_; clear hS a; intro a hS
  refine q_seq hS rfl rfl rfl (y_extract hS rfl rfl) ?_; clear hS a; intro a hS
  refine q_seq hS rfl rfl rfl (y_extract hS rfl rfl) ?_; clear hS a; intro a hS
  refine l_seq rfl (l_alloc (zs := [.nilFunc]) hS 1106 rfl rfl rfl rfl ?_); clear hS a; intro b5 a w hb hK hS
  clear hb
  clear hK
  refine l_seq rfl (l_store (n := 1) (cs' := [.func (.func 26) #[] #[]]) hS 1106 rfl rfl rfl rfl rfl rfl rfl rfl ?_); clear hS; intro w hK hS; clear hK
  refine q_seq hS rfl rfl rfl (y_assign hS rfl) ?_; clear hS a; intro a hS
  apply wpList_nil
  refine p_norm ?_
  apply wp_seq
  apply wp_seq
  apply wp_region_lit
  refine q_seq hS rfl rfl rfl (y_move hS rfl) ?_; clear hS a; intro a hS
  refine q_seq hS rfl rfl rfl (y_not hS rfl) ?_; clear hS a; intro a hS
  refine q_seq hS rfl rfl rfl (y_move hS rfl) ?_; clear hS a; intro a hS
  refine g_yes hS rfl rfl rfl rfl (l_quiet hS rfl rfl (y_boxField (o' := 3) hS rfl Try.underlying25 rfl rfl rfl) ?_); clear hS a; intro a hS
  refine g_yes hS rfl rfl rfl rfl (l_quiet hS rfl rfl (y_loadBox1 (kk := 1000) hS rfl rfl rfl Try.underlying23 rfl) ?_); clear hS a; intro a hS
  refine g_yes hS rfl rfl rfl rfl (l_quiet hS rfl rfl (y_lenSlice hS rfl Try.underlying23) ?_); clear hS a; intro a hS
  refine g_yes hS rfl rfl rfl rfl (l_quiet hS rfl rfl (y_eql hS rfl rfl) ?_); clear hS a; intro a hS
  refine q_seq hS rfl rfl rfl (y_pick_f hS rfl rfl) ?_; clear hS a; intro a hS
  apply wpList_nil
  refine p_norm ?_
  refine c_t hS rfl ?_
  apply wp_seq
  apply wp_region_lit
  refine q_seq hS rfl rfl rfl (y_loadBox (kk := 1000) (n := 4) (vs := [.int .i64 (1), .int .u64 (s), .int .i64 (b), .slice (A) (0) (c)]) hS rfl rfl Try.underlying25 rfl rfl rfl rfl) ?_; clear hS a; intro a hS
  refine q_seq hS rfl rfl rfl (y_build (parts := []) (ps := []) (cells := #[.int .i64 (0), .int .i64 (0), .int .i64 (0), .int .i64 (0)]) hS rfl (by kernel_rfl)) ?_; clear hS a; intro a hS
  refine l_seq rfl (l_store (n := 4) (cs' := [.int .i64 (1), .int .u64 (s), .int .i64 (b), .slice (A) (0) (c)]) hS 1001 rfl rfl rfl rfl rfl rfl rfl rfl ?_); clear hS; intro w hK hS; clear hK
  refine l_seq rfl (l_store (n := 4) (cs' := [.int .i64 (0), .int .i64 (0), .int .i64 (0), .int .i64 (0)]) hS 1002 rfl rfl rfl rfl rfl rfl rfl rfl ?_); clear hS; intro w hK hS; clear hK
  refine q_seq hS rfl rfl rfl (y_assign hS rfl) ?_; clear hS a; intro a hS
  apply wpList_nil
  refine p_norm ?_
  apply wp_ret
  refine p_thenR ?_
  refine fin3 (fn := Try.f13) hS rfl (r_cell (kk := 1001) (n := 4) (vs := [.int .i64 (1), .int .u64 (s), .int .i64 (b), .slice (A) (0) (c)]) hS rfl rfl Try.underlying25 rfl rfl rfl rfl) (r_cell (kk := 1002) (n := 4) (vs := [.int .i64 (0), .int .i64 (0), .int .i64 (0), .int .i64 (0)]) hS rfl rfl Try.underlying32 rfl rfl rfl rfl) (r_tmp hS rfl) ?_
  rfl

set_option maxHeartbeats 400000 in
theorem pop_nil2 (M : Bs) (w0 : World) (hM : ∀ b, M b → b < w0.heap.size) (s b : Int) (A : Option Addr) (c : Nat) :
    Calls Try.prog 13 [.agg #[.int .i64 (2), .int .u64 (s), .int .i64 (b), .slice (A) (0) (c)]].toArray w0 (Ret noB w0 fun v w => v = .tuple #[.agg #[.int .i64 2, .int .u64 s, .int .i64 b, .slice A 0 c], .agg #[.int .i64 0, .int .i64 0, .int .i64 0, .int .i64 0], .bool false]) := by
  refine enter M noB Try.func13 rfl rfl hM ?_
  intro a hS
  apply wp_seq
  apply wp_region_lit
  refine l_seq rfl (l_box (zs := [.int .i64 (2), .int .u64 (s), .int .i64 (b), .slice (A) (0) (c)]) hS 1000 rfl rfl rfl rfl ?_); clear hS a; intro b1 a w hb hK hS
  clear hb
  clear hK
  refine l_seq rfl (l_alloc (zs := [.int .i64 (0), .int .u64 (0), .int .i64 (0), .slice (none) (0) (0)]) hS 1001 rfl rfl rfl rfl ?_); clear hS a; intro b2 a w hb hK hS
  clear hb
  clear hK
  refine l_seq rfl (l_alloc (zs := [.int .i64 (0), .int .i64 (0), .int .i64 (0), .int .i64 (0)]) hS 1002 rfl rfl rfl rfl ?_); clear hS a; intro b3 a w hb hK hS
  clear hb
  clear hK
  refine q_seq hS rfl rfl rfl (y_assign hS rfl) ?_; clear hS a; intro a hS
  apply wpList_nil
  refine p_norm ?_
  apply wp_seq
  apply wp_region_lit
  refine q_seq hS rfl rfl rfl (y_boxField (o' := 0) hS rfl Try.underlying25 rfl rfl rfl) ?_; clear hS a; intro a hS
  refine q_seq hS rfl rfl rfl (y_loadBox1 (kk := 1000) hS rfl rfl rfl Try.underlying3 rfl) ?_; clear hS a; intro a hS
  refine l_seq rfl (l_call (cap := []) hS rfl Try.func20 rfl (by kernel_rfl) rfl rfl (pol_spec2 _ _ hS.lt) ?_); clear hS a; intro v4 a w hK hp hS
  clear hK
  obtain rfl := hp
  refine q_seq hS rfl rfl rfl (y_move hS rfl) ?_; clear hS a; intro a hS
  refine q_seq hS rfl rfl rfl (y_extract hS rfl rfl) ?_; clear hS a; intro a hS
  refine q_seq hS rfl rfl rfl (y_extract hS rfl rfl) ?_; clear hS a; intro a hS
  refine l_seq rfl (l_alloc (zs := [.nilFunc]) hS 1106 rfl rfl rfl rfl ?_); clear hS a; intro b5 a w hb hK hS
  clear hb
  clear hK
  refine l_seq rfl (l_store (n := 1) (cs' := [.func (.func 27) #[] #[]]) hS 1106 rfl rfl rfl rfl rfl rfl rfl rfl ?_); clear hS; intro w hK hS; clear hK
  refine q_seq hS rfl rfl rfl (y_assign hS rfl) ?_; clear hS a; intro a hS
  apply wpList_nil
  refine p_norm ?_
  apply wp_seq
  apply wp_seq
  apply wp_region_lit
  refine q_seq hS rfl rfl rfl (y_move hS rfl) ?_; clear hS a; intro a hS
  refine q_seq hS rfl rfl rfl (y_not hS rfl) ?_; clear hS a; intro a hS
  refine q_seq hS rfl rfl rfl (y_move hS rfl) ?_; clear hS a; intro a hS
  refine g_yes hS rfl rfl rfl rfl (l_quiet hS rfl rfl (y_boxField (o' := 3) hS rfl Try.underlying25 rfl rfl rfl) ?_); clear hS a; intro a hS
  refine g_yes hS rfl rfl rfl rfl (l_quiet hS rfl rfl (y_loadBox1 (kk := 1000) hS rfl rfl rfl Try.underlying23 rfl) ?_); clear hS a; intro a hS
  refine g_yes hS rfl rfl rfl rfl (l_quiet hS rfl rfl (y_lenSlice hS rfl Try.underlying23) ?_); clear hS a; intro a hS
  refine g_yes hS rfl rfl rfl rfl (l_quiet hS rfl rfl (y_eql hS rfl rfl) ?_); clear hS a; intro a hS
  refine q_seq hS rfl rfl rfl (y_pick_f hS rfl rfl) ?_; clear hS a; intro a hS
  apply wpList_nil
  refine p_norm ?_
  refine c_t hS rfl ?_
  apply wp_seq
  apply wp_region_lit
  refine q_seq hS rfl rfl rfl (y_loadBox (kk := 1000) (n := 4) (vs := [.int .i64 (2), .int .u64 (s), .int .i64 (b), .slice (A) (0) (c)]) hS rfl rfl Try.underlying25 rfl rfl rfl rfl) ?_; clear hS a; intro a hS
  refine q_seq hS rfl rfl rfl (y_build (parts := []) (ps := []) (cells := #[.int .i64 (0), .int .i64 (0), .int .i64 (0), .int .i64 (0)]) hS rfl (by kernel_rfl)) ?_; clear hS a; intro a hS
  refine l_seq rfl (l_store (n := 4) (cs' := [.int .i64 (2), .int .u64 (s), .int .i64 (b), .slice (A) (0) (c)]) hS 1001 rfl rfl rfl rfl rfl rfl rfl rfl ?_); clear hS; intro w hK hS; clear hK
  refine l_seq rfl (l_store (n := 4) (cs' := [.int .i64 (0), .int .i64 (0), .int .i64 (0), .int .i64 (0)]) hS 1002 rfl rfl rfl rfl rfl rfl rfl rfl ?_); clear hS; intro w hK hS; clear hK
  refine q_seq hS rfl rfl rfl (y_assign hS rfl) ?_; clear hS a; intro a hS
  apply wpList_nil
  refine p_norm ?_
  apply wp_ret
  refine p_thenR ?_
  refine fin3 (fn := Try.f13) hS rfl (r_cell (kk := 1001) (n := 4) (vs := [.int .i64 (2), .int .u64 (s), .int .i64 (b), .slice (A) (0) (c)]) hS rfl rfl Try.underlying25 rfl rfl rfl rfl) (r_cell (kk := 1002) (n := 4) (vs := [.int .i64 (0), .int .i64 (0), .int .i64 (0), .int .i64 (0)]) hS rfl rfl Try.underlying32 rfl rfl rfl rfl) (r_tmp hS rfl) ?_
  rfl

set_option maxHeartbeats 400000 in
theorem pop_nil3 (M : Bs) (w0 : World) (hM : ∀ b, M b → b < w0.heap.size) (s b : Int) (A : Option Addr) (c : Nat) :
    Calls Try.prog 13 [.agg #[.int .i64 (3), .int .u64 (s), .int .i64 (b), .slice (A) (0) (c)]].toArray w0 (Ret noB w0 fun v w => v = .tuple #[.agg #[.int .i64 3, .int .u64 s, .int .i64 b, .slice A 0 c], .agg #[.int .i64 0, .int .i64 0, .int .i64 0, .int .i64 0], .bool false]) := by
  refine enter M noB Try.func13 rfl rfl hM ?_
  intro a hS
  apply wp_seq
  apply wp_region_lit
  refine l_seq rfl (l_box (zs := [.int .i64 (3), .int .u64 (s), .int .i64 (b), .slice (A) (0) (c)]) hS 1000 rfl rfl rfl rfl ?_); clear hS a; intro b1 a w hb hK hS
  clear hb
  clear hK
  refine l_seq rfl (l_alloc (zs := [.int .i64 (0), .int .u64 (0), .int .i64 (0), .slice (none) (0) (0)]) hS 1001 rfl rfl rfl rfl ?_); clear hS a; intro b2 a w hb hK hS
  clear hb
  clear hK
  refine l_seq rfl (l_alloc (zs := [.int .i64 (0), .int .i64 (0), .int .i64 (0), .int .i64 (0)]) hS 1002 rfl rfl rfl rfl ?_); clear hS a; intro b3 a w hb hK hS
  clear hb
  clear hK
  refine q_seq hS rfl rfl rfl (y_assign hS rfl) ?_; clear hS a; intro a hS
  apply wpList_nil
  refine p_norm ?_
  apply wp_seq
  apply wp_region_lit
  refine q_seq hS rfl rfl rfl (y_boxField (o' := 0) hS rfl Try.underlying25 rfl rfl rfl) ?_; clear hS a; intro a hS
  refine q_seq hS rfl rfl rfl (y_loadBox1 (kk := 1000) hS rfl rfl rfl Try.underlying3 rfl) ?_; clear hS a; intro a hS
  refine l_seq rfl (l_call (cap := []) hS rfl Try.func20 rfl (by kernel_rfl) rfl rfl (pol_spec3 _ _ hS.lt) ?_); clear hS a; intro v4 a w hK hp hS
  clear hK
  obtain rfl := hp
  refine q_seq hS rfl rfl rfl (y_move hS rfl) ?_; clear hS a; intro a hS
  refine q_seq hS rfl rfl rfl (y_extract hS rfl rfl) ?_; clear hS a; intro a hS
  refine q_seq hS rfl rfl rfl (y_extract hS rfl rfl) ?_; clear hS a; intro a hS
  refine l_seq rfl (l_alloc (zs := [.nilFunc]) hS 1106 rfl rfl rfl rfl ?_); clear hS a; intro b5 a w hb hK hS
  clear hb
  clear hK
  refine l_seq rfl (l_store (n := 1) (cs' := [.func (.func 28) #[] #[]]) hS 1106 rfl rfl rfl rfl rfl rfl rfl rfl ?_); clear hS; intro w hK hS; clear hK
  refine q_seq hS rfl rfl rfl (y_assign hS rfl) ?_; clear hS a; intro a hS
  apply wpList_nil
  refine p_norm ?_
  apply wp_seq
  apply wp_seq
  apply wp_region_lit
  refine q_seq hS rfl rfl rfl (y_move hS rfl) ?_; clear hS a; intro a hS
  refine q_seq hS rfl rfl rfl (y_not hS rfl) ?_; clear hS a; intro a hS
  refine q_seq hS rfl rfl rfl (y_move hS rfl) ?_; clear hS a; intro a hS
  refine g_yes hS rfl rfl rfl rfl (l_quiet hS rfl rfl (y_boxField (o' := 3) hS rfl Try.underlying25 rfl rfl rfl) ?_); clear hS a; intro a hS
  refine g_yes hS rfl rfl rfl rfl (l_quiet hS rfl rfl (y_loadBox1 (kk := 1000) hS rfl rfl rfl Try.underlying23 rfl) ?_); clear hS a; intro a hS
  refine g_yes hS rfl rfl rfl rfl (l_quiet hS rfl rfl (y_lenSlice hS rfl Try.underlying23) ?_); clear hS a; intro a hS
  refine g_yes hS rfl rfl rfl rfl (l_quiet hS rfl rfl (y_eql hS rfl rfl) ?_); clear hS a; intro a hS
  refine q_seq hS rfl rfl rfl (y_pick_f hS rfl rfl) ?_; clear hS a; intro a hS
  apply wpList_nil
  refine p_norm ?_
  refine c_t hS rfl ?_
  apply wp_seq
  apply wp_region_lit
  refine q_seq hS rfl rfl rfl (y_loadBox (kk := 1000) (n := 4) (vs := [.int .i64 (3), .int .u64 (s), .int .i64 (b), .slice (A) (0) (c)]) hS rfl rfl Try.underlying25 rfl rfl rfl rfl) ?_; clear hS a; intro a hS
  refine q_seq hS rfl rfl rfl (y_build (parts := []) (ps := []) (cells := #[.int .i64 (0), .int .i64 (0), .int .i64 (0), .int .i64 (0)]) hS rfl (by kernel_rfl)) ?_; clear hS a; intro a hS
  refine l_seq rfl (l_store (n := 4) (cs' := [.int .i64 (3), .int .u64 (s), .int .i64 (b), .slice (A) (0) (c)]) hS 1001 rfl rfl rfl rfl rfl rfl rfl rfl ?_); clear hS; intro w hK hS; clear hK
  refine l_seq rfl (l_store (n := 4) (cs' := [.int .i64 (0), .int .i64 (0), .int .i64 (0), .int .i64 (0)]) hS 1002 rfl rfl rfl rfl rfl rfl rfl rfl ?_); clear hS; intro w hK hS; clear hK
  refine q_seq hS rfl rfl rfl (y_assign hS rfl) ?_; clear hS a; intro a hS
  apply wpList_nil
  refine p_norm ?_
  apply wp_ret
  refine p_thenR ?_
  refine fin3 (fn := Try.f13) hS rfl (r_cell (kk := 1001) (n := 4) (vs := [.int .i64 (3), .int .u64 (s), .int .i64 (b), .slice (A) (0) (c)]) hS rfl rfl Try.underlying25 rfl rfl rfl rfl) (r_cell (kk := 1002) (n := 4) (vs := [.int .i64 (0), .int .i64 (0), .int .i64 (0), .int .i64 (0)]) hS rfl rfl Try.underlying32 rfl rfl rfl rfl) (r_tmp hS rfl) ?_
  rfl

end Go.Proofs.Ytjklnbjblncgeaa
