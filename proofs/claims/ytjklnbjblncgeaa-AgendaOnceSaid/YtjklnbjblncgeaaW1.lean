/- Chapter 31: contracts of New, Push, Len, the choosers -/
import Derived.Test.YtjklnbjblncgeaaC1
namespace Go.Proofs.Ytjklnbjblncgeaa
open Go.Gl Go.RowKit
set_option linter.unusedVariables false
set_option linter.unusedSimpArgs false

set_option maxHeartbeats 400000 in
theorem push_spec (M : Bs) (w0 : World) (hM : ∀ b, M b → b < w0.heap.size) (p s b : Int) (A : Option Addr) (n c : Nat) (xs : List Queued) (t : Task) (hsl : SlR RQ M w0 A n c xs) (hn : n ≤ 1000) (hb : 0 ≤ b ∧ b ≤ 1000) :
    Calls Try.prog 15 [.agg #[.int .i64 (p), .int .u64 (s), .int .i64 (b), .slice (A) (n) (c)], .agg #[.int .i64 (t.1), .int .i64 (t.2.1), .int .i64 (t.2.2.1), .int .i64 (t.2.2.2)]].toArray w0 (Ret noB w0 fun v w => ∃ A' c', v = .agg #[.int .i64 p, .int .u64 s, .int .i64 (b + 1), .slice A' (n + 1) c'] ∧ SlR RQ M w A' (n + 1) c' (xs ++ [(t, b)])) := by
  refine enter M noB Try.func15 rfl rfl hM ?_
  intro a hS
  replace hS := hS.add 0 (slF RQ (A) (n) (c) (xs)) (by exact Fact.change _ enterM hsl)
  apply wp_seq
  apply wp_region_lit
  refine l_seq rfl (l_box (zs := [.int .i64 (p), .int .u64 (s), .int .i64 (b), .slice (A) (n) (c)]) hS 1000 rfl rfl rfl rfl ?_); clear hS a; intro b1 a w hb hK hS
  clear hb
  clear hK
  refine l_seq rfl (l_box (zs := [.int .i64 (t.1), .int .i64 (t.2.1), .int .i64 (t.2.2.1), .int .i64 (t.2.2.2)]) hS 1001 rfl rfl rfl rfl ?_); clear hS a; intro b2 a w hb hK hS
  clear hb
  clear hK
  refine l_seq rfl (l_alloc (zs := [.int .i64 (0), .int .u64 (0), .int .i64 (0), .slice (none) (0) (0)]) hS 1002 rfl rfl rfl rfl ?_); clear hS a; intro b3 a w hb hK hS
  clear hb
  clear hK
  apply wpList_nil
  refine p_norm ?_
  apply wp_seq
  apply wp_region_lit
  refine q_seq hS rfl rfl rfl (y_boxField (o' := 3) hS rfl Try.underlying25 rfl rfl rfl) ?_; clear hS a; intro a hS
  refine q_seq hS rfl rfl rfl (y_loadBox1 (kk := 1000) hS rfl rfl rfl Try.underlying23 rfl) ?_; clear hS a; intro a hS
  refine q_seq hS rfl rfl rfl (y_lenSlice hS rfl Try.underlying23) ?_; clear hS a; intro a hS
  refine q_seq hS rfl rfl rfl (y_assign hS rfl) ?_; clear hS a; intro a hS
  apply wpList_nil
  refine p_norm ?_
  apply wp_seq
  refine d_plan hS [(12, 1000)] [(0, some 0), (1, some 1000), (2, some 0), (3, some 0), (4, some 0), (5, some 1001), (6, some 0), (7, some 1000), (8, some 0), (9, none), (10, none), (11, none), (12, none)] rfl (by kernel_rfl) (by kernel_rfl) rfl ?_; clear hS; intro wr hZ hS; have hR := hS.wd
  refine q_take hS hR rfl rfl rfl rfl (y_boxField (o' := 3) hS rfl Try.underlying25 rfl rfl rfl) ?_; clear hS a; intro a hS
  refine q_take hS hR rfl rfl rfl rfl (y_loadBox1 (kk := 1000) hS rfl rfl rfl Try.underlying23 rfl) ?_; clear hS a; intro a hS
  refine q_take hS hR rfl rfl rfl rfl (y_move hS rfl) ?_; clear hS a; intro a hS
  refine q_take hS hR rfl rfl rfl rfl (y_move hS rfl) ?_; clear hS a; intro a hS
  have hcap101 := (hS.fact (k := 0) rfl).cap
  refine q_take hS hR rfl rfl rfl rfl (y_sliceHMN (sz := 5) (i := n) (j := n) hS rfl rfl rfl Try.underlying23 rfl (by omega) (by omega) (by omega) (by omega)) ?_; clear hS a; intro a hS
  replace hS := hS.add 101 (slF RQ (A) (n) (n) ((xs).take (n))) (SlR.takeCut (hS.fact (k := 0) rfl) (i := n) (e := n) (by omega) (by omega) (by omega))
  refine q_take hS hR rfl rfl rfl rfl (y_loadBox (kk := 1001) (n := 4) (vs := [.int .i64 (t.1), .int .i64 (t.2.1), .int .i64 (t.2.2.1), .int .i64 (t.2.2.2)]) hS rfl rfl Try.underlying32 rfl rfl rfl rfl) ?_; clear hS a; intro a hS
  refine q_take hS hR rfl rfl rfl rfl (y_boxField (o' := 2) hS rfl Try.underlying25 rfl rfl rfl) ?_; clear hS a; intro a hS
  refine q_take hS hR rfl rfl rfl rfl (y_loadBox1 (kk := 1000) hS rfl rfl rfl Try.underlying3 rfl) ?_; clear hS a; intro a hS
  refine q_take hS hR rfl rfl rfl rfl (y_build (parts := [(0, .tmp 14), (1, .tmp 16)]) (ps := [(0, .agg #[.int .i64 (t.1), .int .i64 (t.2.1), .int .i64 (t.2.2.1), .int .i64 (t.2.2.2)]), (1, .int .i64 (b))]) (cells := #[.int .i64 (t.1), .int .i64 (t.2.1), .int .i64 (t.2.2.1), .int .i64 (t.2.2.2), .int .i64 (b)]) hS rfl (by kernel_rfl)) ?_; clear hS a; intro a hS
  refine l_take hS rfl rfl (l_buildDense (sz := 5) hS 1209 rfl rfl rfl Try.underlying23 rfl rfl rfl rfl rfl rfl rfl ?_); clear hS a; intro b4 a w hbb4 hK hS
  have hNb4 := NewA.lit hZ hbb4
  clear hbb4
  replace hZ := Nat.le_trans hZ hK.size; refine ⟨fun g _ h => h.grow hK, ?_⟩; clear hK
  have hs5 := row_src (hS.wd.holds 1209 _ rfl) (by simp [cellsOfL, Value.cells, Value.oneCell'])
  obtain ⟨os7, ho7, hd7⟩ := SlR.src (hS.fact (k := 101) rfl)
  replace hS := hS.add 102 (rdF RQ (os7) ((xs).take (n))) (hd7)
  refine l_take hS rfl rfl (l_appendGrow (sz := 5) (by_ := 40) (N := n + 1) hS 1210 rfl rfl rfl Try.underlying23 rfl rfl rfl rfl ho7 (hS.fact (k := 101) rfl).nil hs5 (by omega) (by omega) (by omega) (by omega) (by omega) rfl ?_); clear hS a; intro A6 c6 a w hA hK hS
  have hN6 := NewA.grow hZ hA
  clear hA
  replace hZ := Nat.le_trans hZ hK.size; refine ⟨fun g _ h => h.grow hK, ?_⟩; clear hK
  replace hS := hS.add 103 (rdF RQ (os7 ++ cellsOfL [.agg #[.int .i64 (t.1), .int .i64 (t.2.1), .int .i64 (t.2.2.1), .int .i64 (t.2.2.2), .int .i64 (b)]]) ((xs).take (n) ++ [((t.1, t.2.1, t.2.2.1, t.2.2.2), b)])) (RdAll.append (hS.fact (k := 102) rfl) (RdAll.single ⟨rfl, trivial⟩))
  refine l_take hS rfl rfl (l_quiet hS rfl rfl (y_boxField (o' := 3) hS rfl Try.underlying25 rfl rfl rfl) ?_); clear hS a; intro a hS; refine ⟨fun g _ h => h, ?_⟩
  refine l_take hS rfl rfl (l_store (n := 1) (cs' := [.int .i64 (p), .int .u64 (s), .int .i64 (b), .slice (A6) (n + 1) (c6)]) hS 1000 rfl rfl rfl rfl rfl rfl rfl rfl ?_); clear hS; intro w hK hS; replace hZ := Nat.le_trans hZ hK.size
  refine ⟨fun g hg h => h.obj hR (kk := 1000) rfl hK (by rintro rfl; exact absurd hg (by decide)), ?_⟩; clear hK
  clear hR hZ
  refine p_norm ?_
  apply wp_seq
  apply wp_region_lit
  refine q_seq hS rfl rfl rfl (y_boxField (o' := 2) hS rfl Try.underlying25 rfl rfl rfl) ?_; clear hS a; intro a hS
  refine q_seq hS rfl rfl rfl (y_loadBox1 (kk := 1000) hS rfl rfl rfl Try.underlying3 rfl) ?_; clear hS a; intro a hS
  refine q_seq hS rfl rfl rfl (y_add hS rfl rfl (in64.2 (by omega))) ?_; clear hS a; intro a hS
  refine q_seq hS rfl rfl rfl (y_boxField (o' := 2) hS rfl Try.underlying25 rfl rfl rfl) ?_; clear hS a; intro a hS
  refine l_seq rfl (l_store (n := 1) (cs' := [.int .i64 (p), .int .u64 (s), .int .i64 (b + 1), .slice (A6) (n + 1) (c6)]) hS 1000 rfl rfl rfl rfl rfl rfl rfl rfl ?_); clear hS; intro w hK hS; clear hK
  apply wpList_nil
  refine p_norm ?_
  apply wp_seq
  apply wp_region_lit
  refine q_seq hS rfl rfl rfl (y_loadBox (kk := 1000) (n := 4) (vs := [.int .i64 (p), .int .u64 (s), .int .i64 (b + 1), .slice (A6) (n + 1) (c6)]) hS rfl rfl Try.underlying25 rfl rfl rfl rfl) ?_; clear hS a; intro a hS
  refine l_seq rfl (l_store (n := 4) (cs' := [.int .i64 (p), .int .u64 (s), .int .i64 (b + 1), .slice (A6) (n + 1) (c6)]) hS 1002 rfl rfl rfl rfl rfl rfl rfl rfl ?_); clear hS; intro w hK hS; clear hK
  apply wpList_nil
  refine p_norm ?_
  apply wp_ret
  refine fin1 (fn := Try.f15) hS rfl (r_cell (kk := 1002) (n := 4) (vs := [.int .i64 (p), .int .u64 (s), .int .i64 (b + 1), .slice (A6) (n + 1) (c6)]) hS rfl rfl Try.underlying25 rfl rfl rfl rfl) ?_
  have hq := hS.rowOut (R := RQ) (kk := 1210) rfl rfl (hS.fact (k := 103) rfl)
  try rw [List.take_of_length_le (by rw [hsl.len]; exact Nat.le_refl _)] at hq
  exact ⟨_, _, rfl, hq⟩

set_option maxHeartbeats 400000 in
theorem rpush_spec (M : Bs) (w0 : World) (hM : ∀ b, M b → b < w0.heap.size) (p s b : Int) (A : Option Addr) (n c : Nat) (xs : List Queued) (t : Task) (hsl : SlR RQ M w0 A n c xs) (hn : n ≤ 1000) (hb : 0 ≤ b ∧ b ≤ 1000) :
    Calls Try.prog 16 [.agg #[.int .i64 (p), .int .u64 (s), .int .i64 (b), .slice (A) (n) (c)], .agg #[.int .i64 (t.1), .int .i64 (t.2.1), .int .i64 (t.2.2.1), .int .i64 (t.2.2.2)]].toArray w0 (Ret noB w0 fun v w => ∃ A' c', v = .agg #[.int .i64 p, .int .u64 s, .int .i64 (b + 1), .slice A' (n + 1) c'] ∧ SlR RQ M w A' (n + 1) c' (xs ++ [(t, b)])) := by
  refine enter M noB Try.func16 rfl rfl hM ?_
  intro a hS
  replace hS := hS.add 0 (slF RQ (A) (n) (c) (xs)) (by exact Fact.change _ enterM hsl)
  apply wp_seq
  apply wp_region_lit
  refine l_seq rfl (l_box (zs := [.int .i64 (p), .int .u64 (s), .int .i64 (b), .slice (A) (n) (c)]) hS 1000 rfl rfl rfl rfl ?_); clear hS a; intro b1 a w hb hK hS
  clear hb
  clear hK
  refine l_seq rfl (l_box (zs := [.int .i64 (t.1), .int .i64 (t.2.1), .int .i64 (t.2.2.1), .int .i64 (t.2.2.2)]) hS 1001 rfl rfl rfl rfl ?_); clear hS a; intro b2 a w hb hK hS
  clear hb
  clear hK
  refine l_seq rfl (l_alloc (zs := [.int .i64 (0), .int .u64 (0), .int .i64 (0), .slice (none) (0) (0)]) hS 1002 rfl rfl rfl rfl ?_); clear hS a; intro b3 a w hb hK hS
  clear hb
  clear hK
  apply wpList_nil
  refine p_norm ?_
  refine c_cut (fun a w => ∃ (Aj : Option Addr), ∃ (cj : Nat), ∃ (cs : List Value), St (⟨Try.f16.ntmps, M, noB, w0⟩ : Ctx) [(2, .pointer (some ⟨b1, 0, none⟩)), (4, .pointer (some ⟨b3, 0, none⟩))] [(1000, Ob.box b1 [.int .i64 (p), .int .u64 (s), .int .i64 (b), .slice (Aj) (n + 1) (cj)] 25), (1001, Ob.box b2 [.int .i64 (t.1), .int .i64 (t.2.1), .int .i64 (t.2.2.1), .int .i64 (t.2.2.2)] 32), (1002, Ob.box b3 [.int .i64 (0), .int .u64 (0), .int .i64 (0), .slice (none) (0) (0)] 25), (1100, Ob.row (Aj) (n + 1) (cj) 45 5 (cs))] [(0, slF RQ (A) (n) (c) (xs)), (900, rdF RQ (cs) (xs ++ [(t, b)]))] a w) ?_ ?_
  · refine d_steps hS [(11, 1000)] rfl ?_; clear hS; intro wr hZ hS; have hR := hS.wd
    refine n_q 1 0 hS hR rfl (by kernel_rfl) (by kernel_rfl) (by kernel_rfl) rfl rfl rfl (y_boxField (o' := 3) hS rfl Try.underlying25 rfl rfl rfl) ?_; clear hS a; intro a hS
    refine n_q 2 1000 hS hR rfl (by kernel_rfl) (by kernel_rfl) (by kernel_rfl) rfl rfl rfl (y_loadBox1 (kk := 1000) hS rfl rfl rfl Try.underlying23 rfl) ?_; clear hS a; intro a hS
    refine n_q 4 1001 hS hR rfl (by kernel_rfl) (by kernel_rfl) (by kernel_rfl) rfl rfl rfl (y_loadBox (kk := 1001) (n := 4) (vs := [.int .i64 (t.1), .int .i64 (t.2.1), .int .i64 (t.2.2.1), .int .i64 (t.2.2.2)]) hS rfl rfl Try.underlying32 rfl rfl rfl rfl) ?_; clear hS a; intro a hS
    refine n_q 5 0 hS hR rfl (by kernel_rfl) (by kernel_rfl) (by kernel_rfl) rfl rfl rfl (y_boxField (o' := 2) hS rfl Try.underlying25 rfl rfl rfl) ?_; clear hS a; intro a hS
    refine n_q 6 1000 hS hR rfl (by kernel_rfl) (by kernel_rfl) (by kernel_rfl) rfl rfl rfl (y_loadBox1 (kk := 1000) hS rfl rfl rfl Try.underlying3 rfl) ?_; clear hS a; intro a hS
    refine n_q 7 0 hS hR rfl (by kernel_rfl) (by kernel_rfl) (by kernel_rfl) rfl rfl rfl (y_build (parts := [(0, .tmp 9), (1, .tmp 11)]) (ps := [(0, .agg #[.int .i64 (t.1), .int .i64 (t.2.1), .int .i64 (t.2.2.1), .int .i64 (t.2.2.2)]), (1, .int .i64 (b))]) (cells := #[.int .i64 (t.1), .int .i64 (t.2.1), .int .i64 (t.2.2.1), .int .i64 (t.2.2.2), .int .i64 (b)]) hS rfl (by kernel_rfl)) ?_; clear hS a; intro a hS
    refine n_2 0 8 hS (by kernel_rfl) rfl rfl rfl rfl ?_ ?_
    · refine l_buildEmpty (sz := 5) hS 1100 Try.underlying23 rfl rfl rfl ?_; clear hS a; intro b4 a w hbb4 hK hS
      have hNb4 := NewA.lit hZ hbb4
      clear hbb4
      replace hZ := Nat.le_trans hZ hK.size; refine ⟨fun g _ h => h.grow hK, ?_⟩; clear hK
      refine n_2 3 8 hS (by kernel_rfl) rfl rfl rfl rfl ?_ ?_
      · obtain ⟨ns5, hs5, hn5⟩ := SlR.src (hS.fact (k := 0) rfl)
        replace hS := hS.add 101 (rdF RQ (ns5) (xs)) (hn5)
        replace hS := hS.add 102 (rdF RQ ([]) ([])) (RdAll.nil _ _ _)
        refine l_append (sz := 5) (by_ := 40) (N := n) (ys := ns5) hS 1100 rfl rfl rfl Try.underlying23 rfl rfl rfl rfl rfl hs5 (by omega) rfl (by omega) (by omega) rfl ?_; clear hS a; intro A6 c6 a w hA hK hS
        have hN6 := NewA.app hZ hNb4 hA; replace hZ := Nat.le_trans hZ hK.size; refine ⟨fun g _ h => h.app hR hK hNb4.ids, ?_⟩
        clear hK hA
        replace hS := hS.add 103 (rdF RQ (ns5) (xs)) (RdAll.append (hS.fact (k := 102) rfl) (hS.fact (k := 101) rfl))
        refine n_1 8 hS (by kernel_rfl) rfl rfl (l_buildDense (sz := 5) hS 1108 rfl rfl rfl Try.underlying23 rfl rfl rfl rfl rfl rfl rfl ?_); clear hS a; intro b7 a w hbb7 hK hS
        have hNb7 := NewA.lit hZ hbb7
        clear hbb7
        replace hZ := Nat.le_trans hZ hK.size; refine ⟨fun g _ h => h.grow hK, ?_⟩; clear hK
        have hs8 := row_src (hS.wd.holds 1108 _ rfl) (by simp [cellsOfL, Value.cells, Value.oneCell'])
        refine n_1 9 hS (by kernel_rfl) rfl rfl (l_append (sz := 5) (by_ := 40) (N := n + 1) (ys := ns5 ++ cellsOfL [.agg #[.int .i64 (t.1), .int .i64 (t.2.1), .int .i64 (t.2.2.1), .int .i64 (t.2.2.2), .int .i64 (b)]]) hS 1100 rfl rfl rfl Try.underlying23 rfl rfl rfl rfl rfl hs8 (by omega) rfl (by omega) (by omega) rfl ?_); clear hS a; intro A9 c9 a w hA hK hS
        have hN9 := NewA.app hZ hN6 hA; replace hZ := Nat.le_trans hZ hK.size; refine ⟨fun g _ h => h.app hR hK hN6.ids, ?_⟩
        clear hK hA
        replace hS := hS.add 104 (rdF RQ (ns5 ++ cellsOfL [.agg #[.int .i64 (t.1), .int .i64 (t.2.1), .int .i64 (t.2.2.1), .int .i64 (t.2.2.2), .int .i64 (b)]]) (xs ++ [((t.1, t.2.1, t.2.2.1, t.2.2.2), b)])) (RdAll.append (hS.fact (k := 103) rfl) (RdAll.single ⟨rfl, trivial⟩))
        refine n_1 10 hS (by kernel_rfl) rfl rfl (l_quiet hS rfl rfl (y_boxField (o' := 3) hS rfl Try.underlying25 rfl rfl rfl) ?_); clear hS a; intro a hS; refine ⟨fun g _ h => h, ?_⟩
        refine n_1 11 hS (by kernel_rfl) rfl rfl (l_store (n := 1) (cs' := [.int .i64 (p), .int .u64 (s), .int .i64 (b), .slice (A9) (n + 1) (c9)]) hS 1000 rfl rfl rfl rfl rfl rfl rfl rfl ?_); clear hS; intro w hK hS; replace hZ := Nat.le_trans hZ hK.size
        refine ⟨fun g hg h => h.obj hR (kk := 1000) rfl hK (by rintro rfl; exact absurd hg (by decide)), ?_⟩; clear hK
        refine n_end (by kernel_rfl) ?_; clear hR hZ
        refine p_norm ?_
        replace hS := hS.add 900 (rdF RQ (ns5 ++ cellsOfL [.agg #[.int .i64 (t.1), .int .i64 (t.2.1), .int .i64 (t.2.2.1), .int .i64 (t.2.2.2), .int .i64 (b)]]) (xs ++ [(t, b)])) (hS.fact (k := 104) rfl)
        exact ⟨A9, c9, ns5 ++ cellsOfL [.agg #[.int .i64 (t.1), .int .i64 (t.2.1), .int .i64 (t.2.2.1), .int .i64 (t.2.2.2), .int .i64 (b)]], (hS.sub ⟨rfl, rfl, trivial⟩ ⟨rfl, rfl, rfl, rfl, trivial⟩ ⟨rfl, rfl, trivial⟩)⟩
      · refine l_buildDense (sz := 5) hS 1108 rfl rfl rfl Try.underlying23 rfl rfl rfl rfl rfl rfl rfl ?_; clear hS a; intro b10 a w hbb10 hK hS
        have hNb10 := NewA.lit hZ hbb10
        clear hbb10
        replace hZ := Nat.le_trans hZ hK.size; refine ⟨fun g _ h => h.grow hK, ?_⟩; clear hK
        obtain ⟨ns11, hs11, hn11⟩ := SlR.src (hS.fact (k := 0) rfl)
        replace hS := hS.add 105 (rdF RQ (ns11) (xs)) (hn11)
        replace hS := hS.add 106 (rdF RQ ([]) ([])) (RdAll.nil _ _ _)
        refine n_1 3 hS (by kernel_rfl) rfl rfl (l_append (sz := 5) (by_ := 40) (N := n) (ys := ns11) hS 1100 rfl rfl rfl Try.underlying23 rfl rfl rfl rfl rfl hs11 (by omega) rfl (by omega) (by omega) rfl ?_); clear hS a; intro A12 c12 a w hA hK hS
        have hN12 := NewA.app hZ hNb4 hA; replace hZ := Nat.le_trans hZ hK.size; refine ⟨fun g _ h => h.app hR hK hNb4.ids, ?_⟩
        clear hK hA
        replace hS := hS.add 107 (rdF RQ (ns11) (xs)) (RdAll.append (hS.fact (k := 106) rfl) (hS.fact (k := 105) rfl))
        have hs13 := row_src (hS.wd.holds 1108 _ rfl) (by simp [cellsOfL, Value.cells, Value.oneCell'])
        refine n_1 9 hS (by kernel_rfl) rfl rfl (l_append (sz := 5) (by_ := 40) (N := n + 1) (ys := ns11 ++ cellsOfL [.agg #[.int .i64 (t.1), .int .i64 (t.2.1), .int .i64 (t.2.2.1), .int .i64 (t.2.2.2), .int .i64 (b)]]) hS 1100 rfl rfl rfl Try.underlying23 rfl rfl rfl rfl rfl hs13 (by omega) rfl (by omega) (by omega) rfl ?_); clear hS a; intro A14 c14 a w hA hK hS
        have hN14 := NewA.app hZ hN12 hA; replace hZ := Nat.le_trans hZ hK.size; refine ⟨fun g _ h => h.app hR hK hN12.ids, ?_⟩
        clear hK hA
        replace hS := hS.add 108 (rdF RQ (ns11 ++ cellsOfL [.agg #[.int .i64 (t.1), .int .i64 (t.2.1), .int .i64 (t.2.2.1), .int .i64 (t.2.2.2), .int .i64 (b)]]) (xs ++ [((t.1, t.2.1, t.2.2.1, t.2.2.2), b)])) (RdAll.append (hS.fact (k := 107) rfl) (RdAll.single ⟨rfl, trivial⟩))
        refine n_1 10 hS (by kernel_rfl) rfl rfl (l_quiet hS rfl rfl (y_boxField (o' := 3) hS rfl Try.underlying25 rfl rfl rfl) ?_); clear hS a; intro a hS; refine ⟨fun g _ h => h, ?_⟩
        refine n_1 11 hS (by kernel_rfl) rfl rfl (l_store (n := 1) (cs' := [.int .i64 (p), .int .u64 (s), .int .i64 (b), .slice (A14) (n + 1) (c14)]) hS 1000 rfl rfl rfl rfl rfl rfl rfl rfl ?_); clear hS; intro w hK hS; replace hZ := Nat.le_trans hZ hK.size
        refine ⟨fun g hg h => h.obj hR (kk := 1000) rfl hK (by rintro rfl; exact absurd hg (by decide)), ?_⟩; clear hK
        refine n_end (by kernel_rfl) ?_; clear hR hZ
        refine p_norm ?_
        replace hS := hS.add 900 (rdF RQ (ns11 ++ cellsOfL [.agg #[.int .i64 (t.1), .int .i64 (t.2.1), .int .i64 (t.2.2.1), .int .i64 (t.2.2.2), .int .i64 (b)]]) (xs ++ [(t, b)])) (hS.fact (k := 108) rfl)
        exact ⟨A14, c14, ns11 ++ cellsOfL [.agg #[.int .i64 (t.1), .int .i64 (t.2.1), .int .i64 (t.2.2.1), .int .i64 (t.2.2.2), .int .i64 (b)]], (hS.sub ⟨rfl, rfl, trivial⟩ ⟨rfl, rfl, rfl, rfl, trivial⟩ ⟨rfl, rfl, trivial⟩)⟩
    · refine l_buildDense (sz := 5) hS 1108 rfl rfl rfl Try.underlying23 rfl rfl rfl rfl rfl rfl rfl ?_; clear hS a; intro b15 a w hbb15 hK hS
      have hNb15 := NewA.lit hZ hbb15
      clear hbb15
      replace hZ := Nat.le_trans hZ hK.size; refine ⟨fun g _ h => h.grow hK, ?_⟩; clear hK
      refine n_1 0 hS (by kernel_rfl) rfl rfl (l_buildEmpty (sz := 5) hS 1100 Try.underlying23 rfl rfl rfl ?_); clear hS a; intro b16 a w hbb16 hK hS
      have hNb16 := NewA.lit hZ hbb16
      clear hbb16
      replace hZ := Nat.le_trans hZ hK.size; refine ⟨fun g _ h => h.grow hK, ?_⟩; clear hK
      obtain ⟨ns17, hs17, hn17⟩ := SlR.src (hS.fact (k := 0) rfl)
      replace hS := hS.add 109 (rdF RQ (ns17) (xs)) (hn17)
      replace hS := hS.add 110 (rdF RQ ([]) ([])) (RdAll.nil _ _ _)
      refine n_1 3 hS (by kernel_rfl) rfl rfl (l_append (sz := 5) (by_ := 40) (N := n) (ys := ns17) hS 1100 rfl rfl rfl Try.underlying23 rfl rfl rfl rfl rfl hs17 (by omega) rfl (by omega) (by omega) rfl ?_); clear hS a; intro A18 c18 a w hA hK hS
      have hN18 := NewA.app hZ hNb16 hA; replace hZ := Nat.le_trans hZ hK.size; refine ⟨fun g _ h => h.app hR hK hNb16.ids, ?_⟩
      clear hK hA
      replace hS := hS.add 111 (rdF RQ (ns17) (xs)) (RdAll.append (hS.fact (k := 110) rfl) (hS.fact (k := 109) rfl))
      have hs19 := row_src (hS.wd.holds 1108 _ rfl) (by simp [cellsOfL, Value.cells, Value.oneCell'])
      refine n_1 9 hS (by kernel_rfl) rfl rfl (l_append (sz := 5) (by_ := 40) (N := n + 1) (ys := ns17 ++ cellsOfL [.agg #[.int .i64 (t.1), .int .i64 (t.2.1), .int .i64 (t.2.2.1), .int .i64 (t.2.2.2), .int .i64 (b)]]) hS 1100 rfl rfl rfl Try.underlying23 rfl rfl rfl rfl rfl hs19 (by omega) rfl (by omega) (by omega) rfl ?_); clear hS a; intro A20 c20 a w hA hK hS
      have hN20 := NewA.app hZ hN18 hA; replace hZ := Nat.le_trans hZ hK.size; refine ⟨fun g _ h => h.app hR hK hN18.ids, ?_⟩
      clear hK hA
      replace hS := hS.add 112 (rdF RQ (ns17 ++ cellsOfL [.agg #[.int .i64 (t.1), .int .i64 (t.2.1), .int .i64 (t.2.2.1), .int .i64 (t.2.2.2), .int .i64 (b)]]) (xs ++ [((t.1, t.2.1, t.2.2.1, t.2.2.2), b)])) (RdAll.append (hS.fact (k := 111) rfl) (RdAll.single ⟨rfl, trivial⟩))
      refine n_1 10 hS (by kernel_rfl) rfl rfl (l_quiet hS rfl rfl (y_boxField (o' := 3) hS rfl Try.underlying25 rfl rfl rfl) ?_); clear hS a; intro a hS; refine ⟨fun g _ h => h, ?_⟩
      refine n_1 11 hS (by kernel_rfl) rfl rfl (l_store (n := 1) (cs' := [.int .i64 (p), .int .u64 (s), .int .i64 (b), .slice (A20) (n + 1) (c20)]) hS 1000 rfl rfl rfl rfl rfl rfl rfl rfl ?_); clear hS; intro w hK hS; replace hZ := Nat.le_trans hZ hK.size
      refine ⟨fun g hg h => h.obj hR (kk := 1000) rfl hK (by rintro rfl; exact absurd hg (by decide)), ?_⟩; clear hK
      refine n_end (by kernel_rfl) ?_; clear hR hZ
      refine p_norm ?_
      replace hS := hS.add 900 (rdF RQ (ns17 ++ cellsOfL [.agg #[.int .i64 (t.1), .int .i64 (t.2.1), .int .i64 (t.2.2.1), .int .i64 (t.2.2.2), .int .i64 (b)]]) (xs ++ [(t, b)])) (hS.fact (k := 112) rfl)
      exact ⟨A20, c20, ns17 ++ cellsOfL [.agg #[.int .i64 (t.1), .int .i64 (t.2.1), .int .i64 (t.2.2.1), .int .i64 (t.2.2.2), .int .i64 (b)]], (hS.sub ⟨rfl, rfl, trivial⟩ ⟨rfl, rfl, rfl, rfl, trivial⟩ ⟨rfl, rfl, trivial⟩)⟩
  clear hS a; rintro a w ⟨Aj, cj, cs, hS⟩
  apply wp_seq
  apply wp_region_lit
  refine q_seq hS rfl rfl rfl (y_boxField (o' := 2) hS rfl Try.underlying25 rfl rfl rfl) ?_; clear hS a; intro a hS
  refine q_seq hS rfl rfl rfl (y_loadBox1 (kk := 1000) hS rfl rfl rfl Try.underlying3 rfl) ?_; clear hS a; intro a hS
  refine q_seq hS rfl rfl rfl (y_add hS rfl rfl (in64.2 (by omega))) ?_; clear hS a; intro a hS
  refine q_seq hS rfl rfl rfl (y_boxField (o' := 2) hS rfl Try.underlying25 rfl rfl rfl) ?_; clear hS a; intro a hS
  refine l_seq rfl (l_store (n := 1) (cs' := [.int .i64 (p), .int .u64 (s), .int .i64 (b + 1), .slice (Aj) (n + 1) (cj)]) hS 1000 rfl rfl rfl rfl rfl rfl rfl rfl ?_); clear hS; intro w hK hS; clear hK
  apply wpList_nil
  refine p_norm ?_
  apply wp_seq
  apply wp_region_lit
  refine q_seq hS rfl rfl rfl (y_loadBox (kk := 1000) (n := 4) (vs := [.int .i64 (p), .int .u64 (s), .int .i64 (b + 1), .slice (Aj) (n + 1) (cj)]) hS rfl rfl Try.underlying25 rfl rfl rfl rfl) ?_; clear hS a; intro a hS
  refine l_seq rfl (l_store (n := 4) (cs' := [.int .i64 (p), .int .u64 (s), .int .i64 (b + 1), .slice (Aj) (n + 1) (cj)]) hS 1002 rfl rfl rfl rfl rfl rfl rfl rfl ?_); clear hS; intro w hK hS; clear hK
  apply wpList_nil
  refine p_norm ?_
  apply wp_ret
  refine fin1 (fn := Try.f16) hS rfl (r_cell (kk := 1002) (n := 4) (vs := [.int .i64 (p), .int .u64 (s), .int .i64 (b + 1), .slice (Aj) (n + 1) (cj)]) hS rfl rfl Try.underlying25 rfl rfl rfl rfl) ?_
  have hq := hS.rowOut (R := RQ) (kk := 1100) rfl rfl (hS.fact (k := 900) rfl)
  try rw [List.take_of_length_le (by rw [hsl.len]; exact Nat.le_refl _)] at hq
  exact ⟨_, _, rfl, hq⟩

set_option maxHeartbeats 400000 in
theorem len_spec (M : Bs) (w0 : World) (hM : ∀ b, M b → b < w0.heap.size) (p s b : Int) (A : Option Addr) (n c : Nat) :
    Calls Try.prog 14 [.agg #[.int .i64 (p), .int .u64 (s), .int .i64 (b), .slice (A) (n) (c)]].toArray w0 (Ret noB w0 fun v w => v = .int .i64 ((n : Nat) : Int)) := by
  refine enter M noB Try.func14 rfl rfl hM ?_
  intro a hS
  apply wp_seq
  apply wp_region_lit
  refine l_seq rfl (l_box (zs := [.int .i64 (p), .int .u64 (s), .int .i64 (b), .slice (A) (n) (c)]) hS 1000 rfl rfl rfl rfl ?_); clear hS a; intro b1 a w hb hK hS
  clear hb
  clear hK
  refine q_seq hS rfl rfl rfl (y_assign hS rfl) ?_; clear hS a; intro a hS
  apply wpList_nil
  refine p_norm ?_
  apply wp_seq
  apply wp_region_lit
  refine q_seq hS rfl rfl rfl (y_boxField (o' := 3) hS rfl Try.underlying25 rfl rfl rfl) ?_; clear hS a; intro a hS
  refine q_seq hS rfl rfl rfl (y_loadBox1 (kk := 1000) hS rfl rfl rfl Try.underlying23 rfl) ?_; clear hS a; intro a hS
  refine q_seq hS rfl rfl rfl (y_lenSlice hS rfl Try.underlying23) ?_; clear hS a; intro a hS
  refine q_seq hS rfl rfl rfl (y_assign hS rfl) ?_; clear hS a; intro a hS
  apply wpList_nil
  refine p_norm ?_
  apply wp_ret
  refine fin1 (fn := Try.f14) hS rfl (r_tmp hS rfl) ?_
  rfl

set_option maxHeartbeats 400000 in
theorem rlen_spec (M : Bs) (w0 : World) (hM : ∀ b, M b → b < w0.heap.size) (p s b : Int) (A : Option Addr) (n c : Nat) :
    Calls Try.prog 18 [.agg #[.int .i64 (p), .int .u64 (s), .int .i64 (b), .slice (A) (n) (c)]].toArray w0 (Ret noB w0 fun v w => v = .int .i64 ((n : Nat) : Int)) := by
  refine enter M noB Try.func18 rfl rfl hM ?_
  intro a hS
  apply wp_seq
  apply wp_region_lit
  refine l_seq rfl (l_box (zs := [.int .i64 (p), .int .u64 (s), .int .i64 (b), .slice (A) (n) (c)]) hS 1000 rfl rfl rfl rfl ?_); clear hS a; intro b1 a w hb hK hS
  clear hb
  clear hK
  refine q_seq hS rfl rfl rfl (y_assign hS rfl) ?_; clear hS a; intro a hS
  apply wpList_nil
  refine p_norm ?_
  apply wp_seq
  apply wp_region_lit
  refine q_seq hS rfl rfl rfl (y_boxField (o' := 3) hS rfl Try.underlying25 rfl rfl rfl) ?_; clear hS a; intro a hS
  refine q_seq hS rfl rfl rfl (y_loadBox1 (kk := 1000) hS rfl rfl rfl Try.underlying23 rfl) ?_; clear hS a; intro a hS
  refine q_seq hS rfl rfl rfl (y_lenSlice hS rfl Try.underlying23) ?_; clear hS a; intro a hS
  refine q_seq hS rfl rfl rfl (y_assign hS rfl) ?_; clear hS a; intro a hS
  apply wpList_nil
  refine p_norm ?_
  apply wp_ret
  refine fin1 (fn := Try.f18) hS rfl (r_tmp hS rfl) ?_
  rfl

set_option maxHeartbeats 400000 in
theorem pol_spec0 (M : Bs) (w0 : World) (hM : ∀ b, M b → b < w0.heap.size)  :
    Calls Try.prog 20 [.int .i64 (0)].toArray w0 (Ret noB w0 fun v w => v = .tuple #[.agg #[.func (.func 25) #[] #[]], .bool true]) := by
  refine enter M noB Try.func20 rfl rfl hM ?_
  intro a hS
  apply wp_seq
  apply wp_region_lit
  refine l_seq rfl (l_alloc (zs := [.nilFunc]) hS 1000 rfl rfl rfl rfl ?_); clear hS a; intro b1 a w hb hK hS
  clear hb
  clear hK
  refine q_seq hS rfl rfl rfl (y_assign hS rfl) ?_; clear hS a; intro a hS
  apply wpList_nil
  refine p_norm ?_
  apply wp_seq
  apply wp_seq
  apply wp_region_lit
  refine q_seq hS rfl rfl rfl (y_move hS rfl) ?_; clear hS a; intro a hS
  apply wpList_nil
  refine p_norm ?_
  apply wp_block
  apply wp_seq
  apply wp_region_lit
  refine q_seq hS rfl rfl rfl (y_eql hS rfl rfl) ?_; clear hS a; intro a hS
  refine q_seq hS rfl rfl rfl (y_assign hS rfl) ?_; clear hS a; intro a hS
  apply wpList_nil
  refine p_norm ?_
  refine c_t hS rfl ?_
  apply wp_seq
  apply wp_region_lit
  refine q_seq hS rfl rfl rfl (y_build (parts := [(0, .func 25)]) (ps := [(0, .func (.func 25) #[] #[])]) (cells := #[.func (.func 25) #[] #[]]) hS rfl (by kernel_rfl)) ?_; clear hS a; intro a hS
  refine l_seq rfl (l_store (n := 1) (cs' := [.func (.func 25) #[] #[]]) hS 1000 rfl rfl rfl rfl rfl rfl rfl rfl ?_); clear hS; intro w hK hS; clear hK
  refine q_seq hS rfl rfl rfl (y_assign hS rfl) ?_; clear hS a; intro a hS
  apply wpList_nil
  refine p_norm ?_
  apply wp_ret
  refine p_inR ?_
  refine p_thenR ?_
  refine fin2 (fn := Try.f20) hS rfl (r_cell (kk := 1000) (n := 1) (vs := [.func (.func 25) #[] #[]]) hS rfl rfl Try.underlying55 rfl rfl rfl rfl) (r_tmp hS rfl) ?_
  rfl

set_option maxHeartbeats 400000 in
theorem pol_spec1 (M : Bs) (w0 : World) (hM : ∀ b, M b → b < w0.heap.size)  :
    Calls Try.prog 20 [.int .i64 (1)].toArray w0 (Ret noB w0 fun v w => v = .tuple #[.agg #[.func (.func 26) #[] #[]], .bool true]) := by
  refine enter M noB Try.func20 rfl rfl hM ?_
  intro a hS
  apply wp_seq
  apply wp_region_lit
  refine l_seq rfl (l_alloc (zs := [.nilFunc]) hS 1000 rfl rfl rfl rfl ?_); clear hS a; intro b1 a w hb hK hS
  clear hb
  clear hK
  refine q_seq hS rfl rfl rfl (y_assign hS rfl) ?_; clear hS a; intro a hS
  apply wpList_nil
  refine p_norm ?_
  apply wp_seq
  apply wp_seq
  apply wp_region_lit
  refine q_seq hS rfl rfl rfl (y_move hS rfl) ?_; clear hS a; intro a hS
  apply wpList_nil
  refine p_norm ?_
  apply wp_block
  apply wp_seq
  apply wp_region_lit
  refine q_seq hS rfl rfl rfl (y_eql hS rfl rfl) ?_; clear hS a; intro a hS
  refine q_seq hS rfl rfl rfl (y_assign hS rfl) ?_; clear hS a; intro a hS
  apply wpList_nil
  refine p_norm ?_
  refine c_f hS rfl ?_
  apply wp_seq
  apply wp_region_lit
  refine q_seq hS rfl rfl rfl (y_eql hS rfl rfl) ?_; clear hS a; intro a hS
  refine q_seq hS rfl rfl rfl (y_assign hS rfl) ?_; clear hS a; intro a hS
  apply wpList_nil
  refine p_norm ?_
  refine c_t hS rfl ?_
  apply wp_seq
  apply wp_region_lit
  refine q_seq hS rfl rfl rfl (y_build (parts := [(0, .func 26)]) (ps := [(0, .func (.func 26) #[] #[])]) (cells := #[.func (.func 26) #[] #[]]) hS rfl (by kernel_rfl)) ?_; clear hS a; intro a hS
  refine l_seq rfl (l_store (n := 1) (cs' := [.func (.func 26) #[] #[]]) hS 1000 rfl rfl rfl rfl rfl rfl rfl rfl ?_); clear hS; intro w hK hS; clear hK
  refine q_seq hS rfl rfl rfl (y_assign hS rfl) ?_; clear hS a; intro a hS
  apply wpList_nil
  refine p_norm ?_
  apply wp_ret
  refine p_inR ?_
  refine p_thenR ?_
  refine fin2 (fn := Try.f20) hS rfl (r_cell (kk := 1000) (n := 1) (vs := [.func (.func 26) #[] #[]]) hS rfl rfl Try.underlying55 rfl rfl rfl rfl) (r_tmp hS rfl) ?_
  rfl

set_option maxHeartbeats 400000 in
theorem pol_spec2 (M : Bs) (w0 : World) (hM : ∀ b, M b → b < w0.heap.size)  :
    Calls Try.prog 20 [.int .i64 (2)].toArray w0 (Ret noB w0 fun v w => v = .tuple #[.agg #[.func (.func 27) #[] #[]], .bool true]) := by
  refine enter M noB Try.func20 rfl rfl hM ?_
  intro a hS
  apply wp_seq
  apply wp_region_lit
  refine l_seq rfl (l_alloc (zs := [.nilFunc]) hS 1000 rfl rfl rfl rfl ?_); clear hS a; intro b1 a w hb hK hS
  clear hb
  clear hK
  refine q_seq hS rfl rfl rfl (y_assign hS rfl) ?_; clear hS a; intro a hS
  apply wpList_nil
  refine p_norm ?_
  apply wp_seq
  apply wp_seq
  apply wp_region_lit
  refine q_seq hS rfl rfl rfl (y_move hS rfl) ?_; clear hS a; intro a hS
  apply wpList_nil
  refine p_norm ?_
  apply wp_block
  apply wp_seq
  apply wp_region_lit
  refine q_seq hS rfl rfl rfl (y_eql hS rfl rfl) ?_; clear hS a; intro a hS
  refine q_seq hS rfl rfl rfl (y_assign hS rfl) ?_; clear hS a; intro a hS
  apply wpList_nil
  refine p_norm ?_
  refine c_f hS rfl ?_
  apply wp_seq
  apply wp_region_lit
  refine q_seq hS rfl rfl rfl (y_eql hS rfl rfl) ?_; clear hS a; intro a hS
  refine q_seq hS rfl rfl rfl (y_assign hS rfl) ?_; clear hS a; intro a hS
  apply wpList_nil
  refine p_norm ?_
  refine c_f hS rfl ?_
  apply wp_seq
  apply wp_region_lit
  refine q_seq hS rfl rfl rfl (y_eql hS rfl rfl) ?_; clear hS a; intro a hS
  refine q_seq hS rfl rfl rfl (y_assign hS rfl) ?_; clear hS a; intro a hS
  apply wpList_nil
  refine p_norm ?_
  refine c_t hS rfl ?_
  apply wp_seq
  apply wp_region_lit
  refine q_seq hS rfl rfl rfl (y_build (parts := [(0, .func 27)]) (ps := [(0, .func (.func 27) #[] #[])]) (cells := #[.func (.func 27) #[] #[]]) hS rfl (by kernel_rfl)) ?_; clear hS a; intro a hS
  refine l_seq rfl (l_store (n := 1) (cs' := [.func (.func 27) #[] #[]]) hS 1000 rfl rfl rfl rfl rfl rfl rfl rfl ?_); clear hS; intro w hK hS; clear hK
  refine q_seq hS rfl rfl rfl (y_assign hS rfl) ?_; clear hS a; intro a hS
  apply wpList_nil
  refine p_norm ?_
  apply wp_ret
  refine p_inR ?_
  refine p_thenR ?_
  refine fin2 (fn := Try.f20) hS rfl (r_cell (kk := 1000) (n := 1) (vs := [.func (.func 27) #[] #[]]) hS rfl rfl Try.underlying55 rfl rfl rfl rfl) (r_tmp hS rfl) ?_
  rfl

set_option maxHeartbeats 400000 in
theorem pol_spec3 (M : Bs) (w0 : World) (hM : ∀ b, M b → b < w0.heap.size)  :
    Calls Try.prog 20 [.int .i64 (3)].toArray w0 (Ret noB w0 fun v w => v = .tuple #[.agg #[.func (.func 28) #[] #[]], .bool true]) := by
  refine enter M noB Try.func20 rfl rfl hM ?_
  intro a hS
  apply wp_seq
  apply wp_region_lit
  refine l_seq rfl (l_alloc (zs := [.nilFunc]) hS 1000 rfl rfl rfl rfl ?_); clear hS a; intro b1 a w hb hK hS
  clear hb
  clear hK
  refine q_seq hS rfl rfl rfl (y_assign hS rfl) ?_; clear hS a; intro a hS
  apply wpList_nil
  refine p_norm ?_
  apply wp_seq
  apply wp_seq
  apply wp_region_lit
  refine q_seq hS rfl rfl rfl (y_move hS rfl) ?_; clear hS a; intro a hS
  apply wpList_nil
  refine p_norm ?_
  apply wp_block
  apply wp_seq
  apply wp_region_lit
  refine q_seq hS rfl rfl rfl (y_eql hS rfl rfl) ?_; clear hS a; intro a hS
  refine q_seq hS rfl rfl rfl (y_assign hS rfl) ?_; clear hS a; intro a hS
  apply wpList_nil
  refine p_norm ?_
  refine c_f hS rfl ?_
  apply wp_seq
  apply wp_region_lit
  refine q_seq hS rfl rfl rfl (y_eql hS rfl rfl) ?_; clear hS a; intro a hS
  refine q_seq hS rfl rfl rfl (y_assign hS rfl) ?_; clear hS a; intro a hS
  apply wpList_nil
  refine p_norm ?_
  refine c_f hS rfl ?_
  apply wp_seq
  apply wp_region_lit
  refine q_seq hS rfl rfl rfl (y_eql hS rfl rfl) ?_; clear hS a; intro a hS
  refine q_seq hS rfl rfl rfl (y_assign hS rfl) ?_; clear hS a; intro a hS
  apply wpList_nil
  refine p_norm ?_
  refine c_f hS rfl ?_
  apply wp_seq
  apply wp_region_lit
  refine q_seq hS rfl rfl rfl (y_eql hS rfl rfl) ?_; clear hS a; intro a hS
  refine q_seq hS rfl rfl rfl (y_assign hS rfl) ?_; clear hS a; intro a hS
  apply wpList_nil
  refine p_norm ?_
  refine c_t hS rfl ?_
  apply wp_seq
  apply wp_region_lit
  refine q_seq hS rfl rfl rfl (y_build (parts := [(0, .func 28)]) (ps := [(0, .func (.func 28) #[] #[])]) (cells := #[.func (.func 28) #[] #[]]) hS rfl (by kernel_rfl)) ?_; clear hS a; intro a hS
  refine l_seq rfl (l_store (n := 1) (cs' := [.func (.func 28) #[] #[]]) hS 1000 rfl rfl rfl rfl rfl rfl rfl rfl ?_); clear hS; intro w hK hS; clear hK
  refine q_seq hS rfl rfl rfl (y_assign hS rfl) ?_; clear hS a; intro a hS
  apply wpList_nil
  refine p_norm ?_
  apply wp_ret
  refine p_inR ?_
  refine p_thenR ?_
  refine fin2 (fn := Try.f20) hS rfl (r_cell (kk := 1000) (n := 1) (vs := [.func (.func 28) #[] #[]]) hS rfl rfl Try.underlying55 rfl rfl rfl rfl) (r_tmp hS rfl) ?_
  rfl

set_option maxHeartbeats 400000 in
theorem pol_other (M : Bs) (w0 : World) (hM : ∀ b, M b → b < w0.heap.size) (p : Int) (hp : p < 0 ∨ 3 < p) :
    Calls Try.prog 20 [.int .i64 (p)].toArray w0 (Ret noB w0 fun v w => v = .tuple #[.agg #[.nilFunc], .bool false]) := by
  refine enter M noB Try.func20 rfl rfl hM ?_
  intro a hS
  apply wp_seq
  apply wp_region_lit
  refine l_seq rfl (l_alloc (zs := [.nilFunc]) hS 1000 rfl rfl rfl rfl ?_); clear hS a; intro b1 a w hb hK hS
  clear hb
  clear hK
  refine q_seq hS rfl rfl rfl (y_assign hS rfl) ?_; clear hS a; intro a hS
  apply wpList_nil
  refine p_norm ?_
  apply wp_seq
  apply wp_seq
  apply wp_region_lit
  refine q_seq hS rfl rfl rfl (y_move hS rfl) ?_; clear hS a; intro a hS
  apply wpList_nil
  refine p_norm ?_
  apply wp_block
  apply wp_seq
  apply wp_region_lit
  refine q_seq hS rfl rfl rfl (y_eql hS rfl rfl) ?_; clear hS a; intro a hS
  refine q_seq hS rfl rfl rfl (y_assign hS rfl) ?_; clear hS a; intro a hS
  apply wpList_nil
  refine p_norm ?_
  refine c_dec hS rfl (fun hc0 => ?_) (fun hc0 => ?_)
  · exfalso; omega
  · apply wp_seq
    apply wp_region_lit
    refine q_seq hS rfl rfl rfl (y_eql hS rfl rfl) ?_; clear hS a; intro a hS
    refine q_seq hS rfl rfl rfl (y_assign hS rfl) ?_; clear hS a; intro a hS
    apply wpList_nil
    refine p_norm ?_
    refine c_dec hS rfl (fun hc1 => ?_) (fun hc1 => ?_)
    · exfalso; omega
    · apply wp_seq
      apply wp_region_lit
      refine q_seq hS rfl rfl rfl (y_eql hS rfl rfl) ?_; clear hS a; intro a hS
      refine q_seq hS rfl rfl rfl (y_assign hS rfl) ?_; clear hS a; intro a hS
      apply wpList_nil
      refine p_norm ?_
      refine c_dec hS rfl (fun hc2 => ?_) (fun hc2 => ?_)
      · exfalso; omega
      · apply wp_seq
        apply wp_region_lit
        refine q_seq hS rfl rfl rfl (y_eql hS rfl rfl) ?_; clear hS a; intro a hS
        refine q_seq hS rfl rfl rfl (y_assign hS rfl) ?_; clear hS a; intro a hS
        apply wpList_nil
        refine p_norm ?_
        refine c_dec hS rfl (fun hc3 => ?_) (fun hc3 => ?_)
        · exfalso; omega
        · apply wp_skip
          refine p_inN ?_
          refine p_norm ?_
          apply wp_seq
          apply wp_region_lit
          refine q_seq hS rfl rfl rfl (y_build (parts := []) (ps := []) (cells := #[.nilFunc]) hS rfl (by kernel_rfl)) ?_; clear hS a; intro a hS
          refine l_seq rfl (l_store (n := 1) (cs' := [.nilFunc]) hS 1000 rfl rfl rfl rfl rfl rfl rfl rfl ?_); clear hS; intro w hK hS; clear hK
          refine q_seq hS rfl rfl rfl (y_assign hS rfl) ?_; clear hS a; intro a hS
          apply wpList_nil
          refine p_norm ?_
          apply wp_ret
          refine fin2 (fn := Try.f20) hS rfl (r_cell (kk := 1000) (n := 1) (vs := [.nilFunc]) hS rfl rfl Try.underlying55 rfl rfl rfl rfl) (r_tmp hS rfl) ?_
          rfl

set_option maxHeartbeats 400000 in
theorem new_spec0 (M : Bs) (w0 : World) (hM : ∀ b, M b → b < w0.heap.size) (s : Int) :
    Calls Try.prog 9 [.int .i64 (0), .int .u64 (s)].toArray w0 (Ret noB w0 fun v w => v = .tuple #[.agg #[.int .i64 0, .int .u64 s, .int .i64 0, .slice none 0 0], .int .i64 0]) := by
  refine enter M noB Try.func9 rfl rfl hM ?_
  intro a hS
  apply wp_seq
  apply wp_region_lit
  refine l_seq rfl (l_alloc (zs := [.int .i64 (0), .int .u64 (0), .int .i64 (0), .slice (none) (0) (0)]) hS 1000 rfl rfl rfl rfl ?_); clear hS a; intro b1 a w hb hK hS
  clear hb
  clear hK
  refine q_seq hS rfl rfl rfl (y_assign hS rfl) ?_; clear hS a; intro a hS
  apply wpList_nil
  refine p_norm ?_
  apply wp_seq
  apply wp_seq
  apply wp_region_lit
  refine q_seq hS rfl rfl rfl (y_move hS rfl) ?_; clear hS a; intro a hS
  refine l_seq rfl (l_call (cap := []) hS rfl Try.func20 rfl (by kernel_rfl) rfl rfl (pol_spec0 _ _ hS.lt) ?_); clear hS a; intro v2 a w hK hp hS
  clear hK
  obtain rfl := hp
  refine q_seq hS rfl rfl rfl (y_move hS rfl) ?_; clear hS a; intro a hS
  refine q_seq hS rfl rfl rfl (y_extract hS rfl rfl) ?_; clear hS a; intro a hS
  refine q_seq hS rfl rfl rfl (y_extract hS rfl rfl) ?_; clear hS a; intro a hS
  refine l_seq rfl (l_alloc (zs := [.nilFunc]) hS 1105 rfl rfl rfl rfl ?_); clear hS a; intro b3 a w hb hK hS
  clear hb
  clear hK
  refine l_seq rfl (l_store (n := 1) (cs' := [.func (.func 25) #[] #[]]) hS 1105 rfl rfl rfl rfl rfl rfl rfl rfl ?_); clear hS; intro w hK hS; clear hK
  refine q_seq hS rfl rfl rfl (y_assign hS rfl) ?_; clear hS a; intro a hS
  apply wpList_nil
  refine p_norm ?_
  apply wp_seq
  apply wp_region_lit
  refine q_seq hS rfl rfl rfl (y_move hS rfl) ?_; clear hS a; intro a hS
  refine q_seq hS rfl rfl rfl (y_not hS rfl) ?_; clear hS a; intro a hS
  apply wpList_nil
  refine p_norm ?_
  refine c_f hS rfl ?_
  apply wp_skip
  refine p_norm ?_
  apply wp_seq
  apply wp_region_lit
  refine q_seq hS rfl rfl rfl (y_move hS rfl) ?_; clear hS a; intro a hS
  refine q_seq hS rfl rfl rfl (y_move hS rfl) ?_; clear hS a; intro a hS
  refine q_seq hS rfl rfl rfl (y_build (parts := [(0, .tmp 16), (1, .tmp 17)]) (ps := [(0, .int .i64 (0)), (1, .int .u64 (s))]) (cells := #[.int .i64 (0), .int .u64 (s), .int .i64 (0), .slice (none) (0) (0)]) hS rfl (by kernel_rfl)) ?_; clear hS a; intro a hS
  refine l_seq rfl (l_store (n := 4) (cs' := [.int .i64 (0), .int .u64 (s), .int .i64 (0), .slice (none) (0) (0)]) hS 1000 rfl rfl rfl rfl rfl rfl rfl rfl ?_); clear hS; intro w hK hS; clear hK
  refine q_seq hS rfl rfl rfl (y_assign hS rfl) ?_; clear hS a; intro a hS
  apply wpList_nil
  refine p_norm ?_
  apply wp_ret
  refine fin2 (fn := Try.f9) hS rfl (r_cell (kk := 1000) (n := 4) (vs := [.int .i64 (0), .int .u64 (s), .int .i64 (0), .slice (none) (0) (0)]) hS rfl rfl Try.underlying25 rfl rfl rfl rfl) (r_tmp hS rfl) ?_
  rfl

set_option maxHeartbeats 400000 in
theorem new_spec1 (M : Bs) (w0 : World) (hM : ∀ b, M b → b < w0.heap.size) (s : Int) :
    Calls Try.prog 9 [.int .i64 (1), .int .u64 (s)].toArray w0 (Ret noB w0 fun v w => v = .tuple #[.agg #[.int .i64 1, .int .u64 s, .int .i64 0, .slice none 0 0], .int .i64 0]) := by
  refine enter M noB Try.func9 rfl rfl hM ?_
  intro a hS
  apply wp_seq
  apply wp_region_lit
  refine l_seq rfl (l_alloc (zs := [.int .i64 (0), .int .u64 (0), .int .i64 (0), .slice (none) (0) (0)]) hS 1000 rfl rfl rfl rfl ?_); clear hS a; intro b1 a w hb hK hS
  clear hb
  clear hK
  refine q_seq hS rfl rfl rfl (y_assign hS rfl) ?_; clear hS a; intro a hS
  apply wpList_nil
  refine p_norm ?_
  apply wp_seq
  apply wp_seq
  apply wp_region_lit
  refine q_seq hS rfl rfl rfl (y_move hS rfl) ?_; clear hS a; intro a hS
  refine l_seq rfl (l_call (cap := []) hS rfl Try.func20 rfl (by kernel_rfl) rfl rfl (pol_spec1 _ _ hS.lt) ?_); clear hS a; intro v2 a w hK hp hS
  clear hK
  obtain rfl := hp
  refine q_seq hS rfl rfl rfl (y_move hS rfl) ?_; clear hS a; intro a hS
  refine q_seq hS rfl rfl rfl (y_extract hS rfl rfl) ?_; clear hS a; intro a hS
  refine q_seq hS rfl rfl rfl (y_extract hS rfl rfl) ?_; clear hS a; intro a hS
  refine l_seq rfl (l_alloc (zs := [.nilFunc]) hS 1105 rfl rfl rfl rfl ?_); clear hS a; intro b3 a w hb hK hS
  clear hb
  clear hK
  refine l_seq rfl (l_store (n := 1) (cs' := [.func (.func 26) #[] #[]]) hS 1105 rfl rfl rfl rfl rfl rfl rfl rfl ?_); clear hS; intro w hK hS; clear hK
  refine q_seq hS rfl rfl rfl (y_assign hS rfl) ?_; clear hS a; intro a hS
  apply wpList_nil
  refine p_norm ?_
  apply wp_seq
  apply wp_region_lit
  refine q_seq hS rfl rfl rfl (y_move hS rfl) ?_; clear hS a; intro a hS
  refine q_seq hS rfl rfl rfl (y_not hS rfl) ?_; clear hS a; intro a hS
  apply wpList_nil
  refine p_norm ?_
  refine c_f hS rfl ?_
  apply wp_skip
  refine p_norm ?_
  apply wp_seq
  apply wp_region_lit
  refine q_seq hS rfl rfl rfl (y_move hS rfl) ?_; clear hS a; intro a hS
  refine q_seq hS rfl rfl rfl (y_move hS rfl) ?_; clear hS a; intro a hS
  refine q_seq hS rfl rfl rfl (y_build (parts := [(0, .tmp 16), (1, .tmp 17)]) (ps := [(0, .int .i64 (1)), (1, .int .u64 (s))]) (cells := #[.int .i64 (1), .int .u64 (s), .int .i64 (0), .slice (none) (0) (0)]) hS rfl (by kernel_rfl)) ?_; clear hS a; intro a hS
  refine l_seq rfl (l_store (n := 4) (cs' := [.int .i64 (1), .int .u64 (s), .int .i64 (0), .slice (none) (0) (0)]) hS 1000 rfl rfl rfl rfl rfl rfl rfl rfl ?_); clear hS; intro w hK hS; clear hK
  refine q_seq hS rfl rfl rfl (y_assign hS rfl) ?_; clear hS a; intro a hS
  apply wpList_nil
  refine p_norm ?_
  apply wp_ret
  refine fin2 (fn := Try.f9) hS rfl (r_cell (kk := 1000) (n := 4) (vs := [.int .i64 (1), .int .u64 (s), .int .i64 (0), .slice (none) (0) (0)]) hS rfl rfl Try.underlying25 rfl rfl rfl rfl) (r_tmp hS rfl) ?_
  rfl

set_option maxHeartbeats 400000 in
theorem new_spec2 (M : Bs) (w0 : World) (hM : ∀ b, M b → b < w0.heap.size) (s : Int) :
    Calls Try.prog 9 [.int .i64 (2), .int .u64 (s)].toArray w0 (Ret noB w0 fun v w => v = .tuple #[.agg #[.int .i64 2, .int .u64 s, .int .i64 0, .slice none 0 0], .int .i64 0]) := by
  refine enter M noB Try.func9 rfl rfl hM ?_
  intro a hS
  apply wp_seq
  apply wp_region_lit
  refine l_seq rfl (l_alloc (zs := [.int .i64 (0), .int .u64 (0), .int .i64 (0), .slice (none) (0) (0)]) hS 1000 rfl rfl rfl rfl ?_); clear hS a; intro b1 a w hb hK hS
  clear hb
  clear hK
  refine q_seq hS rfl rfl rfl (y_assign hS rfl) ?_; clear hS a; intro a hS
  apply wpList_nil
  refine p_norm ?_
  apply wp_seq
  apply wp_seq
  apply wp_region_lit
  refine q_seq hS rfl rfl rfl (y_move hS rfl) ?_; clear hS a; intro a hS
  refine l_seq rfl (l_call (cap := []) hS rfl Try.func20 rfl (by kernel_rfl) rfl rfl (pol_spec2 _ _ hS.lt) ?_); clear hS a; intro v2 a w hK hp hS
  clear hK
  obtain rfl := hp
  refine q_seq hS rfl rfl rfl (y_move hS rfl) ?_; clear hS a; intro a hS
  refine q_seq hS rfl rfl rfl (y_extract hS rfl rfl) ?_; clear hS a; intro a hS
  refine q_seq hS rfl rfl rfl (y_extract hS rfl rfl) ?_; clear hS a; intro a hS
  refine l_seq rfl (l_alloc (zs := [.nilFunc]) hS 1105 rfl rfl rfl rfl ?_); clear hS a; intro b3 a w hb hK hS
  clear hb
  clear hK
  refine l_seq rfl (l_store (n := 1) (cs' := [.func (.func 27) #[] #[]]) hS 1105 rfl rfl rfl rfl rfl rfl rfl rfl ?_); clear hS; intro w hK hS; clear hK
  refine q_seq hS rfl rfl rfl (y_assign hS rfl) ?_; clear hS a; intro a hS
  apply wpList_nil
  refine p_norm ?_
  apply wp_seq
  apply wp_region_lit
  refine q_seq hS rfl rfl rfl (y_move hS rfl) ?_; clear hS a; intro a hS
  refine q_seq hS rfl rfl rfl (y_not hS rfl) ?_; clear hS a; intro a hS
  apply wpList_nil
  refine p_norm ?_
  refine c_f hS rfl ?_
  apply wp_skip
  refine p_norm ?_
  apply wp_seq
  apply wp_region_lit
  refine q_seq hS rfl rfl rfl (y_move hS rfl) ?_; clear hS a; intro a hS
  refine q_seq hS rfl rfl rfl (y_move hS rfl) ?_; clear hS a; intro a hS
  refine q_seq hS rfl rfl rfl (y_build (parts := [(0, .tmp 16), (1, .tmp 17)]) (ps := [(0, .int .i64 (2)), (1, .int .u64 (s))]) (cells := #[.int .i64 (2), .int .u64 (s), .int .i64 (0), .slice (none) (0) (0)]) hS rfl (by kernel_rfl)) ?_; clear hS a; intro a hS
  refine l_seq rfl (l_store (n := 4) (cs' := [.int .i64 (2), .int .u64 (s), .int .i64 (0), .slice (none) (0) (0)]) hS 1000 rfl rfl rfl rfl rfl rfl rfl rfl ?_); clear hS; intro w hK hS; clear hK
  refine q_seq hS rfl rfl rfl (y_assign hS rfl) ?_; clear hS a; intro a hS
  apply wpList_nil
  refine p_norm ?_
  apply wp_ret
  refine fin2 (fn := Try.f9) hS rfl (r_cell (kk := 1000) (n := 4) (vs := [.int .i64 (2), .int .u64 (s), .int .i64 (0), .slice (none) (0) (0)]) hS rfl rfl Try.underlying25 rfl rfl rfl rfl) (r_tmp hS rfl) ?_
  rfl

set_option maxHeartbeats 400000 in
theorem new_spec3 (M : Bs) (w0 : World) (hM : ∀ b, M b → b < w0.heap.size) (s : Int) :
    Calls Try.prog 9 [.int .i64 (3), .int .u64 (s)].toArray w0 (Ret noB w0 fun v w => v = .tuple #[.agg #[.int .i64 3, .int .u64 s, .int .i64 0, .slice none 0 0], .int .i64 0]) := by
  refine enter M noB Try.func9 rfl rfl hM ?_
  intro a hS
  apply wp_seq
  apply wp_region_lit
  refine l_seq rfl (l_alloc (zs := [.int .i64 (0), .int .u64 (0), .int .i64 (0), .slice (none) (0) (0)]) hS 1000 rfl rfl rfl rfl ?_); clear hS a; intro b1 a w hb hK hS
  clear hb
  clear hK
  refine q_seq hS rfl rfl rfl (y_assign hS rfl) ?_; clear hS a; intro a hS
  apply wpList_nil
  refine p_norm ?_
  apply wp_seq
  apply wp_seq
  apply wp_region_lit
  refine q_seq hS rfl rfl rfl (y_move hS rfl) ?_; clear hS a; intro a hS
  refine l_seq rfl (l_call (cap := []) hS rfl Try.func20 rfl (by kernel_rfl) rfl rfl (pol_spec3 _ _ hS.lt) ?_); clear hS a; intro v2 a w hK hp hS
  clear hK
  obtain rfl := hp
  refine q_seq hS rfl rfl rfl (y_move hS rfl) ?_; clear hS a; intro a hS
  refine q_seq hS rfl rfl rfl (y_extract hS rfl rfl) ?_; clear hS a; intro a hS
  refine q_seq hS rfl rfl rfl (y_extract hS rfl rfl) ?_; clear hS a; intro a hS
  refine l_seq rfl (l_alloc (zs := [.nilFunc]) hS 1105 rfl rfl rfl rfl ?_); clear hS a; intro b3 a w hb hK hS
  clear hb
  clear hK
  refine l_seq rfl (l_store (n := 1) (cs' := [.func (.func 28) #[] #[]]) hS 1105 rfl rfl rfl rfl rfl rfl rfl rfl ?_); clear hS; intro w hK hS; clear hK
  refine q_seq hS rfl rfl rfl (y_assign hS rfl) ?_; clear hS a; intro a hS
  apply wpList_nil
  refine p_norm ?_
  apply wp_seq
  apply wp_region_lit
  refine q_seq hS rfl rfl rfl (y_move hS rfl) ?_; clear hS a; intro a hS
  refine q_seq hS rfl rfl rfl (y_not hS rfl) ?_; clear hS a; intro a hS
  apply wpList_nil
  refine p_norm ?_
  refine c_f hS rfl ?_
  apply wp_skip
  refine p_norm ?_
  apply wp_seq
  apply wp_region_lit
  refine q_seq hS rfl rfl rfl (y_move hS rfl) ?_; clear hS a; intro a hS
  refine q_seq hS rfl rfl rfl (y_move hS rfl) ?_; clear hS a; intro a hS
  refine q_seq hS rfl rfl rfl (y_build (parts := [(0, .tmp 16), (1, .tmp 17)]) (ps := [(0, .int .i64 (3)), (1, .int .u64 (s))]) (cells := #[.int .i64 (3), .int .u64 (s), .int .i64 (0), .slice (none) (0) (0)]) hS rfl (by kernel_rfl)) ?_; clear hS a; intro a hS
  refine l_seq rfl (l_store (n := 4) (cs' := [.int .i64 (3), .int .u64 (s), .int .i64 (0), .slice (none) (0) (0)]) hS 1000 rfl rfl rfl rfl rfl rfl rfl rfl ?_); clear hS; intro w hK hS; clear hK
  refine q_seq hS rfl rfl rfl (y_assign hS rfl) ?_; clear hS a; intro a hS
  apply wpList_nil
  refine p_norm ?_
  apply wp_ret
  refine fin2 (fn := Try.f9) hS rfl (r_cell (kk := 1000) (n := 4) (vs := [.int .i64 (3), .int .u64 (s), .int .i64 (0), .slice (none) (0) (0)]) hS rfl rfl Try.underlying25 rfl rfl rfl rfl) (r_tmp hS rfl) ?_
  rfl

set_option maxHeartbeats 400000 in
theorem new_other (M : Bs) (w0 : World) (hM : ∀ b, M b → b < w0.heap.size) (p s : Int) (hp : p < 0 ∨ 3 < p) :
    Calls Try.prog 9 [.int .i64 (p), .int .u64 (s)].toArray w0 (Ret noB w0 fun v w => v = .tuple #[.agg #[.int .i64 0, .int .u64 0, .int .i64 0, .slice none 0 0], .int .i64 14]) := by
  refine enter M noB Try.func9 rfl rfl hM ?_
  intro a hS
  apply wp_seq
  apply wp_region_lit
  refine l_seq rfl (l_alloc (zs := [.int .i64 (0), .int .u64 (0), .int .i64 (0), .slice (none) (0) (0)]) hS 1000 rfl rfl rfl rfl ?_); clear hS a; intro b1 a w hb hK hS
  clear hb
  clear hK
  refine q_seq hS rfl rfl rfl (y_assign hS rfl) ?_; clear hS a; intro a hS
  apply wpList_nil
  refine p_norm ?_
  apply wp_seq
  apply wp_seq
  apply wp_region_lit
  refine q_seq hS rfl rfl rfl (y_move hS rfl) ?_; clear hS a; intro a hS
  refine l_seq rfl (l_call (cap := []) hS rfl Try.func20 rfl (by kernel_rfl) rfl rfl (pol_other _ _ hS.lt _ hp) ?_); clear hS a; intro v2 a w hK hp hS
  clear hK
  obtain rfl := hp
  refine q_seq hS rfl rfl rfl (y_move hS rfl) ?_; clear hS a; intro a hS
  refine q_seq hS rfl rfl rfl (y_extract hS rfl rfl) ?_; clear hS a; intro a hS
  refine q_seq hS rfl rfl rfl (y_extract hS rfl rfl) ?_; clear hS a; intro a hS
  refine l_seq rfl (l_alloc (zs := [.nilFunc]) hS 1105 rfl rfl rfl rfl ?_); clear hS a; intro b3 a w hb hK hS
  clear hb
  clear hK
  refine l_seq rfl (l_store (n := 1) (cs' := [.nilFunc]) hS 1105 rfl rfl rfl rfl rfl rfl rfl rfl ?_); clear hS; intro w hK hS; clear hK
  refine q_seq hS rfl rfl rfl (y_assign hS rfl) ?_; clear hS a; intro a hS
  apply wpList_nil
  refine p_norm ?_
  apply wp_seq
  apply wp_region_lit
  refine q_seq hS rfl rfl rfl (y_move hS rfl) ?_; clear hS a; intro a hS
  refine q_seq hS rfl rfl rfl (y_not hS rfl) ?_; clear hS a; intro a hS
  apply wpList_nil
  refine p_norm ?_
  refine c_t hS rfl ?_
  apply wp_seq
  apply wp_region_lit
  refine q_seq hS rfl rfl rfl (y_build (parts := []) (ps := []) (cells := #[.int .i64 (0), .int .u64 (0), .int .i64 (0), .slice (none) (0) (0)]) hS rfl (by kernel_rfl)) ?_; clear hS a; intro a hS
  refine l_seq rfl (l_store (n := 4) (cs' := [.int .i64 (0), .int .u64 (0), .int .i64 (0), .slice (none) (0) (0)]) hS 1000 rfl rfl rfl rfl rfl rfl rfl rfl ?_); clear hS; intro w hK hS; clear hK
  refine q_seq hS rfl rfl rfl (y_assign hS rfl) ?_; clear hS a; intro a hS
  apply wpList_nil
  refine p_norm ?_
  apply wp_ret
  refine p_thenR ?_
  refine fin2 (fn := Try.f9) hS rfl (r_cell (kk := 1000) (n := 4) (vs := [.int .i64 (0), .int .u64 (0), .int .i64 (0), .slice (none) (0) (0)]) hS rfl rfl Try.underlying25 rfl rfl rfl rfl) (r_tmp hS rfl) ?_
  rfl

set_option maxHeartbeats 400000 in
theorem rnew_spec0 (M : Bs) (w0 : World) (hM : ∀ b, M b → b < w0.heap.size) (s : Int) :
    Calls Try.prog 10 [.int .i64 (0), .int .u64 (s)].toArray w0 (Ret noB w0 fun v w => v = .tuple #[.agg #[.int .i64 0, .int .u64 s, .int .i64 0, .slice none 0 0], .int .i64 0]) := by
  refine enter M noB Try.func10 rfl rfl hM ?_
  intro a hS
  apply wp_seq
  apply wp_region_lit
  refine l_seq rfl (l_alloc (zs := [.int .i64 (0), .int .u64 (0), .int .i64 (0), .slice (none) (0) (0)]) hS 1000 rfl rfl rfl rfl ?_); clear hS a; intro b1 a w hb hK hS
  clear hb
  clear hK
  refine q_seq hS rfl rfl rfl (y_assign hS rfl) ?_; clear hS a; intro a hS
  apply wpList_nil
  refine p_norm ?_
  apply wp_seq
  apply wp_seq
  apply wp_region_lit
  refine q_seq hS rfl rfl rfl (y_move hS rfl) ?_; clear hS a; intro a hS
  refine q_seq hS rfl rfl rfl (y_lss hS rfl rfl) ?_; clear hS a; intro a hS
  refine q_seq hS rfl rfl rfl (y_move hS rfl) ?_; clear hS a; intro a hS
  refine g_yes hS rfl rfl rfl rfl (l_quiet hS rfl rfl (y_move hS rfl) ?_); clear hS a; intro a hS
  refine g_yes hS rfl rfl rfl rfl (l_quiet hS rfl rfl (y_gtr hS rfl rfl) ?_); clear hS a; intro a hS
  refine q_seq hS rfl rfl rfl (y_pick_f hS rfl rfl) ?_; clear hS a; intro a hS
  apply wpList_nil
  refine p_norm ?_
  refine c_f hS rfl ?_
  apply wp_skip
  refine p_norm ?_
  apply wp_seq
  apply wp_region_lit
  refine q_seq hS rfl rfl rfl (y_move hS rfl) ?_; clear hS a; intro a hS
  refine q_seq hS rfl rfl rfl (y_move hS rfl) ?_; clear hS a; intro a hS
  refine q_seq hS rfl rfl rfl (y_build (parts := [(0, .tmp 13), (1, .tmp 14)]) (ps := [(0, .int .i64 (0)), (1, .int .u64 (s))]) (cells := #[.int .i64 (0), .int .u64 (s), .int .i64 (0), .slice (none) (0) (0)]) hS rfl (by kernel_rfl)) ?_; clear hS a; intro a hS
  refine l_seq rfl (l_store (n := 4) (cs' := [.int .i64 (0), .int .u64 (s), .int .i64 (0), .slice (none) (0) (0)]) hS 1000 rfl rfl rfl rfl rfl rfl rfl rfl ?_); clear hS; intro w hK hS; clear hK
  refine q_seq hS rfl rfl rfl (y_assign hS rfl) ?_; clear hS a; intro a hS
  apply wpList_nil
  refine p_norm ?_
  apply wp_ret
  refine fin2 (fn := Try.f10) hS rfl (r_cell (kk := 1000) (n := 4) (vs := [.int .i64 (0), .int .u64 (s), .int .i64 (0), .slice (none) (0) (0)]) hS rfl rfl Try.underlying25 rfl rfl rfl rfl) (r_tmp hS rfl) ?_
  rfl

set_option maxHeartbeats 400000 in
theorem rnew_spec1 (M : Bs) (w0 : World) (hM : ∀ b, M b → b < w0.heap.size) (s : Int) :
    Calls Try.prog 10 [.int .i64 (1), .int .u64 (s)].toArray w0 (Ret noB w0 fun v w => v = .tuple #[.agg #[.int .i64 1, .int .u64 s, .int .i64 0, .slice none 0 0], .int .i64 0]) := by
  refine enter M noB Try.func10 rfl rfl hM ?_
  intro a hS
  apply wp_seq
  apply wp_region_lit
  refine l_seq rfl (l_alloc (zs := [.int .i64 (0), .int .u64 (0), .int .i64 (0), .slice (none) (0) (0)]) hS 1000 rfl rfl rfl rfl ?_); clear hS a; intro b1 a w hb hK hS
  clear hb
  clear hK
  refine q_seq hS rfl rfl rfl (y_assign hS rfl) ?_; clear hS a; intro a hS
  apply wpList_nil
  refine p_norm ?_
  apply wp_seq
  apply wp_seq
  apply wp_region_lit
  refine q_seq hS rfl rfl rfl (y_move hS rfl) ?_; clear hS a; intro a hS
  refine q_seq hS rfl rfl rfl (y_lss hS rfl rfl) ?_; clear hS a; intro a hS
  refine q_seq hS rfl rfl rfl (y_move hS rfl) ?_; clear hS a; intro a hS
  refine g_yes hS rfl rfl rfl rfl (l_quiet hS rfl rfl (y_move hS rfl) ?_); clear hS a; intro a hS
  refine g_yes hS rfl rfl rfl rfl (l_quiet hS rfl rfl (y_gtr hS rfl rfl) ?_); clear hS a; intro a hS
  refine q_seq hS rfl rfl rfl (y_pick_f hS rfl rfl) ?_; clear hS a; intro a hS
  apply wpList_nil
  refine p_norm ?_
  refine c_f hS rfl ?_
  apply wp_skip
  refine p_norm ?_
  apply wp_seq
  apply wp_region_lit
  refine q_seq hS rfl rfl rfl (y_move hS rfl) ?_; clear hS a; intro a hS
  refine q_seq hS rfl rfl rfl (y_move hS rfl) ?_; clear hS a; intro a hS
  refine q_seq hS rfl rfl rfl (y_build (parts := [(0, .tmp 13), (1, .tmp 14)]) (ps := [(0, .int .i64 (1)), (1, .int .u64 (s))]) (cells := #[.int .i64 (1), .int .u64 (s), .int .i64 (0), .slice (none) (0) (0)]) hS rfl (by kernel_rfl)) ?_; clear hS a; intro a hS
  refine l_seq rfl (l_store (n := 4) (cs' := [.int .i64 (1), .int .u64 (s), .int .i64 (0), .slice (none) (0) (0)]) hS 1000 rfl rfl rfl rfl rfl rfl rfl rfl ?_); clear hS; intro w hK hS; clear hK
  refine q_seq hS rfl rfl rfl (y_assign hS rfl) ?_; clear hS a; intro a hS
  apply wpList_nil
  refine p_norm ?_
  apply wp_ret
  refine fin2 (fn := Try.f10) hS rfl (r_cell (kk := 1000) (n := 4) (vs := [.int .i64 (1), .int .u64 (s), .int .i64 (0), .slice (none) (0) (0)]) hS rfl rfl Try.underlying25 rfl rfl rfl rfl) (r_tmp hS rfl) ?_
  rfl

set_option maxHeartbeats 400000 in
theorem rnew_spec2 (M : Bs) (w0 : World) (hM : ∀ b, M b → b < w0.heap.size) (s : Int) :
    Calls Try.prog 10 [.int .i64 (2), .int .u64 (s)].toArray w0 (Ret noB w0 fun v w => v = .tuple #[.agg #[.int .i64 2, .int .u64 s, .int .i64 0, .slice none 0 0], .int .i64 0]) := by
  refine enter M noB Try.func10 rfl rfl hM ?_
  intro a hS
  apply wp_seq
  apply wp_region_lit
  refine l_seq rfl (l_alloc (zs := [.int .i64 (0), .int .u64 (0), .int .i64 (0), .slice (none) (0) (0)]) hS 1000 rfl rfl rfl rfl ?_); clear hS a; intro b1 a w hb hK hS
  clear hb
  clear hK
  refine q_seq hS rfl rfl rfl (y_assign hS rfl) ?_; clear hS a; intro a hS
  apply wpList_nil
  refine p_norm ?_
  apply wp_seq
  apply wp_seq
  apply wp_region_lit
  refine q_seq hS rfl rfl rfl (y_move hS rfl) ?_; clear hS a; intro a hS
  refine q_seq hS rfl rfl rfl (y_lss hS rfl rfl) ?_; clear hS a; intro a hS
  refine q_seq hS rfl rfl rfl (y_move hS rfl) ?_; clear hS a; intro a hS
  refine g_yes hS rfl rfl rfl rfl (l_quiet hS rfl rfl (y_move hS rfl) ?_); clear hS a; intro a hS
  refine g_yes hS rfl rfl rfl rfl (l_quiet hS rfl rfl (y_gtr hS rfl rfl) ?_); clear hS a; intro a hS
  refine q_seq hS rfl rfl rfl (y_pick_f hS rfl rfl) ?_; clear hS a; intro a hS
  apply wpList_nil
  refine p_norm ?_
  refine c_f hS rfl ?_
  apply wp_skip
  refine p_norm ?_
  apply wp_seq
  apply wp_region_lit
  refine q_seq hS rfl rfl rfl (y_move hS rfl) ?_; clear hS a; intro a hS
  refine q_seq hS rfl rfl rfl (y_move hS rfl) ?_; clear hS a; intro a hS
  refine q_seq hS rfl rfl rfl (y_build (parts := [(0, .tmp 13), (1, .tmp 14)]) (ps := [(0, .int .i64 (2)), (1, .int .u64 (s))]) (cells := #[.int .i64 (2), .int .u64 (s), .int .i64 (0), .slice (none) (0) (0)]) hS rfl (by kernel_rfl)) ?_; clear hS a; intro a hS
  refine l_seq rfl (l_store (n := 4) (cs' := [.int .i64 (2), .int .u64 (s), .int .i64 (0), .slice (none) (0) (0)]) hS 1000 rfl rfl rfl rfl rfl rfl rfl rfl ?_); clear hS; intro w hK hS; clear hK
  refine q_seq hS rfl rfl rfl (y_assign hS rfl) ?_; clear hS a; intro a hS
  apply wpList_nil
  refine p_norm ?_
  apply wp_ret
  refine fin2 (fn := Try.f10) hS rfl (r_cell (kk := 1000) (n := 4) (vs := [.int .i64 (2), .int .u64 (s), .int .i64 (0), .slice (none) (0) (0)]) hS rfl rfl Try.underlying25 rfl rfl rfl rfl) (r_tmp hS rfl) ?_
  rfl

set_option maxHeartbeats 400000 in
theorem rnew_spec3 (M : Bs) (w0 : World) (hM : ∀ b, M b → b < w0.heap.size) (s : Int) :
    Calls Try.prog 10 [.int .i64 (3), .int .u64 (s)].toArray w0 (Ret noB w0 fun v w => v = .tuple #[.agg #[.int .i64 3, .int .u64 s, .int .i64 0, .slice none 0 0], .int .i64 0]) := by
  refine enter M noB Try.func10 rfl rfl hM ?_
  intro a hS
  apply wp_seq
  apply wp_region_lit
  refine l_seq rfl (l_alloc (zs := [.int .i64 (0), .int .u64 (0), .int .i64 (0), .slice (none) (0) (0)]) hS 1000 rfl rfl rfl rfl ?_); clear hS a; intro b1 a w hb hK hS
  clear hb
  clear hK
  refine q_seq hS rfl rfl rfl (y_assign hS rfl) ?_; clear hS a; intro a hS
  apply wpList_nil
  refine p_norm ?_
  apply wp_seq
  apply wp_seq
  apply wp_region_lit
  refine q_seq hS rfl rfl rfl (y_move hS rfl) ?_; clear hS a; intro a hS
  refine q_seq hS rfl rfl rfl (y_lss hS rfl rfl) ?_; clear hS a; intro a hS
  refine q_seq hS rfl rfl rfl (y_move hS rfl) ?_; clear hS a; intro a hS
  refine g_yes hS rfl rfl rfl rfl (l_quiet hS rfl rfl (y_move hS rfl) ?_); clear hS a; intro a hS
  refine g_yes hS rfl rfl rfl rfl (l_quiet hS rfl rfl (y_gtr hS rfl rfl) ?_); clear hS a; intro a hS
  refine q_seq hS rfl rfl rfl (y_pick_f hS rfl rfl) ?_; clear hS a; intro a hS
  apply wpList_nil
  refine p_norm ?_
  refine c_f hS rfl ?_
  apply wp_skip
  refine p_norm ?_
  apply wp_seq
  apply wp_region_lit
  refine q_seq hS rfl rfl rfl (y_move hS rfl) ?_; clear hS a; intro a hS
  refine q_seq hS rfl rfl rfl (y_move hS rfl) ?_; clear hS a; intro a hS
  refine q_seq hS rfl rfl rfl (y_build (parts := [(0, .tmp 13), (1, .tmp 14)]) (ps := [(0, .int .i64 (3)), (1, .int .u64 (s))]) (cells := #[.int .i64 (3), .int .u64 (s), .int .i64 (0), .slice (none) (0) (0)]) hS rfl (by kernel_rfl)) ?_; clear hS a; intro a hS
  refine l_seq rfl (l_store (n := 4) (cs' := [.int .i64 (3), .int .u64 (s), .int .i64 (0), .slice (none) (0) (0)]) hS 1000 rfl rfl rfl rfl rfl rfl rfl rfl ?_); clear hS; intro w hK hS; clear hK
  refine q_seq hS rfl rfl rfl (y_assign hS rfl) ?_; clear hS a; intro a hS
  apply wpList_nil
  refine p_norm ?_
  apply wp_ret
  refine fin2 (fn := Try.f10) hS rfl (r_cell (kk := 1000) (n := 4) (vs := [.int .i64 (3), .int .u64 (s), .int .i64 (0), .slice (none) (0) (0)]) hS rfl rfl Try.underlying25 rfl rfl rfl rfl) (r_tmp hS rfl) ?_
  rfl

set_option maxHeartbeats 400000 in
theorem rnew_other (M : Bs) (w0 : World) (hM : ∀ b, M b → b < w0.heap.size) (p s : Int) (hp : p < 0 ∨ 3 < p) :
    Calls Try.prog 10 [.int .i64 (p), .int .u64 (s)].toArray w0 (Ret noB w0 fun v w => v = .tuple #[.agg #[.int .i64 0, .int .u64 0, .int .i64 0, .slice none 0 0], .int .i64 14]) := by
  refine enter M noB Try.func10 rfl rfl hM ?_
  intro a hS
  apply wp_seq
  apply wp_region_lit
  refine l_seq rfl (l_alloc (zs := [.int .i64 (0), .int .u64 (0), .int .i64 (0), .slice (none) (0) (0)]) hS 1000 rfl rfl rfl rfl ?_); clear hS a; intro b1 a w hb hK hS
  clear hb
  clear hK
  refine q_seq hS rfl rfl rfl (y_assign hS rfl) ?_; clear hS a; intro a hS
  apply wpList_nil
  refine p_norm ?_
  apply wp_seq
  apply wp_seq
  apply wp_region_lit
  refine q_seq hS rfl rfl rfl (y_move hS rfl) ?_; clear hS a; intro a hS
  refine q_seq hS rfl rfl rfl (y_lss hS rfl rfl) ?_; clear hS a; intro a hS
  refine q_seq hS rfl rfl rfl (y_move hS rfl) ?_; clear hS a; intro a hS
  rcases Decidable.em ((p) < (0)) with hg2 | hg2
  · have hg2e : (decide ((p) < (0))) = true := decide_eq_true hg2
    rw [hg2e] at hS
    refine g_no hS rfl rfl rfl rfl rfl rfl rfl ?_; clear hS a; intro a hS
    refine g_no hS rfl rfl rfl rfl rfl rfl rfl ?_; clear hS a; intro a hS
    refine q_seq hS rfl rfl rfl (y_pick_t hS rfl rfl) ?_; clear hS a; intro a hS
    apply wpList_nil
    refine p_norm ?_
    refine c_t hS rfl ?_
    apply wp_seq
    apply wp_region_lit
    refine q_seq hS rfl rfl rfl (y_build (parts := []) (ps := []) (cells := #[.int .i64 (0), .int .u64 (0), .int .i64 (0), .slice (none) (0) (0)]) hS rfl (by kernel_rfl)) ?_; clear hS a; intro a hS
    refine l_seq rfl (l_store (n := 4) (cs' := [.int .i64 (0), .int .u64 (0), .int .i64 (0), .slice (none) (0) (0)]) hS 1000 rfl rfl rfl rfl rfl rfl rfl rfl ?_); clear hS; intro w hK hS; clear hK
    refine q_seq hS rfl rfl rfl (y_assign hS rfl) ?_; clear hS a; intro a hS
    apply wpList_nil
    refine p_norm ?_
    apply wp_ret
    refine p_thenR ?_
    refine fin2 (fn := Try.f10) hS rfl (r_cell (kk := 1000) (n := 4) (vs := [.int .i64 (0), .int .u64 (0), .int .i64 (0), .slice (none) (0) (0)]) hS rfl rfl Try.underlying25 rfl rfl rfl rfl) (r_tmp hS rfl) ?_
    rfl
  · have hg2e : (decide ((p) < (0))) = false := decide_eq_false hg2
    rw [hg2e] at hS
    refine g_yes hS rfl rfl rfl rfl (l_quiet hS rfl rfl (y_move hS rfl) ?_); clear hS a; intro a hS
    refine g_yes hS rfl rfl rfl rfl (l_quiet hS rfl rfl (y_gtr hS rfl rfl) ?_); clear hS a; intro a hS
    refine q_seq hS rfl rfl rfl (y_pick_f hS rfl rfl) ?_; clear hS a; intro a hS
    apply wpList_nil
    refine p_norm ?_
    refine c_dec hS rfl (fun hc0 => ?_) (fun hc0 => ?_)
    · apply wp_seq
      apply wp_region_lit
      refine q_seq hS rfl rfl rfl (y_build (parts := []) (ps := []) (cells := #[.int .i64 (0), .int .u64 (0), .int .i64 (0), .slice (none) (0) (0)]) hS rfl (by kernel_rfl)) ?_; clear hS a; intro a hS
      refine l_seq rfl (l_store (n := 4) (cs' := [.int .i64 (0), .int .u64 (0), .int .i64 (0), .slice (none) (0) (0)]) hS 1000 rfl rfl rfl rfl rfl rfl rfl rfl ?_); clear hS; intro w hK hS; clear hK
      refine q_seq hS rfl rfl rfl (y_assign hS rfl) ?_; clear hS a; intro a hS
      apply wpList_nil
      refine p_norm ?_
      apply wp_ret
      refine p_thenR ?_
      refine fin2 (fn := Try.f10) hS rfl (r_cell (kk := 1000) (n := 4) (vs := [.int .i64 (0), .int .u64 (0), .int .i64 (0), .slice (none) (0) (0)]) hS rfl rfl Try.underlying25 rfl rfl rfl rfl) (r_tmp hS rfl) ?_
      rfl
    · exfalso; omega

set_option maxHeartbeats 400000 in
theorem adv_spec (M : Bs) (w0 : World) (hM : ∀ b, M b → b < w0.heap.size) (s : Int) :
    Calls Try.prog 24 [.int .u64 (s)].toArray w0 (Ret noB w0 fun v w => v = .int .u64 (adv s)) := by
  refine enter M noB Try.func24 rfl rfl hM ?_
  intro a hS
  apply wp_seq
  apply wp_region_lit
  refine q_seq hS rfl rfl rfl (y_assign hS rfl) ?_; clear hS a; intro a hS
  apply wpList_nil
  refine p_norm ?_
  apply wp_seq
  apply wp_region_lit
  refine q_seq hS rfl rfl rfl (y_move hS rfl) ?_; clear hS a; intro a hS
  refine q_seq hS rfl rfl rfl (y_wmul hS rfl rfl) ?_; clear hS a; intro a hS
  refine q_seq hS rfl rfl rfl (y_wadd hS rfl rfl) ?_; clear hS a; intro a hS
  refine q_seq hS rfl rfl rfl (y_assign hS rfl) ?_; clear hS a; intro a hS
  apply wpList_nil
  refine p_norm ?_
  apply wp_ret
  refine fin1 (fn := Try.f24) hS rfl (r_tmp hS rfl) ?_
  rfl

set_option maxHeartbeats 400000 in
theorem first_spec (M : Bs) (w0 : World) (hM : ∀ b, M b → b < w0.heap.size) (p s b : Int) (A : Option Addr) (n c : Nat) :
    Calls Try.prog 25 [.agg #[.int .i64 (p), .int .u64 (s), .int .i64 (b), .slice (A) (n) (c)]].toArray w0 (Ret noB w0 fun v w => v = .tuple #[.int .i64 0, .int .u64 s]) := by
  refine enter M noB Try.func25 rfl rfl hM ?_
  intro a hS
  apply wp_seq
  apply wp_region_lit
  refine l_seq rfl (l_box (zs := [.int .i64 (p), .int .u64 (s), .int .i64 (b), .slice (A) (n) (c)]) hS 1000 rfl rfl rfl rfl ?_); clear hS a; intro b1 a w hb hK hS
  clear hb
  clear hK
  refine q_seq hS rfl rfl rfl (y_assign hS rfl) ?_; clear hS a; intro a hS
  refine q_seq hS rfl rfl rfl (y_assign hS rfl) ?_; clear hS a; intro a hS
  apply wpList_nil
  refine p_norm ?_
  apply wp_seq
  refine d_plan hS [] [(0, some 0), (1, some 1000), (2, some 0), (3, some 0)] rfl (by kernel_rfl) (by kernel_rfl) rfl ?_; clear hS; intro wr hZ hS; have hR := hS.wd
  refine q_take hS hR rfl rfl rfl rfl (y_boxField (o' := 1) hS rfl Try.underlying25 rfl rfl rfl) ?_; clear hS a; intro a hS
  refine q_take hS hR rfl rfl rfl rfl (y_loadBox1 (kk := 1000) hS rfl rfl rfl Try.underlying22 rfl) ?_; clear hS a; intro a hS
  refine q_take hS hR rfl rfl rfl rfl (y_assign hS rfl) ?_; clear hS a; intro a hS
  refine q_take hS hR rfl rfl rfl rfl (y_assign hS rfl) ?_; clear hS a; intro a hS
  clear hR hZ
  refine p_norm ?_
  apply wp_ret
  refine fin2 (fn := Try.f25) hS rfl (r_tmp hS rfl) (r_tmp hS rfl) ?_
  rfl

set_option maxHeartbeats 400000 in
theorem last_spec (M : Bs) (w0 : World) (hM : ∀ b, M b → b < w0.heap.size) (p s b : Int) (A : Option Addr) (n c : Nat) (hn : 0 < n ∧ n ≤ 1000) :
    Calls Try.prog 26 [.agg #[.int .i64 (p), .int .u64 (s), .int .i64 (b), .slice (A) (n) (c)]].toArray w0 (Ret noB w0 fun v w => v = .tuple #[.int .i64 ((n - 1 : Nat) : Int), .int .u64 s]) := by
  refine enter M noB Try.func26 rfl rfl hM ?_
  intro a hS
  apply wp_seq
  apply wp_region_lit
  refine l_seq rfl (l_box (zs := [.int .i64 (p), .int .u64 (s), .int .i64 (b), .slice (A) (n) (c)]) hS 1000 rfl rfl rfl rfl ?_); clear hS a; intro b1 a w hb hK hS
  clear hb
  clear hK
  refine q_seq hS rfl rfl rfl (y_assign hS rfl) ?_; clear hS a; intro a hS
  refine q_seq hS rfl rfl rfl (y_assign hS rfl) ?_; clear hS a; intro a hS
  apply wpList_nil
  refine p_norm ?_
  apply wp_seq
  refine d_plan hS [] [(0, some 0), (1, some 1000), (2, some 0), (3, some 0), (4, some 0), (5, some 1000), (6, some 0), (7, some 0)] rfl (by kernel_rfl) (by kernel_rfl) rfl ?_; clear hS; intro wr hZ hS; have hR := hS.wd
  refine q_take hS hR rfl rfl rfl rfl (y_boxField (o' := 3) hS rfl Try.underlying25 rfl rfl rfl) ?_; clear hS a; intro a hS
  refine q_take hS hR rfl rfl rfl rfl (y_loadBox1 (kk := 1000) hS rfl rfl rfl Try.underlying23 rfl) ?_; clear hS a; intro a hS
  refine q_take hS hR rfl rfl rfl rfl (y_lenSlice hS rfl Try.underlying23) ?_; clear hS a; intro a hS
  refine q_take hS hR rfl rfl rfl rfl (y_sub hS rfl rfl (in64.2 (by omega))) ?_; clear hS a; intro a hS
  refine q_take hS hR rfl rfl rfl rfl (y_boxField (o' := 1) hS rfl Try.underlying25 rfl rfl rfl) ?_; clear hS a; intro a hS
  refine q_take hS hR rfl rfl rfl rfl (y_loadBox1 (kk := 1000) hS rfl rfl rfl Try.underlying22 rfl) ?_; clear hS a; intro a hS
  refine q_take hS hR rfl rfl rfl rfl (y_assign hS rfl) ?_; clear hS a; intro a hS
  refine q_take hS hR rfl rfl rfl rfl (y_assign hS rfl) ?_; clear hS a; intro a hS
  clear hR hZ
  refine p_norm ?_
  apply wp_ret
  refine fin2 (fn := Try.f26) hS rfl (r_tmp hS rfl) (r_tmp hS rfl) ?_
  rw [show ((n : Nat) : Int) - 1 = ((n - 1 : Nat) : Int) by omega]

end Go.Proofs.Ytjklnbjblncgeaa
