/- Chapter 31: the law AgendaRest, walked -/
import Derived.Test.YtjklnbjblncgeaaC3
namespace Go.Proofs.Ytjklnbjblncgeaa
open Go.Gl Go.RowKit
set_option linter.unusedVariables false
set_option linter.unusedSimpArgs false

set_option maxHeartbeats 2000000 in
theorem rests (M : Bs) (w0 : World) (hM : ∀ b, M b → b < w0.heap.size) (q s p : Int) (A : Option Addr) (m c : Nat) (ts : List Task) (hq : 0 ≤ q ∧ q ≤ 255) (hpe : q.tmod 4 = p) (hp : 0 ≤ p ∧ p ≤ 3) (hsl : SlR RT M w0 A m c ts) :
    Calls Try.prog 8 [.int .u8 (q), .int .u64 (s), .slice (A) (m) (c)].toArray w0 (Ret noB w0 fun v w => v = .bool true) := by
  refine enter M noB Try.func8 rfl rfl hM ?_
  intro a hS
  replace hS := hS.add 0 (slF RT (A) (m) (c) (ts)) (by exact Fact.change _ enterM hsl)
  apply wp_seq
  apply wp_region_lit
  refine q_seq hS rfl rfl rfl (y_assign hS rfl) ?_; clear hS a; intro a hS
  apply wpList_nil
  refine p_norm ?_
  apply wp_seq
  apply wp_seq
  apply wp_region_lit
  refine q_seq hS rfl rfl rfl (y_move hS rfl) ?_; clear hS a; intro a hS
  refine q_seq hS rfl rfl rfl (y_lenSlice hS rfl Try.underlying42) ?_; clear hS a; intro a hS
  refine q_seq hS rfl rfl rfl (y_eql hS rfl rfl) ?_; clear hS a; intro a hS
  refine q_seq hS rfl rfl rfl (y_move hS rfl) ?_; clear hS a; intro a hS
  rcases Decidable.em ((((m : Nat) : Int)) = (0)) with hg1 | hg1
  · have hg1e : (decide ((((m : Nat) : Int)) = (0))) = true := decide_eq_true hg1
    rw [hg1e] at hS
    refine g_no hS rfl rfl rfl rfl rfl rfl rfl ?_; clear hS a; intro a hS
    refine g_no hS rfl rfl rfl rfl rfl rfl rfl ?_; clear hS a; intro a hS
    refine g_no hS rfl rfl rfl rfl rfl rfl rfl ?_; clear hS a; intro a hS
    refine q_seq hS rfl rfl rfl (y_pick_t hS rfl rfl) ?_; clear hS a; intro a hS
    apply wpList_nil
    refine p_norm ?_
    refine c_t hS rfl ?_
    apply wp_seq
    apply wp_region_lit
    refine l_seq rfl (l_call (cap := []) hS rfl Try.func12 rfl (by kernel_rfl) rfl rfl (example_spec _ _ hS.lt) ?_); clear hS a; intro v2 a w hK hp hS
    clear hK
    obtain rfl := hp
    refine q_seq hS rfl rfl rfl (y_assign hS rfl) ?_; clear hS a; intro a hS
    apply wpList_nil
    refine p_norm ?_
    apply wp_ret
    refine p_thenR ?_
    refine fin1 (fn := Try.f8) hS rfl (r_tmp hS rfl) ?_
    rfl
  · have hg1e : (decide ((((m : Nat) : Int)) = (0))) = false := decide_eq_false hg1
    rw [hg1e] at hS
    refine g_yes hS rfl rfl rfl rfl (l_quiet hS rfl rfl (y_move hS rfl) ?_); clear hS a; intro a hS
    refine g_yes hS rfl rfl rfl rfl (l_quiet hS rfl rfl (y_lenSlice hS rfl Try.underlying42) ?_); clear hS a; intro a hS
    refine g_yes hS rfl rfl rfl rfl (l_quiet hS rfl rfl (y_gtr hS rfl rfl) ?_); clear hS a; intro a hS
    refine q_seq hS rfl rfl rfl (y_pick_f hS rfl rfl) ?_; clear hS a; intro a hS
    apply wpList_nil
    refine p_norm ?_
    refine c_dec hS rfl (fun hc0 => ?_) (fun hc0 => ?_)
    · apply wp_seq
      apply wp_region_lit
      refine l_seq rfl (l_call (cap := []) hS rfl Try.func12 rfl (by kernel_rfl) rfl rfl (example_spec _ _ hS.lt) ?_); clear hS a; intro v3 a w hK hp hS
      clear hK
      obtain rfl := hp
      refine q_seq hS rfl rfl rfl (y_assign hS rfl) ?_; clear hS a; intro a hS
      apply wpList_nil
      refine p_norm ?_
      apply wp_ret
      refine p_thenR ?_
      refine fin1 (fn := Try.f8) hS rfl (r_tmp hS rfl) ?_
      rfl
    · apply wp_skip
      refine p_norm ?_
      apply wp_seq
      apply wp_region_lit
      refine q_seq hS rfl rfl rfl (y_move hS rfl) ?_; clear hS a; intro a hS
      refine q_seq hS rfl rfl rfl (y_conv hS rfl Try.underlying5 Try.underlying3 (in64.2 (by omega))) ?_; clear hS a; intro a hS
      refine q_seq hS rfl rfl rfl (y_rem hS rfl rfl (by omega)) ?_; clear hS a; intro a hS
      rw [hpe] at hS
      refine q_seq hS rfl rfl rfl (y_move hS rfl) ?_; clear hS a; intro a hS
      refine l_seq rfl (l_call (cap := []) hS rfl Try.func9 rfl (by kernel_rfl) rfl rfl (new_all _ _ hS.lt _ _ hp) ?_); clear hS a; intro v4 a w hK hp hS
      clear hK
      obtain rfl := hp
      refine q_seq hS rfl rfl rfl (y_move hS rfl) ?_; clear hS a; intro a hS
      refine q_seq hS rfl rfl rfl (y_extract hS rfl rfl) ?_; clear hS a; intro a hS
      refine q_seq hS rfl rfl rfl (y_extract hS rfl rfl) ?_; clear hS a; intro a hS
      refine l_seq rfl (l_alloc (zs := [.int .i64 (0), .int .u64 (0), .int .i64 (0), .slice (none) (0) (0)]) hS 1308 rfl rfl rfl rfl ?_); clear hS a; intro b5 a w hb hK hS
      clear hb
      clear hK
      refine l_seq rfl (l_store (n := 4) (cs' := [.int .i64 (p), .int .u64 (s), .int .i64 (0), .slice (none) (0) (0)]) hS 1308 rfl rfl rfl rfl rfl rfl rfl rfl ?_); clear hS; intro w hK hS; clear hK
      refine q_seq hS rfl rfl rfl (y_assign hS rfl) ?_; clear hS a; intro a hS
      apply wpList_nil
      refine p_norm ?_
      apply wp_seq
      apply wp_seq
      apply wp_region_lit
      refine q_seq hS rfl rfl rfl (y_move hS rfl) ?_; clear hS a; intro a hS
      refine q_seq hS rfl rfl rfl (y_neq hS rfl rfl) ?_; clear hS a; intro a hS
      apply wpList_nil
      refine p_norm ?_
      refine c_f hS rfl ?_
      apply wp_skip
      refine p_norm ?_
      apply wp_seq
      apply wp_seq
      apply wp_region_lit
      refine q_seq hS rfl rfl rfl (y_move hS rfl) ?_; clear hS a; intro a hS
      refine q_seq hS rfl rfl rfl (y_lenSlice hS rfl Try.underlying42) ?_; clear hS a; intro a hS
      refine q_seq hS rfl rfl rfl (y_move hS rfl) ?_; clear hS a; intro a hS
      apply wpList_nil
      refine p_norm ?_
      apply wp_block
      replace hS := hS.add 800 (slF RQ none 0 0 (queue (ts.take 0))) (SlR.nil_ _ _ _)
      refine c_loop (σ := Nat) (fun k a w => ∃ (A1 : Option Addr), ∃ (c1 : Nat), (k ≤ m) ∧ St (⟨Try.f8.ntmps, M, noB, w0⟩ : Ctx) [(1, .int .u64 (s)), (2, .slice (A) (m) (c)), (7, .pointer (some ⟨b5, 0, none⟩)), (35, .slice (A) (m) (c)), (36, .int .i64 (((m : Nat) : Int))), (37, .int .i64 (((k : Nat) : Int)))] [(1308, Ob.box b5 [.int .i64 (p), .int .u64 (s), .int .i64 (((k : Nat) : Int)), .slice (A1) (k) (c1)] 25)] [(0, slF RT (A) (m) (c) (ts)), (800, slF RQ (A1) (k) (c1) (queue (ts.take k)))] a w) (fun k => m - k) (0) ⟨none, 0, Nat.zero_le _, (hS.sub ⟨rfl, rfl, rfl, rfl, rfl, rfl, trivial⟩ ⟨rfl, trivial⟩ ⟨rfl, rfl, trivial⟩)⟩ ?_
      clear hS a; rintro k a w ⟨A1, c1, hk, hS⟩
      apply wp_seq
      apply wp_region_lit
      refine q_seq hS rfl rfl rfl (y_lss hS rfl rfl) ?_; clear hS a; intro a hS
      apply wpList_nil
      refine p_norm ?_
      apply wp_seq
      refine c_dec hS rfl (fun hc2 => ?_) (fun hc2 => ?_)
      · apply wp_skip
        refine p_norm ?_
        apply wp_seq
        apply wp_block
        apply wp_seq
        apply wp_region_lit
        obtain ⟨x6, hx6, p6, he6, hp6⟩ := SlR.elemAt (hS.fact (k := 0) rfl) (i := k) (by omega)
        refine q_seq hS rfl rfl rfl (y_elem (sz := 4) (i := k) hS rfl rfl Try.underlying42 rfl he6 (by omega) (by omega)) ?_; clear hS a; intro a hS
        obtain ⟨hl7, hm7, cs7, hd7, hq7⟩ := hp6
        obtain ⟨rfl, -⟩ := hd7
        refine q_seq hS rfl rfl rfl (y_ldp hS rfl hl7 hm7 (by simpa using hq7) Try.underlying32 rfl rfl) ?_; clear hS a; intro a hS
        refine l_seq rfl (l_alloc (zs := [.int .i64 (0), .int .i64 (0), .int .i64 (0), .int .i64 (0)]) hS 1802 rfl rfl rfl rfl ?_); clear hS a; intro b8 a w hb hK hS
        clear hb
        clear hK
        refine l_seq rfl (l_store (n := 4) (cs' := [.int .i64 (x6.1), .int .i64 (x6.2.1), .int .i64 (x6.2.2.1), .int .i64 (x6.2.2.2)]) hS 1802 rfl rfl rfl rfl rfl rfl rfl rfl ?_); clear hS; intro w hK hS; clear hK
        apply wpList_nil
        refine p_norm ?_
        apply wp_region_lit
        refine q_seq hS rfl rfl rfl (y_loadBox (kk := 1308) (n := 4) (vs := [.int .i64 (p), .int .u64 (s), .int .i64 (((k : Nat) : Int)), .slice (A1) (k) (c1)]) hS rfl rfl Try.underlying25 rfl rfl rfl rfl) ?_; clear hS a; intro a hS
        refine q_seq hS rfl rfl rfl (y_loadBox (kk := 1802) (n := 4) (vs := [.int .i64 (x6.1), .int .i64 (x6.2.1), .int .i64 (x6.2.2.1), .int .i64 (x6.2.2.2)]) hS rfl rfl Try.underlying32 rfl rfl rfl rfl) ?_; clear hS a; intro a hS
        refine l_seq rfl (l_call (cap := []) hS rfl Try.func15 rfl (by kernel_rfl) rfl rfl (push_spec _ _ hS.lt _ _ (((k : Nat) : Int)) _ (k) _ (queue (ts.take k)) (x6.1, x6.2.1, x6.2.2.1, x6.2.2.2) (hS.fact (k := 800) rfl) (by omega) (by omega)) ?_); clear hS a; intro v10 a w hK hp hS
        clear hK
        obtain ⟨A9, c9, rfl, h9⟩ := hp
        replace hS := hS.add 101 (slF RQ (A9) (k + 1) (c9) (queue (ts.take k) ++ [((x6.1, x6.2.1, x6.2.2.1, x6.2.2.2), ((k : Nat) : Int))])) h9
        refine l_seq rfl (l_store (n := 4) (cs' := [.int .i64 (p), .int .u64 (s), .int .i64 (((k : Nat) : Int) + 1), .slice (A9) (k + 1) (c9)]) hS 1308 rfl rfl rfl rfl rfl rfl rfl rfl ?_); clear hS; intro w hK hS; clear hK
        apply wpList_nil
        refine p_inN ?_
        refine p_norm ?_
        apply wp_region_lit
        refine q_seq hS rfl rfl rfl (y_addN (i := k) (j := 1) hS rfl rfl (in64.2 (by omega))) ?_; clear hS a; intro a hS
        refine q_seq hS rfl rfl rfl (y_move hS rfl) ?_; clear hS a; intro a hS
        apply wpList_nil
        refine p_norm ?_
        rw [show ((k : Nat) : Int) + 1 = ((k + 1 : Nat) : Int) by omega] at hS
        replace hS := hS.add 800 (slF RQ (A9) (k + 1) (c9) (queue (ts.take (k + 1)))) (by rw [queue_succ hx6]; exact hS.fact (k := 101) rfl)
        exact ⟨k + 1, by omega, ⟨A9, c9, by omega, (hS.sub ⟨rfl, rfl, rfl, rfl, rfl, rfl, trivial⟩ ⟨rfl, trivial⟩ ⟨rfl, rfl, trivial⟩)⟩⟩
      · apply wp_exit
        refine p_then ?_
        refine p_then ?_
        refine p_in ?_
        refine p_norm ?_
        apply wp_seq
        obtain ⟨qs, hqs⟩ : ∃ qs, queue (ts.take k) = qs := ⟨_, rfl⟩
        rw [hqs] at hS
        have hbir : Births qs := hqs ▸ births_queue _
        have hql : qs.length = k := (hS.fact (k := 800) rfl).len
        have hkm : k = m := by omega
        apply wp_region_lit
        refine q_seq hS rfl rfl rfl (y_loadBox (kk := 1308) (n := 4) (vs := [.int .i64 (p), .int .u64 (s), .int .i64 (((k : Nat) : Int)), .slice (A1) (k) (c1)]) hS rfl rfl Try.underlying25 rfl rfl rfl rfl) ?_; clear hS a; intro a hS
        refine l_seq rfl (l_call (cap := []) hS rfl Try.func13 rfl (by kernel_rfl) rfl rfl (pop_all _ _ hS.lt _ _ _ _ _ _ (qs) hp (hS.fact (k := 800) rfl) (by omega)) ?_); clear hS a; intro v12 a w hK hp hS
        clear hK
        obtain ⟨A11, c11, x11, hx11, rfl, h11⟩ := hp
        replace hS := hS.add 102 (slF RQ (A11) (k - 1) (c11) (popRest (qs) (popIdx (p) (s) (qs)))) h11
        refine q_seq hS rfl rfl rfl (y_move hS rfl) ?_; clear hS a; intro a hS
        refine q_seq hS rfl rfl rfl (y_extract hS rfl rfl) ?_; clear hS a; intro a hS
        refine q_seq hS rfl rfl rfl (y_extract hS rfl rfl) ?_; clear hS a; intro a hS
        refine q_seq hS rfl rfl rfl (y_extract hS rfl rfl) ?_; clear hS a; intro a hS
        refine l_seq rfl (l_alloc (zs := [.int .i64 (0), .int .u64 (0), .int .i64 (0), .slice (none) (0) (0)]) hS 2106 rfl rfl rfl rfl ?_); clear hS a; intro b13 a w hb hK hS
        clear hb
        clear hK
        refine l_seq rfl (l_alloc (zs := [.int .i64 (0), .int .i64 (0), .int .i64 (0), .int .i64 (0)]) hS 2107 rfl rfl rfl rfl ?_); clear hS a; intro b14 a w hb hK hS
        clear hb
        clear hK
        refine l_seq rfl (l_store (n := 4) (cs' := [.int .i64 (p), .int .u64 (popSeed (p) (s)), .int .i64 (((k : Nat) : Int)), .slice (A11) (k - 1) (c11)]) hS 2106 rfl rfl rfl rfl rfl rfl rfl rfl ?_); clear hS; intro w hK hS; clear hK
        refine l_seq rfl (l_store (n := 4) (cs' := [.int .i64 (x11.1.1), .int .i64 (x11.1.2.1), .int .i64 (x11.1.2.2.1), .int .i64 (x11.1.2.2.2)]) hS 2107 rfl rfl rfl rfl rfl rfl rfl rfl ?_); clear hS; intro w hK hS; clear hK
        refine q_seq hS rfl rfl rfl (y_assign hS rfl) ?_; clear hS a; intro a hS
        apply wpList_nil
        refine p_norm ?_
        apply wp_seq
        apply wp_seq
        have hdl : popIdx p s qs < qs.length := popIdx_lt p s qs (by omega)
        obtain ⟨d, hd⟩ : ∃ d, popIdx p s qs = d := ⟨_, rfl⟩
        rw [hd] at hS hx11 hdl
        rcases Decidable.em (p = 3) with hp3 | hp3
        · apply wp_region_lit
          refine q_seq hS rfl rfl rfl (y_move hS rfl) ?_; clear hS a; intro a hS
          refine q_seq hS rfl rfl rfl (y_not hS rfl) ?_; clear hS a; intro a hS
          refine q_seq hS rfl rfl rfl (y_move hS rfl) ?_; clear hS a; intro a hS
          refine g_yes hS rfl rfl rfl rfl (l_quiet hS rfl rfl (y_boxField (o' := 0) hS rfl Try.underlying25 rfl rfl rfl) ?_); clear hS a; intro a hS
          refine g_yes hS rfl rfl rfl rfl (l_quiet hS rfl rfl (y_loadBox1 (kk := 2106) hS rfl rfl rfl Try.underlying3 rfl) ?_); clear hS a; intro a hS
          refine g_yes hS rfl rfl rfl rfl (l_quiet hS rfl rfl (y_boxField (o' := 0) hS rfl Try.underlying25 rfl rfl rfl) ?_); clear hS a; intro a hS
          refine g_yes hS rfl rfl rfl rfl (l_quiet hS rfl rfl (y_loadBox1 (kk := 1308) hS rfl rfl rfl Try.underlying3 rfl) ?_); clear hS a; intro a hS
          refine g_yes hS rfl rfl rfl rfl (l_quiet hS rfl rfl (y_neq hS rfl rfl) ?_); clear hS a; intro a hS
          rw [show decide ((p) ≠ (p)) = false from decide_eq_false (fun h => h rfl)] at hS
          refine q_seq hS rfl rfl rfl (y_pick_f hS rfl rfl) ?_; clear hS a; intro a hS
          refine q_seq hS rfl rfl rfl (y_move hS rfl) ?_; clear hS a; intro a hS
          refine g_yes hS rfl rfl rfl rfl (l_quiet hS rfl rfl (y_boxField (o' := 2) hS rfl Try.underlying25 rfl rfl rfl) ?_); clear hS a; intro a hS
          refine g_yes hS rfl rfl rfl rfl (l_quiet hS rfl rfl (y_loadBox1 (kk := 2106) hS rfl rfl rfl Try.underlying3 rfl) ?_); clear hS a; intro a hS
          refine g_yes hS rfl rfl rfl rfl (l_quiet hS rfl rfl (y_boxField (o' := 2) hS rfl Try.underlying25 rfl rfl rfl) ?_); clear hS a; intro a hS
          refine g_yes hS rfl rfl rfl rfl (l_quiet hS rfl rfl (y_loadBox1 (kk := 1308) hS rfl rfl rfl Try.underlying3 rfl) ?_); clear hS a; intro a hS
          refine g_yes hS rfl rfl rfl rfl (l_quiet hS rfl rfl (y_neq hS rfl rfl) ?_); clear hS a; intro a hS
          rw [show decide ((((k : Nat) : Int)) ≠ (((k : Nat) : Int))) = false from decide_eq_false (fun h => h rfl)] at hS
          refine q_seq hS rfl rfl rfl (y_pick_f hS rfl rfl) ?_; clear hS a; intro a hS
          refine q_seq hS rfl rfl rfl (y_move hS rfl) ?_; clear hS a; intro a hS
          refine g_yes hS rfl rfl rfl rfl (l_quiet hS rfl rfl (y_boxField (o' := 0) hS rfl Try.underlying25 rfl rfl rfl) ?_); clear hS a; intro a hS
          refine g_yes hS rfl rfl rfl rfl (l_quiet hS rfl rfl (y_loadBox1 (kk := 1308) hS rfl rfl rfl Try.underlying3 rfl) ?_); clear hS a; intro a hS
          refine g_yes hS rfl rfl rfl rfl (l_quiet hS rfl rfl (y_neq hS rfl rfl) ?_); clear hS a; intro a hS
          rw [show decide ((p) ≠ (3)) = false from decide_eq_false (fun h => h hp3)] at hS
          refine g_yes hS rfl rfl rfl rfl (l_quiet hS rfl rfl (y_move hS rfl) ?_); clear hS a; intro a hS
          refine g_no hS rfl rfl rfl rfl rfl rfl rfl ?_; clear hS a; intro a hS
          refine g_no hS rfl rfl rfl rfl rfl rfl rfl ?_; clear hS a; intro a hS
          refine g_no hS rfl rfl rfl rfl rfl rfl rfl ?_; clear hS a; intro a hS
          refine g_no hS rfl rfl rfl rfl rfl rfl rfl ?_; clear hS a; intro a hS
          refine g_yes hS rfl rfl rfl rfl (l_quiet hS rfl rfl (y_pick_f hS rfl rfl) ?_); clear hS a; intro a hS
          refine q_seq hS rfl rfl rfl (y_pick_f hS rfl rfl) ?_; clear hS a; intro a hS
          refine q_seq hS rfl rfl rfl (y_move hS rfl) ?_; clear hS a; intro a hS
          refine g_yes hS rfl rfl rfl rfl (l_quiet hS rfl rfl (y_boxField (o' := 1) hS rfl Try.underlying25 rfl rfl rfl) ?_); clear hS a; intro a hS
          refine g_yes hS rfl rfl rfl rfl (l_quiet hS rfl rfl (y_loadBox1 (kk := 1308) hS rfl rfl rfl Try.underlying22 rfl) ?_); clear hS a; intro a hS
          refine g_yes hS rfl rfl rfl rfl (l_quiet hS rfl rfl (y_move hS rfl) ?_); clear hS a; intro a hS
          refine g_yes hS rfl rfl rfl rfl (l_quiet hS rfl rfl (y_neq hS rfl rfl) ?_); clear hS a; intro a hS
          rw [show decide ((s) ≠ (s)) = false from decide_eq_false (fun h => h rfl)] at hS
          refine q_seq hS rfl rfl rfl (y_pick_f hS rfl rfl) ?_; clear hS a; intro a hS
          refine q_seq hS rfl rfl rfl (y_move hS rfl) ?_; clear hS a; intro a hS
          refine g_yes hS rfl rfl rfl rfl (l_quiet hS rfl rfl (y_boxField (o' := 3) hS rfl Try.underlying25 rfl rfl rfl) ?_); clear hS a; intro a hS
          refine g_yes hS rfl rfl rfl rfl (l_quiet hS rfl rfl (y_loadBox1 (kk := 1308) hS rfl rfl rfl Try.underlying23 rfl) ?_); clear hS a; intro a hS
          refine g_yes hS rfl rfl rfl rfl (l_quiet hS rfl rfl (y_lenSlice hS rfl Try.underlying23) ?_); clear hS a; intro a hS
          refine g_yes hS rfl rfl rfl rfl (l_quiet hS rfl rfl (y_move hS rfl) ?_); clear hS a; intro a hS
          refine g_yes hS rfl rfl rfl rfl (l_quiet hS rfl rfl (y_lenSlice hS rfl Try.underlying42) ?_); clear hS a; intro a hS
          refine g_yes hS rfl rfl rfl rfl (l_quiet hS rfl rfl (y_neq hS rfl rfl) ?_); clear hS a; intro a hS
          rw [show decide ((((k : Nat) : Int)) ≠ (((m : Nat) : Int))) = false from decide_eq_false (by omega)] at hS
          refine q_seq hS rfl rfl rfl (y_pick_f hS rfl rfl) ?_; clear hS a; intro a hS
          refine q_seq hS rfl rfl rfl (y_move hS rfl) ?_; clear hS a; intro a hS
          refine g_yes hS rfl rfl rfl rfl (l_quiet hS rfl rfl (y_boxField (o' := 3) hS rfl Try.underlying25 rfl rfl rfl) ?_); clear hS a; intro a hS
          refine g_yes hS rfl rfl rfl rfl (l_quiet hS rfl rfl (y_loadBox1 (kk := 2106) hS rfl rfl rfl Try.underlying23 rfl) ?_); clear hS a; intro a hS
          refine g_yes hS rfl rfl rfl rfl (l_quiet hS rfl rfl (y_lenSlice hS rfl Try.underlying23) ?_); clear hS a; intro a hS
          refine g_yes hS rfl rfl rfl rfl (l_quiet hS rfl rfl (y_move hS rfl) ?_); clear hS a; intro a hS
          refine g_yes hS rfl rfl rfl rfl (l_quiet hS rfl rfl (y_lenSlice hS rfl Try.underlying42) ?_); clear hS a; intro a hS
          refine g_yes hS rfl rfl rfl rfl (l_quiet hS rfl rfl (y_sub hS rfl rfl (in64.2 (by omega))) ?_); clear hS a; intro a hS
          refine g_yes hS rfl rfl rfl rfl (l_quiet hS rfl rfl (y_neq hS rfl rfl) ?_); clear hS a; intro a hS
          rw [show decide ((((k - 1 : Nat) : Int)) ≠ (((m : Nat) : Int) - 1)) = false from decide_eq_false (by omega)] at hS
          refine q_seq hS rfl rfl rfl (y_pick_f hS rfl rfl) ?_; clear hS a; intro a hS
          apply wpList_nil
          refine p_norm ?_
          refine c_f hS rfl ?_
          apply wp_skip
          refine p_norm ?_
          apply wp_seq
          apply wp_region_lit
          refine q_seq hS rfl rfl rfl (y_assign hS rfl) ?_; clear hS a; intro a hS
          apply wpList_nil
          refine p_norm ?_
          refine c_cut (fun a w => St (⟨Try.f8.ntmps, M, noB, w0⟩ : Ctx) [(7, .pointer (some ⟨b5, 0, none⟩)), (11, .pointer (some ⟨b13, 0, none⟩)), (12, .pointer (some ⟨b14, 0, none⟩)), (14, .int .i64 (((d : Nat) : Int)))] [(1308, Ob.box b5 [.int .i64 (p), .int .u64 (s), .int .i64 (((k : Nat) : Int)), .slice (A1) (k) (c1)] 25), (2106, Ob.box b13 [.int .i64 (p), .int .u64 (popSeed (p) (s)), .int .i64 (((k : Nat) : Int)), .slice (A11) (k - 1) (c11)] 25), (2107, Ob.box b14 [.int .i64 (x11.1.1), .int .i64 (x11.1.2.1), .int .i64 (x11.1.2.2.1), .int .i64 (x11.1.2.2.2)] 32)] [(0, slF RT (A) (m) (c) (ts)), (102, slF RQ (A11) (k - 1) (c11) (popRest qs d)), (800, slF RQ (A1) (k) (c1) (qs))] a w) ?_ ?_
          · apply wp_block
            refine c_loop (σ := Nat) (fun i a w => (i ≤ d) ∧ St (⟨Try.f8.ntmps, M, noB, w0⟩ : Ctx) [(7, .pointer (some ⟨b5, 0, none⟩)), (11, .pointer (some ⟨b13, 0, none⟩)), (12, .pointer (some ⟨b14, 0, none⟩)), (14, .int .i64 (((i : Nat) : Int)))] [(1308, Ob.box b5 [.int .i64 (p), .int .u64 (s), .int .i64 (((k : Nat) : Int)), .slice (A1) (k) (c1)] 25), (2106, Ob.box b13 [.int .i64 (p), .int .u64 (popSeed (p) (s)), .int .i64 (((k : Nat) : Int)), .slice (A11) (k - 1) (c11)] 25), (2107, Ob.box b14 [.int .i64 (x11.1.1), .int .i64 (x11.1.2.1), .int .i64 (x11.1.2.2.1), .int .i64 (x11.1.2.2.2)] 32)] [(0, slF RT (A) (m) (c) (ts)), (102, slF RQ (A11) (k - 1) (c11) (popRest qs d)), (800, slF RQ (A1) (k) (c1) (qs))] a w) (fun i => k - i) (0) ⟨Nat.zero_le _, (hS.sub ⟨rfl, rfl, rfl, rfl, trivial⟩ ⟨rfl, rfl, rfl, trivial⟩ ⟨rfl, rfl, rfl, trivial⟩)⟩ ?_
            clear hS a; rintro i a w ⟨hi, hS⟩
            apply wp_seq
            apply wp_seq
            refine d_plan hS [] [(0, some 0), (1, some 0), (2, some 2106), (3, some 0), (4, some 0), (5, some 0), (6, some 0), (7, some 2106), (8, some 0), (9, some 0), (10, some 0), (11, some 0), (12, some 1308), (13, some 0), (14, some 0), (15, some 0), (16, some 0), (17, some 0)] rfl (by kernel_rfl) (by kernel_rfl) rfl ?_; clear hS; intro wr hZ hS; have hR := hS.wd
            refine q_take hS hR rfl rfl rfl rfl (y_move hS rfl) ?_; clear hS a; intro a hS
            refine q_take hS hR rfl rfl rfl rfl (y_boxField (o' := 3) hS rfl Try.underlying25 rfl rfl rfl) ?_; clear hS a; intro a hS
            refine q_take hS hR rfl rfl rfl rfl (y_loadBox1 (kk := 2106) hS rfl rfl rfl Try.underlying23 rfl) ?_; clear hS a; intro a hS
            refine q_take hS hR rfl rfl rfl rfl (y_lenSlice hS rfl Try.underlying23) ?_; clear hS a; intro a hS
            refine q_take hS hR rfl rfl rfl rfl (y_lss hS rfl rfl) ?_; clear hS a; intro a hS
            refine q_take hS hR rfl rfl rfl rfl (y_move hS rfl) ?_; clear hS a; intro a hS
            rcases Decidable.em ((((i : Nat) : Int)) < (((k - 1 : Nat) : Int))) with hg15 | hg15
            · have hg15e : (decide ((((i : Nat) : Int)) < (((k - 1 : Nat) : Int)))) = true := decide_eq_true hg15
              rw [hg15e] at hS
              refine q_take hS hR rfl rfl ⟨_, _, _, rfl, rfl, rfl, rfl⟩ rfl (y_boxField (o' := 3) hS rfl Try.underlying25 rfl rfl rfl) ?_; clear hS a; intro a hS
              refine q_take hS hR rfl rfl ⟨_, _, _, rfl, rfl, rfl, rfl⟩ rfl (y_loadBox1 (kk := 2106) hS rfl rfl rfl Try.underlying23 rfl) ?_; clear hS a; intro a hS
              refine q_take hS hR rfl rfl ⟨_, _, _, rfl, rfl, rfl, rfl⟩ rfl (y_move hS rfl) ?_; clear hS a; intro a hS
              obtain ⟨x16, hx16, p16, he16, hp16⟩ := SlR.elemAt (hS.fact (k := 102) rfl) (i := i) (by omega)
              refine q_take hS hR rfl rfl ⟨_, _, _, rfl, rfl, rfl, rfl⟩ rfl (y_elem (sz := 5) (i := i) hS rfl rfl Try.underlying23 rfl he16 (by omega) (by omega)) ?_; clear hS a; intro a hS
              obtain ⟨hl17, hm17, cs17, hd17, hq17⟩ := hp16
              obtain ⟨rfl, -⟩ := hd17
              refine q_take hS hR rfl rfl ⟨_, _, _, rfl, rfl, rfl, rfl⟩ rfl (y_ldp hS rfl hl17 hm17 (by simpa using hq17) Try.underlying45 rfl rfl) ?_; clear hS a; intro a hS
              refine q_take hS hR rfl rfl ⟨_, _, _, rfl, rfl, rfl, rfl⟩ rfl (y_boxField (o' := 3) hS rfl Try.underlying25 rfl rfl rfl) ?_; clear hS a; intro a hS
              refine q_take hS hR rfl rfl ⟨_, _, _, rfl, rfl, rfl, rfl⟩ rfl (y_loadBox1 (kk := 1308) hS rfl rfl rfl Try.underlying23 rfl) ?_; clear hS a; intro a hS
              refine q_take hS hR rfl rfl ⟨_, _, _, rfl, rfl, rfl, rfl⟩ rfl (y_move hS rfl) ?_; clear hS a; intro a hS
              obtain ⟨x18, hx18, p18, he18, hp18⟩ := SlR.elemAt (hS.fact (k := 800) rfl) (i := i) (by omega)
              refine q_take hS hR rfl rfl ⟨_, _, _, rfl, rfl, rfl, rfl⟩ rfl (y_elem (sz := 5) (i := i) hS rfl rfl Try.underlying23 rfl he18 (by omega) (by omega)) ?_; clear hS a; intro a hS
              obtain ⟨hl19, hm19, cs19, hd19, hq19⟩ := hp18
              obtain ⟨rfl, -⟩ := hd19
              refine q_take hS hR rfl rfl ⟨_, _, _, rfl, rfl, rfl, rfl⟩ rfl (y_ldp hS rfl hl19 hm19 (by simpa using hq19) Try.underlying45 rfl rfl) ?_; clear hS a; intro a hS
              refine q_take hS hR rfl rfl ⟨_, _, _, rfl, rfl, rfl, rfl⟩ rfl (y_eqlS hS rfl rfl (by kernel_rfl) (fun w' => eq45 9997 _ _ _ _ _ _ _ _ _ _ w')) ?_; clear hS a; intro a hS
              refine q_take hS hR rfl rfl rfl rfl (y_pick_t hS rfl rfl) ?_; clear hS a; intro a hS
              clear hR hZ
              refine p_norm ?_
              refine c_dec hS rfl (fun hc4 => ?_) (fun hc4 => ?_)
              · apply wp_skip
                refine p_norm ?_
                apply wp_block
                apply wp_region_lit
                refine q_seq hS rfl rfl rfl (y_move hS rfl) ?_; clear hS a; intro a hS
                refine q_seq hS rfl rfl rfl (y_addN (i := i) (j := 1) hS rfl rfl (in64.2 (by omega))) ?_; clear hS a; intro a hS
                refine q_seq hS rfl rfl rfl (y_assign hS rfl) ?_; clear hS a; intro a hS
                apply wpList_nil
                refine p_inN ?_
                refine p_norm ?_
                exact ⟨i + 1, by omega, ⟨rest_lt hbir hx16 hx18 hc4 hi hdl, (hS.sub ⟨rfl, rfl, rfl, rfl, trivial⟩ ⟨rfl, rfl, rfl, trivial⟩ ⟨rfl, rfl, rfl, trivial⟩)⟩⟩
              · apply wp_exit
                refine p_then ?_
                refine p_then ?_
                refine p_in ?_
                refine p_norm ?_
                rw [show i = d from by first | omega | exact rest_ne hx16 hx18 hc4 hi hdl] at hS
                exact (hS.sub ⟨rfl, rfl, rfl, rfl, trivial⟩ ⟨rfl, rfl, rfl, trivial⟩ ⟨rfl, rfl, rfl, trivial⟩)
            · have hg15e : (decide ((((i : Nat) : Int)) < (((k - 1 : Nat) : Int)))) = false := decide_eq_false hg15
              rw [hg15e] at hS
              refine q_pass hS hR rfl rfl ⟨_, _, _, rfl, rfl, rfl, rfl⟩ rfl ?_; clear hS a; intro a hS
              refine q_pass hS hR rfl rfl ⟨_, _, _, rfl, rfl, rfl, rfl⟩ rfl ?_; clear hS a; intro a hS
              refine q_pass hS hR rfl rfl ⟨_, _, _, rfl, rfl, rfl, rfl⟩ rfl ?_; clear hS a; intro a hS
              refine q_pass hS hR rfl rfl ⟨_, _, _, rfl, rfl, rfl, rfl⟩ rfl ?_; clear hS a; intro a hS
              refine q_pass hS hR rfl rfl ⟨_, _, _, rfl, rfl, rfl, rfl⟩ rfl ?_; clear hS a; intro a hS
              refine q_pass hS hR rfl rfl ⟨_, _, _, rfl, rfl, rfl, rfl⟩ rfl ?_; clear hS a; intro a hS
              refine q_pass hS hR rfl rfl ⟨_, _, _, rfl, rfl, rfl, rfl⟩ rfl ?_; clear hS a; intro a hS
              refine q_pass hS hR rfl rfl ⟨_, _, _, rfl, rfl, rfl, rfl⟩ rfl ?_; clear hS a; intro a hS
              refine q_pass hS hR rfl rfl ⟨_, _, _, rfl, rfl, rfl, rfl⟩ rfl ?_; clear hS a; intro a hS
              refine q_pass hS hR rfl rfl ⟨_, _, _, rfl, rfl, rfl, rfl⟩ rfl ?_; clear hS a; intro a hS
              refine q_pass hS hR rfl rfl ⟨_, _, _, rfl, rfl, rfl, rfl⟩ rfl ?_; clear hS a; intro a hS
              refine q_take hS hR rfl rfl rfl rfl (y_pick_f hS rfl rfl) ?_; clear hS a; intro a hS
              clear hR hZ
              refine p_norm ?_
              refine c_f hS rfl ?_
              apply wp_exit
              refine p_then ?_
              refine p_then ?_
              refine p_in ?_
              refine p_norm ?_
              rw [show i = d from by first | omega | exact rest_ne hx16 hx18 hc4 hi hdl] at hS
              exact (hS.sub ⟨rfl, rfl, rfl, rfl, trivial⟩ ⟨rfl, rfl, rfl, trivial⟩ ⟨rfl, rfl, rfl, trivial⟩)
          clear hS a; rintro a w hS
          apply wp_seq
          apply wp_seq
          refine d_plan hS [] [(0, some 0), (1, some 1308), (2, some 0), (3, some 0), (4, some 0), (5, some 0), (6, some 2107), (7, some 0)] rfl (by kernel_rfl) (by kernel_rfl) rfl ?_; clear hS; intro wr hZ hS; have hR := hS.wd
          refine q_take hS hR rfl rfl rfl rfl (y_boxField (o' := 3) hS rfl Try.underlying25 rfl rfl rfl) ?_; clear hS a; intro a hS
          refine q_take hS hR rfl rfl rfl rfl (y_loadBox1 (kk := 1308) hS rfl rfl rfl Try.underlying23 rfl) ?_; clear hS a; intro a hS
          refine q_take hS hR rfl rfl rfl rfl (y_move hS rfl) ?_; clear hS a; intro a hS
          obtain ⟨x20, hx20, p20, he20, hp20⟩ := SlR.elemAt (hS.fact (k := 800) rfl) (i := d) (by omega)
          refine q_take hS hR rfl rfl rfl rfl (y_elem (sz := 5) (i := d) hS rfl rfl Try.underlying23 rfl he20 (by omega) (by omega)) ?_; clear hS a; intro a hS
          refine q_take hS hR rfl rfl rfl rfl (y_ptrField (o' := 0) hS rfl Try.underlying45 rfl rfl rfl) ?_; clear hS a; intro a hS
          obtain ⟨hl21, hm21, cs21, hd21, hq21⟩ := hp20
          obtain ⟨rfl, -⟩ := hd21
          refine q_take hS hR rfl rfl rfl rfl (y_ldp (cs := [.int .i64 (x20.1.1), .int .i64 (x20.1.2.1), .int .i64 (x20.1.2.2.1), .int .i64 (x20.1.2.2.2)]) hS rfl hl21 hm21 (fun j v hj => hq21 (0 + j) v (by rcases j with _ | (_ | (_ | (_ | _))) <;> first | exact hj | cases hj)) Try.underlying32 rfl rfl) ?_; clear hS a; intro a hS
          refine q_take hS hR rfl rfl rfl rfl (y_loadBox (kk := 2107) (n := 4) (vs := [.int .i64 (x11.1.1), .int .i64 (x11.1.2.1), .int .i64 (x11.1.2.2.1), .int .i64 (x11.1.2.2.2)]) hS rfl rfl Try.underlying32 rfl rfl rfl rfl) ?_; clear hS a; intro a hS
          obtain rfl : x11 = x20 := Option.some.inj (hx11.symm.trans hx20)
          refine q_take hS hR rfl rfl rfl rfl (y_neqS hS rfl rfl (by kernel_rfl) (fun w' => eq32 9998 _ _ _ _ _ _ _ _ w')) ?_; clear hS a; intro a hS
          rw [show decide (((x11.1.1, x11.1.2.1, x11.1.2.2.1, x11.1.2.2.2) : Task) = (x11.1.1, x11.1.2.1, x11.1.2.2.1, x11.1.2.2.2)) = true from decide_eq_true rfl] at hS
          clear hR hZ
          refine p_norm ?_
          refine c_f hS rfl ?_
          apply wp_skip
          refine p_norm ?_
          apply wp_seq
          apply wp_seq
          apply wp_region_lit
          refine q_seq hS rfl rfl rfl (y_move hS rfl) ?_; clear hS a; intro a hS
          refine q_seq hS rfl rfl rfl (y_assign hS rfl) ?_; clear hS a; intro a hS
          apply wpList_nil
          refine p_norm ?_
          apply wp_block
          refine c_loop (σ := Nat) (fun j a w => (d ≤ j ∧ j ≤ k - 1) ∧ St (⟨Try.f8.ntmps, M, noB, w0⟩ : Ctx) [(7, .pointer (some ⟨b5, 0, none⟩)), (11, .pointer (some ⟨b13, 0, none⟩)), (15, .int .i64 (((j : Nat) : Int)))] [(1308, Ob.box b5 [.int .i64 (p), .int .u64 (s), .int .i64 (((k : Nat) : Int)), .slice (A1) (k) (c1)] 25), (2106, Ob.box b13 [.int .i64 (p), .int .u64 (popSeed (p) (s)), .int .i64 (((k : Nat) : Int)), .slice (A11) (k - 1) (c11)] 25), (2107, Ob.box b14 [.int .i64 (x11.1.1), .int .i64 (x11.1.2.1), .int .i64 (x11.1.2.2.1), .int .i64 (x11.1.2.2.2)] 32)] [(0, slF RT (A) (m) (c) (ts)), (102, slF RQ (A11) (k - 1) (c11) (popRest qs d)), (800, slF RQ (A1) (k) (c1) (qs))] a w) (fun j => k - j) (d) ⟨by omega, (hS.sub ⟨rfl, rfl, rfl, trivial⟩ ⟨rfl, rfl, rfl, trivial⟩ ⟨rfl, rfl, rfl, trivial⟩)⟩ ?_
          clear hS a; rintro j a w ⟨hj, hS⟩
          apply wp_seq
          apply wp_seq
          apply wp_region_lit
          refine q_seq hS rfl rfl rfl (y_move hS rfl) ?_; clear hS a; intro a hS
          refine q_seq hS rfl rfl rfl (y_boxField (o' := 3) hS rfl Try.underlying25 rfl rfl rfl) ?_; clear hS a; intro a hS
          refine q_seq hS rfl rfl rfl (y_loadBox1 (kk := 2106) hS rfl rfl rfl Try.underlying23 rfl) ?_; clear hS a; intro a hS
          refine q_seq hS rfl rfl rfl (y_lenSlice hS rfl Try.underlying23) ?_; clear hS a; intro a hS
          refine q_seq hS rfl rfl rfl (y_lss hS rfl rfl) ?_; clear hS a; intro a hS
          apply wpList_nil
          refine p_norm ?_
          refine c_dec hS rfl (fun hc6 => ?_) (fun hc6 => ?_)
          · apply wp_skip
            refine p_norm ?_
            apply wp_seq
            apply wp_block
            apply wp_seq
            refine d_plan hS [] [(0, some 0), (1, some 2106), (2, some 0), (3, some 0), (4, some 0), (5, some 0), (6, some 1308), (7, some 0), (8, some 0), (9, some 0), (10, some 0), (11, some 0)] rfl (by kernel_rfl) (by kernel_rfl) rfl ?_; clear hS; intro wr hZ hS; have hR := hS.wd
            refine q_take hS hR rfl rfl rfl rfl (y_boxField (o' := 3) hS rfl Try.underlying25 rfl rfl rfl) ?_; clear hS a; intro a hS
            refine q_take hS hR rfl rfl rfl rfl (y_loadBox1 (kk := 2106) hS rfl rfl rfl Try.underlying23 rfl) ?_; clear hS a; intro a hS
            refine q_take hS hR rfl rfl rfl rfl (y_move hS rfl) ?_; clear hS a; intro a hS
            obtain ⟨x22, hx22, p22, he22, hp22⟩ := SlR.elemAt (hS.fact (k := 102) rfl) (i := j) (by omega)
            refine q_take hS hR rfl rfl rfl rfl (y_elem (sz := 5) (i := j) hS rfl rfl Try.underlying23 rfl he22 (by omega) (by omega)) ?_; clear hS a; intro a hS
            obtain ⟨hl23, hm23, cs23, hd23, hq23⟩ := hp22
            obtain ⟨rfl, -⟩ := hd23
            refine q_take hS hR rfl rfl rfl rfl (y_ldp hS rfl hl23 hm23 (by simpa using hq23) Try.underlying45 rfl rfl) ?_; clear hS a; intro a hS
            refine q_take hS hR rfl rfl rfl rfl (y_boxField (o' := 3) hS rfl Try.underlying25 rfl rfl rfl) ?_; clear hS a; intro a hS
            refine q_take hS hR rfl rfl rfl rfl (y_loadBox1 (kk := 1308) hS rfl rfl rfl Try.underlying23 rfl) ?_; clear hS a; intro a hS
            refine q_take hS hR rfl rfl rfl rfl (y_move hS rfl) ?_; clear hS a; intro a hS
            refine q_take hS hR rfl rfl rfl rfl (y_addN (i := j) (j := 1) hS rfl rfl (in64.2 (by omega))) ?_; clear hS a; intro a hS
            obtain ⟨x24, hx24, p24, he24, hp24⟩ := SlR.elemAt (hS.fact (k := 800) rfl) (i := j + 1) (by omega)
            refine q_take hS hR rfl rfl rfl rfl (y_elem (sz := 5) (i := j + 1) hS rfl rfl Try.underlying23 rfl he24 (by omega) (by omega)) ?_; clear hS a; intro a hS
            obtain ⟨hl25, hm25, cs25, hd25, hq25⟩ := hp24
            obtain ⟨rfl, -⟩ := hd25
            refine q_take hS hR rfl rfl rfl rfl (y_ldp hS rfl hl25 hm25 (by simpa using hq25) Try.underlying45 rfl rfl) ?_; clear hS a; intro a hS
            obtain rfl : x22 = x24 := rest_above hj.1 hdl hx22 hx24
            refine q_take hS hR rfl rfl rfl rfl (y_neqS hS rfl rfl (by kernel_rfl) (fun w' => eq45 9997 _ _ _ _ _ _ _ _ _ _ w')) ?_; clear hS a; intro a hS
            rw [show decide ((((x22.1.1, x22.1.2.1, x22.1.2.2.1, x22.1.2.2.2), x22.2) : Queued) = ((x22.1.1, x22.1.2.1, x22.1.2.2.1, x22.1.2.2.2), x22.2)) = true from decide_eq_true rfl] at hS
            clear hR hZ
            refine p_norm ?_
            refine c_f hS rfl ?_
            apply wp_skip
            refine p_inN ?_
            refine p_norm ?_
            apply wp_region_lit
            refine q_seq hS rfl rfl rfl (y_move hS rfl) ?_; clear hS a; intro a hS
            refine q_seq hS rfl rfl rfl (y_addN (i := j) (j := 1) hS rfl rfl (in64.2 (by omega))) ?_; clear hS a; intro a hS
            refine q_seq hS rfl rfl rfl (y_assign hS rfl) ?_; clear hS a; intro a hS
            apply wpList_nil
            refine p_norm ?_
            exact ⟨j + 1, by omega, ⟨by omega, (hS.sub ⟨rfl, rfl, rfl, trivial⟩ ⟨rfl, rfl, rfl, trivial⟩ ⟨rfl, rfl, rfl, trivial⟩)⟩⟩
          · apply wp_exit
            refine p_then ?_
            refine p_then ?_
            refine p_in ?_
            refine p_norm ?_
            apply wp_seq
            apply wp_region_lit
            refine l_seq rfl (l_call (cap := []) hS rfl Try.func12 rfl (by kernel_rfl) rfl rfl (example_spec _ _ hS.lt) ?_); clear hS a; intro v26 a w hK hp hS
            clear hK
            obtain rfl := hp
            refine q_seq hS rfl rfl rfl (y_assign hS rfl) ?_; clear hS a; intro a hS
            apply wpList_nil
            refine p_norm ?_
            apply wp_ret
            refine fin1 (fn := Try.f8) hS rfl (r_tmp hS rfl) ?_
            rfl
        · apply wp_region_lit
          refine q_seq hS rfl rfl rfl (y_move hS rfl) ?_; clear hS a; intro a hS
          refine q_seq hS rfl rfl rfl (y_not hS rfl) ?_; clear hS a; intro a hS
          refine q_seq hS rfl rfl rfl (y_move hS rfl) ?_; clear hS a; intro a hS
          refine g_yes hS rfl rfl rfl rfl (l_quiet hS rfl rfl (y_boxField (o' := 0) hS rfl Try.underlying25 rfl rfl rfl) ?_); clear hS a; intro a hS
          refine g_yes hS rfl rfl rfl rfl (l_quiet hS rfl rfl (y_loadBox1 (kk := 2106) hS rfl rfl rfl Try.underlying3 rfl) ?_); clear hS a; intro a hS
          refine g_yes hS rfl rfl rfl rfl (l_quiet hS rfl rfl (y_boxField (o' := 0) hS rfl Try.underlying25 rfl rfl rfl) ?_); clear hS a; intro a hS
          refine g_yes hS rfl rfl rfl rfl (l_quiet hS rfl rfl (y_loadBox1 (kk := 1308) hS rfl rfl rfl Try.underlying3 rfl) ?_); clear hS a; intro a hS
          refine g_yes hS rfl rfl rfl rfl (l_quiet hS rfl rfl (y_neq hS rfl rfl) ?_); clear hS a; intro a hS
          rw [show decide ((p) ≠ (p)) = false from decide_eq_false (fun h => h rfl)] at hS
          refine q_seq hS rfl rfl rfl (y_pick_f hS rfl rfl) ?_; clear hS a; intro a hS
          refine q_seq hS rfl rfl rfl (y_move hS rfl) ?_; clear hS a; intro a hS
          refine g_yes hS rfl rfl rfl rfl (l_quiet hS rfl rfl (y_boxField (o' := 2) hS rfl Try.underlying25 rfl rfl rfl) ?_); clear hS a; intro a hS
          refine g_yes hS rfl rfl rfl rfl (l_quiet hS rfl rfl (y_loadBox1 (kk := 2106) hS rfl rfl rfl Try.underlying3 rfl) ?_); clear hS a; intro a hS
          refine g_yes hS rfl rfl rfl rfl (l_quiet hS rfl rfl (y_boxField (o' := 2) hS rfl Try.underlying25 rfl rfl rfl) ?_); clear hS a; intro a hS
          refine g_yes hS rfl rfl rfl rfl (l_quiet hS rfl rfl (y_loadBox1 (kk := 1308) hS rfl rfl rfl Try.underlying3 rfl) ?_); clear hS a; intro a hS
          refine g_yes hS rfl rfl rfl rfl (l_quiet hS rfl rfl (y_neq hS rfl rfl) ?_); clear hS a; intro a hS
          rw [show decide ((((k : Nat) : Int)) ≠ (((k : Nat) : Int))) = false from decide_eq_false (fun h => h rfl)] at hS
          refine q_seq hS rfl rfl rfl (y_pick_f hS rfl rfl) ?_; clear hS a; intro a hS
          refine q_seq hS rfl rfl rfl (y_move hS rfl) ?_; clear hS a; intro a hS
          refine g_yes hS rfl rfl rfl rfl (l_quiet hS rfl rfl (y_boxField (o' := 0) hS rfl Try.underlying25 rfl rfl rfl) ?_); clear hS a; intro a hS
          refine g_yes hS rfl rfl rfl rfl (l_quiet hS rfl rfl (y_loadBox1 (kk := 1308) hS rfl rfl rfl Try.underlying3 rfl) ?_); clear hS a; intro a hS
          refine g_yes hS rfl rfl rfl rfl (l_quiet hS rfl rfl (y_neq hS rfl rfl) ?_); clear hS a; intro a hS
          rw [show decide ((p) ≠ (3)) = true from decide_eq_true (hp3)] at hS
          refine g_yes hS rfl rfl rfl rfl (l_quiet hS rfl rfl (y_move hS rfl) ?_); clear hS a; intro a hS
          refine g_yes hS rfl rfl rfl rfl (l_quiet hS rfl rfl (y_boxField (o' := 1) hS rfl Try.underlying25 rfl rfl rfl) ?_); clear hS a; intro a hS
          refine g_yes hS rfl rfl rfl rfl (l_quiet hS rfl rfl (y_loadBox1 (kk := 2106) hS rfl rfl rfl Try.underlying22 rfl) ?_); clear hS a; intro a hS
          refine g_yes hS rfl rfl rfl rfl (l_quiet hS rfl rfl (y_move hS rfl) ?_); clear hS a; intro a hS
          refine g_yes hS rfl rfl rfl rfl (l_quiet hS rfl rfl (y_neq hS rfl rfl) ?_); clear hS a; intro a hS
          rw [show decide ((popSeed (p) (s)) ≠ (s)) = false from decide_eq_false (fun h => h (if_neg hp3))] at hS
          refine g_yes hS rfl rfl rfl rfl (l_quiet hS rfl rfl (y_pick_t hS rfl rfl) ?_); clear hS a; intro a hS
          refine q_seq hS rfl rfl rfl (y_pick_f hS rfl rfl) ?_; clear hS a; intro a hS
          refine q_seq hS rfl rfl rfl (y_move hS rfl) ?_; clear hS a; intro a hS
          refine g_yes hS rfl rfl rfl rfl (l_quiet hS rfl rfl (y_boxField (o' := 1) hS rfl Try.underlying25 rfl rfl rfl) ?_); clear hS a; intro a hS
          refine g_yes hS rfl rfl rfl rfl (l_quiet hS rfl rfl (y_loadBox1 (kk := 1308) hS rfl rfl rfl Try.underlying22 rfl) ?_); clear hS a; intro a hS
          refine g_yes hS rfl rfl rfl rfl (l_quiet hS rfl rfl (y_move hS rfl) ?_); clear hS a; intro a hS
          refine g_yes hS rfl rfl rfl rfl (l_quiet hS rfl rfl (y_neq hS rfl rfl) ?_); clear hS a; intro a hS
          rw [show decide ((s) ≠ (s)) = false from decide_eq_false (fun h => h rfl)] at hS
          refine q_seq hS rfl rfl rfl (y_pick_f hS rfl rfl) ?_; clear hS a; intro a hS
          refine q_seq hS rfl rfl rfl (y_move hS rfl) ?_; clear hS a; intro a hS
          refine g_yes hS rfl rfl rfl rfl (l_quiet hS rfl rfl (y_boxField (o' := 3) hS rfl Try.underlying25 rfl rfl rfl) ?_); clear hS a; intro a hS
          refine g_yes hS rfl rfl rfl rfl (l_quiet hS rfl rfl (y_loadBox1 (kk := 1308) hS rfl rfl rfl Try.underlying23 rfl) ?_); clear hS a; intro a hS
          refine g_yes hS rfl rfl rfl rfl (l_quiet hS rfl rfl (y_lenSlice hS rfl Try.underlying23) ?_); clear hS a; intro a hS
          refine g_yes hS rfl rfl rfl rfl (l_quiet hS rfl rfl (y_move hS rfl) ?_); clear hS a; intro a hS
          refine g_yes hS rfl rfl rfl rfl (l_quiet hS rfl rfl (y_lenSlice hS rfl Try.underlying42) ?_); clear hS a; intro a hS
          refine g_yes hS rfl rfl rfl rfl (l_quiet hS rfl rfl (y_neq hS rfl rfl) ?_); clear hS a; intro a hS
          rw [show decide ((((k : Nat) : Int)) ≠ (((m : Nat) : Int))) = false from decide_eq_false (by omega)] at hS
          refine q_seq hS rfl rfl rfl (y_pick_f hS rfl rfl) ?_; clear hS a; intro a hS
          refine q_seq hS rfl rfl rfl (y_move hS rfl) ?_; clear hS a; intro a hS
          refine g_yes hS rfl rfl rfl rfl (l_quiet hS rfl rfl (y_boxField (o' := 3) hS rfl Try.underlying25 rfl rfl rfl) ?_); clear hS a; intro a hS
          refine g_yes hS rfl rfl rfl rfl (l_quiet hS rfl rfl (y_loadBox1 (kk := 2106) hS rfl rfl rfl Try.underlying23 rfl) ?_); clear hS a; intro a hS
          refine g_yes hS rfl rfl rfl rfl (l_quiet hS rfl rfl (y_lenSlice hS rfl Try.underlying23) ?_); clear hS a; intro a hS
          refine g_yes hS rfl rfl rfl rfl (l_quiet hS rfl rfl (y_move hS rfl) ?_); clear hS a; intro a hS
          refine g_yes hS rfl rfl rfl rfl (l_quiet hS rfl rfl (y_lenSlice hS rfl Try.underlying42) ?_); clear hS a; intro a hS
          refine g_yes hS rfl rfl rfl rfl (l_quiet hS rfl rfl (y_sub hS rfl rfl (in64.2 (by omega))) ?_); clear hS a; intro a hS
          refine g_yes hS rfl rfl rfl rfl (l_quiet hS rfl rfl (y_neq hS rfl rfl) ?_); clear hS a; intro a hS
          rw [show decide ((((k - 1 : Nat) : Int)) ≠ (((m : Nat) : Int) - 1)) = false from decide_eq_false (by omega)] at hS
          refine q_seq hS rfl rfl rfl (y_pick_f hS rfl rfl) ?_; clear hS a; intro a hS
          apply wpList_nil
          refine p_norm ?_
          refine c_f hS rfl ?_
          apply wp_skip
          refine p_norm ?_
          apply wp_seq
          apply wp_region_lit
          refine q_seq hS rfl rfl rfl (y_assign hS rfl) ?_; clear hS a; intro a hS
          apply wpList_nil
          refine p_norm ?_
          refine c_cut (fun a w => St (⟨Try.f8.ntmps, M, noB, w0⟩ : Ctx) [(7, .pointer (some ⟨b5, 0, none⟩)), (11, .pointer (some ⟨b13, 0, none⟩)), (12, .pointer (some ⟨b14, 0, none⟩)), (14, .int .i64 (((d : Nat) : Int)))] [(1308, Ob.box b5 [.int .i64 (p), .int .u64 (s), .int .i64 (((k : Nat) : Int)), .slice (A1) (k) (c1)] 25), (2106, Ob.box b13 [.int .i64 (p), .int .u64 (popSeed (p) (s)), .int .i64 (((k : Nat) : Int)), .slice (A11) (k - 1) (c11)] 25), (2107, Ob.box b14 [.int .i64 (x11.1.1), .int .i64 (x11.1.2.1), .int .i64 (x11.1.2.2.1), .int .i64 (x11.1.2.2.2)] 32)] [(0, slF RT (A) (m) (c) (ts)), (102, slF RQ (A11) (k - 1) (c11) (popRest qs d)), (800, slF RQ (A1) (k) (c1) (qs))] a w) ?_ ?_
          · apply wp_block
            refine c_loop (σ := Nat) (fun i a w => (i ≤ d) ∧ St (⟨Try.f8.ntmps, M, noB, w0⟩ : Ctx) [(7, .pointer (some ⟨b5, 0, none⟩)), (11, .pointer (some ⟨b13, 0, none⟩)), (12, .pointer (some ⟨b14, 0, none⟩)), (14, .int .i64 (((i : Nat) : Int)))] [(1308, Ob.box b5 [.int .i64 (p), .int .u64 (s), .int .i64 (((k : Nat) : Int)), .slice (A1) (k) (c1)] 25), (2106, Ob.box b13 [.int .i64 (p), .int .u64 (popSeed (p) (s)), .int .i64 (((k : Nat) : Int)), .slice (A11) (k - 1) (c11)] 25), (2107, Ob.box b14 [.int .i64 (x11.1.1), .int .i64 (x11.1.2.1), .int .i64 (x11.1.2.2.1), .int .i64 (x11.1.2.2.2)] 32)] [(0, slF RT (A) (m) (c) (ts)), (102, slF RQ (A11) (k - 1) (c11) (popRest qs d)), (800, slF RQ (A1) (k) (c1) (qs))] a w) (fun i => k - i) (0) ⟨Nat.zero_le _, (hS.sub ⟨rfl, rfl, rfl, rfl, trivial⟩ ⟨rfl, rfl, rfl, trivial⟩ ⟨rfl, rfl, rfl, trivial⟩)⟩ ?_
            clear hS a; rintro i a w ⟨hi, hS⟩
            apply wp_seq
            apply wp_seq
            refine d_plan hS [] [(0, some 0), (1, some 0), (2, some 2106), (3, some 0), (4, some 0), (5, some 0), (6, some 0), (7, some 2106), (8, some 0), (9, some 0), (10, some 0), (11, some 0), (12, some 1308), (13, some 0), (14, some 0), (15, some 0), (16, some 0), (17, some 0)] rfl (by kernel_rfl) (by kernel_rfl) rfl ?_; clear hS; intro wr hZ hS; have hR := hS.wd
            refine q_take hS hR rfl rfl rfl rfl (y_move hS rfl) ?_; clear hS a; intro a hS
            refine q_take hS hR rfl rfl rfl rfl (y_boxField (o' := 3) hS rfl Try.underlying25 rfl rfl rfl) ?_; clear hS a; intro a hS
            refine q_take hS hR rfl rfl rfl rfl (y_loadBox1 (kk := 2106) hS rfl rfl rfl Try.underlying23 rfl) ?_; clear hS a; intro a hS
            refine q_take hS hR rfl rfl rfl rfl (y_lenSlice hS rfl Try.underlying23) ?_; clear hS a; intro a hS
            refine q_take hS hR rfl rfl rfl rfl (y_lss hS rfl rfl) ?_; clear hS a; intro a hS
            refine q_take hS hR rfl rfl rfl rfl (y_move hS rfl) ?_; clear hS a; intro a hS
            rcases Decidable.em ((((i : Nat) : Int)) < (((k - 1 : Nat) : Int))) with hg27 | hg27
            · have hg27e : (decide ((((i : Nat) : Int)) < (((k - 1 : Nat) : Int)))) = true := decide_eq_true hg27
              rw [hg27e] at hS
              refine q_take hS hR rfl rfl ⟨_, _, _, rfl, rfl, rfl, rfl⟩ rfl (y_boxField (o' := 3) hS rfl Try.underlying25 rfl rfl rfl) ?_; clear hS a; intro a hS
              refine q_take hS hR rfl rfl ⟨_, _, _, rfl, rfl, rfl, rfl⟩ rfl (y_loadBox1 (kk := 2106) hS rfl rfl rfl Try.underlying23 rfl) ?_; clear hS a; intro a hS
              refine q_take hS hR rfl rfl ⟨_, _, _, rfl, rfl, rfl, rfl⟩ rfl (y_move hS rfl) ?_; clear hS a; intro a hS
              obtain ⟨x28, hx28, p28, he28, hp28⟩ := SlR.elemAt (hS.fact (k := 102) rfl) (i := i) (by omega)
              refine q_take hS hR rfl rfl ⟨_, _, _, rfl, rfl, rfl, rfl⟩ rfl (y_elem (sz := 5) (i := i) hS rfl rfl Try.underlying23 rfl he28 (by omega) (by omega)) ?_; clear hS a; intro a hS
              obtain ⟨hl29, hm29, cs29, hd29, hq29⟩ := hp28
              obtain ⟨rfl, -⟩ := hd29
              refine q_take hS hR rfl rfl ⟨_, _, _, rfl, rfl, rfl, rfl⟩ rfl (y_ldp hS rfl hl29 hm29 (by simpa using hq29) Try.underlying45 rfl rfl) ?_; clear hS a; intro a hS
              refine q_take hS hR rfl rfl ⟨_, _, _, rfl, rfl, rfl, rfl⟩ rfl (y_boxField (o' := 3) hS rfl Try.underlying25 rfl rfl rfl) ?_; clear hS a; intro a hS
              refine q_take hS hR rfl rfl ⟨_, _, _, rfl, rfl, rfl, rfl⟩ rfl (y_loadBox1 (kk := 1308) hS rfl rfl rfl Try.underlying23 rfl) ?_; clear hS a; intro a hS
              refine q_take hS hR rfl rfl ⟨_, _, _, rfl, rfl, rfl, rfl⟩ rfl (y_move hS rfl) ?_; clear hS a; intro a hS
              obtain ⟨x30, hx30, p30, he30, hp30⟩ := SlR.elemAt (hS.fact (k := 800) rfl) (i := i) (by omega)
              refine q_take hS hR rfl rfl ⟨_, _, _, rfl, rfl, rfl, rfl⟩ rfl (y_elem (sz := 5) (i := i) hS rfl rfl Try.underlying23 rfl he30 (by omega) (by omega)) ?_; clear hS a; intro a hS
              obtain ⟨hl31, hm31, cs31, hd31, hq31⟩ := hp30
              obtain ⟨rfl, -⟩ := hd31
              refine q_take hS hR rfl rfl ⟨_, _, _, rfl, rfl, rfl, rfl⟩ rfl (y_ldp hS rfl hl31 hm31 (by simpa using hq31) Try.underlying45 rfl rfl) ?_; clear hS a; intro a hS
              refine q_take hS hR rfl rfl ⟨_, _, _, rfl, rfl, rfl, rfl⟩ rfl (y_eqlS hS rfl rfl (by kernel_rfl) (fun w' => eq45 9997 _ _ _ _ _ _ _ _ _ _ w')) ?_; clear hS a; intro a hS
              refine q_take hS hR rfl rfl rfl rfl (y_pick_t hS rfl rfl) ?_; clear hS a; intro a hS
              clear hR hZ
              refine p_norm ?_
              refine c_dec hS rfl (fun hc4 => ?_) (fun hc4 => ?_)
              · apply wp_skip
                refine p_norm ?_
                apply wp_block
                apply wp_region_lit
                refine q_seq hS rfl rfl rfl (y_move hS rfl) ?_; clear hS a; intro a hS
                refine q_seq hS rfl rfl rfl (y_addN (i := i) (j := 1) hS rfl rfl (in64.2 (by omega))) ?_; clear hS a; intro a hS
                refine q_seq hS rfl rfl rfl (y_assign hS rfl) ?_; clear hS a; intro a hS
                apply wpList_nil
                refine p_inN ?_
                refine p_norm ?_
                exact ⟨i + 1, by omega, ⟨rest_lt hbir hx28 hx30 hc4 hi hdl, (hS.sub ⟨rfl, rfl, rfl, rfl, trivial⟩ ⟨rfl, rfl, rfl, trivial⟩ ⟨rfl, rfl, rfl, trivial⟩)⟩⟩
              · apply wp_exit
                refine p_then ?_
                refine p_then ?_
                refine p_in ?_
                refine p_norm ?_
                rw [show i = d from by first | omega | exact rest_ne hx28 hx30 hc4 hi hdl] at hS
                exact (hS.sub ⟨rfl, rfl, rfl, rfl, trivial⟩ ⟨rfl, rfl, rfl, trivial⟩ ⟨rfl, rfl, rfl, trivial⟩)
            · have hg27e : (decide ((((i : Nat) : Int)) < (((k - 1 : Nat) : Int)))) = false := decide_eq_false hg27
              rw [hg27e] at hS
              refine q_pass hS hR rfl rfl ⟨_, _, _, rfl, rfl, rfl, rfl⟩ rfl ?_; clear hS a; intro a hS
              refine q_pass hS hR rfl rfl ⟨_, _, _, rfl, rfl, rfl, rfl⟩ rfl ?_; clear hS a; intro a hS
              refine q_pass hS hR rfl rfl ⟨_, _, _, rfl, rfl, rfl, rfl⟩ rfl ?_; clear hS a; intro a hS
              refine q_pass hS hR rfl rfl ⟨_, _, _, rfl, rfl, rfl, rfl⟩ rfl ?_; clear hS a; intro a hS
              refine q_pass hS hR rfl rfl ⟨_, _, _, rfl, rfl, rfl, rfl⟩ rfl ?_; clear hS a; intro a hS
              refine q_pass hS hR rfl rfl ⟨_, _, _, rfl, rfl, rfl, rfl⟩ rfl ?_; clear hS a; intro a hS
              refine q_pass hS hR rfl rfl ⟨_, _, _, rfl, rfl, rfl, rfl⟩ rfl ?_; clear hS a; intro a hS
              refine q_pass hS hR rfl rfl ⟨_, _, _, rfl, rfl, rfl, rfl⟩ rfl ?_; clear hS a; intro a hS
              refine q_pass hS hR rfl rfl ⟨_, _, _, rfl, rfl, rfl, rfl⟩ rfl ?_; clear hS a; intro a hS
              refine q_pass hS hR rfl rfl ⟨_, _, _, rfl, rfl, rfl, rfl⟩ rfl ?_; clear hS a; intro a hS
              refine q_pass hS hR rfl rfl ⟨_, _, _, rfl, rfl, rfl, rfl⟩ rfl ?_; clear hS a; intro a hS
              refine q_take hS hR rfl rfl rfl rfl (y_pick_f hS rfl rfl) ?_; clear hS a; intro a hS
              clear hR hZ
              refine p_norm ?_
              refine c_f hS rfl ?_
              apply wp_exit
              refine p_then ?_
              refine p_then ?_
              refine p_in ?_
              refine p_norm ?_
              rw [show i = d from by first | omega | exact rest_ne hx28 hx30 hc4 hi hdl] at hS
              exact (hS.sub ⟨rfl, rfl, rfl, rfl, trivial⟩ ⟨rfl, rfl, rfl, trivial⟩ ⟨rfl, rfl, rfl, trivial⟩)
          clear hS a; rintro a w hS
          apply wp_seq
          apply wp_seq
          refine d_plan hS [] [(0, some 0), (1, some 1308), (2, some 0), (3, some 0), (4, some 0), (5, some 0), (6, some 2107), (7, some 0)] rfl (by kernel_rfl) (by kernel_rfl) rfl ?_; clear hS; intro wr hZ hS; have hR := hS.wd
          refine q_take hS hR rfl rfl rfl rfl (y_boxField (o' := 3) hS rfl Try.underlying25 rfl rfl rfl) ?_; clear hS a; intro a hS
          refine q_take hS hR rfl rfl rfl rfl (y_loadBox1 (kk := 1308) hS rfl rfl rfl Try.underlying23 rfl) ?_; clear hS a; intro a hS
          refine q_take hS hR rfl rfl rfl rfl (y_move hS rfl) ?_; clear hS a; intro a hS
          obtain ⟨x32, hx32, p32, he32, hp32⟩ := SlR.elemAt (hS.fact (k := 800) rfl) (i := d) (by omega)
          refine q_take hS hR rfl rfl rfl rfl (y_elem (sz := 5) (i := d) hS rfl rfl Try.underlying23 rfl he32 (by omega) (by omega)) ?_; clear hS a; intro a hS
          refine q_take hS hR rfl rfl rfl rfl (y_ptrField (o' := 0) hS rfl Try.underlying45 rfl rfl rfl) ?_; clear hS a; intro a hS
          obtain ⟨hl33, hm33, cs33, hd33, hq33⟩ := hp32
          obtain ⟨rfl, -⟩ := hd33
          refine q_take hS hR rfl rfl rfl rfl (y_ldp (cs := [.int .i64 (x32.1.1), .int .i64 (x32.1.2.1), .int .i64 (x32.1.2.2.1), .int .i64 (x32.1.2.2.2)]) hS rfl hl33 hm33 (fun j v hj => hq33 (0 + j) v (by rcases j with _ | (_ | (_ | (_ | _))) <;> first | exact hj | cases hj)) Try.underlying32 rfl rfl) ?_; clear hS a; intro a hS
          refine q_take hS hR rfl rfl rfl rfl (y_loadBox (kk := 2107) (n := 4) (vs := [.int .i64 (x11.1.1), .int .i64 (x11.1.2.1), .int .i64 (x11.1.2.2.1), .int .i64 (x11.1.2.2.2)]) hS rfl rfl Try.underlying32 rfl rfl rfl rfl) ?_; clear hS a; intro a hS
          obtain rfl : x11 = x32 := Option.some.inj (hx11.symm.trans hx32)
          refine q_take hS hR rfl rfl rfl rfl (y_neqS hS rfl rfl (by kernel_rfl) (fun w' => eq32 9998 _ _ _ _ _ _ _ _ w')) ?_; clear hS a; intro a hS
          rw [show decide (((x11.1.1, x11.1.2.1, x11.1.2.2.1, x11.1.2.2.2) : Task) = (x11.1.1, x11.1.2.1, x11.1.2.2.1, x11.1.2.2.2)) = true from decide_eq_true rfl] at hS
          clear hR hZ
          refine p_norm ?_
          refine c_f hS rfl ?_
          apply wp_skip
          refine p_norm ?_
          apply wp_seq
          apply wp_seq
          apply wp_region_lit
          refine q_seq hS rfl rfl rfl (y_move hS rfl) ?_; clear hS a; intro a hS
          refine q_seq hS rfl rfl rfl (y_assign hS rfl) ?_; clear hS a; intro a hS
          apply wpList_nil
          refine p_norm ?_
          apply wp_block
          refine c_loop (σ := Nat) (fun j a w => (d ≤ j ∧ j ≤ k - 1) ∧ St (⟨Try.f8.ntmps, M, noB, w0⟩ : Ctx) [(7, .pointer (some ⟨b5, 0, none⟩)), (11, .pointer (some ⟨b13, 0, none⟩)), (15, .int .i64 (((j : Nat) : Int)))] [(1308, Ob.box b5 [.int .i64 (p), .int .u64 (s), .int .i64 (((k : Nat) : Int)), .slice (A1) (k) (c1)] 25), (2106, Ob.box b13 [.int .i64 (p), .int .u64 (popSeed (p) (s)), .int .i64 (((k : Nat) : Int)), .slice (A11) (k - 1) (c11)] 25), (2107, Ob.box b14 [.int .i64 (x11.1.1), .int .i64 (x11.1.2.1), .int .i64 (x11.1.2.2.1), .int .i64 (x11.1.2.2.2)] 32)] [(0, slF RT (A) (m) (c) (ts)), (102, slF RQ (A11) (k - 1) (c11) (popRest qs d)), (800, slF RQ (A1) (k) (c1) (qs))] a w) (fun j => k - j) (d) ⟨by omega, (hS.sub ⟨rfl, rfl, rfl, trivial⟩ ⟨rfl, rfl, rfl, trivial⟩ ⟨rfl, rfl, rfl, trivial⟩)⟩ ?_
          clear hS a; rintro j a w ⟨hj, hS⟩
          apply wp_seq
          apply wp_seq
          apply wp_region_lit
          refine q_seq hS rfl rfl rfl (y_move hS rfl) ?_; clear hS a; intro a hS
          refine q_seq hS rfl rfl rfl (y_boxField (o' := 3) hS rfl Try.underlying25 rfl rfl rfl) ?_; clear hS a; intro a hS
          refine q_seq hS rfl rfl rfl (y_loadBox1 (kk := 2106) hS rfl rfl rfl Try.underlying23 rfl) ?_; clear hS a; intro a hS
          refine q_seq hS rfl rfl rfl (y_lenSlice hS rfl Try.underlying23) ?_; clear hS a; intro a hS
          refine q_seq hS rfl rfl rfl (y_lss hS rfl rfl) ?_; clear hS a; intro a hS
          apply wpList_nil
          refine p_norm ?_
          refine c_dec hS rfl (fun hc6 => ?_) (fun hc6 => ?_)
          · apply wp_skip
            refine p_norm ?_
            apply wp_seq
            apply wp_block
            apply wp_seq
            refine d_plan hS [] [(0, some 0), (1, some 2106), (2, some 0), (3, some 0), (4, some 0), (5, some 0), (6, some 1308), (7, some 0), (8, some 0), (9, some 0), (10, some 0), (11, some 0)] rfl (by kernel_rfl) (by kernel_rfl) rfl ?_; clear hS; intro wr hZ hS; have hR := hS.wd
            refine q_take hS hR rfl rfl rfl rfl (y_boxField (o' := 3) hS rfl Try.underlying25 rfl rfl rfl) ?_; clear hS a; intro a hS
            refine q_take hS hR rfl rfl rfl rfl (y_loadBox1 (kk := 2106) hS rfl rfl rfl Try.underlying23 rfl) ?_; clear hS a; intro a hS
            refine q_take hS hR rfl rfl rfl rfl (y_move hS rfl) ?_; clear hS a; intro a hS
            obtain ⟨x34, hx34, p34, he34, hp34⟩ := SlR.elemAt (hS.fact (k := 102) rfl) (i := j) (by omega)
            refine q_take hS hR rfl rfl rfl rfl (y_elem (sz := 5) (i := j) hS rfl rfl Try.underlying23 rfl he34 (by omega) (by omega)) ?_; clear hS a; intro a hS
            obtain ⟨hl35, hm35, cs35, hd35, hq35⟩ := hp34
            obtain ⟨rfl, -⟩ := hd35
            refine q_take hS hR rfl rfl rfl rfl (y_ldp hS rfl hl35 hm35 (by simpa using hq35) Try.underlying45 rfl rfl) ?_; clear hS a; intro a hS
            refine q_take hS hR rfl rfl rfl rfl (y_boxField (o' := 3) hS rfl Try.underlying25 rfl rfl rfl) ?_; clear hS a; intro a hS
            refine q_take hS hR rfl rfl rfl rfl (y_loadBox1 (kk := 1308) hS rfl rfl rfl Try.underlying23 rfl) ?_; clear hS a; intro a hS
            refine q_take hS hR rfl rfl rfl rfl (y_move hS rfl) ?_; clear hS a; intro a hS
            refine q_take hS hR rfl rfl rfl rfl (y_addN (i := j) (j := 1) hS rfl rfl (in64.2 (by omega))) ?_; clear hS a; intro a hS
            obtain ⟨x36, hx36, p36, he36, hp36⟩ := SlR.elemAt (hS.fact (k := 800) rfl) (i := j + 1) (by omega)
            refine q_take hS hR rfl rfl rfl rfl (y_elem (sz := 5) (i := j + 1) hS rfl rfl Try.underlying23 rfl he36 (by omega) (by omega)) ?_; clear hS a; intro a hS
            obtain ⟨hl37, hm37, cs37, hd37, hq37⟩ := hp36
            obtain ⟨rfl, -⟩ := hd37
            refine q_take hS hR rfl rfl rfl rfl (y_ldp hS rfl hl37 hm37 (by simpa using hq37) Try.underlying45 rfl rfl) ?_; clear hS a; intro a hS
            obtain rfl : x34 = x36 := rest_above hj.1 hdl hx34 hx36
            refine q_take hS hR rfl rfl rfl rfl (y_neqS hS rfl rfl (by kernel_rfl) (fun w' => eq45 9997 _ _ _ _ _ _ _ _ _ _ w')) ?_; clear hS a; intro a hS
            rw [show decide ((((x34.1.1, x34.1.2.1, x34.1.2.2.1, x34.1.2.2.2), x34.2) : Queued) = ((x34.1.1, x34.1.2.1, x34.1.2.2.1, x34.1.2.2.2), x34.2)) = true from decide_eq_true rfl] at hS
            clear hR hZ
            refine p_norm ?_
            refine c_f hS rfl ?_
            apply wp_skip
            refine p_inN ?_
            refine p_norm ?_
            apply wp_region_lit
            refine q_seq hS rfl rfl rfl (y_move hS rfl) ?_; clear hS a; intro a hS
            refine q_seq hS rfl rfl rfl (y_addN (i := j) (j := 1) hS rfl rfl (in64.2 (by omega))) ?_; clear hS a; intro a hS
            refine q_seq hS rfl rfl rfl (y_assign hS rfl) ?_; clear hS a; intro a hS
            apply wpList_nil
            refine p_norm ?_
            exact ⟨j + 1, by omega, ⟨by omega, (hS.sub ⟨rfl, rfl, rfl, trivial⟩ ⟨rfl, rfl, rfl, trivial⟩ ⟨rfl, rfl, rfl, trivial⟩)⟩⟩
          · apply wp_exit
            refine p_then ?_
            refine p_then ?_
            refine p_in ?_
            refine p_norm ?_
            apply wp_seq
            apply wp_region_lit
            refine l_seq rfl (l_call (cap := []) hS rfl Try.func12 rfl (by kernel_rfl) rfl rfl (example_spec _ _ hS.lt) ?_); clear hS a; intro v38 a w hK hp hS
            clear hK
            obtain rfl := hp
            refine q_seq hS rfl rfl rfl (y_assign hS rfl) ?_; clear hS a; intro a hS
            apply wpList_nil
            refine p_norm ?_
            apply wp_ret
            refine fin1 (fn := Try.f8) hS rfl (r_tmp hS rfl) ?_
            rfl

end Go.Proofs.Ytjklnbjblncgeaa
