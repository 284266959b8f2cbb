/- Chapter 31: the law AgendaPlays, walked -/
import Derived.Test.YtjklnbjblncgeaaC2
namespace Go.Proofs.Ytjklnbjblncgeaa
open Go.Gl Go.RowKit
set_option linter.unusedVariables false
set_option linter.unusedSimpArgs false

set_option maxHeartbeats 1000000 in
theorem plays (M : Bs) (w0 : World) (hM : ∀ b, M b → b < w0.heap.size) (q s p : Int) (A : Option Addr) (m c : Nat) (ops : List Oper) (hq : 0 ≤ q ∧ q ≤ 255) (hpe : q.tmod 4 = p) (hp : 0 ≤ p ∧ p ≤ 3) (hsl : SlR RO M w0 A m c ops) :
    Calls Try.prog 4 [.int .u8 (q), .int .u64 (s), .slice (A) (m) (c)].toArray w0 (Ret noB w0 fun v w => v = .bool true) := by
  refine enter M noB Try.func4 rfl rfl hM ?_
  intro a hS
  replace hS := hS.add 0 (slF RO (A) (m) (c) (ops)) (by exact Fact.change _ enterM hsl)
  apply wp_seq
  apply wp_region_lit
  refine q_seq hS rfl rfl rfl (y_assign hS rfl) ?_; clear hS a; intro a hS
  apply wpList_nil
  refine p_norm ?_
  apply wp_seq
  apply wp_seq
  apply wp_region_lit
  refine q_seq hS rfl rfl rfl (y_move hS rfl) ?_; clear hS a; intro a hS
  refine q_seq hS rfl rfl rfl (y_lenSlice hS rfl Try.underlying37) ?_; clear hS a; intro a hS
  refine q_seq hS rfl rfl rfl (y_gtr hS rfl rfl) ?_; clear hS a; intro a hS
  apply wpList_nil
  refine p_norm ?_
  refine c_dec hS rfl (fun hc0 => ?_) (fun hc0 => ?_)
  · apply wp_seq
    apply wp_region_lit
    refine l_seq rfl (l_call (cap := []) hS rfl Try.func12 rfl (by kernel_rfl) rfl rfl (example_spec _ _ hS.lt) ?_); clear hS a; intro v1 a w hK hp hS
    clear hK
    obtain rfl := hp
    refine q_seq hS rfl rfl rfl (y_assign hS rfl) ?_; clear hS a; intro a hS
    apply wpList_nil
    refine p_norm ?_
    apply wp_ret
    refine p_thenR ?_
    refine fin1 (fn := Try.f4) hS rfl (r_tmp hS rfl) ?_
    rfl
  · apply wp_skip
    refine p_norm ?_
    apply wp_seq
    apply wp_region_lit
    refine q_seq hS rfl rfl rfl (y_move hS rfl) ?_; clear hS a; intro a hS
    refine q_seq hS rfl rfl rfl (y_conv hS rfl Try.underlying5 Try.underlying3 (in64.2 (by omega))) ?_; clear hS a; intro a hS
    refine q_seq hS rfl rfl rfl (y_rem hS rfl rfl (by omega)) ?_; clear hS a; intro a hS
    rw [hpe] at hS
    refine q_seq hS rfl rfl rfl (y_move hS rfl) ?_; clear hS a; intro a hS
    refine l_seq rfl (l_call (cap := []) hS rfl Try.func9 rfl (by kernel_rfl) rfl rfl (new_all _ _ hS.lt _ _ hp) ?_); clear hS a; intro v2 a w hK hp hS
    clear hK
    obtain rfl := hp
    refine q_seq hS rfl rfl rfl (y_move hS rfl) ?_; clear hS a; intro a hS
    refine q_seq hS rfl rfl rfl (y_extract hS rfl rfl) ?_; clear hS a; intro a hS
    refine q_seq hS rfl rfl rfl (y_extract hS rfl rfl) ?_; clear hS a; intro a hS
    refine l_seq rfl (l_alloc (zs := [.int .i64 (0), .int .u64 (0), .int .i64 (0), .slice (none) (0) (0)]) hS 1308 rfl rfl rfl rfl ?_); clear hS a; intro b3 a w hb hK hS
    clear hb
    clear hK
    refine l_seq rfl (l_store (n := 4) (cs' := [.int .i64 (p), .int .u64 (s), .int .i64 (0), .slice (none) (0) (0)]) hS 1308 rfl rfl rfl rfl rfl rfl rfl rfl ?_); clear hS; intro w hK hS; clear hK
    refine q_seq hS rfl rfl rfl (y_assign hS rfl) ?_; clear hS a; intro a hS
    apply wpList_nil
    refine p_norm ?_
    apply wp_seq
    apply wp_region_lit
    refine q_seq hS rfl rfl rfl (y_move hS rfl) ?_; clear hS a; intro a hS
    refine q_seq hS rfl rfl rfl (y_conv hS rfl Try.underlying5 Try.underlying3 (in64.2 (by omega))) ?_; clear hS a; intro a hS
    refine q_seq hS rfl rfl rfl (y_rem hS rfl rfl (by omega)) ?_; clear hS a; intro a hS
    rw [hpe] at hS
    refine q_seq hS rfl rfl rfl (y_move hS rfl) ?_; clear hS a; intro a hS
    refine l_seq rfl (l_call (cap := []) hS rfl Try.func10 rfl (by kernel_rfl) rfl rfl (rnew_all _ _ hS.lt _ _ hp) ?_); clear hS a; intro v4 a w hK hp hS
    clear hK
    obtain rfl := hp
    refine q_seq hS rfl rfl rfl (y_move hS rfl) ?_; clear hS a; intro a hS
    refine q_seq hS rfl rfl rfl (y_extract hS rfl rfl) ?_; clear hS a; intro a hS
    refine q_seq hS rfl rfl rfl (y_extract hS rfl rfl) ?_; clear hS a; intro a hS
    refine l_seq rfl (l_alloc (zs := [.int .i64 (0), .int .u64 (0), .int .i64 (0), .slice (none) (0) (0)]) hS 1408 rfl rfl rfl rfl ?_); clear hS a; intro b5 a w hb hK hS
    clear hb
    clear hK
    refine l_seq rfl (l_store (n := 4) (cs' := [.int .i64 (p), .int .u64 (s), .int .i64 (0), .slice (none) (0) (0)]) hS 1408 rfl rfl rfl rfl rfl rfl rfl rfl ?_); clear hS; intro w hK hS; clear hK
    refine q_seq hS rfl rfl rfl (y_assign hS rfl) ?_; clear hS a; intro a hS
    apply wpList_nil
    refine p_norm ?_
    apply wp_seq
    apply wp_seq
    apply wp_region_lit
    refine q_seq hS rfl rfl rfl (y_move hS rfl) ?_; clear hS a; intro a hS
    refine q_seq hS rfl rfl rfl (y_neq hS rfl rfl) ?_; clear hS a; intro a hS
    apply wpList_nil
    refine p_norm ?_
    refine c_f hS rfl ?_
    apply wp_skip
    refine p_norm ?_
    apply wp_seq
    apply wp_seq
    apply wp_region_lit
    refine q_seq hS rfl rfl rfl (y_move hS rfl) ?_; clear hS a; intro a hS
    refine q_seq hS rfl rfl rfl (y_lenSlice hS rfl Try.underlying37) ?_; clear hS a; intro a hS
    refine q_seq hS rfl rfl rfl (y_move hS rfl) ?_; clear hS a; intro a hS
    apply wpList_nil
    refine p_norm ?_
    apply wp_block
    replace hS := hS.add 800 (slF RQ none 0 0 []) (SlR.nil_ _ _ _)
    replace hS := hS.add 801 (slF RQ none 0 0 []) (SlR.nil_ _ _ _)
    refine c_loop (σ := Nat) (fun k a w => ∃ (s2 : Int), ∃ (b : Int), ∃ (A1 : Option Addr), ∃ (A2 : Option Addr), ∃ (n : Nat), ∃ (c1 : Nat), ∃ (c2 : Nat), ∃ (xs : List Queued), (k ≤ m) ∧ (0 ≤ b ∧ b ≤ k ∧ n ≤ k) ∧ St (⟨Try.f4.ntmps, M, noB, w0⟩ : Ctx) [(7, .pointer (some ⟨b3, 0, none⟩)), (9, .pointer (some ⟨b5, 0, none⟩)), (41, .slice (A) (m) (c)), (42, .int .i64 (((m : Nat) : Int))), (43, .int .i64 (((k : Nat) : Int)))] [(1308, Ob.box b3 [.int .i64 (p), .int .u64 (s2), .int .i64 (b), .slice (A1) (n) (c1)] 25), (1408, Ob.box b5 [.int .i64 (p), .int .u64 (s2), .int .i64 (b), .slice (A2) (n) (c2)] 25)] [(0, slF RO (A) (m) (c) (ops)), (800, slF RQ (A1) (n) (c1) (xs)), (801, slF RQ (A2) (n) (c2) (xs))] a w) (fun k => m - k) (0) ⟨s, 0, none, none, 0, 0, 0, [], Nat.zero_le _, by omega, (hS.sub ⟨rfl, rfl, rfl, rfl, rfl, trivial⟩ ⟨rfl, rfl, trivial⟩ ⟨rfl, rfl, rfl, trivial⟩)⟩ ?_
    clear hS a; rintro k a w ⟨s2, b, A1, A2, n, c1, c2, xs, hk, hb, hS⟩
    apply wp_seq
    apply wp_region_lit
    refine q_seq hS rfl rfl rfl (y_lss hS rfl rfl) ?_; clear hS a; intro a hS
    apply wpList_nil
    refine p_norm ?_
    apply wp_seq
    refine c_dec hS rfl (fun hc2 => ?_) (fun hc2 => ?_)
    · apply wp_skip
      refine p_norm ?_
      apply wp_seq
      apply wp_block
      apply wp_seq
      apply wp_region_lit
      obtain ⟨x6, hx6, p6, he6, hp6⟩ := SlR.elemAt (hS.fact (k := 0) rfl) (i := k) (by omega)
      refine q_seq hS rfl rfl rfl (y_elem (sz := 5) (i := k) hS rfl rfl Try.underlying37 rfl he6 (by omega) (by omega)) ?_; clear hS a; intro a hS
      obtain ⟨hl7, hm7, cs7, hd7, hq7⟩ := hp6
      obtain ⟨rfl, -⟩ := hd7
      refine q_seq hS rfl rfl rfl (y_ldp hS rfl hl7 hm7 (by simpa using hq7) Try.underlying39 rfl rfl) ?_; clear hS a; intro a hS
      refine l_seq rfl (l_alloc (zs := [.bool (false), .int .i64 (0), .int .i64 (0), .int .i64 (0), .int .i64 (0)]) hS 1902 rfl rfl rfl rfl ?_); clear hS a; intro b8 a w hb hK hS
      clear hb
      clear hK
      refine l_seq rfl (l_store (n := 5) (cs' := [.bool (x6.1), .int .i64 (x6.2.1), .int .i64 (x6.2.2.1), .int .i64 (x6.2.2.2.1), .int .i64 (x6.2.2.2.2)]) hS 1902 rfl rfl rfl rfl rfl rfl rfl rfl ?_); clear hS; intro w hK hS; clear hK
      apply wpList_nil
      refine p_norm ?_
      apply wp_seq
      apply wp_seq
      apply wp_region_lit
      refine q_seq hS rfl rfl rfl (y_boxField (o' := 0) hS rfl Try.underlying39 rfl rfl rfl) ?_; clear hS a; intro a hS
      refine q_seq hS rfl rfl rfl (y_loadBox1 (kk := 1902) hS rfl rfl rfl Try.underlying4 rfl) ?_; clear hS a; intro a hS
      apply wpList_nil
      refine p_norm ?_
      refine c_cond hS rfl (fun hc3 => ?_) (fun hc3 => ?_)
      · refine d_plan hS [(8, 1308), (9, 1408)] [(0, some 1308), (1, some 0), (2, some 1902), (4, some 1408), (5, some 0), (6, some 1902), (3, none), (7, none), (8, none), (9, none)] rfl (by kernel_rfl) (by kernel_rfl) rfl ?_; clear hS; intro wr hZ hS; have hR := hS.wd
        refine q_take hS hR rfl rfl rfl rfl (y_loadBox (kk := 1308) (n := 4) (vs := [.int .i64 (p), .int .u64 (s2), .int .i64 (b), .slice (A1) (n) (c1)]) hS rfl rfl Try.underlying25 rfl rfl rfl rfl) ?_; clear hS a; intro a hS
        refine q_take hS hR rfl rfl rfl rfl (y_boxField (o' := 1) hS rfl Try.underlying39 rfl rfl rfl) ?_; clear hS a; intro a hS
        refine q_take hS hR rfl rfl rfl rfl (y_loadBox (kk := 1902) (n := 4) (vs := [.int .i64 (x6.2.1), .int .i64 (x6.2.2.1), .int .i64 (x6.2.2.2.1), .int .i64 (x6.2.2.2.2)]) hS rfl rfl Try.underlying32 rfl rfl rfl rfl) ?_; clear hS a; intro a hS
        refine q_take hS hR rfl rfl rfl rfl (y_loadBox (kk := 1408) (n := 4) (vs := [.int .i64 (p), .int .u64 (s2), .int .i64 (b), .slice (A2) (n) (c2)]) hS rfl rfl Try.underlying25 rfl rfl rfl rfl) ?_; clear hS a; intro a hS
        refine q_take hS hR rfl rfl rfl rfl (y_boxField (o' := 1) hS rfl Try.underlying39 rfl rfl rfl) ?_; clear hS a; intro a hS
        refine q_take hS hR rfl rfl rfl rfl (y_loadBox (kk := 1902) (n := 4) (vs := [.int .i64 (x6.2.1), .int .i64 (x6.2.2.1), .int .i64 (x6.2.2.2.1), .int .i64 (x6.2.2.2.2)]) hS rfl rfl Try.underlying32 rfl rfl rfl rfl) ?_; clear hS a; intro a hS
        refine l_take hS rfl rfl (l_call (cap := []) hS rfl Try.func15 rfl (by kernel_rfl) rfl rfl (push_spec _ _ hS.lt _ _ (b) _ (n) _ (xs) (x6.2.1, x6.2.2.1, x6.2.2.2.1, x6.2.2.2.2) (hS.fact (k := 800) rfl) (by omega) (by omega)) ?_); clear hS a; intro v10 a w hK hp hS
        replace hZ := Nat.le_trans hZ hK.size; refine ⟨fun g _ h => h.grow hK, ?_⟩; clear hK
        obtain ⟨A9, c9, rfl, h9⟩ := hp
        replace hS := hS.add 101 (slF RQ (A9) (n + 1) (c9) (xs ++ [((x6.2.1, x6.2.2.1, x6.2.2.2.1, x6.2.2.2.2), b)])) h9
        refine l_take hS rfl rfl (l_call (cap := []) hS rfl Try.func16 rfl (by kernel_rfl) rfl rfl (rpush_spec _ _ hS.lt _ _ (b) _ (n) _ (xs) (x6.2.1, x6.2.2.1, x6.2.2.2.1, x6.2.2.2.2) (hS.fact (k := 801) rfl) (by omega) (by omega)) ?_); clear hS a; intro v12 a w hK hp hS
        replace hZ := Nat.le_trans hZ hK.size; refine ⟨fun g _ h => h.grow hK, ?_⟩; clear hK
        obtain ⟨A11, c11, rfl, h11⟩ := hp
        replace hS := hS.add 102 (slF RQ (A11) (n + 1) (c11) (xs ++ [((x6.2.1, x6.2.2.1, x6.2.2.2.1, x6.2.2.2.2), b)])) h11
        refine l_take hS rfl rfl (l_store (n := 4) (cs' := [.int .i64 (p), .int .u64 (s2), .int .i64 (b + 1), .slice (A9) (n + 1) (c9)]) hS 1308 rfl rfl rfl rfl rfl rfl rfl rfl ?_); clear hS; intro w hK hS; replace hZ := Nat.le_trans hZ hK.size
        refine ⟨fun g hg h => h.obj hR (kk := 1308) rfl hK (by rintro rfl; exact absurd hg (by decide)), ?_⟩; clear hK
        refine l_take hS rfl rfl (l_store (n := 4) (cs' := [.int .i64 (p), .int .u64 (s2), .int .i64 (b + 1), .slice (A11) (n + 1) (c11)]) hS 1408 rfl rfl rfl rfl rfl rfl rfl rfl ?_); clear hS; intro w hK hS; replace hZ := Nat.le_trans hZ hK.size
        refine ⟨fun g hg h => h.obj hR (kk := 1408) rfl hK (by rintro rfl; exact absurd hg (by decide)), ?_⟩; clear hK
        clear hR hZ
        refine p_norm ?_
        apply wp_seq
        refine d_steps hS [] rfl ?_; clear hS; intro wr hZ hS; have hR := hS.wd
        refine n_q 0 1308 hS hR rfl (by kernel_rfl) (by kernel_rfl) (by kernel_rfl) rfl rfl rfl (y_loadBox (kk := 1308) (n := 4) (vs := [.int .i64 (p), .int .u64 (s2), .int .i64 (b + 1), .slice (A9) (n + 1) (c9)]) hS rfl rfl Try.underlying25 rfl rfl rfl rfl) ?_; clear hS a; intro a hS
        refine n_q 1 1408 hS hR rfl (by kernel_rfl) (by kernel_rfl) (by kernel_rfl) rfl rfl rfl (y_loadBox (kk := 1408) (n := 4) (vs := [.int .i64 (p), .int .u64 (s2), .int .i64 (b + 1), .slice (A11) (n + 1) (c11)]) hS rfl rfl Try.underlying25 rfl rfl rfl rfl) ?_; clear hS a; intro a hS
        refine n_1 2 hS (by kernel_rfl) rfl rfl (l_call (cap := []) hS rfl Try.func11 rfl (by kernel_rfl) rfl rfl (same_spec _ _ hS.lt _ _ _ _ _ _ _ _ (xs ++ [((x6.2.1, x6.2.2.1, x6.2.2.2.1, x6.2.2.2.2), b)]) (hS.fact (k := 101) rfl) (hS.fact (k := 102) rfl) (by omega)) ?_); clear hS a; intro v13 a w hK hp hS
        replace hZ := Nat.le_trans hZ hK.size; refine ⟨fun g _ h => h.grow hK, ?_⟩; clear hK
        obtain rfl := hp
        refine n_1 3 hS (by kernel_rfl) rfl rfl (l_quiet hS rfl rfl (y_not hS rfl) ?_); clear hS a; intro a hS; refine ⟨fun g _ h => h, ?_⟩
        refine n_1 4 hS (by kernel_rfl) rfl rfl (l_quiet hS rfl rfl (y_move hS rfl) ?_); clear hS a; intro a hS; refine ⟨fun g _ h => h, ?_⟩
        refine n_2 5 7 hS (by kernel_rfl) rfl ⟨_, _, _, rfl, rfl, rfl, rfl⟩ rfl ⟨_, _, _, rfl, rfl, rfl, rfl⟩ ?_ ?_
        · refine l_quiet hS rfl rfl (y_loadBox (kk := 1308) (n := 4) (vs := [.int .i64 (p), .int .u64 (s2), .int .i64 (b + 1), .slice (A9) (n + 1) (c9)]) hS rfl rfl Try.underlying25 rfl rfl rfl rfl) ?_; clear hS a; intro a hS; refine ⟨fun g _ h => h, ?_⟩
          refine n_2 6 7 hS (by kernel_rfl) rfl ⟨_, _, _, rfl, rfl, rfl, rfl⟩ rfl ⟨_, _, _, rfl, rfl, rfl, rfl⟩ ?_ ?_
          · refine l_call (cap := []) hS rfl Try.func14 rfl (by kernel_rfl) rfl rfl (len_spec _ _ hS.lt _ _ _ _ _ _) ?_; clear hS a; intro v14 a w hK hp hS
            replace hZ := Nat.le_trans hZ hK.size; refine ⟨fun g _ h => h.grow hK, ?_⟩; clear hK
            obtain rfl := hp
            refine n_1 7 hS (by kernel_rfl) rfl ⟨_, _, _, rfl, rfl, rfl, rfl⟩ (l_quiet hS rfl rfl (y_loadBox (kk := 1408) (n := 4) (vs := [.int .i64 (p), .int .u64 (s2), .int .i64 (b + 1), .slice (A11) (n + 1) (c11)]) hS rfl rfl Try.underlying25 rfl rfl rfl rfl) ?_); clear hS a; intro a hS; refine ⟨fun g _ h => h, ?_⟩
            refine n_1 8 hS (by kernel_rfl) rfl ⟨_, _, _, rfl, rfl, rfl, rfl⟩ (l_call (cap := []) hS rfl Try.func18 rfl (by kernel_rfl) rfl rfl (rlen_spec _ _ hS.lt _ _ _ _ _ _) ?_); clear hS a; intro v15 a w hK hp hS
            replace hZ := Nat.le_trans hZ hK.size; refine ⟨fun g _ h => h.grow hK, ?_⟩; clear hK
            obtain rfl := hp
            refine n_1 9 hS (by kernel_rfl) rfl ⟨_, _, _, rfl, rfl, rfl, rfl⟩ (l_quiet hS rfl rfl (y_neq hS rfl rfl) ?_); clear hS a; intro a hS; refine ⟨fun g _ h => h, ?_⟩
            rw [show decide ((((n + 1 : Nat) : Int)) ≠ (((n + 1 : Nat) : Int))) = false from decide_eq_false (fun h => h rfl)] at hS
            refine n_1 10 hS (by kernel_rfl) rfl rfl (l_quiet hS rfl rfl (y_pick_f hS rfl rfl) ?_); clear hS a; intro a hS; refine ⟨fun g _ h => h, ?_⟩
            refine n_end (by kernel_rfl) ?_; clear hR hZ
            refine p_norm ?_
            refine c_f hS rfl ?_
            apply wp_skip
            refine p_inN ?_
            refine p_norm ?_
            apply wp_region_lit
            refine q_seq hS rfl rfl rfl (y_addN (i := k) (j := 1) hS rfl rfl (in64.2 (by omega))) ?_; clear hS a; intro a hS
            refine q_seq hS rfl rfl rfl (y_move hS rfl) ?_; clear hS a; intro a hS
            apply wpList_nil
            refine p_norm ?_
            replace hS := hS.add 800 (slF RQ (A9) (n + 1) (c9) (xs ++ [((x6.2.1, x6.2.2.1, x6.2.2.2.1, x6.2.2.2.2), b)])) (hS.fact (k := 101) rfl)
            replace hS := hS.add 801 (slF RQ (A11) (n + 1) (c11) (xs ++ [((x6.2.1, x6.2.2.1, x6.2.2.2.1, x6.2.2.2.2), b)])) (hS.fact (k := 102) rfl)
            exact ⟨k + 1, by omega, ⟨s2, b + 1, A9, A11, n + 1, c9, c11, xs ++ [((x6.2.1, x6.2.2.1, x6.2.2.2.1, x6.2.2.2.2), b)], by omega, by omega, (hS.sub ⟨rfl, rfl, rfl, rfl, rfl, trivial⟩ ⟨rfl, rfl, trivial⟩ ⟨rfl, rfl, rfl, trivial⟩)⟩⟩
          · refine l_quiet hS rfl rfl (y_loadBox (kk := 1408) (n := 4) (vs := [.int .i64 (p), .int .u64 (s2), .int .i64 (b + 1), .slice (A11) (n + 1) (c11)]) hS rfl rfl Try.underlying25 rfl rfl rfl rfl) ?_; clear hS a; intro a hS; refine ⟨fun g _ h => h, ?_⟩
            refine n_1 6 hS (by kernel_rfl) rfl ⟨_, _, _, rfl, rfl, rfl, rfl⟩ (l_call (cap := []) hS rfl Try.func14 rfl (by kernel_rfl) rfl rfl (len_spec _ _ hS.lt _ _ _ _ _ _) ?_); clear hS a; intro v16 a w hK hp hS
            replace hZ := Nat.le_trans hZ hK.size; refine ⟨fun g _ h => h.grow hK, ?_⟩; clear hK
            obtain rfl := hp
            refine n_1 8 hS (by kernel_rfl) rfl ⟨_, _, _, rfl, rfl, rfl, rfl⟩ (l_call (cap := []) hS rfl Try.func18 rfl (by kernel_rfl) rfl rfl (rlen_spec _ _ hS.lt _ _ _ _ _ _) ?_); clear hS a; intro v17 a w hK hp hS
            replace hZ := Nat.le_trans hZ hK.size; refine ⟨fun g _ h => h.grow hK, ?_⟩; clear hK
            obtain rfl := hp
            refine n_1 9 hS (by kernel_rfl) rfl ⟨_, _, _, rfl, rfl, rfl, rfl⟩ (l_quiet hS rfl rfl (y_neq hS rfl rfl) ?_); clear hS a; intro a hS; refine ⟨fun g _ h => h, ?_⟩
            rw [show decide ((((n + 1 : Nat) : Int)) ≠ (((n + 1 : Nat) : Int))) = false from decide_eq_false (fun h => h rfl)] at hS
            refine n_1 10 hS (by kernel_rfl) rfl rfl (l_quiet hS rfl rfl (y_pick_f hS rfl rfl) ?_); clear hS a; intro a hS; refine ⟨fun g _ h => h, ?_⟩
            refine n_end (by kernel_rfl) ?_; clear hR hZ
            refine p_norm ?_
            refine c_f hS rfl ?_
            apply wp_skip
            refine p_inN ?_
            refine p_norm ?_
            apply wp_region_lit
            refine q_seq hS rfl rfl rfl (y_addN (i := k) (j := 1) hS rfl rfl (in64.2 (by omega))) ?_; clear hS a; intro a hS
            refine q_seq hS rfl rfl rfl (y_move hS rfl) ?_; clear hS a; intro a hS
            apply wpList_nil
            refine p_norm ?_
            replace hS := hS.add 800 (slF RQ (A9) (n + 1) (c9) (xs ++ [((x6.2.1, x6.2.2.1, x6.2.2.2.1, x6.2.2.2.2), b)])) (hS.fact (k := 101) rfl)
            replace hS := hS.add 801 (slF RQ (A11) (n + 1) (c11) (xs ++ [((x6.2.1, x6.2.2.1, x6.2.2.2.1, x6.2.2.2.2), b)])) (hS.fact (k := 102) rfl)
            exact ⟨k + 1, by omega, ⟨s2, b + 1, A9, A11, n + 1, c9, c11, xs ++ [((x6.2.1, x6.2.2.1, x6.2.2.2.1, x6.2.2.2.2), b)], by omega, by omega, (hS.sub ⟨rfl, rfl, rfl, rfl, rfl, trivial⟩ ⟨rfl, rfl, trivial⟩ ⟨rfl, rfl, rfl, trivial⟩)⟩⟩
        · refine l_quiet hS rfl rfl (y_loadBox (kk := 1408) (n := 4) (vs := [.int .i64 (p), .int .u64 (s2), .int .i64 (b + 1), .slice (A11) (n + 1) (c11)]) hS rfl rfl Try.underlying25 rfl rfl rfl rfl) ?_; clear hS a; intro a hS; refine ⟨fun g _ h => h, ?_⟩
          refine n_1 5 hS (by kernel_rfl) rfl ⟨_, _, _, rfl, rfl, rfl, rfl⟩ (l_quiet hS rfl rfl (y_loadBox (kk := 1308) (n := 4) (vs := [.int .i64 (p), .int .u64 (s2), .int .i64 (b + 1), .slice (A9) (n + 1) (c9)]) hS rfl rfl Try.underlying25 rfl rfl rfl rfl) ?_); clear hS a; intro a hS; refine ⟨fun g _ h => h, ?_⟩
          refine n_1 6 hS (by kernel_rfl) rfl ⟨_, _, _, rfl, rfl, rfl, rfl⟩ (l_call (cap := []) hS rfl Try.func14 rfl (by kernel_rfl) rfl rfl (len_spec _ _ hS.lt _ _ _ _ _ _) ?_); clear hS a; intro v18 a w hK hp hS
          replace hZ := Nat.le_trans hZ hK.size; refine ⟨fun g _ h => h.grow hK, ?_⟩; clear hK
          obtain rfl := hp
          refine n_1 8 hS (by kernel_rfl) rfl ⟨_, _, _, rfl, rfl, rfl, rfl⟩ (l_call (cap := []) hS rfl Try.func18 rfl (by kernel_rfl) rfl rfl (rlen_spec _ _ hS.lt _ _ _ _ _ _) ?_); clear hS a; intro v19 a w hK hp hS
          replace hZ := Nat.le_trans hZ hK.size; refine ⟨fun g _ h => h.grow hK, ?_⟩; clear hK
          obtain rfl := hp
          refine n_1 9 hS (by kernel_rfl) rfl ⟨_, _, _, rfl, rfl, rfl, rfl⟩ (l_quiet hS rfl rfl (y_neq hS rfl rfl) ?_); clear hS a; intro a hS; refine ⟨fun g _ h => h, ?_⟩
          rw [show decide ((((n + 1 : Nat) : Int)) ≠ (((n + 1 : Nat) : Int))) = false from decide_eq_false (fun h => h rfl)] at hS
          refine n_1 10 hS (by kernel_rfl) rfl rfl (l_quiet hS rfl rfl (y_pick_f hS rfl rfl) ?_); clear hS a; intro a hS; refine ⟨fun g _ h => h, ?_⟩
          refine n_end (by kernel_rfl) ?_; clear hR hZ
          refine p_norm ?_
          refine c_f hS rfl ?_
          apply wp_skip
          refine p_inN ?_
          refine p_norm ?_
          apply wp_region_lit
          refine q_seq hS rfl rfl rfl (y_addN (i := k) (j := 1) hS rfl rfl (in64.2 (by omega))) ?_; clear hS a; intro a hS
          refine q_seq hS rfl rfl rfl (y_move hS rfl) ?_; clear hS a; intro a hS
          apply wpList_nil
          refine p_norm ?_
          replace hS := hS.add 800 (slF RQ (A9) (n + 1) (c9) (xs ++ [((x6.2.1, x6.2.2.1, x6.2.2.2.1, x6.2.2.2.2), b)])) (hS.fact (k := 101) rfl)
          replace hS := hS.add 801 (slF RQ (A11) (n + 1) (c11) (xs ++ [((x6.2.1, x6.2.2.1, x6.2.2.2.1, x6.2.2.2.2), b)])) (hS.fact (k := 102) rfl)
          exact ⟨k + 1, by omega, ⟨s2, b + 1, A9, A11, n + 1, c9, c11, xs ++ [((x6.2.1, x6.2.2.1, x6.2.2.2.1, x6.2.2.2.2), b)], by omega, by omega, (hS.sub ⟨rfl, rfl, rfl, rfl, rfl, trivial⟩ ⟨rfl, rfl, trivial⟩ ⟨rfl, rfl, rfl, trivial⟩)⟩⟩
      · apply wp_seq
        rcases Nat.eq_zero_or_pos n with rfl | hn
        · apply wp_region_lit
          refine q_seq hS rfl rfl rfl (y_loadBox (kk := 1308) (n := 4) (vs := [.int .i64 (p), .int .u64 (s2), .int .i64 (b), .slice (A1) (0) (c1)]) hS rfl rfl Try.underlying25 rfl rfl rfl rfl) ?_; clear hS a; intro a hS
          refine l_seq rfl (l_call (cap := []) hS rfl Try.func13 rfl (by kernel_rfl) rfl rfl (pop_nil _ _ hS.lt _ _ _ _ _ hp) ?_); clear hS a; intro v20 a w hK hp hS
          clear hK
          obtain rfl := hp
          refine q_seq hS rfl rfl rfl (y_move hS rfl) ?_; clear hS a; intro a hS
          refine q_seq hS rfl rfl rfl (y_extract hS rfl rfl) ?_; clear hS a; intro a hS
          refine q_seq hS rfl rfl rfl (y_extract hS rfl rfl) ?_; clear hS a; intro a hS
          refine q_seq hS rfl rfl rfl (y_extract hS rfl rfl) ?_; clear hS a; intro a hS
          refine l_seq rfl (l_alloc (zs := [.int .i64 (0), .int .u64 (0), .int .i64 (0), .slice (none) (0) (0)]) hS 2206 rfl rfl rfl rfl ?_); clear hS a; intro b21 a w hb hK hS
          clear hb
          clear hK
          refine l_seq rfl (l_alloc (zs := [.int .i64 (0), .int .i64 (0), .int .i64 (0), .int .i64 (0)]) hS 2207 rfl rfl rfl rfl ?_); clear hS a; intro b22 a w hb hK hS
          clear hb
          clear hK
          refine l_seq rfl (l_store (n := 4) (cs' := [.int .i64 (p), .int .u64 (s2), .int .i64 (b), .slice (A1) (0) (c1)]) hS 2206 rfl rfl rfl rfl rfl rfl rfl rfl ?_); clear hS; intro w hK hS; clear hK
          refine l_seq rfl (l_store (n := 4) (cs' := [.int .i64 (0), .int .i64 (0), .int .i64 (0), .int .i64 (0)]) hS 2207 rfl rfl rfl rfl rfl rfl rfl rfl ?_); clear hS; intro w hK hS; clear hK
          refine q_seq hS rfl rfl rfl (y_assign hS rfl) ?_; clear hS a; intro a hS
          apply wpList_nil
          refine p_norm ?_
          apply wp_seq
          apply wp_region_lit
          refine q_seq hS rfl rfl rfl (y_loadBox (kk := 1408) (n := 4) (vs := [.int .i64 (p), .int .u64 (s2), .int .i64 (b), .slice (A2) (0) (c2)]) hS rfl rfl Try.underlying25 rfl rfl rfl rfl) ?_; clear hS a; intro a hS
          refine l_seq rfl (l_call (cap := []) hS rfl Try.func17 rfl (by kernel_rfl) rfl rfl (rpop_nil _ _ hS.lt _ _ _ _ _ hp) ?_); clear hS a; intro v23 a w hK hp hS
          clear hK
          obtain rfl := hp
          refine q_seq hS rfl rfl rfl (y_move hS rfl) ?_; clear hS a; intro a hS
          refine q_seq hS rfl rfl rfl (y_extract hS rfl rfl) ?_; clear hS a; intro a hS
          refine q_seq hS rfl rfl rfl (y_extract hS rfl rfl) ?_; clear hS a; intro a hS
          refine q_seq hS rfl rfl rfl (y_extract hS rfl rfl) ?_; clear hS a; intro a hS
          refine l_seq rfl (l_alloc (zs := [.int .i64 (0), .int .u64 (0), .int .i64 (0), .slice (none) (0) (0)]) hS 2306 rfl rfl rfl rfl ?_); clear hS a; intro b24 a w hb hK hS
          clear hb
          clear hK
          refine l_seq rfl (l_alloc (zs := [.int .i64 (0), .int .i64 (0), .int .i64 (0), .int .i64 (0)]) hS 2307 rfl rfl rfl rfl ?_); clear hS a; intro b25 a w hb hK hS
          clear hb
          clear hK
          refine l_seq rfl (l_store (n := 4) (cs' := [.int .i64 (p), .int .u64 (s2), .int .i64 (b), .slice (A2) (0) (c2)]) hS 2306 rfl rfl rfl rfl rfl rfl rfl rfl ?_); clear hS; intro w hK hS; clear hK
          refine l_seq rfl (l_store (n := 4) (cs' := [.int .i64 (0), .int .i64 (0), .int .i64 (0), .int .i64 (0)]) hS 2307 rfl rfl rfl rfl rfl rfl rfl rfl ?_); clear hS; intro w hK hS; clear hK
          refine q_seq hS rfl rfl rfl (y_assign hS rfl) ?_; clear hS a; intro a hS
          apply wpList_nil
          refine p_norm ?_
          apply wp_seq
          apply wp_seq
          apply wp_region_lit
          refine q_seq hS rfl rfl rfl (y_loadBox (kk := 2207) (n := 4) (vs := [.int .i64 (0), .int .i64 (0), .int .i64 (0), .int .i64 (0)]) hS rfl rfl Try.underlying32 rfl rfl rfl rfl) ?_; clear hS a; intro a hS
          refine q_seq hS rfl rfl rfl (y_loadBox (kk := 2307) (n := 4) (vs := [.int .i64 (0), .int .i64 (0), .int .i64 (0), .int .i64 (0)]) hS rfl rfl Try.underlying32 rfl rfl rfl rfl) ?_; clear hS a; intro a hS
          refine q_seq hS rfl rfl rfl (y_neqS hS rfl rfl (by kernel_rfl) (fun w' => eq32 9998 _ _ _ _ _ _ _ _ w')) ?_; clear hS a; intro a hS
          rw [show decide (((0, 0, 0, 0) : Task) = (0, 0, 0, 0)) = true from decide_eq_true rfl] at hS
          refine q_seq hS rfl rfl rfl (y_move hS rfl) ?_; clear hS a; intro a hS
          refine g_yes hS rfl rfl rfl rfl (l_quiet hS rfl rfl (y_move hS rfl) ?_); clear hS a; intro a hS
          refine g_yes hS rfl rfl rfl rfl (l_quiet hS rfl rfl (y_move hS rfl) ?_); clear hS a; intro a hS
          refine g_yes hS rfl rfl rfl rfl (l_quiet hS rfl rfl (y_bne hS rfl rfl Try.underlying4) ?_); clear hS a; intro a hS
          refine q_seq hS rfl rfl rfl (y_pick_f hS rfl rfl) ?_; clear hS a; intro a hS
          apply wpList_nil
          refine p_norm ?_
          refine c_f hS rfl ?_
          apply wp_skip
          refine p_norm ?_
          refine d_plan hS [(2, 1308), (3, 1408)] [(0, some 2206), (1, some 2306), (2, none), (3, none)] rfl (by kernel_rfl) (by kernel_rfl) rfl ?_; clear hS; intro wr hZ hS; have hR := hS.wd
          refine q_take hS hR rfl rfl rfl rfl (y_loadBox (kk := 2206) (n := 4) (vs := [.int .i64 (p), .int .u64 (s2), .int .i64 (b), .slice (A1) (0) (c1)]) hS rfl rfl Try.underlying25 rfl rfl rfl rfl) ?_; clear hS a; intro a hS
          refine q_take hS hR rfl rfl rfl rfl (y_loadBox (kk := 2306) (n := 4) (vs := [.int .i64 (p), .int .u64 (s2), .int .i64 (b), .slice (A2) (0) (c2)]) hS rfl rfl Try.underlying25 rfl rfl rfl rfl) ?_; clear hS a; intro a hS
          refine l_take hS rfl rfl (l_store (n := 4) (cs' := [.int .i64 (p), .int .u64 (s2), .int .i64 (b), .slice (A1) (0) (c1)]) hS 1308 rfl rfl rfl rfl rfl rfl rfl rfl ?_); clear hS; intro w hK hS; replace hZ := Nat.le_trans hZ hK.size
          refine ⟨fun g hg h => h.obj hR (kk := 1308) rfl hK (by rintro rfl; exact absurd hg (by decide)), ?_⟩; clear hK
          refine l_take hS rfl rfl (l_store (n := 4) (cs' := [.int .i64 (p), .int .u64 (s2), .int .i64 (b), .slice (A2) (0) (c2)]) hS 1408 rfl rfl rfl rfl rfl rfl rfl rfl ?_); clear hS; intro w hK hS; replace hZ := Nat.le_trans hZ hK.size
          refine ⟨fun g hg h => h.obj hR (kk := 1408) rfl hK (by rintro rfl; exact absurd hg (by decide)), ?_⟩; clear hK
          clear hR hZ
          refine p_norm ?_
          apply wp_seq
          refine d_steps hS [] rfl ?_; clear hS; intro wr hZ hS; have hR := hS.wd
          refine n_q 0 1308 hS hR rfl (by kernel_rfl) (by kernel_rfl) (by kernel_rfl) rfl rfl rfl (y_loadBox (kk := 1308) (n := 4) (vs := [.int .i64 (p), .int .u64 (s2), .int .i64 (b), .slice (A1) (0) (c1)]) hS rfl rfl Try.underlying25 rfl rfl rfl rfl) ?_; clear hS a; intro a hS
          refine n_q 1 1408 hS hR rfl (by kernel_rfl) (by kernel_rfl) (by kernel_rfl) rfl rfl rfl (y_loadBox (kk := 1408) (n := 4) (vs := [.int .i64 (p), .int .u64 (s2), .int .i64 (b), .slice (A2) (0) (c2)]) hS rfl rfl Try.underlying25 rfl rfl rfl rfl) ?_; clear hS a; intro a hS
          refine n_1 2 hS (by kernel_rfl) rfl rfl (l_call (cap := []) hS rfl Try.func11 rfl (by kernel_rfl) rfl rfl (same_spec _ _ hS.lt _ _ _ _ _ _ _ _ (xs) (hS.fact (k := 800) rfl) (hS.fact (k := 801) rfl) (by omega)) ?_); clear hS a; intro v26 a w hK hp hS
          replace hZ := Nat.le_trans hZ hK.size; refine ⟨fun g _ h => h.grow hK, ?_⟩; clear hK
          obtain rfl := hp
          refine n_1 3 hS (by kernel_rfl) rfl rfl (l_quiet hS rfl rfl (y_not hS rfl) ?_); clear hS a; intro a hS; refine ⟨fun g _ h => h, ?_⟩
          refine n_1 4 hS (by kernel_rfl) rfl rfl (l_quiet hS rfl rfl (y_move hS rfl) ?_); clear hS a; intro a hS; refine ⟨fun g _ h => h, ?_⟩
          refine n_2 5 7 hS (by kernel_rfl) rfl ⟨_, _, _, rfl, rfl, rfl, rfl⟩ rfl ⟨_, _, _, rfl, rfl, rfl, rfl⟩ ?_ ?_
          · refine l_quiet hS rfl rfl (y_loadBox (kk := 1308) (n := 4) (vs := [.int .i64 (p), .int .u64 (s2), .int .i64 (b), .slice (A1) (0) (c1)]) hS rfl rfl Try.underlying25 rfl rfl rfl rfl) ?_; clear hS a; intro a hS; refine ⟨fun g _ h => h, ?_⟩
            refine n_2 6 7 hS (by kernel_rfl) rfl ⟨_, _, _, rfl, rfl, rfl, rfl⟩ rfl ⟨_, _, _, rfl, rfl, rfl, rfl⟩ ?_ ?_
            · refine l_call (cap := []) hS rfl Try.func14 rfl (by kernel_rfl) rfl rfl (len_spec _ _ hS.lt _ _ _ _ _ _) ?_; clear hS a; intro v27 a w hK hp hS
              replace hZ := Nat.le_trans hZ hK.size; refine ⟨fun g _ h => h.grow hK, ?_⟩; clear hK
              obtain rfl := hp
              refine n_1 7 hS (by kernel_rfl) rfl ⟨_, _, _, rfl, rfl, rfl, rfl⟩ (l_quiet hS rfl rfl (y_loadBox (kk := 1408) (n := 4) (vs := [.int .i64 (p), .int .u64 (s2), .int .i64 (b), .slice (A2) (0) (c2)]) hS rfl rfl Try.underlying25 rfl rfl rfl rfl) ?_); clear hS a; intro a hS; refine ⟨fun g _ h => h, ?_⟩
              refine n_1 8 hS (by kernel_rfl) rfl ⟨_, _, _, rfl, rfl, rfl, rfl⟩ (l_call (cap := []) hS rfl Try.func18 rfl (by kernel_rfl) rfl rfl (rlen_spec _ _ hS.lt _ _ _ _ _ _) ?_); clear hS a; intro v28 a w hK hp hS
              replace hZ := Nat.le_trans hZ hK.size; refine ⟨fun g _ h => h.grow hK, ?_⟩; clear hK
              obtain rfl := hp
              refine n_1 9 hS (by kernel_rfl) rfl ⟨_, _, _, rfl, rfl, rfl, rfl⟩ (l_quiet hS rfl rfl (y_neq hS rfl rfl) ?_); clear hS a; intro a hS; refine ⟨fun g _ h => h, ?_⟩
              refine n_1 10 hS (by kernel_rfl) rfl rfl (l_quiet hS rfl rfl (y_pick_f hS rfl rfl) ?_); clear hS a; intro a hS; refine ⟨fun g _ h => h, ?_⟩
              refine n_end (by kernel_rfl) ?_; clear hR hZ
              refine p_norm ?_
              refine c_f hS rfl ?_
              apply wp_skip
              refine p_inN ?_
              refine p_norm ?_
              apply wp_region_lit
              refine q_seq hS rfl rfl rfl (y_addN (i := k) (j := 1) hS rfl rfl (in64.2 (by omega))) ?_; clear hS a; intro a hS
              refine q_seq hS rfl rfl rfl (y_move hS rfl) ?_; clear hS a; intro a hS
              apply wpList_nil
              refine p_norm ?_
              replace hS := hS.add 800 (slF RQ (A1) (0) (c1) (xs)) (hS.fact (k := 800) rfl)
              replace hS := hS.add 801 (slF RQ (A2) (0) (c2) (xs)) (hS.fact (k := 801) rfl)
              exact ⟨k + 1, by omega, ⟨s2, b, A1, A2, 0, c1, c2, xs, by omega, by omega, (hS.sub ⟨rfl, rfl, rfl, rfl, rfl, trivial⟩ ⟨rfl, rfl, trivial⟩ ⟨rfl, rfl, rfl, trivial⟩)⟩⟩
            · refine l_quiet hS rfl rfl (y_loadBox (kk := 1408) (n := 4) (vs := [.int .i64 (p), .int .u64 (s2), .int .i64 (b), .slice (A2) (0) (c2)]) hS rfl rfl Try.underlying25 rfl rfl rfl rfl) ?_; clear hS a; intro a hS; refine ⟨fun g _ h => h, ?_⟩
              refine n_1 6 hS (by kernel_rfl) rfl ⟨_, _, _, rfl, rfl, rfl, rfl⟩ (l_call (cap := []) hS rfl Try.func14 rfl (by kernel_rfl) rfl rfl (len_spec _ _ hS.lt _ _ _ _ _ _) ?_); clear hS a; intro v29 a w hK hp hS
              replace hZ := Nat.le_trans hZ hK.size; refine ⟨fun g _ h => h.grow hK, ?_⟩; clear hK
              obtain rfl := hp
              refine n_1 8 hS (by kernel_rfl) rfl ⟨_, _, _, rfl, rfl, rfl, rfl⟩ (l_call (cap := []) hS rfl Try.func18 rfl (by kernel_rfl) rfl rfl (rlen_spec _ _ hS.lt _ _ _ _ _ _) ?_); clear hS a; intro v30 a w hK hp hS
              replace hZ := Nat.le_trans hZ hK.size; refine ⟨fun g _ h => h.grow hK, ?_⟩; clear hK
              obtain rfl := hp
              refine n_1 9 hS (by kernel_rfl) rfl ⟨_, _, _, rfl, rfl, rfl, rfl⟩ (l_quiet hS rfl rfl (y_neq hS rfl rfl) ?_); clear hS a; intro a hS; refine ⟨fun g _ h => h, ?_⟩
              refine n_1 10 hS (by kernel_rfl) rfl rfl (l_quiet hS rfl rfl (y_pick_f hS rfl rfl) ?_); clear hS a; intro a hS; refine ⟨fun g _ h => h, ?_⟩
              refine n_end (by kernel_rfl) ?_; clear hR hZ
              refine p_norm ?_
              refine c_f hS rfl ?_
              apply wp_skip
              refine p_inN ?_
              refine p_norm ?_
              apply wp_region_lit
              refine q_seq hS rfl rfl rfl (y_addN (i := k) (j := 1) hS rfl rfl (in64.2 (by omega))) ?_; clear hS a; intro a hS
              refine q_seq hS rfl rfl rfl (y_move hS rfl) ?_; clear hS a; intro a hS
              apply wpList_nil
              refine p_norm ?_
              replace hS := hS.add 800 (slF RQ (A1) (0) (c1) (xs)) (hS.fact (k := 800) rfl)
              replace hS := hS.add 801 (slF RQ (A2) (0) (c2) (xs)) (hS.fact (k := 801) rfl)
              exact ⟨k + 1, by omega, ⟨s2, b, A1, A2, 0, c1, c2, xs, by omega, by omega, (hS.sub ⟨rfl, rfl, rfl, rfl, rfl, trivial⟩ ⟨rfl, rfl, trivial⟩ ⟨rfl, rfl, rfl, trivial⟩)⟩⟩
          · refine l_quiet hS rfl rfl (y_loadBox (kk := 1408) (n := 4) (vs := [.int .i64 (p), .int .u64 (s2), .int .i64 (b), .slice (A2) (0) (c2)]) hS rfl rfl Try.underlying25 rfl rfl rfl rfl) ?_; clear hS a; intro a hS; refine ⟨fun g _ h => h, ?_⟩
            refine n_1 5 hS (by kernel_rfl) rfl ⟨_, _, _, rfl, rfl, rfl, rfl⟩ (l_quiet hS rfl rfl (y_loadBox (kk := 1308) (n := 4) (vs := [.int .i64 (p), .int .u64 (s2), .int .i64 (b), .slice (A1) (0) (c1)]) hS rfl rfl Try.underlying25 rfl rfl rfl rfl) ?_); clear hS a; intro a hS; refine ⟨fun g _ h => h, ?_⟩
            refine n_1 6 hS (by kernel_rfl) rfl ⟨_, _, _, rfl, rfl, rfl, rfl⟩ (l_call (cap := []) hS rfl Try.func14 rfl (by kernel_rfl) rfl rfl (len_spec _ _ hS.lt _ _ _ _ _ _) ?_); clear hS a; intro v31 a w hK hp hS
            replace hZ := Nat.le_trans hZ hK.size; refine ⟨fun g _ h => h.grow hK, ?_⟩; clear hK
            obtain rfl := hp
            refine n_1 8 hS (by kernel_rfl) rfl ⟨_, _, _, rfl, rfl, rfl, rfl⟩ (l_call (cap := []) hS rfl Try.func18 rfl (by kernel_rfl) rfl rfl (rlen_spec _ _ hS.lt _ _ _ _ _ _) ?_); clear hS a; intro v32 a w hK hp hS
            replace hZ := Nat.le_trans hZ hK.size; refine ⟨fun g _ h => h.grow hK, ?_⟩; clear hK
            obtain rfl := hp
            refine n_1 9 hS (by kernel_rfl) rfl ⟨_, _, _, rfl, rfl, rfl, rfl⟩ (l_quiet hS rfl rfl (y_neq hS rfl rfl) ?_); clear hS a; intro a hS; refine ⟨fun g _ h => h, ?_⟩
            refine n_1 10 hS (by kernel_rfl) rfl rfl (l_quiet hS rfl rfl (y_pick_f hS rfl rfl) ?_); clear hS a; intro a hS; refine ⟨fun g _ h => h, ?_⟩
            refine n_end (by kernel_rfl) ?_; clear hR hZ
            refine p_norm ?_
            refine c_f hS rfl ?_
            apply wp_skip
            refine p_inN ?_
            refine p_norm ?_
            apply wp_region_lit
            refine q_seq hS rfl rfl rfl (y_addN (i := k) (j := 1) hS rfl rfl (in64.2 (by omega))) ?_; clear hS a; intro a hS
            refine q_seq hS rfl rfl rfl (y_move hS rfl) ?_; clear hS a; intro a hS
            apply wpList_nil
            refine p_norm ?_
            replace hS := hS.add 800 (slF RQ (A1) (0) (c1) (xs)) (hS.fact (k := 800) rfl)
            replace hS := hS.add 801 (slF RQ (A2) (0) (c2) (xs)) (hS.fact (k := 801) rfl)
            exact ⟨k + 1, by omega, ⟨s2, b, A1, A2, 0, c1, c2, xs, by omega, by omega, (hS.sub ⟨rfl, rfl, rfl, rfl, rfl, trivial⟩ ⟨rfl, rfl, trivial⟩ ⟨rfl, rfl, rfl, trivial⟩)⟩⟩
        · apply wp_region_lit
          refine q_seq hS rfl rfl rfl (y_loadBox (kk := 1308) (n := 4) (vs := [.int .i64 (p), .int .u64 (s2), .int .i64 (b), .slice (A1) (n) (c1)]) hS rfl rfl Try.underlying25 rfl rfl rfl rfl) ?_; clear hS a; intro a hS
          refine l_seq rfl (l_call (cap := []) hS rfl Try.func13 rfl (by kernel_rfl) rfl rfl (pop_all _ _ hS.lt _ _ _ _ _ _ (xs) hp (hS.fact (k := 800) rfl) (by omega)) ?_); clear hS a; intro v34 a w hK hp hS
          clear hK
          obtain ⟨A33, c33, x33, hx33, rfl, h33⟩ := hp
          replace hS := hS.add 103 (slF RQ (A33) (n - 1) (c33) (popRest (xs) (popIdx (p) (s2) (xs)))) h33
          refine q_seq hS rfl rfl rfl (y_move hS rfl) ?_; clear hS a; intro a hS
          refine q_seq hS rfl rfl rfl (y_extract hS rfl rfl) ?_; clear hS a; intro a hS
          refine q_seq hS rfl rfl rfl (y_extract hS rfl rfl) ?_; clear hS a; intro a hS
          refine q_seq hS rfl rfl rfl (y_extract hS rfl rfl) ?_; clear hS a; intro a hS
          refine l_seq rfl (l_alloc (zs := [.int .i64 (0), .int .u64 (0), .int .i64 (0), .slice (none) (0) (0)]) hS 2206 rfl rfl rfl rfl ?_); clear hS a; intro b35 a w hb hK hS
          clear hb
          clear hK
          refine l_seq rfl (l_alloc (zs := [.int .i64 (0), .int .i64 (0), .int .i64 (0), .int .i64 (0)]) hS 2207 rfl rfl rfl rfl ?_); clear hS a; intro b36 a w hb hK hS
          clear hb
          clear hK
          refine l_seq rfl (l_store (n := 4) (cs' := [.int .i64 (p), .int .u64 (popSeed (p) (s2)), .int .i64 (b), .slice (A33) (n - 1) (c33)]) hS 2206 rfl rfl rfl rfl rfl rfl rfl rfl ?_); clear hS; intro w hK hS; clear hK
          refine l_seq rfl (l_store (n := 4) (cs' := [.int .i64 (x33.1.1), .int .i64 (x33.1.2.1), .int .i64 (x33.1.2.2.1), .int .i64 (x33.1.2.2.2)]) hS 2207 rfl rfl rfl rfl rfl rfl rfl rfl ?_); clear hS; intro w hK hS; clear hK
          refine q_seq hS rfl rfl rfl (y_assign hS rfl) ?_; clear hS a; intro a hS
          apply wpList_nil
          refine p_norm ?_
          apply wp_seq
          apply wp_region_lit
          refine q_seq hS rfl rfl rfl (y_loadBox (kk := 1408) (n := 4) (vs := [.int .i64 (p), .int .u64 (s2), .int .i64 (b), .slice (A2) (n) (c2)]) hS rfl rfl Try.underlying25 rfl rfl rfl rfl) ?_; clear hS a; intro a hS
          refine l_seq rfl (l_call (cap := []) hS rfl Try.func17 rfl (by kernel_rfl) rfl rfl (rpop_all _ _ hS.lt _ _ _ _ _ _ (xs) hp (hS.fact (k := 801) rfl) (by omega)) ?_); clear hS a; intro v38 a w hK hp hS
          clear hK
          obtain ⟨A37, c37, x37, hx37, rfl, h37⟩ := hp
          replace hS := hS.add 104 (slF RQ (A37) (n - 1) (c37) (popRest (xs) (popIdx (p) (s2) (xs)))) h37
          obtain rfl : x33 = x37 := Option.some.inj (hx33.symm.trans hx37)
          refine q_seq hS rfl rfl rfl (y_move hS rfl) ?_; clear hS a; intro a hS
          refine q_seq hS rfl rfl rfl (y_extract hS rfl rfl) ?_; clear hS a; intro a hS
          refine q_seq hS rfl rfl rfl (y_extract hS rfl rfl) ?_; clear hS a; intro a hS
          refine q_seq hS rfl rfl rfl (y_extract hS rfl rfl) ?_; clear hS a; intro a hS
          refine l_seq rfl (l_alloc (zs := [.int .i64 (0), .int .u64 (0), .int .i64 (0), .slice (none) (0) (0)]) hS 2306 rfl rfl rfl rfl ?_); clear hS a; intro b39 a w hb hK hS
          clear hb
          clear hK
          refine l_seq rfl (l_alloc (zs := [.int .i64 (0), .int .i64 (0), .int .i64 (0), .int .i64 (0)]) hS 2307 rfl rfl rfl rfl ?_); clear hS a; intro b40 a w hb hK hS
          clear hb
          clear hK
          refine l_seq rfl (l_store (n := 4) (cs' := [.int .i64 (p), .int .u64 (popSeed (p) (s2)), .int .i64 (b), .slice (A37) (n - 1) (c37)]) hS 2306 rfl rfl rfl rfl rfl rfl rfl rfl ?_); clear hS; intro w hK hS; clear hK
          refine l_seq rfl (l_store (n := 4) (cs' := [.int .i64 (x33.1.1), .int .i64 (x33.1.2.1), .int .i64 (x33.1.2.2.1), .int .i64 (x33.1.2.2.2)]) hS 2307 rfl rfl rfl rfl rfl rfl rfl rfl ?_); clear hS; intro w hK hS; clear hK
          refine q_seq hS rfl rfl rfl (y_assign hS rfl) ?_; clear hS a; intro a hS
          apply wpList_nil
          refine p_norm ?_
          apply wp_seq
          apply wp_seq
          apply wp_region_lit
          refine q_seq hS rfl rfl rfl (y_loadBox (kk := 2207) (n := 4) (vs := [.int .i64 (x33.1.1), .int .i64 (x33.1.2.1), .int .i64 (x33.1.2.2.1), .int .i64 (x33.1.2.2.2)]) hS rfl rfl Try.underlying32 rfl rfl rfl rfl) ?_; clear hS a; intro a hS
          refine q_seq hS rfl rfl rfl (y_loadBox (kk := 2307) (n := 4) (vs := [.int .i64 (x33.1.1), .int .i64 (x33.1.2.1), .int .i64 (x33.1.2.2.1), .int .i64 (x33.1.2.2.2)]) hS rfl rfl Try.underlying32 rfl rfl rfl rfl) ?_; clear hS a; intro a hS
          refine q_seq hS rfl rfl rfl (y_neqS hS rfl rfl (by kernel_rfl) (fun w' => eq32 9998 _ _ _ _ _ _ _ _ w')) ?_; clear hS a; intro a hS
          rw [show decide (((x33.1.1, x33.1.2.1, x33.1.2.2.1, x33.1.2.2.2) : Task) = (x33.1.1, x33.1.2.1, x33.1.2.2.1, x33.1.2.2.2)) = true from decide_eq_true rfl] at hS
          refine q_seq hS rfl rfl rfl (y_move hS rfl) ?_; clear hS a; intro a hS
          refine g_yes hS rfl rfl rfl rfl (l_quiet hS rfl rfl (y_move hS rfl) ?_); clear hS a; intro a hS
          refine g_yes hS rfl rfl rfl rfl (l_quiet hS rfl rfl (y_move hS rfl) ?_); clear hS a; intro a hS
          refine g_yes hS rfl rfl rfl rfl (l_quiet hS rfl rfl (y_bne hS rfl rfl Try.underlying4) ?_); clear hS a; intro a hS
          refine q_seq hS rfl rfl rfl (y_pick_f hS rfl rfl) ?_; clear hS a; intro a hS
          apply wpList_nil
          refine p_norm ?_
          refine c_f hS rfl ?_
          apply wp_skip
          refine p_norm ?_
          refine d_plan hS [(2, 1308), (3, 1408)] [(0, some 2206), (1, some 2306), (2, none), (3, none)] rfl (by kernel_rfl) (by kernel_rfl) rfl ?_; clear hS; intro wr hZ hS; have hR := hS.wd
          refine q_take hS hR rfl rfl rfl rfl (y_loadBox (kk := 2206) (n := 4) (vs := [.int .i64 (p), .int .u64 (popSeed (p) (s2)), .int .i64 (b), .slice (A33) (n - 1) (c33)]) hS rfl rfl Try.underlying25 rfl rfl rfl rfl) ?_; clear hS a; intro a hS
          refine q_take hS hR rfl rfl rfl rfl (y_loadBox (kk := 2306) (n := 4) (vs := [.int .i64 (p), .int .u64 (popSeed (p) (s2)), .int .i64 (b), .slice (A37) (n - 1) (c37)]) hS rfl rfl Try.underlying25 rfl rfl rfl rfl) ?_; clear hS a; intro a hS
          refine l_take hS rfl rfl (l_store (n := 4) (cs' := [.int .i64 (p), .int .u64 (popSeed (p) (s2)), .int .i64 (b), .slice (A33) (n - 1) (c33)]) hS 1308 rfl rfl rfl rfl rfl rfl rfl rfl ?_); clear hS; intro w hK hS; replace hZ := Nat.le_trans hZ hK.size
          refine ⟨fun g hg h => h.obj hR (kk := 1308) rfl hK (by rintro rfl; exact absurd hg (by decide)), ?_⟩; clear hK
          refine l_take hS rfl rfl (l_store (n := 4) (cs' := [.int .i64 (p), .int .u64 (popSeed (p) (s2)), .int .i64 (b), .slice (A37) (n - 1) (c37)]) hS 1408 rfl rfl rfl rfl rfl rfl rfl rfl ?_); clear hS; intro w hK hS; replace hZ := Nat.le_trans hZ hK.size
          refine ⟨fun g hg h => h.obj hR (kk := 1408) rfl hK (by rintro rfl; exact absurd hg (by decide)), ?_⟩; clear hK
          clear hR hZ
          refine p_norm ?_
          apply wp_seq
          refine d_steps hS [] rfl ?_; clear hS; intro wr hZ hS; have hR := hS.wd
          refine n_q 0 1308 hS hR rfl (by kernel_rfl) (by kernel_rfl) (by kernel_rfl) rfl rfl rfl (y_loadBox (kk := 1308) (n := 4) (vs := [.int .i64 (p), .int .u64 (popSeed (p) (s2)), .int .i64 (b), .slice (A33) (n - 1) (c33)]) hS rfl rfl Try.underlying25 rfl rfl rfl rfl) ?_; clear hS a; intro a hS
          refine n_q 1 1408 hS hR rfl (by kernel_rfl) (by kernel_rfl) (by kernel_rfl) rfl rfl rfl (y_loadBox (kk := 1408) (n := 4) (vs := [.int .i64 (p), .int .u64 (popSeed (p) (s2)), .int .i64 (b), .slice (A37) (n - 1) (c37)]) hS rfl rfl Try.underlying25 rfl rfl rfl rfl) ?_; clear hS a; intro a hS
          refine n_1 2 hS (by kernel_rfl) rfl rfl (l_call (cap := []) hS rfl Try.func11 rfl (by kernel_rfl) rfl rfl (same_spec _ _ hS.lt _ _ _ _ _ _ _ _ (popRest (xs) (popIdx (p) (s2) (xs))) (hS.fact (k := 103) rfl) (hS.fact (k := 104) rfl) (by omega)) ?_); clear hS a; intro v41 a w hK hp hS
          replace hZ := Nat.le_trans hZ hK.size; refine ⟨fun g _ h => h.grow hK, ?_⟩; clear hK
          obtain rfl := hp
          refine n_1 3 hS (by kernel_rfl) rfl rfl (l_quiet hS rfl rfl (y_not hS rfl) ?_); clear hS a; intro a hS; refine ⟨fun g _ h => h, ?_⟩
          refine n_1 4 hS (by kernel_rfl) rfl rfl (l_quiet hS rfl rfl (y_move hS rfl) ?_); clear hS a; intro a hS; refine ⟨fun g _ h => h, ?_⟩
          refine n_2 5 7 hS (by kernel_rfl) rfl ⟨_, _, _, rfl, rfl, rfl, rfl⟩ rfl ⟨_, _, _, rfl, rfl, rfl, rfl⟩ ?_ ?_
          · refine l_quiet hS rfl rfl (y_loadBox (kk := 1308) (n := 4) (vs := [.int .i64 (p), .int .u64 (popSeed (p) (s2)), .int .i64 (b), .slice (A33) (n - 1) (c33)]) hS rfl rfl Try.underlying25 rfl rfl rfl rfl) ?_; clear hS a; intro a hS; refine ⟨fun g _ h => h, ?_⟩
            refine n_2 6 7 hS (by kernel_rfl) rfl ⟨_, _, _, rfl, rfl, rfl, rfl⟩ rfl ⟨_, _, _, rfl, rfl, rfl, rfl⟩ ?_ ?_
            · refine l_call (cap := []) hS rfl Try.func14 rfl (by kernel_rfl) rfl rfl (len_spec _ _ hS.lt _ _ _ _ _ _) ?_; clear hS a; intro v42 a w hK hp hS
              replace hZ := Nat.le_trans hZ hK.size; refine ⟨fun g _ h => h.grow hK, ?_⟩; clear hK
              obtain rfl := hp
              refine n_1 7 hS (by kernel_rfl) rfl ⟨_, _, _, rfl, rfl, rfl, rfl⟩ (l_quiet hS rfl rfl (y_loadBox (kk := 1408) (n := 4) (vs := [.int .i64 (p), .int .u64 (popSeed (p) (s2)), .int .i64 (b), .slice (A37) (n - 1) (c37)]) hS rfl rfl Try.underlying25 rfl rfl rfl rfl) ?_); clear hS a; intro a hS; refine ⟨fun g _ h => h, ?_⟩
              refine n_1 8 hS (by kernel_rfl) rfl ⟨_, _, _, rfl, rfl, rfl, rfl⟩ (l_call (cap := []) hS rfl Try.func18 rfl (by kernel_rfl) rfl rfl (rlen_spec _ _ hS.lt _ _ _ _ _ _) ?_); clear hS a; intro v43 a w hK hp hS
              replace hZ := Nat.le_trans hZ hK.size; refine ⟨fun g _ h => h.grow hK, ?_⟩; clear hK
              obtain rfl := hp
              refine n_1 9 hS (by kernel_rfl) rfl ⟨_, _, _, rfl, rfl, rfl, rfl⟩ (l_quiet hS rfl rfl (y_neq hS rfl rfl) ?_); clear hS a; intro a hS; refine ⟨fun g _ h => h, ?_⟩
              rw [show decide ((((n - 1 : Nat) : Int)) ≠ (((n - 1 : Nat) : Int))) = false from decide_eq_false (fun h => h rfl)] at hS
              refine n_1 10 hS (by kernel_rfl) rfl rfl (l_quiet hS rfl rfl (y_pick_f hS rfl rfl) ?_); clear hS a; intro a hS; refine ⟨fun g _ h => h, ?_⟩
              refine n_end (by kernel_rfl) ?_; clear hR hZ
              refine p_norm ?_
              refine c_f hS rfl ?_
              apply wp_skip
              refine p_inN ?_
              refine p_norm ?_
              apply wp_region_lit
              refine q_seq hS rfl rfl rfl (y_addN (i := k) (j := 1) hS rfl rfl (in64.2 (by omega))) ?_; clear hS a; intro a hS
              refine q_seq hS rfl rfl rfl (y_move hS rfl) ?_; clear hS a; intro a hS
              apply wpList_nil
              refine p_norm ?_
              replace hS := hS.add 800 (slF RQ (A33) (n - 1) (c33) (popRest (xs) (popIdx (p) (s2) (xs)))) (hS.fact (k := 103) rfl)
              replace hS := hS.add 801 (slF RQ (A37) (n - 1) (c37) (popRest (xs) (popIdx (p) (s2) (xs)))) (hS.fact (k := 104) rfl)
              exact ⟨k + 1, by omega, ⟨popSeed (p) (s2), b, A33, A37, n - 1, c33, c37, popRest (xs) (popIdx (p) (s2) (xs)), by omega, by omega, (hS.sub ⟨rfl, rfl, rfl, rfl, rfl, trivial⟩ ⟨rfl, rfl, trivial⟩ ⟨rfl, rfl, rfl, trivial⟩)⟩⟩
            · refine l_quiet hS rfl rfl (y_loadBox (kk := 1408) (n := 4) (vs := [.int .i64 (p), .int .u64 (popSeed (p) (s2)), .int .i64 (b), .slice (A37) (n - 1) (c37)]) hS rfl rfl Try.underlying25 rfl rfl rfl rfl) ?_; clear hS a; intro a hS; refine ⟨fun g _ h => h, ?_⟩
              refine n_1 6 hS (by kernel_rfl) rfl ⟨_, _, _, rfl, rfl, rfl, rfl⟩ (l_call (cap := []) hS rfl Try.func14 rfl (by kernel_rfl) rfl rfl (len_spec _ _ hS.lt _ _ _ _ _ _) ?_); clear hS a; intro v44 a w hK hp hS
              replace hZ := Nat.le_trans hZ hK.size; refine ⟨fun g _ h => h.grow hK, ?_⟩; clear hK
              obtain rfl := hp
              refine n_1 8 hS (by kernel_rfl) rfl ⟨_, _, _, rfl, rfl, rfl, rfl⟩ (l_call (cap := []) hS rfl Try.func18 rfl (by kernel_rfl) rfl rfl (rlen_spec _ _ hS.lt _ _ _ _ _ _) ?_); clear hS a; intro v45 a w hK hp hS
              replace hZ := Nat.le_trans hZ hK.size; refine ⟨fun g _ h => h.grow hK, ?_⟩; clear hK
              obtain rfl := hp
              refine n_1 9 hS (by kernel_rfl) rfl ⟨_, _, _, rfl, rfl, rfl, rfl⟩ (l_quiet hS rfl rfl (y_neq hS rfl rfl) ?_); clear hS a; intro a hS; refine ⟨fun g _ h => h, ?_⟩
              rw [show decide ((((n - 1 : Nat) : Int)) ≠ (((n - 1 : Nat) : Int))) = false from decide_eq_false (fun h => h rfl)] at hS
              refine n_1 10 hS (by kernel_rfl) rfl rfl (l_quiet hS rfl rfl (y_pick_f hS rfl rfl) ?_); clear hS a; intro a hS; refine ⟨fun g _ h => h, ?_⟩
              refine n_end (by kernel_rfl) ?_; clear hR hZ
              refine p_norm ?_
              refine c_f hS rfl ?_
              apply wp_skip
              refine p_inN ?_
              refine p_norm ?_
              apply wp_region_lit
              refine q_seq hS rfl rfl rfl (y_addN (i := k) (j := 1) hS rfl rfl (in64.2 (by omega))) ?_; clear hS a; intro a hS
              refine q_seq hS rfl rfl rfl (y_move hS rfl) ?_; clear hS a; intro a hS
              apply wpList_nil
              refine p_norm ?_
              replace hS := hS.add 800 (slF RQ (A33) (n - 1) (c33) (popRest (xs) (popIdx (p) (s2) (xs)))) (hS.fact (k := 103) rfl)
              replace hS := hS.add 801 (slF RQ (A37) (n - 1) (c37) (popRest (xs) (popIdx (p) (s2) (xs)))) (hS.fact (k := 104) rfl)
              exact ⟨k + 1, by omega, ⟨popSeed (p) (s2), b, A33, A37, n - 1, c33, c37, popRest (xs) (popIdx (p) (s2) (xs)), by omega, by omega, (hS.sub ⟨rfl, rfl, rfl, rfl, rfl, trivial⟩ ⟨rfl, rfl, trivial⟩ ⟨rfl, rfl, rfl, trivial⟩)⟩⟩
          · refine l_quiet hS rfl rfl (y_loadBox (kk := 1408) (n := 4) (vs := [.int .i64 (p), .int .u64 (popSeed (p) (s2)), .int .i64 (b), .slice (A37) (n - 1) (c37)]) hS rfl rfl Try.underlying25 rfl rfl rfl rfl) ?_; clear hS a; intro a hS; refine ⟨fun g _ h => h, ?_⟩
            refine n_1 5 hS (by kernel_rfl) rfl ⟨_, _, _, rfl, rfl, rfl, rfl⟩ (l_quiet hS rfl rfl (y_loadBox (kk := 1308) (n := 4) (vs := [.int .i64 (p), .int .u64 (popSeed (p) (s2)), .int .i64 (b), .slice (A33) (n - 1) (c33)]) hS rfl rfl Try.underlying25 rfl rfl rfl rfl) ?_); clear hS a; intro a hS; refine ⟨fun g _ h => h, ?_⟩
            refine n_1 6 hS (by kernel_rfl) rfl ⟨_, _, _, rfl, rfl, rfl, rfl⟩ (l_call (cap := []) hS rfl Try.func14 rfl (by kernel_rfl) rfl rfl (len_spec _ _ hS.lt _ _ _ _ _ _) ?_); clear hS a; intro v46 a w hK hp hS
            replace hZ := Nat.le_trans hZ hK.size; refine ⟨fun g _ h => h.grow hK, ?_⟩; clear hK
            obtain rfl := hp
            refine n_1 8 hS (by kernel_rfl) rfl ⟨_, _, _, rfl, rfl, rfl, rfl⟩ (l_call (cap := []) hS rfl Try.func18 rfl (by kernel_rfl) rfl rfl (rlen_spec _ _ hS.lt _ _ _ _ _ _) ?_); clear hS a; intro v47 a w hK hp hS
            replace hZ := Nat.le_trans hZ hK.size; refine ⟨fun g _ h => h.grow hK, ?_⟩; clear hK
            obtain rfl := hp
            refine n_1 9 hS (by kernel_rfl) rfl ⟨_, _, _, rfl, rfl, rfl, rfl⟩ (l_quiet hS rfl rfl (y_neq hS rfl rfl) ?_); clear hS a; intro a hS; refine ⟨fun g _ h => h, ?_⟩
            rw [show decide ((((n - 1 : Nat) : Int)) ≠ (((n - 1 : Nat) : Int))) = false from decide_eq_false (fun h => h rfl)] at hS
            refine n_1 10 hS (by kernel_rfl) rfl rfl (l_quiet hS rfl rfl (y_pick_f hS rfl rfl) ?_); clear hS a; intro a hS; refine ⟨fun g _ h => h, ?_⟩
            refine n_end (by kernel_rfl) ?_; clear hR hZ
            refine p_norm ?_
            refine c_f hS rfl ?_
            apply wp_skip
            refine p_inN ?_
            refine p_norm ?_
            apply wp_region_lit
            refine q_seq hS rfl rfl rfl (y_addN (i := k) (j := 1) hS rfl rfl (in64.2 (by omega))) ?_; clear hS a; intro a hS
            refine q_seq hS rfl rfl rfl (y_move hS rfl) ?_; clear hS a; intro a hS
            apply wpList_nil
            refine p_norm ?_
            replace hS := hS.add 800 (slF RQ (A33) (n - 1) (c33) (popRest (xs) (popIdx (p) (s2) (xs)))) (hS.fact (k := 103) rfl)
            replace hS := hS.add 801 (slF RQ (A37) (n - 1) (c37) (popRest (xs) (popIdx (p) (s2) (xs)))) (hS.fact (k := 104) rfl)
            exact ⟨k + 1, by omega, ⟨popSeed (p) (s2), b, A33, A37, n - 1, c33, c37, popRest (xs) (popIdx (p) (s2) (xs)), by omega, by omega, (hS.sub ⟨rfl, rfl, rfl, rfl, rfl, trivial⟩ ⟨rfl, rfl, trivial⟩ ⟨rfl, rfl, rfl, trivial⟩)⟩⟩
    · apply wp_exit
      refine p_then ?_
      refine p_then ?_
      refine p_in ?_
      refine p_norm ?_
      apply wp_seq
      apply wp_region_lit
      refine l_seq rfl (l_call (cap := []) hS rfl Try.func12 rfl (by kernel_rfl) rfl rfl (example_spec _ _ hS.lt) ?_); clear hS a; intro v48 a w hK hp hS
      clear hK
      obtain rfl := hp
      refine q_seq hS rfl rfl rfl (y_assign hS rfl) ?_; clear hS a; intro a hS
      apply wpList_nil
      refine p_norm ?_
      apply wp_ret
      refine fin1 (fn := Try.f4) hS rfl (r_tmp hS rfl) ?_
      rfl

end Go.Proofs.Ytjklnbjblncgeaa
