/- Chapter 31: the law AgendaKeeps, walked -/
import Derived.Test.YtjklnbjblncgeaaC4
namespace Go.Proofs.Ytjklnbjblncgeaa
open Go.Gl Go.RowKit
set_option linter.unusedVariables false
set_option linter.unusedSimpArgs false

set_option maxHeartbeats 2000000 in
theorem keeps (M : Bs) (w0 : World) (hM : ∀ b, M b → b < w0.heap.size) (q s p : Int) (A A' : Option Addr) (m c m' c' : Nat) (ops ops' : List Oper) (hq : 0 ≤ q ∧ q ≤ 255) (hpe : q.tmod 4 = p) (hp : 0 ≤ p ∧ p ≤ 3) (hsl : SlR RO M w0 A m c ops) (hsl' : SlR RO M w0 A' m' c' ops') :
    Calls Try.prog 7 [.int .u8 (q), .int .u64 (s), .agg #[.slice (A) (m) (c), .slice (A') (m') (c')]].toArray w0 (Ret noB w0 fun v w => v = .bool true) := by
  refine enter M noB Try.func7 rfl rfl hM ?_
  intro a hS
  replace hS := hS.add 0 (slF RO (A) (m) (c) (ops)) (by exact Fact.change _ enterM hsl)
  replace hS := hS.add 1 (slF RO (A') (m') (c') (ops')) (by exact Fact.change _ enterM hsl')
  apply wp_seq
  apply wp_region_lit
  refine l_seq rfl (l_box (zs := [.slice (A) (m) (c), .slice (A') (m') (c')]) hS 1000 rfl rfl rfl rfl ?_); clear hS a; intro b1 a w hb hK hS
  clear hb
  clear hK
  refine q_seq hS rfl rfl rfl (y_assign hS rfl) ?_; clear hS a; intro a hS
  apply wpList_nil
  refine p_norm ?_
  apply wp_seq
  apply wp_seq
  apply wp_region_lit
  refine q_seq hS rfl rfl rfl (y_arrIndex (o' := 0) (i := 0) (sz := 1) hS rfl rfl Try.underlying49 rfl rfl (by omega) rfl) ?_; clear hS a; intro a hS
  refine q_seq hS rfl rfl rfl (y_loadBox1 (kk := 1000) hS rfl rfl rfl Try.underlying37 rfl) ?_; clear hS a; intro a hS
  refine q_seq hS rfl rfl rfl (y_lenSlice hS rfl Try.underlying37) ?_; clear hS a; intro a hS
  refine q_seq hS rfl rfl rfl (y_gtr hS rfl rfl) ?_; clear hS a; intro a hS
  refine q_seq hS rfl rfl rfl (y_move hS rfl) ?_; clear hS a; intro a hS
  rcases Decidable.em ((30) < (((m : Nat) : Int))) with hg2 | hg2
  · have hg2e : (decide ((30) < (((m : Nat) : Int)))) = true := decide_eq_true hg2
    rw [hg2e] at hS
    refine g_no hS rfl rfl rfl rfl rfl rfl rfl ?_; clear hS a; intro a hS
    refine g_no hS rfl rfl rfl rfl rfl rfl rfl ?_; clear hS a; intro a hS
    refine g_no hS rfl rfl rfl rfl rfl rfl rfl ?_; clear hS a; intro a hS
    refine g_no hS rfl rfl rfl rfl rfl rfl rfl ?_; clear hS a; intro a hS
    refine q_seq hS rfl rfl rfl (y_pick_t hS rfl rfl) ?_; clear hS a; intro a hS
    apply wpList_nil
    refine p_norm ?_
    refine c_t hS rfl ?_
    apply wp_seq
    apply wp_region_lit
    refine l_seq rfl (l_call (cap := []) hS rfl Try.func12 rfl (by kernel_rfl) rfl rfl (example_spec _ _ hS.lt) ?_); clear hS a; intro v3 a w hK hp hS
    clear hK
    obtain rfl := hp
    refine q_seq hS rfl rfl rfl (y_assign hS rfl) ?_; clear hS a; intro a hS
    apply wpList_nil
    refine p_norm ?_
    apply wp_ret
    refine p_thenR ?_
    refine fin1 (fn := Try.f7) hS rfl (r_tmp hS rfl) ?_
    rfl
  · have hg2e : (decide ((30) < (((m : Nat) : Int)))) = false := decide_eq_false hg2
    rw [hg2e] at hS
    refine g_yes hS rfl rfl rfl rfl (l_quiet hS rfl rfl (y_arrIndex (o' := 1) (i := 1) (sz := 1) hS rfl rfl Try.underlying49 rfl rfl (by omega) rfl) ?_); clear hS a; intro a hS
    refine g_yes hS rfl rfl rfl rfl (l_quiet hS rfl rfl (y_loadBox1 (kk := 1000) hS rfl rfl rfl Try.underlying37 rfl) ?_); clear hS a; intro a hS
    refine g_yes hS rfl rfl rfl rfl (l_quiet hS rfl rfl (y_lenSlice hS rfl Try.underlying37) ?_); clear hS a; intro a hS
    refine g_yes hS rfl rfl rfl rfl (l_quiet hS rfl rfl (y_gtr hS rfl rfl) ?_); clear hS a; intro a hS
    refine q_seq hS rfl rfl rfl (y_pick_f hS rfl rfl) ?_; clear hS a; intro a hS
    apply wpList_nil
    refine p_norm ?_
    refine c_dec hS rfl (fun hc0 => ?_) (fun hc0 => ?_)
    · apply wp_seq
      apply wp_region_lit
      refine l_seq rfl (l_call (cap := []) hS rfl Try.func12 rfl (by kernel_rfl) rfl rfl (example_spec _ _ hS.lt) ?_); clear hS a; intro v4 a w hK hp hS
      clear hK
      obtain rfl := hp
      refine q_seq hS rfl rfl rfl (y_assign hS rfl) ?_; clear hS a; intro a hS
      apply wpList_nil
      refine p_norm ?_
      apply wp_ret
      refine p_thenR ?_
      refine fin1 (fn := Try.f7) hS rfl (r_tmp hS rfl) ?_
      rfl
    · apply wp_skip
      refine p_norm ?_
      apply wp_seq
      apply wp_region_lit
      refine q_seq hS rfl rfl rfl (y_move hS rfl) ?_; clear hS a; intro a hS
      refine q_seq hS rfl rfl rfl (y_conv hS rfl Try.underlying5 Try.underlying3 (in64.2 (by omega))) ?_; clear hS a; intro a hS
      refine q_seq hS rfl rfl rfl (y_rem hS rfl rfl (by omega)) ?_; clear hS a; intro a hS
      rw [hpe] at hS
      refine q_seq hS rfl rfl rfl (y_move hS rfl) ?_; clear hS a; intro a hS
      refine l_seq rfl (l_call (cap := []) hS rfl Try.func9 rfl (by kernel_rfl) rfl rfl (new_all _ _ hS.lt _ _ hp) ?_); clear hS a; intro v5 a w hK hp hS
      clear hK
      obtain rfl := hp
      refine q_seq hS rfl rfl rfl (y_move hS rfl) ?_; clear hS a; intro a hS
      refine q_seq hS rfl rfl rfl (y_extract hS rfl rfl) ?_; clear hS a; intro a hS
      refine q_seq hS rfl rfl rfl (y_extract hS rfl rfl) ?_; clear hS a; intro a hS
      refine l_seq rfl (l_alloc (zs := [.int .i64 (0), .int .u64 (0), .int .i64 (0), .slice (none) (0) (0)]) hS 1308 rfl rfl rfl rfl ?_); clear hS a; intro b6 a w hb hK hS
      clear hb
      clear hK
      refine l_seq rfl (l_store (n := 4) (cs' := [.int .i64 (p), .int .u64 (s), .int .i64 (0), .slice (none) (0) (0)]) hS 1308 rfl rfl rfl rfl rfl rfl rfl rfl ?_); clear hS; intro w hK hS; clear hK
      refine q_seq hS rfl rfl rfl (y_assign hS rfl) ?_; clear hS a; intro a hS
      apply wpList_nil
      refine p_norm ?_
      apply wp_seq
      apply wp_seq
      apply wp_region_lit
      refine q_seq hS rfl rfl rfl (y_arrIndex (o' := 0) (i := 0) (sz := 1) hS rfl rfl Try.underlying49 rfl rfl (by omega) rfl) ?_; clear hS a; intro a hS
      refine q_seq hS rfl rfl rfl (y_loadBox1 (kk := 1000) hS rfl rfl rfl Try.underlying37 rfl) ?_; clear hS a; intro a hS
      refine q_seq hS rfl rfl rfl (y_lenSlice hS rfl Try.underlying37) ?_; clear hS a; intro a hS
      refine q_seq hS rfl rfl rfl (y_move hS rfl) ?_; clear hS a; intro a hS
      apply wpList_nil
      refine p_norm ?_
      apply wp_block
      replace hS := hS.add 800 (slF RQ none 0 0 []) (SlR.nil_ _ _ _)
      refine c_loop (σ := Nat) (fun k a w => ∃ (s1 : Int), ∃ (b : Int), ∃ (A1 : Option Addr), ∃ (n : Nat), ∃ (c1 : Nat), ∃ (xs : List Queued), (k ≤ m) ∧ (0 ≤ b ∧ b ≤ k ∧ n ≤ k) ∧ St (⟨Try.f7.ntmps, M, noB, w0⟩ : Ctx) [(5, .pointer (some ⟨b1, 0, none⟩)), (7, .pointer (some ⟨b6, 0, none⟩)), (37, .slice (A) (m) (c)), (38, .int .i64 (((m : Nat) : Int))), (39, .int .i64 (((k : Nat) : Int)))] [(1000, Ob.box b1 [.slice (A) (m) (c), .slice (A') (m') (c')] 49), (1308, Ob.box b6 [.int .i64 (p), .int .u64 (s1), .int .i64 (b), .slice (A1) (n) (c1)] 25)] [(0, slF RO (A) (m) (c) (ops)), (1, slF RO (A') (m') (c') (ops')), (800, slF RQ (A1) (n) (c1) (xs))] a w) (fun k => m - k) (0) ⟨s, 0, none, 0, 0, [], Nat.zero_le _, by omega, (hS.sub ⟨rfl, rfl, rfl, rfl, rfl, trivial⟩ ⟨rfl, rfl, trivial⟩ ⟨rfl, rfl, rfl, trivial⟩)⟩ ?_
      clear hS a; rintro k a w ⟨s1, b, A1, n, c1, xs, hk, hb, hS⟩
      apply wp_seq
      apply wp_region_lit
      refine q_seq hS rfl rfl rfl (y_lss hS rfl rfl) ?_; clear hS a; intro a hS
      apply wpList_nil
      refine p_norm ?_
      apply wp_seq
      refine c_dec hS rfl (fun hc1 => ?_) (fun hc1 => ?_)
      · apply wp_skip
        refine p_norm ?_
        apply wp_seq
        apply wp_block
        apply wp_seq
        apply wp_region_lit
        obtain ⟨x7, hx7, p7, he7, hp7⟩ := SlR.elemAt (hS.fact (k := 0) rfl) (i := k) (by omega)
        refine q_seq hS rfl rfl rfl (y_elem (sz := 5) (i := k) hS rfl rfl Try.underlying37 rfl he7 (by omega) (by omega)) ?_; clear hS a; intro a hS
        obtain ⟨hl8, hm8, cs8, hd8, hq8⟩ := hp7
        obtain ⟨rfl, -⟩ := hd8
        refine q_seq hS rfl rfl rfl (y_ldp hS rfl hl8 hm8 (by simpa using hq8) Try.underlying39 rfl rfl) ?_; clear hS a; intro a hS
        refine l_seq rfl (l_alloc (zs := [.bool (false), .int .i64 (0), .int .i64 (0), .int .i64 (0), .int .i64 (0)]) hS 1602 rfl rfl rfl rfl ?_); clear hS a; intro b9 a w hb hK hS
        clear hb
        clear hK
        refine l_seq rfl (l_store (n := 5) (cs' := [.bool (x7.1), .int .i64 (x7.2.1), .int .i64 (x7.2.2.1), .int .i64 (x7.2.2.2.1), .int .i64 (x7.2.2.2.2)]) hS 1602 rfl rfl rfl rfl rfl rfl rfl rfl ?_); clear hS; intro w hK hS; clear hK
        apply wpList_nil
        refine p_norm ?_
        apply wp_seq
        apply wp_region_lit
        refine q_seq hS rfl rfl rfl (y_boxField (o' := 0) hS rfl Try.underlying39 rfl rfl rfl) ?_; clear hS a; intro a hS
        refine q_seq hS rfl rfl rfl (y_loadBox1 (kk := 1602) hS rfl rfl rfl Try.underlying4 rfl) ?_; clear hS a; intro a hS
        apply wpList_nil
        refine p_norm ?_
        refine c_cond hS rfl (fun hc2 => ?_) (fun hc2 => ?_)
        · apply wp_region_lit
          refine q_seq hS rfl rfl rfl (y_loadBox (kk := 1308) (n := 4) (vs := [.int .i64 (p), .int .u64 (s1), .int .i64 (b), .slice (A1) (n) (c1)]) hS rfl rfl Try.underlying25 rfl rfl rfl rfl) ?_; clear hS a; intro a hS
          refine q_seq hS rfl rfl rfl (y_boxField (o' := 1) hS rfl Try.underlying39 rfl rfl rfl) ?_; clear hS a; intro a hS
          refine q_seq hS rfl rfl rfl (y_loadBox (kk := 1602) (n := 4) (vs := [.int .i64 (x7.2.1), .int .i64 (x7.2.2.1), .int .i64 (x7.2.2.2.1), .int .i64 (x7.2.2.2.2)]) hS rfl rfl Try.underlying32 rfl rfl rfl rfl) ?_; clear hS a; intro a hS
          refine l_seq rfl (l_call (cap := []) hS rfl Try.func15 rfl (by kernel_rfl) rfl rfl (push_spec _ _ hS.lt _ _ (b) _ (n) _ (xs) (x7.2.1, x7.2.2.1, x7.2.2.2.1, x7.2.2.2.2) (hS.fact (k := 800) rfl) (by omega) (by omega)) ?_); clear hS a; intro v11 a w hK hp hS
          clear hK
          obtain ⟨A10, c10, rfl, h10⟩ := hp
          replace hS := hS.add 101 (slF RQ (A10) (n + 1) (c10) (xs ++ [((x7.2.1, x7.2.2.1, x7.2.2.2.1, x7.2.2.2.2), b)])) h10
          refine l_seq rfl (l_store (n := 4) (cs' := [.int .i64 (p), .int .u64 (s1), .int .i64 (b + 1), .slice (A10) (n + 1) (c10)]) hS 1308 rfl rfl rfl rfl rfl rfl rfl rfl ?_); clear hS; intro w hK hS; clear hK
          apply wpList_nil
          refine p_inN ?_
          refine p_norm ?_
          apply wp_region_lit
          refine q_seq hS rfl rfl rfl (y_addN (i := k) (j := 1) hS rfl rfl (in64.2 (by omega))) ?_; clear hS a; intro a hS
          refine q_seq hS rfl rfl rfl (y_move hS rfl) ?_; clear hS a; intro a hS
          apply wpList_nil
          refine p_norm ?_
          replace hS := hS.add 800 (slF RQ (A10) (n + 1) (c10) (xs ++ [((x7.2.1, x7.2.2.1, x7.2.2.2.1, x7.2.2.2.2), b)])) (hS.fact (k := 101) rfl)
          exact ⟨k + 1, by omega, ⟨s1, b + 1, A10, n + 1, c10, xs ++ [((x7.2.1, x7.2.2.1, x7.2.2.2.1, x7.2.2.2.2), b)], by omega, by omega, (hS.sub ⟨rfl, rfl, rfl, rfl, rfl, trivial⟩ ⟨rfl, rfl, trivial⟩ ⟨rfl, rfl, rfl, trivial⟩)⟩⟩
        · rcases Nat.eq_zero_or_pos n with rfl | hn
          · apply wp_region_lit
            refine q_seq hS rfl rfl rfl (y_loadBox (kk := 1308) (n := 4) (vs := [.int .i64 (p), .int .u64 (s1), .int .i64 (b), .slice (A1) (0) (c1)]) hS rfl rfl Try.underlying25 rfl rfl rfl rfl) ?_; clear hS a; intro a hS
            refine l_seq rfl (l_call (cap := []) hS rfl Try.func13 rfl (by kernel_rfl) rfl rfl (pop_nil _ _ hS.lt _ _ _ _ _ hp) ?_); clear hS a; intro v12 a w hK hp hS
            clear hK
            obtain rfl := hp
            refine q_seq hS rfl rfl rfl (y_move hS rfl) ?_; clear hS a; intro a hS
            refine q_seq hS rfl rfl rfl (y_extract hS rfl rfl) ?_; clear hS a; intro a hS
            refine q_seq hS rfl rfl rfl (y_extract hS rfl rfl) ?_; clear hS a; intro a hS
            refine q_seq hS rfl rfl rfl (y_extract hS rfl rfl) ?_; clear hS a; intro a hS
            refine l_seq rfl (l_store (n := 4) (cs' := [.int .i64 (p), .int .u64 (s1), .int .i64 (b), .slice (A1) (0) (c1)]) hS 1308 rfl rfl rfl rfl rfl rfl rfl rfl ?_); clear hS; intro w hK hS; clear hK
            apply wpList_nil
            refine p_inN ?_
            refine p_norm ?_
            apply wp_region_lit
            refine q_seq hS rfl rfl rfl (y_addN (i := k) (j := 1) hS rfl rfl (in64.2 (by omega))) ?_; clear hS a; intro a hS
            refine q_seq hS rfl rfl rfl (y_move hS rfl) ?_; clear hS a; intro a hS
            apply wpList_nil
            refine p_norm ?_
            replace hS := hS.add 800 (slF RQ (A1) (0) (c1) (xs)) (hS.fact (k := 800) rfl)
            exact ⟨k + 1, by omega, ⟨s1, b, A1, 0, c1, xs, by omega, by omega, (hS.sub ⟨rfl, rfl, rfl, rfl, rfl, trivial⟩ ⟨rfl, rfl, trivial⟩ ⟨rfl, rfl, rfl, trivial⟩)⟩⟩
          · apply wp_region_lit
            refine q_seq hS rfl rfl rfl (y_loadBox (kk := 1308) (n := 4) (vs := [.int .i64 (p), .int .u64 (s1), .int .i64 (b), .slice (A1) (n) (c1)]) hS rfl rfl Try.underlying25 rfl rfl rfl rfl) ?_; clear hS a; intro a hS
            refine l_seq rfl (l_call (cap := []) hS rfl Try.func13 rfl (by kernel_rfl) rfl rfl (pop_all _ _ hS.lt _ _ _ _ _ _ (xs) hp (hS.fact (k := 800) rfl) (by omega)) ?_); clear hS a; intro v14 a w hK hp hS
            clear hK
            obtain ⟨A13, c13, x13, hx13, rfl, h13⟩ := hp
            replace hS := hS.add 102 (slF RQ (A13) (n - 1) (c13) (popRest (xs) (popIdx (p) (s1) (xs)))) h13
            refine q_seq hS rfl rfl rfl (y_move hS rfl) ?_; clear hS a; intro a hS
            refine q_seq hS rfl rfl rfl (y_extract hS rfl rfl) ?_; clear hS a; intro a hS
            refine q_seq hS rfl rfl rfl (y_extract hS rfl rfl) ?_; clear hS a; intro a hS
            refine q_seq hS rfl rfl rfl (y_extract hS rfl rfl) ?_; clear hS a; intro a hS
            refine l_seq rfl (l_store (n := 4) (cs' := [.int .i64 (p), .int .u64 (popSeed (p) (s1)), .int .i64 (b), .slice (A13) (n - 1) (c13)]) hS 1308 rfl rfl rfl rfl rfl rfl rfl rfl ?_); clear hS; intro w hK hS; clear hK
            apply wpList_nil
            refine p_inN ?_
            refine p_norm ?_
            apply wp_region_lit
            refine q_seq hS rfl rfl rfl (y_addN (i := k) (j := 1) hS rfl rfl (in64.2 (by omega))) ?_; clear hS a; intro a hS
            refine q_seq hS rfl rfl rfl (y_move hS rfl) ?_; clear hS a; intro a hS
            apply wpList_nil
            refine p_norm ?_
            replace hS := hS.add 800 (slF RQ (A13) (n - 1) (c13) (popRest (xs) (popIdx (p) (s1) (xs)))) (hS.fact (k := 102) rfl)
            exact ⟨k + 1, by omega, ⟨popSeed (p) (s1), b, A13, n - 1, c13, popRest (xs) (popIdx (p) (s1) (xs)), by omega, by omega, (hS.sub ⟨rfl, rfl, rfl, rfl, rfl, trivial⟩ ⟨rfl, rfl, trivial⟩ ⟨rfl, rfl, rfl, trivial⟩)⟩⟩
      · apply wp_exit
        refine p_then ?_
        refine p_then ?_
        refine p_in ?_
        refine p_norm ?_
        apply wp_seq
        apply wp_region_lit
        refine q_seq hS rfl rfl rfl (y_loadBox (kk := 1308) (n := 4) (vs := [.int .i64 (p), .int .u64 (s1), .int .i64 (b), .slice (A1) (n) (c1)]) hS rfl rfl Try.underlying25 rfl rfl rfl rfl) ?_; clear hS a; intro a hS
        refine l_seq rfl (l_alloc (zs := [.int .i64 (0), .int .u64 (0), .int .i64 (0), .slice (none) (0) (0)]) hS 2101 rfl rfl rfl rfl ?_); clear hS a; intro b15 a w hb hK hS
        clear hb
        clear hK
        refine l_seq rfl (l_store (n := 4) (cs' := [.int .i64 (p), .int .u64 (s1), .int .i64 (b), .slice (A1) (n) (c1)]) hS 2101 rfl rfl rfl rfl rfl rfl rfl rfl ?_); clear hS; intro w hK hS; clear hK
        apply wpList_nil
        refine p_norm ?_
        apply wp_seq
        apply wp_region_lit
        refine l_seq rfl (l_buildEmpty (sz := 5) hS 2200 Try.underlying23 rfl rfl rfl ?_); clear hS a; intro b16 a w hbb16 hK hS
        clear hbb16
        clear hK
        refine q_seq hS rfl rfl rfl (y_boxField (o' := 3) hS rfl Try.underlying25 rfl rfl rfl) ?_; clear hS a; intro a hS
        refine q_seq hS rfl rfl rfl (y_loadBox1 (kk := 1308) hS rfl rfl rfl Try.underlying23 rfl) ?_; clear hS a; intro a hS
        obtain ⟨ns17, hs17, hn17⟩ := SlR.src (hS.fact (k := 800) rfl)
        replace hS := hS.add 103 (rdF RQ (ns17) (xs)) (hn17)
        replace hS := hS.add 104 (rdF RQ ([]) ([])) (RdAll.nil _ _ _)
        refine l_seq rfl (l_append (sz := 5) (by_ := 40) (N := n) (ys := ns17) hS 2200 rfl rfl rfl Try.underlying23 rfl rfl rfl rfl rfl hs17 (by omega) rfl (by omega) (by omega) rfl ?_); clear hS a; intro A18 c18 a w hA hK hS
        clear hK hA
        replace hS := hS.add 105 (rdF RQ (ns17) (xs)) (RdAll.append (hS.fact (k := 104) rfl) (hS.fact (k := 103) rfl))
        refine q_seq hS rfl rfl rfl (y_boxField (o' := 3) hS rfl Try.underlying25 rfl rfl rfl) ?_; clear hS a; intro a hS
        refine l_seq rfl (l_store (n := 1) (cs' := [.int .i64 (p), .int .u64 (s1), .int .i64 (b), .slice (A18) (n) (c18)]) hS 2101 rfl rfl rfl rfl rfl rfl rfl rfl ?_); clear hS; intro w hK hS; clear hK
        apply wpList_nil
        refine p_norm ?_
        apply wp_seq
        replace hS := hS.freeze (R := RQ) (kk := 2200) (L' := [(1000, Ob.box b1 [.slice (A) (m) (c), .slice (A') (m') (c')] 49), (1308, Ob.box b6 [.int .i64 (p), .int .u64 (s1), .int .i64 (b), .slice (A1) (n) (c1)] 25), (2101, Ob.box b15 [.int .i64 (p), .int .u64 (s1), .int .i64 (b), .slice (A18) (n) (c18)] 25)]) 106 rfl rfl (hS.fact (k := 105) rfl) ⟨rfl, rfl, rfl, trivial⟩ rfl
        apply wp_region_lit
        refine q_seq hS rfl rfl rfl (y_assign hS rfl) ?_; clear hS a; intro a hS
        apply wpList_nil
        refine p_norm ?_
        apply wp_seq
        apply wp_seq
        apply wp_region_lit
        refine q_seq hS rfl rfl rfl (y_assign hS rfl) ?_; clear hS a; intro a hS
        apply wpList_nil
        refine p_norm ?_
        apply wp_block
        replace hS := hS.nilRow 900001 25 4 rfl
        replace hS := hS.add 900 (rdF RA [] (List.replicate 0 (fin p ops' s1 b xs))) (RdAll.nil _ _ _)
        refine c_loop (σ := Nat) (fun j a w => ∃ (A3 : Option Addr), ∃ (c3 : Nat), ∃ (cs : List Value), (j ≤ 2) ∧ St (⟨Try.f7.ntmps, M, noB, w0⟩ : Ctx) [(5, .pointer (some ⟨b1, 0, none⟩)), (7, .pointer (some ⟨b6, 0, none⟩)), (11, .pointer (some ⟨b15, 0, none⟩)), (12, .slice (A3) (j) (c3)), (13, .int .i64 (((j : Nat) : Int)))] [(1000, Ob.box b1 [.slice (A) (m) (c), .slice (A') (m') (c')] 49), (1308, Ob.box b6 [.int .i64 (p), .int .u64 (s1), .int .i64 (b), .slice (A1) (n) (c1)] 25), (2101, Ob.box b15 [.int .i64 (p), .int .u64 (s1), .int .i64 (b), .slice (A18) (n) (c18)] 25), (900001, Ob.row (A3) (j) (c3) 25 4 (cs))] [(0, slF RO (A) (m) (c) (ops)), (1, slF RO (A') (m') (c') (ops')), (106, slF RQ (A18) (n) (c18) (xs)), (800, slF RQ (A1) (n) (c1) (xs)), (900, rdF RA (cs) (List.replicate j (fin p ops' s1 b xs)))] a w) (fun j => 2 - j) (0) ⟨none, 0, [], by omega, (hS.sub ⟨rfl, rfl, rfl, rfl, rfl, trivial⟩ ⟨rfl, rfl, rfl, rfl, trivial⟩ ⟨rfl, rfl, rfl, rfl, rfl, trivial⟩)⟩ ?_
        clear hS a; rintro j a w ⟨A3, c3, cs, hj, hS⟩
        apply wp_seq
        apply wp_seq
        apply wp_region_lit
        refine q_seq hS rfl rfl rfl (y_move hS rfl) ?_; clear hS a; intro a hS
        refine q_seq hS rfl rfl rfl (y_lss hS rfl rfl) ?_; clear hS a; intro a hS
        apply wpList_nil
        refine p_norm ?_
        refine c_dec hS rfl (fun hc3 => ?_) (fun hc3 => ?_)
        · apply wp_skip
          refine p_norm ?_
          apply wp_seq
          apply wp_block
          apply wp_seq
          apply wp_region_lit
          refine q_seq hS rfl rfl rfl (y_loadBox (kk := 1308) (n := 4) (vs := [.int .i64 (p), .int .u64 (s1), .int .i64 (b), .slice (A1) (n) (c1)]) hS rfl rfl Try.underlying25 rfl rfl rfl rfl) ?_; clear hS a; intro a hS
          refine l_seq rfl (l_alloc (zs := [.int .i64 (0), .int .u64 (0), .int .i64 (0), .slice (none) (0) (0)]) hS 2701 rfl rfl rfl rfl ?_); clear hS a; intro b19 a w hb hK hS
          clear hb
          clear hK
          refine l_seq rfl (l_store (n := 4) (cs' := [.int .i64 (p), .int .u64 (s1), .int .i64 (b), .slice (A1) (n) (c1)]) hS 2701 rfl rfl rfl rfl rfl rfl rfl rfl ?_); clear hS; intro w hK hS; clear hK
          apply wpList_nil
          refine p_norm ?_
          apply wp_seq
          apply wp_seq
          apply wp_region_lit
          refine q_seq hS rfl rfl rfl (y_arrIndex (o' := 1) (i := 1) (sz := 1) hS rfl rfl Try.underlying49 rfl rfl (by omega) rfl) ?_; clear hS a; intro a hS
          refine q_seq hS rfl rfl rfl (y_loadBox1 (kk := 1000) hS rfl rfl rfl Try.underlying37 rfl) ?_; clear hS a; intro a hS
          refine q_seq hS rfl rfl rfl (y_lenSlice hS rfl Try.underlying37) ?_; clear hS a; intro a hS
          refine q_seq hS rfl rfl rfl (y_move hS rfl) ?_; clear hS a; intro a hS
          apply wpList_nil
          refine p_norm ?_
          apply wp_block
          replace hS := hS.add 802 (slF RQ A1 n c1 xs) (hS.fact (k := 800) rfl)
          refine c_loop (σ := Nat) (fun i a w => ∃ (s2 : Int), ∃ (b2 : Int), ∃ (A4 : Option Addr), ∃ (n2 : Nat), ∃ (c4 : Nat), ∃ (ys : List Queued), (i ≤ m') ∧ (0 ≤ b2 ∧ b2 ≤ 30 + i ∧ n2 ≤ 30 + i) ∧ (playT p (ops'.take i) s1 b xs = (s2, b2, ys)) ∧ St (⟨Try.f7.ntmps, M, noB, w0⟩ : Ctx) [(5, .pointer (some ⟨b1, 0, none⟩)), (7, .pointer (some ⟨b6, 0, none⟩)), (11, .pointer (some ⟨b15, 0, none⟩)), (12, .slice (A3) (j) (c3)), (13, .int .i64 (((j : Nat) : Int))), (14, .pointer (some ⟨b19, 0, none⟩)), (68, .slice (A') (m') (c')), (69, .int .i64 (((m' : Nat) : Int))), (70, .int .i64 (((i : Nat) : Int)))] [(1000, Ob.box b1 [.slice (A) (m) (c), .slice (A') (m') (c')] 49), (1308, Ob.box b6 [.int .i64 (p), .int .u64 (s1), .int .i64 (b), .slice (A1) (n) (c1)] 25), (2101, Ob.box b15 [.int .i64 (p), .int .u64 (s1), .int .i64 (b), .slice (A18) (n) (c18)] 25), (2701, Ob.box b19 [.int .i64 (p), .int .u64 (s2), .int .i64 (b2), .slice (A4) (n2) (c4)] 25), (900001, Ob.row (A3) (j) (c3) 25 4 (cs))] [(0, slF RO (A) (m) (c) (ops)), (1, slF RO (A') (m') (c') (ops')), (106, slF RQ (A18) (n) (c18) (xs)), (800, slF RQ (A1) (n) (c1) (xs)), (802, slF RQ (A4) (n2) (c4) (ys)), (900, rdF RA (cs) (List.replicate j (fin p ops' s1 b xs)))] a w) (fun i => m' - i) (0) ⟨s1, b, A1, n, c1, xs, Nat.zero_le _, by omega, rfl, (hS.sub ⟨rfl, rfl, rfl, rfl, rfl, rfl, rfl, rfl, rfl, trivial⟩ ⟨rfl, rfl, rfl, rfl, rfl, trivial⟩ ⟨rfl, rfl, rfl, rfl, rfl, rfl, trivial⟩)⟩ ?_
          clear hS a; rintro i a w ⟨s2, b2, A4, n2, c4, ys, hi, hb2, hst, hS⟩
          apply wp_seq
          apply wp_region_lit
          refine q_seq hS rfl rfl rfl (y_lss hS rfl rfl) ?_; clear hS a; intro a hS
          apply wpList_nil
          refine p_norm ?_
          apply wp_seq
          refine c_dec hS rfl (fun hc4 => ?_) (fun hc4 => ?_)
          · apply wp_skip
            refine p_norm ?_
            apply wp_seq
            apply wp_block
            apply wp_seq
            have hyl := (hS.fact (k := 802) rfl).len
            apply wp_region_lit
            obtain ⟨x20, hx20, p20, he20, hp20⟩ := SlR.elemAt (hS.fact (k := 1) rfl) (i := i) (by omega)
            refine q_seq hS rfl rfl rfl (y_elem (sz := 5) (i := i) hS rfl rfl Try.underlying37 rfl he20 (by omega) (by omega)) ?_; clear hS a; intro a hS
            obtain ⟨hl21, hm21, cs21, hd21, hq21⟩ := hp20
            obtain ⟨rfl, -⟩ := hd21
            refine q_seq hS rfl rfl rfl (y_ldp hS rfl hl21 hm21 (by simpa using hq21) Try.underlying39 rfl rfl) ?_; clear hS a; intro a hS
            refine l_seq rfl (l_alloc (zs := [.bool (false), .int .i64 (0), .int .i64 (0), .int .i64 (0), .int .i64 (0)]) hS 3002 rfl rfl rfl rfl ?_); clear hS a; intro b22 a w hb hK hS
            clear hb
            clear hK
            refine l_seq rfl (l_store (n := 5) (cs' := [.bool (x20.1), .int .i64 (x20.2.1), .int .i64 (x20.2.2.1), .int .i64 (x20.2.2.2.1), .int .i64 (x20.2.2.2.2)]) hS 3002 rfl rfl rfl rfl rfl rfl rfl rfl ?_); clear hS; intro w hK hS; clear hK
            apply wpList_nil
            refine p_norm ?_
            apply wp_seq
            apply wp_region_lit
            refine q_seq hS rfl rfl rfl (y_boxField (o' := 0) hS rfl Try.underlying39 rfl rfl rfl) ?_; clear hS a; intro a hS
            refine q_seq hS rfl rfl rfl (y_loadBox1 (kk := 3002) hS rfl rfl rfl Try.underlying4 rfl) ?_; clear hS a; intro a hS
            apply wpList_nil
            refine p_norm ?_
            refine c_cond hS rfl (fun hc5 => ?_) (fun hc5 => ?_)
            · apply wp_region_lit
              refine q_seq hS rfl rfl rfl (y_loadBox (kk := 2701) (n := 4) (vs := [.int .i64 (p), .int .u64 (s2), .int .i64 (b2), .slice (A4) (n2) (c4)]) hS rfl rfl Try.underlying25 rfl rfl rfl rfl) ?_; clear hS a; intro a hS
              refine q_seq hS rfl rfl rfl (y_boxField (o' := 1) hS rfl Try.underlying39 rfl rfl rfl) ?_; clear hS a; intro a hS
              refine q_seq hS rfl rfl rfl (y_loadBox (kk := 3002) (n := 4) (vs := [.int .i64 (x20.2.1), .int .i64 (x20.2.2.1), .int .i64 (x20.2.2.2.1), .int .i64 (x20.2.2.2.2)]) hS rfl rfl Try.underlying32 rfl rfl rfl rfl) ?_; clear hS a; intro a hS
              refine l_seq rfl (l_call (cap := []) hS rfl Try.func15 rfl (by kernel_rfl) rfl rfl (push_spec _ _ hS.lt _ _ (b2) _ (n2) _ (ys) (x20.2.1, x20.2.2.1, x20.2.2.2.1, x20.2.2.2.2) (hS.fact (k := 802) rfl) (by omega) (by omega)) ?_); clear hS a; intro v24 a w hK hp hS
              clear hK
              obtain ⟨A23, c23, rfl, h23⟩ := hp
              replace hS := hS.add 107 (slF RQ (A23) (n2 + 1) (c23) (ys ++ [((x20.2.1, x20.2.2.1, x20.2.2.2.1, x20.2.2.2.2), b2)])) h23
              refine l_seq rfl (l_store (n := 4) (cs' := [.int .i64 (p), .int .u64 (s2), .int .i64 (b2 + 1), .slice (A23) (n2 + 1) (c23)]) hS 2701 rfl rfl rfl rfl rfl rfl rfl rfl ?_); clear hS; intro w hK hS; clear hK
              apply wpList_nil
              refine p_inN ?_
              refine p_norm ?_
              apply wp_region_lit
              refine q_seq hS rfl rfl rfl (y_addN (i := i) (j := 1) hS rfl rfl (in64.2 (by omega))) ?_; clear hS a; intro a hS
              refine q_seq hS rfl rfl rfl (y_move hS rfl) ?_; clear hS a; intro a hS
              apply wpList_nil
              refine p_norm ?_
              replace hS := hS.add 802 (slF RQ (A23) (n2 + 1) (c23) (ys ++ [((x20.2.1, x20.2.2.1, x20.2.2.2.1, x20.2.2.2.2), b2)])) (hS.fact (k := 107) rfl)
              exact ⟨i + 1, by omega, ⟨s2, b2 + 1, A23, n2 + 1, c23, ys ++ [((x20.2.1, x20.2.2.1, x20.2.2.2.1, x20.2.2.2.2), b2)], by omega, by omega, playT_push hst hx20 hc5, (hS.sub ⟨rfl, rfl, rfl, rfl, rfl, rfl, rfl, rfl, rfl, trivial⟩ ⟨rfl, rfl, rfl, rfl, rfl, trivial⟩ ⟨rfl, rfl, rfl, rfl, rfl, rfl, trivial⟩)⟩⟩
            · rcases Nat.eq_zero_or_pos n2 with rfl | hn2
              · apply wp_region_lit
                refine q_seq hS rfl rfl rfl (y_loadBox (kk := 2701) (n := 4) (vs := [.int .i64 (p), .int .u64 (s2), .int .i64 (b2), .slice (A4) (0) (c4)]) hS rfl rfl Try.underlying25 rfl rfl rfl rfl) ?_; clear hS a; intro a hS
                refine l_seq rfl (l_call (cap := []) hS rfl Try.func13 rfl (by kernel_rfl) rfl rfl (pop_nil _ _ hS.lt _ _ _ _ _ hp) ?_); clear hS a; intro v25 a w hK hp hS
                clear hK
                obtain rfl := hp
                refine q_seq hS rfl rfl rfl (y_move hS rfl) ?_; clear hS a; intro a hS
                refine q_seq hS rfl rfl rfl (y_extract hS rfl rfl) ?_; clear hS a; intro a hS
                refine q_seq hS rfl rfl rfl (y_extract hS rfl rfl) ?_; clear hS a; intro a hS
                refine q_seq hS rfl rfl rfl (y_extract hS rfl rfl) ?_; clear hS a; intro a hS
                refine l_seq rfl (l_store (n := 4) (cs' := [.int .i64 (p), .int .u64 (s2), .int .i64 (b2), .slice (A4) (0) (c4)]) hS 2701 rfl rfl rfl rfl rfl rfl rfl rfl ?_); clear hS; intro w hK hS; clear hK
                apply wpList_nil
                refine p_inN ?_
                refine p_norm ?_
                apply wp_region_lit
                refine q_seq hS rfl rfl rfl (y_addN (i := i) (j := 1) hS rfl rfl (in64.2 (by omega))) ?_; clear hS a; intro a hS
                refine q_seq hS rfl rfl rfl (y_move hS rfl) ?_; clear hS a; intro a hS
                apply wpList_nil
                refine p_norm ?_
                replace hS := hS.add 802 (slF RQ (A4) (0) (c4) (ys)) (hS.fact (k := 802) rfl)
                exact ⟨i + 1, by omega, ⟨s2, b2, A4, 0, c4, ys, by omega, by omega, playT_nil hst hx20 hc5 hyl, (hS.sub ⟨rfl, rfl, rfl, rfl, rfl, rfl, rfl, rfl, rfl, trivial⟩ ⟨rfl, rfl, rfl, rfl, rfl, trivial⟩ ⟨rfl, rfl, rfl, rfl, rfl, rfl, trivial⟩)⟩⟩
              · apply wp_region_lit
                refine q_seq hS rfl rfl rfl (y_loadBox (kk := 2701) (n := 4) (vs := [.int .i64 (p), .int .u64 (s2), .int .i64 (b2), .slice (A4) (n2) (c4)]) hS rfl rfl Try.underlying25 rfl rfl rfl rfl) ?_; clear hS a; intro a hS
                refine l_seq rfl (l_call (cap := []) hS rfl Try.func13 rfl (by kernel_rfl) rfl rfl (pop_all _ _ hS.lt _ _ _ _ _ _ (ys) hp (hS.fact (k := 802) rfl) (by omega)) ?_); clear hS a; intro v27 a w hK hp hS
                clear hK
                obtain ⟨A26, c26, x26, hx26, rfl, h26⟩ := hp
                replace hS := hS.add 108 (slF RQ (A26) (n2 - 1) (c26) (popRest (ys) (popIdx (p) (s2) (ys)))) h26
                refine q_seq hS rfl rfl rfl (y_move hS rfl) ?_; clear hS a; intro a hS
                refine q_seq hS rfl rfl rfl (y_extract hS rfl rfl) ?_; clear hS a; intro a hS
                refine q_seq hS rfl rfl rfl (y_extract hS rfl rfl) ?_; clear hS a; intro a hS
                refine q_seq hS rfl rfl rfl (y_extract hS rfl rfl) ?_; clear hS a; intro a hS
                refine l_seq rfl (l_store (n := 4) (cs' := [.int .i64 (p), .int .u64 (popSeed (p) (s2)), .int .i64 (b2), .slice (A26) (n2 - 1) (c26)]) hS 2701 rfl rfl rfl rfl rfl rfl rfl rfl ?_); clear hS; intro w hK hS; clear hK
                apply wpList_nil
                refine p_inN ?_
                refine p_norm ?_
                apply wp_region_lit
                refine q_seq hS rfl rfl rfl (y_addN (i := i) (j := 1) hS rfl rfl (in64.2 (by omega))) ?_; clear hS a; intro a hS
                refine q_seq hS rfl rfl rfl (y_move hS rfl) ?_; clear hS a; intro a hS
                apply wpList_nil
                refine p_norm ?_
                replace hS := hS.add 802 (slF RQ (A26) (n2 - 1) (c26) (popRest (ys) (popIdx (p) (s2) (ys)))) (hS.fact (k := 108) rfl)
                exact ⟨i + 1, by omega, ⟨popSeed (p) (s2), b2, A26, n2 - 1, c26, popRest (ys) (popIdx (p) (s2) (ys)), by omega, by omega, playT_pop hst hx20 hc5 (by omega), (hS.sub ⟨rfl, rfl, rfl, rfl, rfl, rfl, rfl, rfl, rfl, trivial⟩ ⟨rfl, rfl, rfl, rfl, rfl, trivial⟩ ⟨rfl, rfl, rfl, rfl, rfl, rfl, trivial⟩)⟩⟩
          · apply wp_exit
            refine p_then ?_
            refine p_then ?_
            refine p_in ?_
            refine p_norm ?_
            apply wp_seq
            obtain ⟨e1, e2, e3⟩ := fin_of (p := p) (show playT p ops' s1 b xs = (s2, b2, ys) by rw [← hst, List.take_of_length_le (by rw [hsl'.len]; omega)])
            rw [e1, e2, e3] at hS
            apply wp_region_lit
            refine q_seq hS rfl rfl rfl (y_loadBox (kk := 1308) (n := 4) (vs := [.int .i64 (p), .int .u64 (s1), .int .i64 (b), .slice (A1) (n) (c1)]) hS rfl rfl Try.underlying25 rfl rfl rfl rfl) ?_; clear hS a; intro a hS
            refine q_seq hS rfl rfl rfl (y_build (parts := [(0, .const (.int .i64 (7)))]) (ps := [(0, .int .i64 (7))]) (cells := #[.int .i64 (7), .int .i64 (0), .int .i64 (0), .int .i64 (0)]) hS rfl (by kernel_rfl)) ?_; clear hS a; intro a hS
            refine l_seq rfl (l_call (cap := []) hS rfl Try.func15 rfl (by kernel_rfl) rfl rfl (push_spec _ _ hS.lt _ _ (b) _ (n) _ (xs) (7, 0, 0, 0) (hS.fact (k := 800) rfl) (by omega) (by omega)) ?_); clear hS a; intro v29 a w hK hp hS
            clear hK
            obtain ⟨A28, c28, rfl, h28⟩ := hp
            replace hS := hS.add 109 (slF RQ (A28) (n + 1) (c28) (xs ++ [((7, 0, 0, 0), b)])) h28
            apply wpList_nil
            refine p_norm ?_
            apply wp_seq
            apply wp_seq
            apply wp_region_lit
            refine q_seq hS rfl rfl rfl (y_loadBox (kk := 1308) (n := 4) (vs := [.int .i64 (p), .int .u64 (s1), .int .i64 (b), .slice (A1) (n) (c1)]) hS rfl rfl Try.underlying25 rfl rfl rfl rfl) ?_; clear hS a; intro a hS
            refine q_seq hS rfl rfl rfl (y_loadBox (kk := 2101) (n := 4) (vs := [.int .i64 (p), .int .u64 (s1), .int .i64 (b), .slice (A18) (n) (c18)]) hS rfl rfl Try.underlying25 rfl rfl rfl rfl) ?_; clear hS a; intro a hS
            refine l_seq rfl (l_call (cap := []) hS rfl Try.func11 rfl (by kernel_rfl) rfl rfl (same_spec _ _ hS.lt _ _ _ _ _ _ _ _ (xs) (hS.fact (k := 800) rfl) (hS.fact (k := 106) rfl) (by omega)) ?_); clear hS a; intro v30 a w hK hp hS
            clear hK
            obtain rfl := hp
            refine q_seq hS rfl rfl rfl (y_not hS rfl) ?_; clear hS a; intro a hS
            apply wpList_nil
            refine p_norm ?_
            refine c_f hS rfl ?_
            apply wp_skip
            refine p_norm ?_
            apply wp_region_lit
            refine q_seq hS rfl rfl rfl (y_move hS rfl) ?_; clear hS a; intro a hS
            refine q_seq hS rfl rfl rfl (y_loadBox (kk := 2701) (n := 4) (vs := [.int .i64 ((fin p ops' s1 b xs).1.1), .int .u64 ((fin p ops' s1 b xs).1.2.1), .int .i64 ((fin p ops' s1 b xs).1.2.2), .slice (A4) (n2) (c4)]) hS rfl rfl Try.underlying25 rfl rfl rfl rfl) ?_; clear hS a; intro a hS
            refine l_seq rfl (l_buildDense (sz := 4) hS 3802 rfl rfl rfl Try.underlying50 rfl rfl rfl rfl rfl rfl rfl ?_); clear hS a; intro b31 a w hbb31 hK hS
            clear hbb31
            clear hK
            have hs32 := row_src (hS.wd.holds 3802 _ rfl) (by simp [cellsOfL, Value.cells, Value.oneCell'])
            refine l_seq rfl (l_append (sz := 4) (by_ := 48) (N := j + 1) (ys := cs ++ cellsOfL [.agg #[.int .i64 ((fin p ops' s1 b xs).1.1), .int .u64 ((fin p ops' s1 b xs).1.2.1), .int .i64 ((fin p ops' s1 b xs).1.2.2), .slice (A4) (n2) (c4)]]) hS 900001 rfl rfl rfl Try.underlying50 rfl rfl rfl rfl rfl hs32 (by omega) rfl (by omega) (by omega) rfl ?_); clear hS a; intro A33 c33 a w hA hK hS
            clear hK hA
            replace hS := hS.add 110 (rdF RA (cs ++ cellsOfL [.agg #[.int .i64 ((fin p ops' s1 b xs).1.1), .int .u64 ((fin p ops' s1 b xs).1.2.1), .int .i64 ((fin p ops' s1 b xs).1.2.2), .slice (A4) (n2) (c4)]]) (List.replicate j (fin p ops' s1 b xs) ++ [(((fin p ops' s1 b xs).1.1, (fin p ops' s1 b xs).1.2.1, (fin p ops' s1 b xs).1.2.2), (fin p ops' s1 b xs).2)])) (RdAll.append (hS.fact (k := 900) rfl) (RdAll.single ⟨[_, _, _], [_], rfl, ⟨rfl, trivial⟩, _, _, _, rfl, hS.fact (k := 802) rfl⟩))
            refine q_seq hS rfl rfl rfl (y_assign hS rfl) ?_; clear hS a; intro a hS
            apply wpList_nil
            refine p_inN ?_
            refine p_norm ?_
            apply wp_region_lit
            refine q_seq hS rfl rfl rfl (y_move hS rfl) ?_; clear hS a; intro a hS
            refine q_seq hS rfl rfl rfl (y_addN (i := j) (j := 1) hS rfl rfl (in64.2 (by omega))) ?_; clear hS a; intro a hS
            refine q_seq hS rfl rfl rfl (y_assign hS rfl) ?_; clear hS a; intro a hS
            apply wpList_nil
            refine p_norm ?_
            replace hS := hS.add 900 (rdF RA (cs ++ cellsOfL [.agg #[.int .i64 ((fin p ops' s1 b xs).1.1), .int .u64 ((fin p ops' s1 b xs).1.2.1), .int .i64 ((fin p ops' s1 b xs).1.2.2), .slice (A4) (n2) (c4)]]) (List.replicate (j + 1) (fin p ops' s1 b xs))) (by rw [List.replicate_succ']; exact hS.fact (k := 110) rfl)
            exact ⟨j + 1, by omega, ⟨A33, c33, cs ++ cellsOfL [.agg #[.int .i64 ((fin p ops' s1 b xs).1.1), .int .u64 ((fin p ops' s1 b xs).1.2.1), .int .i64 ((fin p ops' s1 b xs).1.2.2), .slice (A4) (n2) (c4)]], by omega, (hS.sub ⟨rfl, rfl, rfl, rfl, rfl, trivial⟩ ⟨rfl, rfl, rfl, rfl, trivial⟩ ⟨rfl, rfl, rfl, rfl, rfl, trivial⟩)⟩⟩
        · apply wp_exit
          refine p_then ?_
          refine p_then ?_
          refine p_in ?_
          refine p_norm ?_
          apply wp_seq
          replace hS := hS.freeze (R := RA) (kk := 900001) (L' := [(1000, Ob.box b1 [.slice (A) (m) (c), .slice (A') (m') (c')] 49), (1308, Ob.box b6 [.int .i64 (p), .int .u64 (s1), .int .i64 (b), .slice (A1) (n) (c1)] 25), (2101, Ob.box b15 [.int .i64 (p), .int .u64 (s1), .int .i64 (b), .slice (A18) (n) (c18)] 25)]) 111 rfl rfl (hS.fact (k := 900) rfl) ⟨rfl, rfl, rfl, trivial⟩ rfl
          have hj2 : j = 2 := by omega
          refine d_plan hS [] [(0, some 0), (1, some 0), (2, some 0), (3, some 0), (4, some 0), (5, some 0), (6, none), (7, none), (8, none), (9, none), (10, none)] rfl (by kernel_rfl) (by kernel_rfl) rfl ?_; clear hS; intro wr hZ hS; have hR := hS.wd
          refine q_take hS hR rfl rfl rfl rfl (y_move hS rfl) ?_; clear hS a; intro a hS
          obtain ⟨x34, hx34, p34, he34, hp34⟩ := SlR.elemAt (hS.fact (k := 111) rfl) (i := 0) (by omega)
          refine q_take hS hR rfl rfl rfl rfl (y_elem (sz := 4) (i := 0) hS rfl rfl Try.underlying50 rfl he34 (by omega) (by omega)) ?_; clear hS a; intro a hS
          obtain ⟨hl35, hm35, cs35, hd35, hq35⟩ := hp34
          obtain ⟨_, _, rfl, ⟨rfl, -⟩, A36, n36, c36, rfl, hl36⟩ := hd35
          replace hS := hS.add 112 (slF RQ (A36) (n36) (c36) (x34.2)) hl36
          refine q_take hS hR rfl rfl rfl rfl (y_ldp hS rfl hl35 hm35 (by simpa using hq35) Try.underlying25 rfl rfl) ?_; clear hS a; intro a hS
          refine q_take hS hR rfl rfl rfl rfl (y_move hS rfl) ?_; clear hS a; intro a hS
          obtain ⟨x37, hx37, p37, he37, hp37⟩ := SlR.elemAt (hS.fact (k := 111) rfl) (i := 1) (by omega)
          refine q_take hS hR rfl rfl rfl rfl (y_elem (sz := 4) (i := 1) hS rfl rfl Try.underlying50 rfl he37 (by omega) (by omega)) ?_; clear hS a; intro a hS
          obtain ⟨hl38, hm38, cs38, hd38, hq38⟩ := hp37
          obtain ⟨_, _, rfl, ⟨rfl, -⟩, A39, n39, c39, rfl, hl39⟩ := hd38
          replace hS := hS.add 113 (slF RQ (A39) (n39) (c39) (x37.2)) hl39
          refine q_take hS hR rfl rfl rfl rfl (y_ldp hS rfl hl38 hm38 (by simpa using hq38) Try.underlying25 rfl rfl) ?_; clear hS a; intro a hS
          obtain rfl : x34 = x37 := (rep_get hx34).trans (rep_get hx37).symm
          obtain rfl : n36 = n39 := (hS.fact (k := 112) rfl).len.symm.trans (hS.fact (k := 113) rfl).len
          have hfl : x34.2.length ≤ xs.length + ops'.length := by rw [rep_get hx34]; exact fin_len _ _ _ _ _
          have hl1 := (hS.fact (k := 112) rfl).len; have hl2 := (hS.fact (k := 800) rfl).len; have hl3 := hsl'.len
          refine l_take hS rfl rfl (l_call (cap := []) hS rfl Try.func11 rfl (by kernel_rfl) rfl rfl (same_spec _ _ hS.lt _ _ _ _ _ _ _ _ (x34.2) (hS.fact (k := 112) rfl) (hS.fact (k := 113) rfl) (by omega)) ?_); clear hS a; intro v40 a w hK hp hS
          replace hZ := Nat.le_trans hZ hK.size; refine ⟨fun g _ h => h.grow hK, ?_⟩; clear hK
          obtain rfl := hp
          refine l_take hS rfl rfl (l_quiet hS rfl rfl (y_move hS rfl) ?_); clear hS a; intro a hS; refine ⟨fun g _ h => h, ?_⟩
          refine l_take hS rfl ⟨_, _, _, rfl, rfl, rfl, rfl⟩ (l_call (cap := []) hS rfl Try.func12 rfl (by kernel_rfl) rfl rfl (example_spec _ _ hS.lt) ?_); clear hS a; intro v41 a w hK hp hS
          replace hZ := Nat.le_trans hZ hK.size; refine ⟨fun g _ h => h.grow hK, ?_⟩; clear hK
          obtain rfl := hp
          refine l_take hS rfl rfl (l_quiet hS rfl rfl (y_pick_t hS rfl rfl) ?_); clear hS a; intro a hS; refine ⟨fun g _ h => h, ?_⟩
          refine l_take hS rfl rfl (l_quiet hS rfl rfl (y_assign hS rfl) ?_); clear hS a; intro a hS; refine ⟨fun g _ h => h, ?_⟩
          clear hR hZ
          refine p_norm ?_
          apply wp_ret
          refine fin1 (fn := Try.f7) hS rfl (r_tmp hS rfl) ?_
          rfl

end Go.Proofs.Ytjklnbjblncgeaa
