/- Chapter 31: the law AgendaOrders, walked -/
import Derived.Test.YtjklnbjblncgeaaC5
namespace Go.Proofs.Ytjklnbjblncgeaa
open Go.Gl Go.RowKit
set_option linter.unusedVariables false
set_option linter.unusedSimpArgs false

set_option maxHeartbeats 2000000 in
theorem orders (M : Bs) (w0 : World) (hM : ∀ b, M b → b < w0.heap.size) (q p : Int) (A : Option Addr) (m c : Nat) (ps : List Int) (hq : 0 ≤ q ∧ q ≤ 255) (hpe : q.tmod 3 = p) (hp2 : 0 ≤ p ∧ p ≤ 2) (hp : 0 ≤ p ∧ p ≤ 3) (hsl : SlR (Rep.int .i8) M w0 A m c ps) :
    Calls Try.prog 6 [.int .u8 (q), .slice (A) (m) (c)].toArray w0 (Ret noB w0 fun v w => v = .bool true) := by
  refine enter M noB Try.func6 rfl rfl hM ?_
  intro a hS
  replace hS := hS.add 0 (slF (Rep.int .i8) (A) (m) (c) (ps)) (by exact Fact.change _ enterM hsl)
  apply wp_seq
  apply wp_region_lit
  refine q_seq hS rfl rfl rfl (y_assign hS rfl) ?_; clear hS a; intro a hS
  apply wpList_nil
  refine p_norm ?_
  apply wp_seq
  apply wp_seq
  apply wp_region_lit
  refine q_seq hS rfl rfl rfl (y_move hS rfl) ?_; clear hS a; intro a hS
  refine q_seq hS rfl rfl rfl (y_lenSlice hS rfl Try.underlying46) ?_; clear hS a; intro a hS
  refine q_seq hS rfl rfl rfl (y_gtr hS rfl rfl) ?_; clear hS a; intro a hS
  apply wpList_nil
  refine p_norm ?_
  refine c_dec hS rfl (fun hc0 => ?_) (fun hc0 => ?_)
  · apply wp_seq
    apply wp_region_lit
    refine l_seq rfl (l_call (cap := []) hS rfl Try.func12 rfl (by kernel_rfl) rfl rfl (example_spec _ _ hS.lt) ?_); clear hS a; intro v1 a w hK hp hS
    clear hK
    obtain rfl := hp
    refine q_seq hS rfl rfl rfl (y_assign hS rfl) ?_; clear hS a; intro a hS
    apply wpList_nil
    refine p_norm ?_
    apply wp_ret
    refine p_thenR ?_
    refine fin1 (fn := Try.f6) hS rfl (r_tmp hS rfl) ?_
    rfl
  · apply wp_skip
    refine p_norm ?_
    apply wp_seq
    apply wp_region_lit
    refine q_seq hS rfl rfl rfl (y_move hS rfl) ?_; clear hS a; intro a hS
    refine q_seq hS rfl rfl rfl (y_conv hS rfl Try.underlying5 Try.underlying3 (in64.2 (by omega))) ?_; clear hS a; intro a hS
    refine q_seq hS rfl rfl rfl (y_rem hS rfl rfl (by omega)) ?_; clear hS a; intro a hS
    rw [hpe] at hS
    refine q_seq hS rfl rfl rfl (y_assign hS rfl) ?_; clear hS a; intro a hS
    apply wpList_nil
    refine p_norm ?_
    apply wp_seq
    apply wp_region_lit
    refine q_seq hS rfl rfl rfl (y_move hS rfl) ?_; clear hS a; intro a hS
    refine l_seq rfl (l_call (cap := []) hS rfl Try.func9 rfl (by kernel_rfl) rfl rfl (new_all _ _ hS.lt _ _ hp) ?_); clear hS a; intro v2 a w hK hp hS
    clear hK
    obtain rfl := hp
    refine q_seq hS rfl rfl rfl (y_move hS rfl) ?_; clear hS a; intro a hS
    refine q_seq hS rfl rfl rfl (y_extract hS rfl rfl) ?_; clear hS a; intro a hS
    refine q_seq hS rfl rfl rfl (y_extract hS rfl rfl) ?_; clear hS a; intro a hS
    refine l_seq rfl (l_alloc (zs := [.int .i64 (0), .int .u64 (0), .int .i64 (0), .slice (none) (0) (0)]) hS 1405 rfl rfl rfl rfl ?_); clear hS a; intro b3 a w hb hK hS
    clear hb
    clear hK
    refine l_seq rfl (l_store (n := 4) (cs' := [.int .i64 (p), .int .u64 (9), .int .i64 (0), .slice (none) (0) (0)]) hS 1405 rfl rfl rfl rfl rfl rfl rfl rfl ?_); clear hS; intro w hK hS; clear hK
    refine q_seq hS rfl rfl rfl (y_assign hS rfl) ?_; clear hS a; intro a hS
    apply wpList_nil
    refine p_norm ?_
    apply wp_seq
    apply wp_seq
    apply wp_region_lit
    refine q_seq hS rfl rfl rfl (y_move hS rfl) ?_; clear hS a; intro a hS
    refine q_seq hS rfl rfl rfl (y_neq hS rfl rfl) ?_; clear hS a; intro a hS
    apply wpList_nil
    refine p_norm ?_
    refine c_f hS rfl ?_
    apply wp_skip
    refine p_norm ?_
    apply wp_seq
    apply wp_seq
    apply wp_region_lit
    refine q_seq hS rfl rfl rfl (y_move hS rfl) ?_; clear hS a; intro a hS
    refine q_seq hS rfl rfl rfl (y_lenSlice hS rfl Try.underlying46) ?_; clear hS a; intro a hS
    refine q_seq hS rfl rfl rfl (y_move hS rfl) ?_; clear hS a; intro a hS
    apply wpList_nil
    refine p_norm ?_
    apply wp_block
    replace hS := hS.add 800 (slF RQ none 0 0 (oq (ps.take 0))) (SlR.nil_ _ _ _)
    refine c_loop (σ := Nat) (fun k a w => ∃ (A1 : Option Addr), ∃ (c1 : Nat), (k ≤ m) ∧ St (⟨Try.f6.ntmps, M, noB, w0⟩ : Ctx) [(1, .slice (A) (m) (c)), (5, .int .i64 (p)), (6, .pointer (some ⟨b3, 0, none⟩)), (30, .slice (A) (m) (c)), (31, .int .i64 (((m : Nat) : Int))), (32, .int .i64 (((k : Nat) : Int)))] [(1405, Ob.box b3 [.int .i64 (p), .int .u64 (9), .int .i64 (((k : Nat) : Int)), .slice (A1) (k) (c1)] 25)] [(0, slF (Rep.int .i8) (A) (m) (c) (ps)), (800, slF RQ (A1) (k) (c1) (oq (ps.take k)))] a w) (fun k => m - k) (0) ⟨none, 0, Nat.zero_le _, (hS.sub ⟨rfl, rfl, rfl, rfl, rfl, rfl, trivial⟩ ⟨rfl, trivial⟩ ⟨rfl, rfl, trivial⟩)⟩ ?_
    clear hS a; rintro k a w ⟨A1, c1, hk, hS⟩
    apply wp_seq
    apply wp_region_lit
    refine q_seq hS rfl rfl rfl (y_lss hS rfl rfl) ?_; clear hS a; intro a hS
    apply wpList_nil
    refine p_norm ?_
    apply wp_seq
    refine c_dec hS rfl (fun hc2 => ?_) (fun hc2 => ?_)
    · apply wp_skip
      refine p_norm ?_
      apply wp_seq
      apply wp_block
      apply wp_seq
      apply wp_region_lit
      refine q_seq hS rfl rfl rfl (y_move hS rfl) ?_; clear hS a; intro a hS
      obtain ⟨x4, hx4, p4, he4, hp4⟩ := SlR.elemAt (hS.fact (k := 0) rfl) (i := k) (by omega)
      refine q_seq hS rfl rfl rfl (y_elem (sz := 1) (i := k) hS rfl rfl Try.underlying46 rfl he4 (by omega) (by omega)) ?_; clear hS a; intro a hS
      obtain ⟨hl5, hm5, cs5, hd5, hq5⟩ := hp4
      obtain ⟨rfl, hI6⟩ := hd5
      have hJ6 := ini8.1 hI6
      refine q_seq hS rfl rfl rfl (y_ldp1 hS rfl hl5 hm5 (hq5 0 _ rfl) Try.underlying47 rfl) ?_; clear hS a; intro a hS
      refine q_seq hS rfl rfl rfl (y_assign hS rfl) ?_; clear hS a; intro a hS
      refine q_seq hS rfl rfl rfl (y_assign hS rfl) ?_; clear hS a; intro a hS
      apply wpList_nil
      refine p_norm ?_
      apply wp_region_lit
      refine q_seq hS rfl rfl rfl (y_loadBox (kk := 1405) (n := 4) (vs := [.int .i64 (p), .int .u64 (9), .int .i64 (((k : Nat) : Int)), .slice (A1) (k) (c1)]) hS rfl rfl Try.underlying25 rfl rfl rfl rfl) ?_; clear hS a; intro a hS
      refine q_seq hS rfl rfl rfl (y_move hS rfl) ?_; clear hS a; intro a hS
      refine q_seq hS rfl rfl rfl (y_move hS rfl) ?_; clear hS a; intro a hS
      refine q_seq hS rfl rfl rfl (y_conv hS rfl Try.underlying47 Try.underlying3 (in64.2 (by omega))) ?_; clear hS a; intro a hS
      refine q_seq hS rfl rfl rfl (y_build (parts := [(0, .tmp 38), (3, .tmp 40)]) (ps := [(0, .int .i64 (((k : Nat) : Int))), (3, .int .i64 (x4))]) (cells := #[.int .i64 (((k : Nat) : Int)), .int .i64 (0), .int .i64 (0), .int .i64 (x4)]) hS rfl (by kernel_rfl)) ?_; clear hS a; intro a hS
      refine l_seq rfl (l_call (cap := []) hS rfl Try.func15 rfl (by kernel_rfl) rfl rfl (push_spec _ _ hS.lt _ _ (((k : Nat) : Int)) _ (k) _ (oq (ps.take k)) (((k : Nat) : Int), 0, 0, x4) (hS.fact (k := 800) rfl) (by omega) (by omega)) ?_); clear hS a; intro v8 a w hK hp hS
      clear hK
      obtain ⟨A7, c7, rfl, h7⟩ := hp
      replace hS := hS.add 101 (slF RQ (A7) (k + 1) (c7) (oq (ps.take k) ++ [((((k : Nat) : Int), 0, 0, x4), ((k : Nat) : Int))])) h7
      refine l_seq rfl (l_store (n := 4) (cs' := [.int .i64 (p), .int .u64 (9), .int .i64 (((k : Nat) : Int) + 1), .slice (A7) (k + 1) (c7)]) hS 1405 rfl rfl rfl rfl rfl rfl rfl rfl ?_); clear hS; intro w hK hS; clear hK
      apply wpList_nil
      refine p_inN ?_
      refine p_norm ?_
      apply wp_region_lit
      refine q_seq hS rfl rfl rfl (y_addN (i := k) (j := 1) hS rfl rfl (in64.2 (by omega))) ?_; clear hS a; intro a hS
      refine q_seq hS rfl rfl rfl (y_move hS rfl) ?_; clear hS a; intro a hS
      apply wpList_nil
      refine p_norm ?_
      rw [show ((k : Nat) : Int) + 1 = ((k + 1 : Nat) : Int) by omega] at hS
      replace hS := hS.add 800 (slF RQ (A7) (k + 1) (c7) (oq (ps.take (k + 1)))) (by rw [oq_succ hx4]; exact hS.fact (k := 101) rfl)
      exact ⟨k + 1, by omega, ⟨A7, c7, by omega, (hS.sub ⟨rfl, rfl, rfl, rfl, rfl, rfl, trivial⟩ ⟨rfl, trivial⟩ ⟨rfl, rfl, trivial⟩)⟩⟩
    · apply wp_exit
      refine p_then ?_
      refine p_then ?_
      refine p_in ?_
      refine p_norm ?_
      apply wp_seq
      apply wp_region_lit
      refine q_seq hS rfl rfl rfl (y_build (parts := []) (ps := []) (cells := #[.int .i64 (0), .int .i64 (0), .int .i64 (0), .int .i64 (0)]) hS rfl (by kernel_rfl)) ?_; clear hS a; intro a hS
      refine l_seq rfl (l_alloc (zs := [.int .i64 (0), .int .i64 (0), .int .i64 (0), .int .i64 (0)]) hS 2201 rfl rfl rfl rfl ?_); clear hS a; intro b9 a w hb hK hS
      clear hb
      clear hK
      refine l_seq rfl (l_store (n := 4) (cs' := [.int .i64 (0), .int .i64 (0), .int .i64 (0), .int .i64 (0)]) hS 2201 rfl rfl rfl rfl rfl rfl rfl rfl ?_); clear hS; intro w hK hS; clear hK
      refine q_seq hS rfl rfl rfl (y_assign hS rfl) ?_; clear hS a; intro a hS
      apply wpList_nil
      refine p_norm ?_
      apply wp_seq
      apply wp_seq
      apply wp_region_lit
      refine q_seq hS rfl rfl rfl (y_move hS rfl) ?_; clear hS a; intro a hS
      refine q_seq hS rfl rfl rfl (y_lenSlice hS rfl Try.underlying46) ?_; clear hS a; intro a hS
      refine q_seq hS rfl rfl rfl (y_move hS rfl) ?_; clear hS a; intro a hS
      apply wpList_nil
      refine p_norm ?_
      apply wp_block
      have hkm : k = m := by omega
      replace hS := hS.add 801 (slF RQ A1 k c1 (oq (ps.take k))) (hS.fact (k := 800) rfl)
      refine c_loop (σ := Nat) (fun i a w => ∃ (s : Int), ∃ (A2 : Option Addr), ∃ (n : Nat), ∃ (c2 : Nat), ∃ (xs : List Queued), ∃ (la : Task), ∃ (first : Bool), (n + i = m) ∧ (Asc xs) ∧ (first = false → ∀ y ∈ xs, Behind p la y.1) ∧ St (⟨Try.f6.ntmps, M, noB, w0⟩ : Ctx) [(5, .int .i64 (p)), (6, .pointer (some ⟨b3, 0, none⟩)), (10, .pointer (some ⟨b9, 0, none⟩)), (11, .bool (first)), (46, .int .i64 (((m : Nat) : Int))), (47, .int .i64 (((i : Nat) : Int)))] [(1405, Ob.box b3 [.int .i64 (p), .int .u64 (s), .int .i64 (((k : Nat) : Int)), .slice (A2) (n) (c2)] 25), (2201, Ob.box b9 [.int .i64 (la.1), .int .i64 (la.2.1), .int .i64 (la.2.2.1), .int .i64 (la.2.2.2)] 32)] [(0, slF (Rep.int .i8) (A) (m) (c) (ps)), (801, slF RQ (A2) (n) (c2) (xs))] a w) (fun i => m - i) (0) ⟨9, A1, k, c1, oq (ps.take k), (0, 0, 0, 0), true, by omega, asc_oq _, (fun h => by cases h), (hS.sub ⟨rfl, rfl, rfl, rfl, rfl, rfl, trivial⟩ ⟨rfl, rfl, trivial⟩ ⟨rfl, rfl, trivial⟩)⟩ ?_
      clear hS a; rintro i a w ⟨s, A2, n, c2, xs, la, first, hn, hasc, hfit, hS⟩
      apply wp_seq
      apply wp_region_lit
      refine q_seq hS rfl rfl rfl (y_lss hS rfl rfl) ?_; clear hS a; intro a hS
      apply wpList_nil
      refine p_norm ?_
      apply wp_seq
      refine c_dec hS rfl (fun hc3 => ?_) (fun hc3 => ?_)
      · apply wp_skip
        refine p_norm ?_
        apply wp_seq
        apply wp_block
        apply wp_seq
        have hxl := (hS.fact (k := 801) rfl).len
        apply wp_region_lit
        refine q_seq hS rfl rfl rfl (y_loadBox (kk := 1405) (n := 4) (vs := [.int .i64 (p), .int .u64 (s), .int .i64 (((k : Nat) : Int)), .slice (A2) (n) (c2)]) hS rfl rfl Try.underlying25 rfl rfl rfl rfl) ?_; clear hS a; intro a hS
        refine l_seq rfl (l_call (cap := []) hS rfl Try.func13 rfl (by kernel_rfl) rfl rfl (pop_all _ _ hS.lt _ _ _ _ _ _ (xs) hp (hS.fact (k := 801) rfl) (by omega)) ?_); clear hS a; intro v11 a w hK hp hS
        clear hK
        obtain ⟨A10, c10, x10, hx10, rfl, h10⟩ := hp
        replace hS := hS.add 102 (slF RQ (A10) (n - 1) (c10) (popRest (xs) (popIdx (p) (s) (xs)))) h10
        refine q_seq hS rfl rfl rfl (y_move hS rfl) ?_; clear hS a; intro a hS
        refine q_seq hS rfl rfl rfl (y_extract hS rfl rfl) ?_; clear hS a; intro a hS
        refine q_seq hS rfl rfl rfl (y_extract hS rfl rfl) ?_; clear hS a; intro a hS
        refine q_seq hS rfl rfl rfl (y_extract hS rfl rfl) ?_; clear hS a; intro a hS
        refine l_seq rfl (l_alloc (zs := [.int .i64 (0), .int .u64 (0), .int .i64 (0), .slice (none) (0) (0)]) hS 2506 rfl rfl rfl rfl ?_); clear hS a; intro b12 a w hb hK hS
        clear hb
        clear hK
        refine l_seq rfl (l_alloc (zs := [.int .i64 (0), .int .i64 (0), .int .i64 (0), .int .i64 (0)]) hS 2507 rfl rfl rfl rfl ?_); clear hS a; intro b13 a w hb hK hS
        clear hb
        clear hK
        refine l_seq rfl (l_store (n := 4) (cs' := [.int .i64 (p), .int .u64 (popSeed (p) (s)), .int .i64 (((k : Nat) : Int)), .slice (A10) (n - 1) (c10)]) hS 2506 rfl rfl rfl rfl rfl rfl rfl rfl ?_); clear hS; intro w hK hS; clear hK
        refine l_seq rfl (l_store (n := 4) (cs' := [.int .i64 (x10.1.1), .int .i64 (x10.1.2.1), .int .i64 (x10.1.2.2.1), .int .i64 (x10.1.2.2.2)]) hS 2507 rfl rfl rfl rfl rfl rfl rfl rfl ?_); clear hS; intro w hK hS; clear hK
        refine q_seq hS rfl rfl rfl (y_assign hS rfl) ?_; clear hS a; intro a hS
        apply wpList_nil
        refine p_norm ?_
        apply wp_seq
        apply wp_seq
        apply wp_region_lit
        refine q_seq hS rfl rfl rfl (y_move hS rfl) ?_; clear hS a; intro a hS
        refine q_seq hS rfl rfl rfl (y_not hS rfl) ?_; clear hS a; intro a hS
        apply wpList_nil
        refine p_norm ?_
        refine c_f hS rfl ?_
        apply wp_skip
        refine p_norm ?_
        apply wp_seq
        apply wp_region_lit
        refine q_seq hS rfl rfl rfl (y_loadBox (kk := 2506) (n := 4) (vs := [.int .i64 (p), .int .u64 (popSeed (p) (s)), .int .i64 (((k : Nat) : Int)), .slice (A10) (n - 1) (c10)]) hS rfl rfl Try.underlying25 rfl rfl rfl rfl) ?_; clear hS a; intro a hS
        refine l_seq rfl (l_store (n := 4) (cs' := [.int .i64 (p), .int .u64 (popSeed (p) (s)), .int .i64 (((k : Nat) : Int)), .slice (A10) (n - 1) (c10)]) hS 1405 rfl rfl rfl rfl rfl rfl rfl rfl ?_); clear hS; intro w hK hS; clear hK
        apply wpList_nil
        refine p_norm ?_
        apply wp_seq
        have hxl := (hS.fact (k := 801) rfl).len
        obtain rfl | ⟨rfl, hpp, hok⟩ | ⟨rfl, hpp, hok⟩ | ⟨rfl, hpp, hok⟩ | ⟨rfl, hpp, hok⟩ := ord_cases hp2 hfit hx10
        · apply wp_region_lit
          refine q_seq hS rfl rfl rfl (y_boxField (o' := 0) hS rfl Try.underlying32 rfl rfl rfl) ?_; clear hS a; intro a hS
          refine q_seq hS rfl rfl rfl (y_loadBox1 (kk := 2507) hS rfl rfl rfl Try.underlying3 rfl) ?_; clear hS a; intro a hS
          refine q_seq hS rfl rfl rfl (y_boxField (o' := 0) hS rfl Try.underlying32 rfl rfl rfl) ?_; clear hS a; intro a hS
          refine q_seq hS rfl rfl rfl (y_loadBox1 (kk := 2201) hS rfl rfl rfl Try.underlying3 rfl) ?_; clear hS a; intro a hS
          refine q_seq hS rfl rfl rfl (y_gtr hS rfl rfl) ?_; clear hS a; intro a hS
          refine q_seq hS rfl rfl rfl (y_assign hS rfl) ?_; clear hS a; intro a hS
          apply wpList_nil
          refine p_norm ?_
          apply wp_seq
          apply wp_seq
          apply wp_region_lit
          refine q_seq hS rfl rfl rfl (y_move hS rfl) ?_; clear hS a; intro a hS
          refine q_seq hS rfl rfl rfl (y_not hS rfl) ?_; clear hS a; intro a hS
          refine q_seq hS rfl rfl rfl (y_move hS rfl) ?_; clear hS a; intro a hS
          refine g_no hS rfl rfl rfl rfl rfl rfl rfl ?_; clear hS a; intro a hS
          refine g_no hS rfl rfl rfl rfl rfl rfl rfl ?_; clear hS a; intro a hS
          refine g_no hS rfl rfl rfl rfl rfl rfl rfl ?_; clear hS a; intro a hS
          refine g_no hS rfl rfl rfl rfl rfl rfl rfl ?_; clear hS a; intro a hS
          refine g_no hS rfl rfl rfl rfl rfl rfl rfl ?_; clear hS a; intro a hS
          refine g_no hS rfl rfl rfl rfl rfl rfl rfl ?_; clear hS a; intro a hS
          refine g_no hS rfl rfl rfl rfl rfl rfl rfl ?_; clear hS a; intro a hS
          refine g_no hS rfl rfl rfl rfl rfl rfl rfl ?_; clear hS a; intro a hS
          refine g_no hS rfl rfl rfl rfl rfl rfl rfl ?_; clear hS a; intro a hS
          refine g_no hS rfl rfl rfl rfl rfl rfl rfl ?_; clear hS a; intro a hS
          refine g_no hS rfl rfl rfl rfl rfl rfl rfl ?_; clear hS a; intro a hS
          refine g_no hS rfl rfl rfl rfl rfl rfl rfl ?_; clear hS a; intro a hS
          refine g_no hS rfl rfl rfl rfl rfl rfl rfl ?_; clear hS a; intro a hS
          refine g_no hS rfl rfl rfl rfl rfl rfl rfl ?_; clear hS a; intro a hS
          refine g_no hS rfl rfl rfl rfl rfl rfl rfl ?_; clear hS a; intro a hS
          refine g_no hS rfl rfl rfl rfl rfl rfl rfl ?_; clear hS a; intro a hS
          refine g_no hS rfl rfl rfl rfl rfl rfl rfl ?_; clear hS a; intro a hS
          refine g_no hS rfl rfl rfl rfl rfl rfl rfl ?_; clear hS a; intro a hS
          refine g_no hS rfl rfl rfl rfl rfl rfl rfl ?_; clear hS a; intro a hS
          refine g_no hS rfl rfl rfl rfl rfl rfl rfl ?_; clear hS a; intro a hS
          refine g_no hS rfl rfl rfl rfl rfl rfl rfl ?_; clear hS a; intro a hS
          refine g_no hS rfl rfl rfl rfl rfl rfl rfl ?_; clear hS a; intro a hS
          refine g_no hS rfl rfl rfl rfl rfl rfl rfl ?_; clear hS a; intro a hS
          refine g_no hS rfl rfl rfl rfl rfl rfl rfl ?_; clear hS a; intro a hS
          refine g_no hS rfl rfl rfl rfl rfl rfl rfl ?_; clear hS a; intro a hS
          refine g_no hS rfl rfl rfl rfl rfl rfl rfl ?_; clear hS a; intro a hS
          refine g_no hS rfl rfl rfl rfl rfl rfl rfl ?_; clear hS a; intro a hS
          refine g_no hS rfl rfl rfl rfl rfl rfl rfl ?_; clear hS a; intro a hS
          refine g_no hS rfl rfl rfl rfl rfl rfl rfl ?_; clear hS a; intro a hS
          refine g_no hS rfl rfl rfl rfl rfl rfl rfl ?_; clear hS a; intro a hS
          refine g_no hS rfl rfl rfl rfl rfl rfl rfl ?_; clear hS a; intro a hS
          refine g_no hS rfl rfl rfl rfl rfl rfl rfl ?_; clear hS a; intro a hS
          refine g_no hS rfl rfl rfl rfl rfl rfl rfl ?_; clear hS a; intro a hS
          refine g_no hS rfl rfl rfl rfl rfl rfl rfl ?_; clear hS a; intro a hS
          refine g_no hS rfl rfl rfl rfl rfl rfl rfl ?_; clear hS a; intro a hS
          refine q_seq hS rfl rfl rfl (y_pick_f hS rfl rfl) ?_; clear hS a; intro a hS
          apply wpList_nil
          refine p_norm ?_
          refine c_f hS rfl ?_
          apply wp_skip
          refine p_norm ?_
          apply wp_region_lit
          refine q_seq hS rfl rfl rfl (y_loadBox (kk := 2507) (n := 4) (vs := [.int .i64 (x10.1.1), .int .i64 (x10.1.2.1), .int .i64 (x10.1.2.2.1), .int .i64 (x10.1.2.2.2)]) hS rfl rfl Try.underlying32 rfl rfl rfl rfl) ?_; clear hS a; intro a hS
          refine l_seq rfl (l_store (n := 4) (cs' := [.int .i64 (x10.1.1), .int .i64 (x10.1.2.1), .int .i64 (x10.1.2.2.1), .int .i64 (x10.1.2.2.2)]) hS 2201 rfl rfl rfl rfl rfl rfl rfl rfl ?_); clear hS; intro w hK hS; clear hK
          refine q_seq hS rfl rfl rfl (y_assign hS rfl) ?_; clear hS a; intro a hS
          apply wpList_nil
          refine p_inN ?_
          refine p_norm ?_
          apply wp_region_lit
          refine q_seq hS rfl rfl rfl (y_addN (i := i) (j := 1) hS rfl rfl (in64.2 (by omega))) ?_; clear hS a; intro a hS
          refine q_seq hS rfl rfl rfl (y_move hS rfl) ?_; clear hS a; intro a hS
          apply wpList_nil
          refine p_norm ?_
          replace hS := hS.add 801 (slF RQ (A10) (n - 1) (c10) (popRest (xs) (popIdx (p) (s) (xs)))) (hS.fact (k := 102) rfl)
          exact ⟨i + 1, by omega, ⟨popSeed (p) (s), A10, n - 1, c10, popRest (xs) (popIdx (p) (s) (xs)), (x10.1.1, x10.1.2.1, x10.1.2.2.1, x10.1.2.2.2), false, by omega, hasc.rest _, (fun _ => pop_behind hasc (by omega) hx10), (hS.sub ⟨rfl, rfl, rfl, rfl, rfl, rfl, trivial⟩ ⟨rfl, rfl, trivial⟩ ⟨rfl, rfl, trivial⟩)⟩⟩
        · apply wp_region_lit
          refine q_seq hS rfl rfl rfl (y_boxField (o' := 0) hS rfl Try.underlying32 rfl rfl rfl) ?_; clear hS a; intro a hS
          refine q_seq hS rfl rfl rfl (y_loadBox1 (kk := 2507) hS rfl rfl rfl Try.underlying3 rfl) ?_; clear hS a; intro a hS
          refine q_seq hS rfl rfl rfl (y_boxField (o' := 0) hS rfl Try.underlying32 rfl rfl rfl) ?_; clear hS a; intro a hS
          refine q_seq hS rfl rfl rfl (y_loadBox1 (kk := 2201) hS rfl rfl rfl Try.underlying3 rfl) ?_; clear hS a; intro a hS
          refine q_seq hS rfl rfl rfl (y_gtr hS rfl rfl) ?_; clear hS a; intro a hS
          rw [show decide ((la.1) < (x10.1.1)) = true from decide_eq_true (by omega)] at hS
          refine q_seq hS rfl rfl rfl (y_assign hS rfl) ?_; clear hS a; intro a hS
          apply wpList_nil
          refine p_norm ?_
          apply wp_seq
          apply wp_seq
          apply wp_region_lit
          refine q_seq hS rfl rfl rfl (y_move hS rfl) ?_; clear hS a; intro a hS
          refine q_seq hS rfl rfl rfl (y_not hS rfl) ?_; clear hS a; intro a hS
          refine q_seq hS rfl rfl rfl (y_move hS rfl) ?_; clear hS a; intro a hS
          refine g_yes hS rfl rfl rfl rfl (l_quiet hS rfl rfl (y_move hS rfl) ?_); clear hS a; intro a hS
          refine g_yes hS rfl rfl rfl rfl (l_quiet hS rfl rfl (y_eql hS rfl rfl) ?_); clear hS a; intro a hS
          rw [show decide ((p) = (0)) = true from decide_eq_true (by omega)] at hS
          refine g_yes hS rfl rfl rfl rfl (l_quiet hS rfl rfl (y_move hS rfl) ?_); clear hS a; intro a hS
          refine g_yes hS rfl rfl rfl rfl (l_quiet hS rfl rfl (y_move hS rfl) ?_); clear hS a; intro a hS
          refine g_yes hS rfl rfl rfl rfl (l_quiet hS rfl rfl (y_not hS rfl) ?_); clear hS a; intro a hS
          refine g_yes hS rfl rfl rfl rfl (l_quiet hS rfl rfl (y_pick_t hS rfl rfl) ?_); clear hS a; intro a hS
          refine g_yes hS rfl rfl rfl rfl (l_quiet hS rfl rfl (y_move hS rfl) ?_); clear hS a; intro a hS
          refine g_yes hS rfl rfl rfl rfl (l_quiet hS rfl rfl (y_move hS rfl) ?_); clear hS a; intro a hS
          refine g_yes hS rfl rfl rfl rfl (l_quiet hS rfl rfl (y_eql hS rfl rfl) ?_); clear hS a; intro a hS
          rw [show decide ((p) = (1)) = false from decide_eq_false (by omega)] at hS
          refine g_yes hS rfl rfl rfl rfl (l_quiet hS rfl rfl (y_move hS rfl) ?_); clear hS a; intro a hS
          refine g_no hS rfl rfl rfl rfl rfl rfl rfl ?_; clear hS a; intro a hS
          refine g_yes hS rfl rfl rfl rfl (l_quiet hS rfl rfl (y_pick_f hS rfl rfl) ?_); clear hS a; intro a hS
          refine g_yes hS rfl rfl rfl rfl (l_quiet hS rfl rfl (y_pick_f hS rfl rfl) ?_); clear hS a; intro a hS
          refine g_yes hS rfl rfl rfl rfl (l_quiet hS rfl rfl (y_move hS rfl) ?_); clear hS a; intro a hS
          refine g_yes hS rfl rfl rfl rfl (l_quiet hS rfl rfl (y_move hS rfl) ?_); clear hS a; intro a hS
          refine g_yes hS rfl rfl rfl rfl (l_quiet hS rfl rfl (y_eql hS rfl rfl) ?_); clear hS a; intro a hS
          rw [show decide ((p) = (2)) = false from decide_eq_false (by omega)] at hS
          refine g_yes hS rfl rfl rfl rfl (l_quiet hS rfl rfl (y_move hS rfl) ?_); clear hS a; intro a hS
          refine g_no hS rfl rfl rfl rfl rfl rfl rfl ?_; clear hS a; intro a hS
          refine g_no hS rfl rfl rfl rfl rfl rfl rfl ?_; clear hS a; intro a hS
          refine g_no hS rfl rfl rfl rfl rfl rfl rfl ?_; clear hS a; intro a hS
          refine g_no hS rfl rfl rfl rfl rfl rfl rfl ?_; clear hS a; intro a hS
          refine g_no hS rfl rfl rfl rfl rfl rfl rfl ?_; clear hS a; intro a hS
          refine g_no hS rfl rfl rfl rfl rfl rfl rfl ?_; clear hS a; intro a hS
          refine g_no hS rfl rfl rfl rfl rfl rfl rfl ?_; clear hS a; intro a hS
          refine g_no hS rfl rfl rfl rfl rfl rfl rfl ?_; clear hS a; intro a hS
          refine g_no hS rfl rfl rfl rfl rfl rfl rfl ?_; clear hS a; intro a hS
          refine g_no hS rfl rfl rfl rfl rfl rfl rfl ?_; clear hS a; intro a hS
          refine g_no hS rfl rfl rfl rfl rfl rfl rfl ?_; clear hS a; intro a hS
          refine g_no hS rfl rfl rfl rfl rfl rfl rfl ?_; clear hS a; intro a hS
          refine g_no hS rfl rfl rfl rfl rfl rfl rfl ?_; clear hS a; intro a hS
          refine g_no hS rfl rfl rfl rfl rfl rfl rfl ?_; clear hS a; intro a hS
          refine g_no hS rfl rfl rfl rfl rfl rfl rfl ?_; clear hS a; intro a hS
          refine g_no hS rfl rfl rfl rfl rfl rfl rfl ?_; clear hS a; intro a hS
          refine g_yes hS rfl rfl rfl rfl (l_quiet hS rfl rfl (y_pick_f hS rfl rfl) ?_); clear hS a; intro a hS
          refine g_yes hS rfl rfl rfl rfl (l_quiet hS rfl rfl (y_pick_f hS rfl rfl) ?_); clear hS a; intro a hS
          refine q_seq hS rfl rfl rfl (y_pick_t hS rfl rfl) ?_; clear hS a; intro a hS
          apply wpList_nil
          refine p_norm ?_
          refine c_f hS rfl ?_
          apply wp_skip
          refine p_norm ?_
          apply wp_region_lit
          refine q_seq hS rfl rfl rfl (y_loadBox (kk := 2507) (n := 4) (vs := [.int .i64 (x10.1.1), .int .i64 (x10.1.2.1), .int .i64 (x10.1.2.2.1), .int .i64 (x10.1.2.2.2)]) hS rfl rfl Try.underlying32 rfl rfl rfl rfl) ?_; clear hS a; intro a hS
          refine l_seq rfl (l_store (n := 4) (cs' := [.int .i64 (x10.1.1), .int .i64 (x10.1.2.1), .int .i64 (x10.1.2.2.1), .int .i64 (x10.1.2.2.2)]) hS 2201 rfl rfl rfl rfl rfl rfl rfl rfl ?_); clear hS; intro w hK hS; clear hK
          refine q_seq hS rfl rfl rfl (y_assign hS rfl) ?_; clear hS a; intro a hS
          apply wpList_nil
          refine p_inN ?_
          refine p_norm ?_
          apply wp_region_lit
          refine q_seq hS rfl rfl rfl (y_addN (i := i) (j := 1) hS rfl rfl (in64.2 (by omega))) ?_; clear hS a; intro a hS
          refine q_seq hS rfl rfl rfl (y_move hS rfl) ?_; clear hS a; intro a hS
          apply wpList_nil
          refine p_norm ?_
          replace hS := hS.add 801 (slF RQ (A10) (n - 1) (c10) (popRest (xs) (popIdx (p) (s) (xs)))) (hS.fact (k := 102) rfl)
          exact ⟨i + 1, by omega, ⟨popSeed (p) (s), A10, n - 1, c10, popRest (xs) (popIdx (p) (s) (xs)), (x10.1.1, x10.1.2.1, x10.1.2.2.1, x10.1.2.2.2), false, by omega, hasc.rest _, (fun _ => pop_behind hasc (by omega) hx10), (hS.sub ⟨rfl, rfl, rfl, rfl, rfl, rfl, trivial⟩ ⟨rfl, rfl, trivial⟩ ⟨rfl, rfl, trivial⟩)⟩⟩
        · apply wp_region_lit
          refine q_seq hS rfl rfl rfl (y_boxField (o' := 0) hS rfl Try.underlying32 rfl rfl rfl) ?_; clear hS a; intro a hS
          refine q_seq hS rfl rfl rfl (y_loadBox1 (kk := 2507) hS rfl rfl rfl Try.underlying3 rfl) ?_; clear hS a; intro a hS
          refine q_seq hS rfl rfl rfl (y_boxField (o' := 0) hS rfl Try.underlying32 rfl rfl rfl) ?_; clear hS a; intro a hS
          refine q_seq hS rfl rfl rfl (y_loadBox1 (kk := 2201) hS rfl rfl rfl Try.underlying3 rfl) ?_; clear hS a; intro a hS
          refine q_seq hS rfl rfl rfl (y_gtr hS rfl rfl) ?_; clear hS a; intro a hS
          rw [show decide ((la.1) < (x10.1.1)) = false from decide_eq_false (by omega)] at hS
          refine q_seq hS rfl rfl rfl (y_assign hS rfl) ?_; clear hS a; intro a hS
          apply wpList_nil
          refine p_norm ?_
          apply wp_seq
          apply wp_seq
          apply wp_region_lit
          refine q_seq hS rfl rfl rfl (y_move hS rfl) ?_; clear hS a; intro a hS
          refine q_seq hS rfl rfl rfl (y_not hS rfl) ?_; clear hS a; intro a hS
          refine q_seq hS rfl rfl rfl (y_move hS rfl) ?_; clear hS a; intro a hS
          refine g_yes hS rfl rfl rfl rfl (l_quiet hS rfl rfl (y_move hS rfl) ?_); clear hS a; intro a hS
          refine g_yes hS rfl rfl rfl rfl (l_quiet hS rfl rfl (y_eql hS rfl rfl) ?_); clear hS a; intro a hS
          rw [show decide ((p) = (0)) = false from decide_eq_false (by omega)] at hS
          refine g_yes hS rfl rfl rfl rfl (l_quiet hS rfl rfl (y_move hS rfl) ?_); clear hS a; intro a hS
          refine g_no hS rfl rfl rfl rfl rfl rfl rfl ?_; clear hS a; intro a hS
          refine g_no hS rfl rfl rfl rfl rfl rfl rfl ?_; clear hS a; intro a hS
          refine g_yes hS rfl rfl rfl rfl (l_quiet hS rfl rfl (y_pick_f hS rfl rfl) ?_); clear hS a; intro a hS
          refine g_yes hS rfl rfl rfl rfl (l_quiet hS rfl rfl (y_move hS rfl) ?_); clear hS a; intro a hS
          refine g_yes hS rfl rfl rfl rfl (l_quiet hS rfl rfl (y_move hS rfl) ?_); clear hS a; intro a hS
          refine g_yes hS rfl rfl rfl rfl (l_quiet hS rfl rfl (y_eql hS rfl rfl) ?_); clear hS a; intro a hS
          rw [show decide ((p) = (1)) = true from decide_eq_true (by omega)] at hS
          refine g_yes hS rfl rfl rfl rfl (l_quiet hS rfl rfl (y_move hS rfl) ?_); clear hS a; intro a hS
          refine g_yes hS rfl rfl rfl rfl (l_quiet hS rfl rfl (y_move hS rfl) ?_); clear hS a; intro a hS
          refine g_yes hS rfl rfl rfl rfl (l_quiet hS rfl rfl (y_pick_t hS rfl rfl) ?_); clear hS a; intro a hS
          refine g_yes hS rfl rfl rfl rfl (l_quiet hS rfl rfl (y_pick_f hS rfl rfl) ?_); clear hS a; intro a hS
          refine g_yes hS rfl rfl rfl rfl (l_quiet hS rfl rfl (y_move hS rfl) ?_); clear hS a; intro a hS
          refine g_yes hS rfl rfl rfl rfl (l_quiet hS rfl rfl (y_move hS rfl) ?_); clear hS a; intro a hS
          refine g_yes hS rfl rfl rfl rfl (l_quiet hS rfl rfl (y_eql hS rfl rfl) ?_); clear hS a; intro a hS
          rw [show decide ((p) = (2)) = false from decide_eq_false (by omega)] at hS
          refine g_yes hS rfl rfl rfl rfl (l_quiet hS rfl rfl (y_move hS rfl) ?_); clear hS a; intro a hS
          refine g_no hS rfl rfl rfl rfl rfl rfl rfl ?_; clear hS a; intro a hS
          refine g_no hS rfl rfl rfl rfl rfl rfl rfl ?_; clear hS a; intro a hS
          refine g_no hS rfl rfl rfl rfl rfl rfl rfl ?_; clear hS a; intro a hS
          refine g_no hS rfl rfl rfl rfl rfl rfl rfl ?_; clear hS a; intro a hS
          refine g_no hS rfl rfl rfl rfl rfl rfl rfl ?_; clear hS a; intro a hS
          refine g_no hS rfl rfl rfl rfl rfl rfl rfl ?_; clear hS a; intro a hS
          refine g_no hS rfl rfl rfl rfl rfl rfl rfl ?_; clear hS a; intro a hS
          refine g_no hS rfl rfl rfl rfl rfl rfl rfl ?_; clear hS a; intro a hS
          refine g_no hS rfl rfl rfl rfl rfl rfl rfl ?_; clear hS a; intro a hS
          refine g_no hS rfl rfl rfl rfl rfl rfl rfl ?_; clear hS a; intro a hS
          refine g_no hS rfl rfl rfl rfl rfl rfl rfl ?_; clear hS a; intro a hS
          refine g_no hS rfl rfl rfl rfl rfl rfl rfl ?_; clear hS a; intro a hS
          refine g_no hS rfl rfl rfl rfl rfl rfl rfl ?_; clear hS a; intro a hS
          refine g_no hS rfl rfl rfl rfl rfl rfl rfl ?_; clear hS a; intro a hS
          refine g_no hS rfl rfl rfl rfl rfl rfl rfl ?_; clear hS a; intro a hS
          refine g_no hS rfl rfl rfl rfl rfl rfl rfl ?_; clear hS a; intro a hS
          refine g_yes hS rfl rfl rfl rfl (l_quiet hS rfl rfl (y_pick_f hS rfl rfl) ?_); clear hS a; intro a hS
          refine g_yes hS rfl rfl rfl rfl (l_quiet hS rfl rfl (y_pick_f hS rfl rfl) ?_); clear hS a; intro a hS
          refine q_seq hS rfl rfl rfl (y_pick_t hS rfl rfl) ?_; clear hS a; intro a hS
          apply wpList_nil
          refine p_norm ?_
          refine c_f hS rfl ?_
          apply wp_skip
          refine p_norm ?_
          apply wp_region_lit
          refine q_seq hS rfl rfl rfl (y_loadBox (kk := 2507) (n := 4) (vs := [.int .i64 (x10.1.1), .int .i64 (x10.1.2.1), .int .i64 (x10.1.2.2.1), .int .i64 (x10.1.2.2.2)]) hS rfl rfl Try.underlying32 rfl rfl rfl rfl) ?_; clear hS a; intro a hS
          refine l_seq rfl (l_store (n := 4) (cs' := [.int .i64 (x10.1.1), .int .i64 (x10.1.2.1), .int .i64 (x10.1.2.2.1), .int .i64 (x10.1.2.2.2)]) hS 2201 rfl rfl rfl rfl rfl rfl rfl rfl ?_); clear hS; intro w hK hS; clear hK
          refine q_seq hS rfl rfl rfl (y_assign hS rfl) ?_; clear hS a; intro a hS
          apply wpList_nil
          refine p_inN ?_
          refine p_norm ?_
          apply wp_region_lit
          refine q_seq hS rfl rfl rfl (y_addN (i := i) (j := 1) hS rfl rfl (in64.2 (by omega))) ?_; clear hS a; intro a hS
          refine q_seq hS rfl rfl rfl (y_move hS rfl) ?_; clear hS a; intro a hS
          apply wpList_nil
          refine p_norm ?_
          replace hS := hS.add 801 (slF RQ (A10) (n - 1) (c10) (popRest (xs) (popIdx (p) (s) (xs)))) (hS.fact (k := 102) rfl)
          exact ⟨i + 1, by omega, ⟨popSeed (p) (s), A10, n - 1, c10, popRest (xs) (popIdx (p) (s) (xs)), (x10.1.1, x10.1.2.1, x10.1.2.2.1, x10.1.2.2.2), false, by omega, hasc.rest _, (fun _ => pop_behind hasc (by omega) hx10), (hS.sub ⟨rfl, rfl, rfl, rfl, rfl, rfl, trivial⟩ ⟨rfl, rfl, trivial⟩ ⟨rfl, rfl, trivial⟩)⟩⟩
        · apply wp_region_lit
          refine q_seq hS rfl rfl rfl (y_boxField (o' := 0) hS rfl Try.underlying32 rfl rfl rfl) ?_; clear hS a; intro a hS
          refine q_seq hS rfl rfl rfl (y_loadBox1 (kk := 2507) hS rfl rfl rfl Try.underlying3 rfl) ?_; clear hS a; intro a hS
          refine q_seq hS rfl rfl rfl (y_boxField (o' := 0) hS rfl Try.underlying32 rfl rfl rfl) ?_; clear hS a; intro a hS
          refine q_seq hS rfl rfl rfl (y_loadBox1 (kk := 2201) hS rfl rfl rfl Try.underlying3 rfl) ?_; clear hS a; intro a hS
          refine q_seq hS rfl rfl rfl (y_gtr hS rfl rfl) ?_; clear hS a; intro a hS
          refine q_seq hS rfl rfl rfl (y_assign hS rfl) ?_; clear hS a; intro a hS
          apply wpList_nil
          refine p_norm ?_
          apply wp_seq
          apply wp_seq
          apply wp_region_lit
          refine q_seq hS rfl rfl rfl (y_move hS rfl) ?_; clear hS a; intro a hS
          refine q_seq hS rfl rfl rfl (y_not hS rfl) ?_; clear hS a; intro a hS
          refine q_seq hS rfl rfl rfl (y_move hS rfl) ?_; clear hS a; intro a hS
          refine g_yes hS rfl rfl rfl rfl (l_quiet hS rfl rfl (y_move hS rfl) ?_); clear hS a; intro a hS
          refine g_yes hS rfl rfl rfl rfl (l_quiet hS rfl rfl (y_eql hS rfl rfl) ?_); clear hS a; intro a hS
          rw [show decide ((p) = (0)) = false from decide_eq_false (by omega)] at hS
          refine g_yes hS rfl rfl rfl rfl (l_quiet hS rfl rfl (y_move hS rfl) ?_); clear hS a; intro a hS
          refine g_no hS rfl rfl rfl rfl rfl rfl rfl ?_; clear hS a; intro a hS
          refine g_no hS rfl rfl rfl rfl rfl rfl rfl ?_; clear hS a; intro a hS
          refine g_yes hS rfl rfl rfl rfl (l_quiet hS rfl rfl (y_pick_f hS rfl rfl) ?_); clear hS a; intro a hS
          refine g_yes hS rfl rfl rfl rfl (l_quiet hS rfl rfl (y_move hS rfl) ?_); clear hS a; intro a hS
          refine g_yes hS rfl rfl rfl rfl (l_quiet hS rfl rfl (y_move hS rfl) ?_); clear hS a; intro a hS
          refine g_yes hS rfl rfl rfl rfl (l_quiet hS rfl rfl (y_eql hS rfl rfl) ?_); clear hS a; intro a hS
          rw [show decide ((p) = (1)) = false from decide_eq_false (by omega)] at hS
          refine g_yes hS rfl rfl rfl rfl (l_quiet hS rfl rfl (y_move hS rfl) ?_); clear hS a; intro a hS
          refine g_no hS rfl rfl rfl rfl rfl rfl rfl ?_; clear hS a; intro a hS
          refine g_yes hS rfl rfl rfl rfl (l_quiet hS rfl rfl (y_pick_f hS rfl rfl) ?_); clear hS a; intro a hS
          refine g_yes hS rfl rfl rfl rfl (l_quiet hS rfl rfl (y_pick_f hS rfl rfl) ?_); clear hS a; intro a hS
          refine g_yes hS rfl rfl rfl rfl (l_quiet hS rfl rfl (y_move hS rfl) ?_); clear hS a; intro a hS
          refine g_yes hS rfl rfl rfl rfl (l_quiet hS rfl rfl (y_move hS rfl) ?_); clear hS a; intro a hS
          refine g_yes hS rfl rfl rfl rfl (l_quiet hS rfl rfl (y_eql hS rfl rfl) ?_); clear hS a; intro a hS
          rw [show decide ((p) = (2)) = true from decide_eq_true (by omega)] at hS
          refine g_yes hS rfl rfl rfl rfl (l_quiet hS rfl rfl (y_move hS rfl) ?_); clear hS a; intro a hS
          refine g_yes hS rfl rfl rfl rfl (l_quiet hS rfl rfl (y_boxField (o' := 3) hS rfl Try.underlying32 rfl rfl rfl) ?_); clear hS a; intro a hS
          refine g_yes hS rfl rfl rfl rfl (l_quiet hS rfl rfl (y_loadBox1 (kk := 2507) hS rfl rfl rfl Try.underlying3 rfl) ?_); clear hS a; intro a hS
          refine g_yes hS rfl rfl rfl rfl (l_quiet hS rfl rfl (y_boxField (o' := 3) hS rfl Try.underlying32 rfl rfl rfl) ?_); clear hS a; intro a hS
          refine g_yes hS rfl rfl rfl rfl (l_quiet hS rfl rfl (y_loadBox1 (kk := 2201) hS rfl rfl rfl Try.underlying3 rfl) ?_); clear hS a; intro a hS
          refine g_yes hS rfl rfl rfl rfl (l_quiet hS rfl rfl (y_lss hS rfl rfl) ?_); clear hS a; intro a hS
          rw [show decide ((x10.1.2.2.2) < (la.2.2.2)) = false from decide_eq_false (by omega)] at hS
          refine g_yes hS rfl rfl rfl rfl (l_quiet hS rfl rfl (y_move hS rfl) ?_); clear hS a; intro a hS
          refine g_yes hS rfl rfl rfl rfl (l_quiet hS rfl rfl (y_boxField (o' := 3) hS rfl Try.underlying32 rfl rfl rfl) ?_); clear hS a; intro a hS
          refine g_yes hS rfl rfl rfl rfl (l_quiet hS rfl rfl (y_loadBox1 (kk := 2507) hS rfl rfl rfl Try.underlying3 rfl) ?_); clear hS a; intro a hS
          refine g_yes hS rfl rfl rfl rfl (l_quiet hS rfl rfl (y_boxField (o' := 3) hS rfl Try.underlying32 rfl rfl rfl) ?_); clear hS a; intro a hS
          refine g_yes hS rfl rfl rfl rfl (l_quiet hS rfl rfl (y_loadBox1 (kk := 2201) hS rfl rfl rfl Try.underlying3 rfl) ?_); clear hS a; intro a hS
          refine g_yes hS rfl rfl rfl rfl (l_quiet hS rfl rfl (y_eql hS rfl rfl) ?_); clear hS a; intro a hS
          rw [show decide ((x10.1.2.2.2) = (la.2.2.2)) = false from decide_eq_false (by omega)] at hS
          refine g_yes hS rfl rfl rfl rfl (l_quiet hS rfl rfl (y_move hS rfl) ?_); clear hS a; intro a hS
          refine g_no hS rfl rfl rfl rfl rfl rfl rfl ?_; clear hS a; intro a hS
          refine g_no hS rfl rfl rfl rfl rfl rfl rfl ?_; clear hS a; intro a hS
          refine g_yes hS rfl rfl rfl rfl (l_quiet hS rfl rfl (y_pick_f hS rfl rfl) ?_); clear hS a; intro a hS
          refine g_yes hS rfl rfl rfl rfl (l_quiet hS rfl rfl (y_pick_f hS rfl rfl) ?_); clear hS a; intro a hS
          refine g_yes hS rfl rfl rfl rfl (l_quiet hS rfl rfl (y_pick_t hS rfl rfl) ?_); clear hS a; intro a hS
          refine g_yes hS rfl rfl rfl rfl (l_quiet hS rfl rfl (y_pick_f hS rfl rfl) ?_); clear hS a; intro a hS
          refine q_seq hS rfl rfl rfl (y_pick_t hS rfl rfl) ?_; clear hS a; intro a hS
          apply wpList_nil
          refine p_norm ?_
          refine c_f hS rfl ?_
          apply wp_skip
          refine p_norm ?_
          apply wp_region_lit
          refine q_seq hS rfl rfl rfl (y_loadBox (kk := 2507) (n := 4) (vs := [.int .i64 (x10.1.1), .int .i64 (x10.1.2.1), .int .i64 (x10.1.2.2.1), .int .i64 (x10.1.2.2.2)]) hS rfl rfl Try.underlying32 rfl rfl rfl rfl) ?_; clear hS a; intro a hS
          refine l_seq rfl (l_store (n := 4) (cs' := [.int .i64 (x10.1.1), .int .i64 (x10.1.2.1), .int .i64 (x10.1.2.2.1), .int .i64 (x10.1.2.2.2)]) hS 2201 rfl rfl rfl rfl rfl rfl rfl rfl ?_); clear hS; intro w hK hS; clear hK
          refine q_seq hS rfl rfl rfl (y_assign hS rfl) ?_; clear hS a; intro a hS
          apply wpList_nil
          refine p_inN ?_
          refine p_norm ?_
          apply wp_region_lit
          refine q_seq hS rfl rfl rfl (y_addN (i := i) (j := 1) hS rfl rfl (in64.2 (by omega))) ?_; clear hS a; intro a hS
          refine q_seq hS rfl rfl rfl (y_move hS rfl) ?_; clear hS a; intro a hS
          apply wpList_nil
          refine p_norm ?_
          replace hS := hS.add 801 (slF RQ (A10) (n - 1) (c10) (popRest (xs) (popIdx (p) (s) (xs)))) (hS.fact (k := 102) rfl)
          exact ⟨i + 1, by omega, ⟨popSeed (p) (s), A10, n - 1, c10, popRest (xs) (popIdx (p) (s) (xs)), (x10.1.1, x10.1.2.1, x10.1.2.2.1, x10.1.2.2.2), false, by omega, hasc.rest _, (fun _ => pop_behind hasc (by omega) hx10), (hS.sub ⟨rfl, rfl, rfl, rfl, rfl, rfl, trivial⟩ ⟨rfl, rfl, trivial⟩ ⟨rfl, rfl, trivial⟩)⟩⟩
        · apply wp_region_lit
          refine q_seq hS rfl rfl rfl (y_boxField (o' := 0) hS rfl Try.underlying32 rfl rfl rfl) ?_; clear hS a; intro a hS
          refine q_seq hS rfl rfl rfl (y_loadBox1 (kk := 2507) hS rfl rfl rfl Try.underlying3 rfl) ?_; clear hS a; intro a hS
          refine q_seq hS rfl rfl rfl (y_boxField (o' := 0) hS rfl Try.underlying32 rfl rfl rfl) ?_; clear hS a; intro a hS
          refine q_seq hS rfl rfl rfl (y_loadBox1 (kk := 2201) hS rfl rfl rfl Try.underlying3 rfl) ?_; clear hS a; intro a hS
          refine q_seq hS rfl rfl rfl (y_gtr hS rfl rfl) ?_; clear hS a; intro a hS
          rw [show decide ((la.1) < (x10.1.1)) = true from decide_eq_true (by omega)] at hS
          refine q_seq hS rfl rfl rfl (y_assign hS rfl) ?_; clear hS a; intro a hS
          apply wpList_nil
          refine p_norm ?_
          apply wp_seq
          apply wp_seq
          apply wp_region_lit
          refine q_seq hS rfl rfl rfl (y_move hS rfl) ?_; clear hS a; intro a hS
          refine q_seq hS rfl rfl rfl (y_not hS rfl) ?_; clear hS a; intro a hS
          refine q_seq hS rfl rfl rfl (y_move hS rfl) ?_; clear hS a; intro a hS
          refine g_yes hS rfl rfl rfl rfl (l_quiet hS rfl rfl (y_move hS rfl) ?_); clear hS a; intro a hS
          refine g_yes hS rfl rfl rfl rfl (l_quiet hS rfl rfl (y_eql hS rfl rfl) ?_); clear hS a; intro a hS
          rw [show decide ((p) = (0)) = false from decide_eq_false (by omega)] at hS
          refine g_yes hS rfl rfl rfl rfl (l_quiet hS rfl rfl (y_move hS rfl) ?_); clear hS a; intro a hS
          refine g_no hS rfl rfl rfl rfl rfl rfl rfl ?_; clear hS a; intro a hS
          refine g_no hS rfl rfl rfl rfl rfl rfl rfl ?_; clear hS a; intro a hS
          refine g_yes hS rfl rfl rfl rfl (l_quiet hS rfl rfl (y_pick_f hS rfl rfl) ?_); clear hS a; intro a hS
          refine g_yes hS rfl rfl rfl rfl (l_quiet hS rfl rfl (y_move hS rfl) ?_); clear hS a; intro a hS
          refine g_yes hS rfl rfl rfl rfl (l_quiet hS rfl rfl (y_move hS rfl) ?_); clear hS a; intro a hS
          refine g_yes hS rfl rfl rfl rfl (l_quiet hS rfl rfl (y_eql hS rfl rfl) ?_); clear hS a; intro a hS
          rw [show decide ((p) = (1)) = false from decide_eq_false (by omega)] at hS
          refine g_yes hS rfl rfl rfl rfl (l_quiet hS rfl rfl (y_move hS rfl) ?_); clear hS a; intro a hS
          refine g_no hS rfl rfl rfl rfl rfl rfl rfl ?_; clear hS a; intro a hS
          refine g_yes hS rfl rfl rfl rfl (l_quiet hS rfl rfl (y_pick_f hS rfl rfl) ?_); clear hS a; intro a hS
          refine g_yes hS rfl rfl rfl rfl (l_quiet hS rfl rfl (y_pick_f hS rfl rfl) ?_); clear hS a; intro a hS
          refine g_yes hS rfl rfl rfl rfl (l_quiet hS rfl rfl (y_move hS rfl) ?_); clear hS a; intro a hS
          refine g_yes hS rfl rfl rfl rfl (l_quiet hS rfl rfl (y_move hS rfl) ?_); clear hS a; intro a hS
          refine g_yes hS rfl rfl rfl rfl (l_quiet hS rfl rfl (y_eql hS rfl rfl) ?_); clear hS a; intro a hS
          rw [show decide ((p) = (2)) = true from decide_eq_true (by omega)] at hS
          refine g_yes hS rfl rfl rfl rfl (l_quiet hS rfl rfl (y_move hS rfl) ?_); clear hS a; intro a hS
          refine g_yes hS rfl rfl rfl rfl (l_quiet hS rfl rfl (y_boxField (o' := 3) hS rfl Try.underlying32 rfl rfl rfl) ?_); clear hS a; intro a hS
          refine g_yes hS rfl rfl rfl rfl (l_quiet hS rfl rfl (y_loadBox1 (kk := 2507) hS rfl rfl rfl Try.underlying3 rfl) ?_); clear hS a; intro a hS
          refine g_yes hS rfl rfl rfl rfl (l_quiet hS rfl rfl (y_boxField (o' := 3) hS rfl Try.underlying32 rfl rfl rfl) ?_); clear hS a; intro a hS
          refine g_yes hS rfl rfl rfl rfl (l_quiet hS rfl rfl (y_loadBox1 (kk := 2201) hS rfl rfl rfl Try.underlying3 rfl) ?_); clear hS a; intro a hS
          refine g_yes hS rfl rfl rfl rfl (l_quiet hS rfl rfl (y_lss hS rfl rfl) ?_); clear hS a; intro a hS
          rw [show decide ((x10.1.2.2.2) < (la.2.2.2)) = false from decide_eq_false (by omega)] at hS
          refine g_yes hS rfl rfl rfl rfl (l_quiet hS rfl rfl (y_move hS rfl) ?_); clear hS a; intro a hS
          refine g_yes hS rfl rfl rfl rfl (l_quiet hS rfl rfl (y_boxField (o' := 3) hS rfl Try.underlying32 rfl rfl rfl) ?_); clear hS a; intro a hS
          refine g_yes hS rfl rfl rfl rfl (l_quiet hS rfl rfl (y_loadBox1 (kk := 2507) hS rfl rfl rfl Try.underlying3 rfl) ?_); clear hS a; intro a hS
          refine g_yes hS rfl rfl rfl rfl (l_quiet hS rfl rfl (y_boxField (o' := 3) hS rfl Try.underlying32 rfl rfl rfl) ?_); clear hS a; intro a hS
          refine g_yes hS rfl rfl rfl rfl (l_quiet hS rfl rfl (y_loadBox1 (kk := 2201) hS rfl rfl rfl Try.underlying3 rfl) ?_); clear hS a; intro a hS
          refine g_yes hS rfl rfl rfl rfl (l_quiet hS rfl rfl (y_eql hS rfl rfl) ?_); clear hS a; intro a hS
          rw [show decide ((x10.1.2.2.2) = (la.2.2.2)) = true from decide_eq_true (by omega)] at hS
          refine g_yes hS rfl rfl rfl rfl (l_quiet hS rfl rfl (y_move hS rfl) ?_); clear hS a; intro a hS
          refine g_yes hS rfl rfl rfl rfl (l_quiet hS rfl rfl (y_move hS rfl) ?_); clear hS a; intro a hS
          refine g_yes hS rfl rfl rfl rfl (l_quiet hS rfl rfl (y_not hS rfl) ?_); clear hS a; intro a hS
          refine g_yes hS rfl rfl rfl rfl (l_quiet hS rfl rfl (y_pick_t hS rfl rfl) ?_); clear hS a; intro a hS
          refine g_yes hS rfl rfl rfl rfl (l_quiet hS rfl rfl (y_pick_f hS rfl rfl) ?_); clear hS a; intro a hS
          refine g_yes hS rfl rfl rfl rfl (l_quiet hS rfl rfl (y_pick_t hS rfl rfl) ?_); clear hS a; intro a hS
          refine g_yes hS rfl rfl rfl rfl (l_quiet hS rfl rfl (y_pick_f hS rfl rfl) ?_); clear hS a; intro a hS
          refine q_seq hS rfl rfl rfl (y_pick_t hS rfl rfl) ?_; clear hS a; intro a hS
          apply wpList_nil
          refine p_norm ?_
          refine c_f hS rfl ?_
          apply wp_skip
          refine p_norm ?_
          apply wp_region_lit
          refine q_seq hS rfl rfl rfl (y_loadBox (kk := 2507) (n := 4) (vs := [.int .i64 (x10.1.1), .int .i64 (x10.1.2.1), .int .i64 (x10.1.2.2.1), .int .i64 (x10.1.2.2.2)]) hS rfl rfl Try.underlying32 rfl rfl rfl rfl) ?_; clear hS a; intro a hS
          refine l_seq rfl (l_store (n := 4) (cs' := [.int .i64 (x10.1.1), .int .i64 (x10.1.2.1), .int .i64 (x10.1.2.2.1), .int .i64 (x10.1.2.2.2)]) hS 2201 rfl rfl rfl rfl rfl rfl rfl rfl ?_); clear hS; intro w hK hS; clear hK
          refine q_seq hS rfl rfl rfl (y_assign hS rfl) ?_; clear hS a; intro a hS
          apply wpList_nil
          refine p_inN ?_
          refine p_norm ?_
          apply wp_region_lit
          refine q_seq hS rfl rfl rfl (y_addN (i := i) (j := 1) hS rfl rfl (in64.2 (by omega))) ?_; clear hS a; intro a hS
          refine q_seq hS rfl rfl rfl (y_move hS rfl) ?_; clear hS a; intro a hS
          apply wpList_nil
          refine p_norm ?_
          replace hS := hS.add 801 (slF RQ (A10) (n - 1) (c10) (popRest (xs) (popIdx (p) (s) (xs)))) (hS.fact (k := 102) rfl)
          exact ⟨i + 1, by omega, ⟨popSeed (p) (s), A10, n - 1, c10, popRest (xs) (popIdx (p) (s) (xs)), (x10.1.1, x10.1.2.1, x10.1.2.2.1, x10.1.2.2.2), false, by omega, hasc.rest _, (fun _ => pop_behind hasc (by omega) hx10), (hS.sub ⟨rfl, rfl, rfl, rfl, rfl, rfl, trivial⟩ ⟨rfl, rfl, trivial⟩ ⟨rfl, rfl, trivial⟩)⟩⟩
      · apply wp_exit
        refine p_then ?_
        refine p_then ?_
        refine p_in ?_
        refine p_norm ?_
        apply wp_seq
        apply wp_region_lit
        refine q_seq hS rfl rfl rfl (y_loadBox (kk := 1405) (n := 4) (vs := [.int .i64 (p), .int .u64 (s), .int .i64 (((k : Nat) : Int)), .slice (A2) (n) (c2)]) hS rfl rfl Try.underlying25 rfl rfl rfl rfl) ?_; clear hS a; intro a hS
        refine l_seq rfl (l_call (cap := []) hS rfl Try.func14 rfl (by kernel_rfl) rfl rfl (len_spec _ _ hS.lt _ _ _ _ _ _) ?_); clear hS a; intro v14 a w hK hp hS
        clear hK
        obtain rfl := hp
        refine q_seq hS rfl rfl rfl (y_eql hS rfl rfl) ?_; clear hS a; intro a hS
        rw [show decide ((((n : Nat) : Int)) = (0)) = true from decide_eq_true (by omega)] at hS
        refine q_seq hS rfl rfl rfl (y_move hS rfl) ?_; clear hS a; intro a hS
        refine g_yes hS rfl rfl rfl rfl (l_call (cap := []) hS rfl Try.func12 rfl (by kernel_rfl) rfl rfl (example_spec _ _ hS.lt) ?_); clear hS a; intro v15 a w hK hp hS
        clear hK
        obtain rfl := hp
        refine q_seq hS rfl rfl rfl (y_pick_t hS rfl rfl) ?_; clear hS a; intro a hS
        refine q_seq hS rfl rfl rfl (y_assign hS rfl) ?_; clear hS a; intro a hS
        apply wpList_nil
        refine p_norm ?_
        apply wp_ret
        refine fin1 (fn := Try.f6) hS rfl (r_tmp hS rfl) ?_
        rfl

end Go.Proofs.Ytjklnbjblncgeaa
