/- Chapter 23: the walks, part 1 -/
import Derived.Test.YtolgbjbfhoffpaaD1
namespace Go.Proofs.Ytolgbjbfhoffpaa
open Go.Gl Go.RowKit
set_option linter.unusedVariables false
set_option linter.unusedSimpArgs false

set_option maxHeartbeats 400000 in
theorem c_r23_Light (n : Nat) (M : Bs) (w0 : World) (hM : ∀ b, M b → b < w0.heap.size) (a_ : Affix) (Ap02 : Option Addr) (cp02 : Nat) (hp02 : SlR RChange M w0 Ap02 (a_.Pairs).length cp02 (a_.Pairs)) (r : Bool) (hg : r23_Light n a_ = some r) :
    Calls Try.prog 9 [.agg #[.int .i64 (a_.Kind), .slice (Ap02) ((a_.Pairs).length) (cp02)]].toArray w0 (Ret noB w0 fun v w => v = .bool (r)) := by
  unfold r23_Light at hg
  refine enter M noB Try.func9 rfl rfl hM ?_
  intro a hS
  replace hS := hS.add 101 (slF RChange (Ap02) ((a_.Pairs).length) (cp02) (a_.Pairs)) (by exact Fact.change _ enterM hp02)
  apply wp_seq
  apply wp_region_lit
  refine l_seq rfl (l_box (zs := [.int .i64 (a_.Kind), .slice (Ap02) ((a_.Pairs).length) (cp02)]) hS 1000 rfl rfl rfl rfl ?_); clear hS a; intro b2 a w hb hK hS
  clear hb
  clear hK
  refine q_seq hS rfl rfl rfl (y_assign hS rfl) ?_; clear hS a; intro a hS
  apply wpList_nil
  refine p_norm ?_
  apply wp_seq
  apply wp_seq
  apply wp_region_lit
  refine q_seq hS rfl rfl rfl (y_boxField (o' := 1) hS rfl Try.underlying24 rfl rfl rfl) ?_; clear hS a; intro a hS
  refine q_seq hS rfl rfl rfl (y_loadBox1 (kk := 1000) hS rfl rfl rfl Try.underlying22 rfl) ?_; clear hS a; intro a hS
  refine q_seq hS rfl rfl rfl (y_lenSlice hS rfl Try.underlying22) ?_; clear hS a; intro a hS
  refine q_seq hS rfl rfl rfl (y_gtrN (i := ((a_.Pairs).length)) (j := 40) hS rfl rfl) ?_; clear hS a; intro a hS
  apply wpList_nil
  refine p_norm ?_
  refine c_dec hS rfl (fun hc3 => ?_) (fun hc3 => ?_)
  · replace hg := br_t hg hc3
    have hmx4 := SlR.mx (hS.fact (k := 101) rfl)
    apply wp_seq
    apply wp_region_lit
    refine q_seq hS rfl rfl rfl (y_assign hS rfl) ?_; clear hS a; intro a hS
    apply wpList_nil
    refine p_norm ?_
    apply wp_ret
    refine p_thenR ?_
    obtain rfl := Option.some.inj hg
    refine fin1 (fn := Try.f9) hS rfl (r_tmp hS rfl) ?_
    exact rfl
  · replace hg := br_f hg hc3
    apply wp_skip
    refine p_norm ?_
    apply wp_seq
    apply wp_seq
    apply wp_region_lit
    refine q_seq hS rfl rfl rfl (y_assign hS rfl) ?_; clear hS a; intro a hS
    apply wpList_nil
    refine p_norm ?_
    apply wp_block
    refine c_loop (σ := Nat) (fun m1 a w => ∃ (i_5 : Nat), r23_Light_L0 n a_ m1 i_5 = some r ∧ St (⟨Try.f9.ntmps, M, noB, w0⟩ : Ctx) [(1, .pointer (some ⟨b2, 0, none⟩)), (3, .int .i64 (((i_5 : Nat) : Int)))] [(1000, Ob.box b2 [.int .i64 (a_.Kind), .slice (Ap02) ((a_.Pairs).length) (cp02)] 24)] [(101, slF RChange (Ap02) ((a_.Pairs).length) (cp02) (a_.Pairs))] a w) (fun m1 => m1) n ⟨(0), hg, (hS.sub ⟨rfl, rfl, trivial⟩ ⟨rfl, trivial⟩ ⟨rfl, trivial⟩)⟩ ?_
    clear hS a; rintro m1 a w ⟨i_5, hg, hS⟩
    rcases m1 with _ | m1
    · rw [r23_Light_L0] at hg; cases hg
    rw [r23_Light_L0] at hg
    apply wp_seq
    apply wp_seq
    apply wp_region_lit
    refine q_seq hS rfl rfl rfl (y_move hS rfl) ?_; clear hS a; intro a hS
    refine q_seq hS rfl rfl rfl (y_boxField (o' := 1) hS rfl Try.underlying24 rfl rfl rfl) ?_; clear hS a; intro a hS
    refine q_seq hS rfl rfl rfl (y_loadBox1 (kk := 1000) hS rfl rfl rfl Try.underlying22 rfl) ?_; clear hS a; intro a hS
    refine q_seq hS rfl rfl rfl (y_lenSlice hS rfl Try.underlying22) ?_; clear hS a; intro a hS
    refine q_seq hS rfl rfl rfl (y_lssN (i := i_5) (j := ((a_.Pairs).length)) hS rfl rfl) ?_; clear hS a; intro a hS
    apply wpList_nil
    refine p_norm ?_
    refine c_dec hS rfl (fun hc6 => ?_) (fun hc6 => ?_)
    · replace hg := br_t hg hc6
      have hmx7 := SlR.mx (hS.fact (k := 101) rfl)
      apply wp_skip
      refine p_norm ?_
      apply wp_seq
      apply wp_block
      apply wp_seq
      replace hg := jn_some hg; obtain ⟨k8, hg, hk8⟩ := hg
      refine c_post (fun a w => ∃ (t_9 : Bool), k8 t_9 = some r ∧ St (⟨Try.f9.ntmps, M, noB, w0⟩ : Ctx) [(1, .pointer (some ⟨b2, 0, none⟩)), (3, .int .i64 (((i_5 : Nat) : Int))), (32, .bool (t_9))] [(1000, Ob.box b2 [.int .i64 (a_.Kind), .slice (Ap02) ((a_.Pairs).length) (cp02)] 24)] [(101, slF RChange (Ap02) ((a_.Pairs).length) (cp02) (a_.Pairs))] a w) ?_ ?_
      · replace hg := bind_some hg; obtain ⟨x11, hx11, hg⟩ := hg
        rcases Decidable.em ((100 : Nat) < ((x11.Old).length)) with hs13 | hs13
        · have hs13e : decide ((100 : Nat) < ((x11.Old).length)) = true := decide_eq_true hs13
          replace hg := br_t hg hs13
          apply wp_region_lit
          refine q_seq hS rfl rfl rfl (y_boxField (o' := 1) hS rfl Try.underlying24 rfl rfl rfl) ?_; clear hS a; intro a hS
          refine q_seq hS rfl rfl rfl (y_loadBox1 (kk := 1000) hS rfl rfl rfl Try.underlying22 rfl) ?_; clear hS a; intro a hS
          refine q_seq hS rfl rfl rfl (y_move hS rfl) ?_; clear hS a; intro a hS
          obtain ⟨p14, hep14, hpp14⟩ := SlR.elemX (hS.fact (k := 101) rfl) hx11
          refine q_seq hS rfl rfl rfl (y_elem (sz := 2) (i := i_5) hS rfl rfl Try.underlying22 rfl hep14 rfl (lt_of_get hx11)) ?_; clear hS a; intro a hS
          refine q_seq hS rfl rfl rfl (y_ptrField (o' := 0) hS rfl Try.underlying42 rfl rfl rfl) ?_; clear hS a; intro a hS
          obtain ⟨hlq15, hmq15, csq15, hdq15, hcq15⟩ := hpp14
          obtain ⟨rfl, lq151, lq152⟩ := RChange.open hdq15
          refine q_seq hS rfl rfl rfl (y_ldp1 hS rfl hlq15 hmq15 (hcq15 0 _ rfl) Try.underlying9 rfl) ?_; clear hS a; intro a hS
          refine q_seq hS rfl rfl rfl (y_lenStrN hS rfl Try.underlying9) ?_; clear hS a; intro a hS
          refine q_seq hS rfl rfl rfl (yl_b (y_gtrN (i := ((x11.Old).length)) (j := 100) hS rfl rfl) hs13e) ?_; clear hS a; intro a hS
          refine q_seq hS rfl rfl rfl (y_move hS rfl) ?_; clear hS a; intro a hS
          refine g_no hS rfl rfl rfl rfl rfl rfl rfl ?_; clear hS a; intro a hS
          refine g_no hS rfl rfl rfl rfl rfl rfl rfl ?_; clear hS a; intro a hS
          refine g_no hS rfl rfl rfl rfl rfl rfl rfl ?_; clear hS a; intro a hS
          refine g_no hS rfl rfl rfl rfl rfl rfl rfl ?_; clear hS a; intro a hS
          refine g_no hS rfl rfl rfl rfl rfl rfl rfl ?_; clear hS a; intro a hS
          refine g_no hS rfl rfl rfl rfl rfl rfl rfl ?_; clear hS a; intro a hS
          refine g_no hS rfl rfl rfl rfl rfl rfl rfl ?_; clear hS a; intro a hS
          refine g_no hS rfl rfl rfl rfl rfl rfl rfl ?_; clear hS a; intro a hS
          refine q_seq hS rfl rfl rfl (y_pick_t hS rfl rfl) ?_; clear hS a; intro a hS
          apply wpList_nil
          refine p_norm ?_
          exact ⟨(true), hg, (hS.sub ⟨rfl, rfl, rfl, trivial⟩ ⟨rfl, trivial⟩ ⟨rfl, trivial⟩)⟩
        · have hs13e : decide ((100 : Nat) < ((x11.Old).length)) = false := decide_eq_false hs13
          replace hg := br_f hg hs13
          apply wp_region_lit
          refine q_seq hS rfl rfl rfl (y_boxField (o' := 1) hS rfl Try.underlying24 rfl rfl rfl) ?_; clear hS a; intro a hS
          refine q_seq hS rfl rfl rfl (y_loadBox1 (kk := 1000) hS rfl rfl rfl Try.underlying22 rfl) ?_; clear hS a; intro a hS
          refine q_seq hS rfl rfl rfl (y_move hS rfl) ?_; clear hS a; intro a hS
          obtain ⟨p18, hep18, hpp18⟩ := SlR.elemX (hS.fact (k := 101) rfl) hx11
          refine q_seq hS rfl rfl rfl (y_elem (sz := 2) (i := i_5) hS rfl rfl Try.underlying22 rfl hep18 rfl (lt_of_get hx11)) ?_; clear hS a; intro a hS
          refine q_seq hS rfl rfl rfl (y_ptrField (o' := 0) hS rfl Try.underlying42 rfl rfl rfl) ?_; clear hS a; intro a hS
          obtain ⟨hlq19, hmq19, csq19, hdq19, hcq19⟩ := hpp18
          obtain ⟨rfl, lq191, lq192⟩ := RChange.open hdq19
          refine q_seq hS rfl rfl rfl (y_ldp1 hS rfl hlq19 hmq19 (hcq19 0 _ rfl) Try.underlying9 rfl) ?_; clear hS a; intro a hS
          refine q_seq hS rfl rfl rfl (y_lenStrN hS rfl Try.underlying9) ?_; clear hS a; intro a hS
          refine q_seq hS rfl rfl rfl (yl_b (y_gtrN (i := ((x11.Old).length)) (j := 100) hS rfl rfl) hs13e) ?_; clear hS a; intro a hS
          refine q_seq hS rfl rfl rfl (y_move hS rfl) ?_; clear hS a; intro a hS
          refine g_yes hS rfl rfl rfl rfl (l_quiet hS rfl rfl (y_boxField (o' := 1) hS rfl Try.underlying24 rfl rfl rfl) ?_); clear hS a; intro a hS
          refine g_yes hS rfl rfl rfl rfl (l_quiet hS rfl rfl (y_loadBox1 (kk := 1000) hS rfl rfl rfl Try.underlying22 rfl) ?_); clear hS a; intro a hS
          refine g_yes hS rfl rfl rfl rfl (l_quiet hS rfl rfl (y_move hS rfl) ?_); clear hS a; intro a hS
          obtain ⟨p20, hep20, hpp20⟩ := SlR.elemX (hS.fact (k := 101) rfl) hx11
          refine g_yes hS rfl rfl rfl rfl (l_quiet hS rfl rfl (y_elem (sz := 2) (i := i_5) hS rfl rfl Try.underlying22 rfl hep20 rfl (lt_of_get hx11)) ?_); clear hS a; intro a hS
          refine g_yes hS rfl rfl rfl rfl (l_quiet hS rfl rfl (y_ptrField (o' := 1) hS rfl Try.underlying42 rfl rfl rfl) ?_); clear hS a; intro a hS
          obtain ⟨hlq21, hmq21, csq21, hdq21, hcq21⟩ := hpp20
          obtain ⟨rfl, lq211, lq212⟩ := RChange.open hdq21
          refine g_yes hS rfl rfl rfl rfl (l_quiet hS rfl rfl (y_ldp1 hS rfl hlq21 hmq21 (hcq21 1 _ rfl) Try.underlying9 rfl) ?_); clear hS a; intro a hS
          refine g_yes hS rfl rfl rfl rfl (l_quiet hS rfl rfl (y_lenStrN hS rfl Try.underlying9) ?_); clear hS a; intro a hS
          refine g_yes hS rfl rfl rfl rfl (l_quiet hS rfl rfl (y_gtrN (i := ((x11.New).length)) (j := 100) hS rfl rfl) ?_); clear hS a; intro a hS
          refine q_seq hS rfl rfl rfl (y_pick_f hS rfl rfl) ?_; clear hS a; intro a hS
          apply wpList_nil
          refine p_norm ?_
          exact ⟨(decide ((100 : Nat) < ((x11.New).length))), hg, (hS.sub ⟨rfl, rfl, rfl, trivial⟩ ⟨rfl, trivial⟩ ⟨rfl, trivial⟩)⟩
      clear hS a; rintro a w ⟨t_9, hg, hS⟩
      subst hk8
      refine c_cond hS rfl (fun hc22 => ?_) (fun hc22 => ?_)
      · replace hg := br_t hg hc22
        apply wp_seq
        apply wp_region_lit
        refine q_seq hS rfl rfl rfl (y_assign hS rfl) ?_; clear hS a; intro a hS
        apply wpList_nil
        refine p_norm ?_
        apply wp_ret
        refine p_inR ?_
        refine p_thenR ?_
        refine p_thenR ?_
        refine p_inR ?_
        refine p_thenR ?_
        obtain rfl := Option.some.inj hg
        refine fin1 (fn := Try.f9) hS rfl (r_tmp hS rfl) ?_
        exact rfl
      · replace hg := br_f hg (by rw [hc22]; exact Bool.false_ne_true)
        apply wp_skip
        refine p_inN ?_
        refine p_norm ?_
        apply wp_region_lit
        refine q_seq hS rfl rfl rfl (y_move hS rfl) ?_; clear hS a; intro a hS
        refine q_seq hS rfl rfl rfl (y_addN (i := i_5) (j := 1) hS rfl rfl (in64.2 (by omega))) ?_; clear hS a; intro a hS
        refine q_seq hS rfl rfl rfl (y_assign hS rfl) ?_; clear hS a; intro a hS
        apply wpList_nil
        refine p_norm ?_
        exact ⟨m1, Nat.lt_succ_self _, ⟨(i_5 + 1), hg, (hS.sub ⟨rfl, rfl, trivial⟩ ⟨rfl, trivial⟩ ⟨rfl, trivial⟩)⟩⟩
    · replace hg := br_f hg hc6
      apply wp_exit
      refine p_then ?_
      refine p_then ?_
      refine p_in ?_
      refine p_norm ?_
      apply wp_seq
      apply wp_region_lit
      refine q_seq hS rfl rfl rfl (y_assign hS rfl) ?_; clear hS a; intro a hS
      apply wpList_nil
      refine p_norm ?_
      apply wp_ret
      obtain rfl := Option.some.inj hg
      refine fin1 (fn := Try.f9) hS rfl (r_tmp hS rfl) ?_
      exact rfl
set_option maxHeartbeats 400000 in
theorem c_text_upper (n : Nat) (M : Bs) (w0 : World) (hM : ∀ b, M b → b < w0.heap.size) (c_ : Int) (r : Bool) (hg : text_upper n c_ = some r) :
    Calls Try.prog 42 [.int .i32 (c_)].toArray w0 (Ret noB w0 fun v w => v = .bool (r)) := by
  unfold text_upper at hg
  refine enter M noB Try.func42 rfl rfl hM ?_
  intro a hS
  apply wp_seq
  apply wp_region_lit
  refine q_seq hS rfl rfl rfl (y_assign hS rfl) ?_; clear hS a; intro a hS
  apply wpList_nil
  refine p_norm ?_
  apply wp_seq
  rcases Decidable.em ((65 : Int) ≤ c_) with hs1 | hs1
  · have hs1e : decide ((65 : Int) ≤ c_) = true := decide_eq_true hs1
    replace hg := br_t hg hs1
    apply wp_region_lit
    refine q_seq hS rfl rfl rfl (y_move hS rfl) ?_; clear hS a; intro a hS
    refine q_seq hS rfl rfl rfl (yl_b (y_geq hS rfl rfl) hs1e) ?_; clear hS a; intro a hS
    refine q_seq hS rfl rfl rfl (y_move hS rfl) ?_; clear hS a; intro a hS
    refine g_yes hS rfl rfl rfl rfl (l_quiet hS rfl rfl (y_move hS rfl) ?_); clear hS a; intro a hS
    refine g_yes hS rfl rfl rfl rfl (l_quiet hS rfl rfl (y_leq hS rfl rfl) ?_); clear hS a; intro a hS
    refine q_seq hS rfl rfl rfl (y_pick_t hS rfl rfl) ?_; clear hS a; intro a hS
    refine q_seq hS rfl rfl rfl (y_assign hS rfl) ?_; clear hS a; intro a hS
    apply wpList_nil
    refine p_norm ?_
    apply wp_ret
    obtain rfl := Option.some.inj hg
    refine fin1 (fn := Try.f42) hS rfl (r_tmp hS rfl) ?_
    exact rfl
  · have hs1e : decide ((65 : Int) ≤ c_) = false := decide_eq_false hs1
    replace hg := br_f hg hs1
    apply wp_region_lit
    refine q_seq hS rfl rfl rfl (y_move hS rfl) ?_; clear hS a; intro a hS
    refine q_seq hS rfl rfl rfl (yl_b (y_geq hS rfl rfl) hs1e) ?_; clear hS a; intro a hS
    refine q_seq hS rfl rfl rfl (y_move hS rfl) ?_; clear hS a; intro a hS
    refine g_no hS rfl rfl rfl rfl rfl rfl rfl ?_; clear hS a; intro a hS
    refine g_no hS rfl rfl rfl rfl rfl rfl rfl ?_; clear hS a; intro a hS
    refine q_seq hS rfl rfl rfl (y_pick_f hS rfl rfl) ?_; clear hS a; intro a hS
    refine q_seq hS rfl rfl rfl (y_assign hS rfl) ?_; clear hS a; intro a hS
    apply wpList_nil
    refine p_norm ?_
    apply wp_ret
    obtain rfl := Option.some.inj hg
    refine fin1 (fn := Try.f42) hS rfl (r_tmp hS rfl) ?_
    exact rfl
set_option maxHeartbeats 400000 in
theorem c_text_Word (n : Nat) (M : Bs) (w0 : World) (hM : ∀ b, M b → b < w0.heap.size) (s_ : (List UInt8)) (lp01 : (s_).length ≤ 9223372036854775807) (r : Bool) (hg : text_Word n s_ = some r) :
    Calls Try.prog 28 [.string (bs (s_))].toArray w0 (Ret noB w0 fun v w => v = .bool (r)) := by
  unfold text_Word at hg
  refine enter M noB Try.func28 rfl rfl hM ?_
  intro a hS
  apply wp_seq
  apply wp_region_lit
  refine q_seq hS rfl rfl rfl (y_assign hS rfl) ?_; clear hS a; intro a hS
  apply wpList_nil
  refine p_norm ?_
  apply wp_seq
  apply wp_seq
  replace hg := jn_some hg; obtain ⟨k1, hg, hk1⟩ := hg
  refine c_post (fun a w => ∃ (t_2 : Bool), k1 t_2 = some r ∧ St (⟨Try.f28.ntmps, M, noB, w0⟩ : Ctx) [(0, .string (bs (s_))), (12, .bool (t_2))] [] [] a w) ?_ ?_
  · rcases Decidable.em (((s_).length) = 0) with hs3 | hs3
    · have hs3e : decide (((s_).length) = 0) = true := decide_eq_true hs3
      replace hg := br_t hg hs3
      apply wp_region_lit
      refine q_seq hS rfl rfl rfl (y_move hS rfl) ?_; clear hS a; intro a hS
      refine q_seq hS rfl rfl rfl (y_lenStrN hS rfl Try.underlying9) ?_; clear hS a; intro a hS
      refine q_seq hS rfl rfl rfl (yl_b (y_eqlN (i := ((s_).length)) (j := 0) hS rfl rfl) hs3e) ?_; clear hS a; intro a hS
      refine q_seq hS rfl rfl rfl (y_move hS rfl) ?_; clear hS a; intro a hS
      refine g_no hS rfl rfl rfl rfl rfl rfl rfl ?_; clear hS a; intro a hS
      refine g_no hS rfl rfl rfl rfl rfl rfl rfl ?_; clear hS a; intro a hS
      refine g_no hS rfl rfl rfl rfl rfl rfl rfl ?_; clear hS a; intro a hS
      refine q_seq hS rfl rfl rfl (y_pick_t hS rfl rfl) ?_; clear hS a; intro a hS
      apply wpList_nil
      refine p_norm ?_
      exact ⟨(true), hg, (hS.sub ⟨rfl, rfl, trivial⟩ trivial trivial)⟩
    · have hs3e : decide (((s_).length) = 0) = false := decide_eq_false hs3
      replace hg := br_f hg hs3
      apply wp_region_lit
      refine q_seq hS rfl rfl rfl (y_move hS rfl) ?_; clear hS a; intro a hS
      refine q_seq hS rfl rfl rfl (y_lenStrN hS rfl Try.underlying9) ?_; clear hS a; intro a hS
      refine q_seq hS rfl rfl rfl (yl_b (y_eqlN (i := ((s_).length)) (j := 0) hS rfl rfl) hs3e) ?_; clear hS a; intro a hS
      refine q_seq hS rfl rfl rfl (y_move hS rfl) ?_; clear hS a; intro a hS
      refine g_yes hS rfl rfl rfl rfl (l_quiet hS rfl rfl (y_move hS rfl) ?_); clear hS a; intro a hS
      refine g_yes hS rfl rfl rfl rfl (l_quiet hS rfl rfl (y_lenStrN hS rfl Try.underlying9) ?_); clear hS a; intro a hS
      refine g_yes hS rfl rfl rfl rfl (l_quiet hS rfl rfl (y_gtrN (i := ((s_).length)) (j := 32) hS rfl rfl) ?_); clear hS a; intro a hS
      refine q_seq hS rfl rfl rfl (y_pick_f hS rfl rfl) ?_; clear hS a; intro a hS
      apply wpList_nil
      refine p_norm ?_
      exact ⟨(decide ((32 : Nat) < ((s_).length))), hg, (hS.sub ⟨rfl, rfl, trivial⟩ trivial trivial)⟩
  clear hS a; rintro a w ⟨t_2, hg, hS⟩
  subst hk1
  refine c_cond hS rfl (fun hc4 => ?_) (fun hc4 => ?_)
  · replace hg := br_t hg hc4
    apply wp_seq
    apply wp_region_lit
    refine q_seq hS rfl rfl rfl (y_assign hS rfl) ?_; clear hS a; intro a hS
    apply wpList_nil
    refine p_norm ?_
    apply wp_ret
    refine p_thenR ?_
    obtain rfl := Option.some.inj hg
    refine fin1 (fn := Try.f28) hS rfl (r_tmp hS rfl) ?_
    exact rfl
  · replace hg := br_f hg (by rw [hc4]; exact Bool.false_ne_true)
    apply wp_skip
    refine p_norm ?_
    apply wp_seq
    apply wp_seq
    apply wp_region_lit
    refine q_seq hS rfl rfl rfl (y_move hS rfl) ?_; clear hS a; intro a hS
    refine l_seq rfl (l_range hS 1301 rfl Try.underlying9 rfl rfl ?_); clear hS a; intro b6 a w hb hK hS
    clear hb
    clear hK
    apply wpList_nil
    refine p_norm ?_
    apply wp_block
    refine c_loop (σ := Nat) (fun m1 a w => ∃ (pos_7 : Nat), text_Word_L0 n s_ m1 pos_7 = some r ∧ St (⟨Try.f28.ntmps, M, noB, w0⟩ : Ctx) [(14, .pointer (some ⟨b6, 0, none⟩))] [(1301, Ob.iter b6 (bs (s_)) (pos_7))] [] a w) (fun m1 => m1) n ⟨(0), hg, (hS.sub ⟨rfl, trivial⟩ ⟨rfl, trivial⟩ trivial)⟩ ?_
    clear hS a; rintro m1 a w ⟨pos_7, hg, hS⟩
    rcases m1 with _ | m1
    · rw [text_Word_L0] at hg; cases hg
    rw [text_Word_L0] at hg
    apply wp_seq
    rcases Decidable.em (pos_7 < (s_).length) with hs8 | hs8
    · have hs8e : decide (pos_7 < (s_).length) = true := decide_eq_true hs8
      replace hg := br_t hg hs8
      have hmx9 : (s_).length ≤ 9223372036854775807 := (by first | omega | (rw [List.length_append]; omega) | (simp only [List.length_append]; omega) | (simp only [List.length_append, List.length_take, List.length_drop, List.length_cons, List.length_nil]; omega))
      apply wp_region_lit
      refine l_seq rfl (l_next hS 1301 rfl rfl hs8 rfl ?_); clear hS a; intro a w hK hS
      clear hK
      refine q_seq hS rfl rfl rfl (y_extract hS rfl rfl) ?_; clear hS a; intro a hS
      apply wpList_nil
      refine p_norm ?_
      apply wp_seq
      refine c_t hS rfl ?_
      apply wp_skip
      refine p_norm ?_
      apply wp_block
      apply wp_seq
      apply wp_region_lit
      refine q_seq hS rfl rfl rfl (y_extract hS rfl rfl) ?_; clear hS a; intro a hS
      refine q_seq hS rfl rfl rfl (y_assign hS rfl) ?_; clear hS a; intro a hS
      apply wpList_nil
      refine p_norm ?_
      apply wp_seq
      replace hg := jn_some hg; obtain ⟨k10, hg, hk10⟩ := hg
      refine c_post (fun a w => ∃ (t_11 : Bool), k10 t_11 = some r ∧ St (⟨Try.f28.ntmps, M, noB, w0⟩ : Ctx) [(14, .pointer (some ⟨b6, 0, none⟩)), (35, .bool (t_11))] [(1301, Ob.iter b6 (bs (s_)) (pos_7 + runeLen s_ pos_7))] [] a w) ?_ ?_
      · rcases Decidable.em ((runeAt s_ pos_7) < 33) with hs12 | hs12
        · have hs12e : decide ((runeAt s_ pos_7) < 33) = true := decide_eq_true hs12
          replace hg := br_t hg hs12
          apply wp_region_lit
          refine q_seq hS rfl rfl rfl (y_move hS rfl) ?_; clear hS a; intro a hS
          refine q_seq hS rfl rfl rfl (yl_b (y_lss hS rfl rfl) hs12e) ?_; clear hS a; intro a hS
          refine q_seq hS rfl rfl rfl (y_move hS rfl) ?_; clear hS a; intro a hS
          refine g_no hS rfl rfl rfl rfl rfl rfl rfl ?_; clear hS a; intro a hS
          refine g_no hS rfl rfl rfl rfl rfl rfl rfl ?_; clear hS a; intro a hS
          refine q_seq hS rfl rfl rfl (y_pick_t hS rfl rfl) ?_; clear hS a; intro a hS
          refine q_seq hS rfl rfl rfl (y_move hS rfl) ?_; clear hS a; intro a hS
          refine g_no hS rfl rfl rfl rfl rfl rfl rfl ?_; clear hS a; intro a hS
          refine g_no hS rfl rfl rfl rfl rfl rfl rfl ?_; clear hS a; intro a hS
          refine q_seq hS rfl rfl rfl (y_pick_t hS rfl rfl) ?_; clear hS a; intro a hS
          refine q_seq hS rfl rfl rfl (y_move hS rfl) ?_; clear hS a; intro a hS
          refine g_no hS rfl rfl rfl rfl rfl rfl rfl ?_; clear hS a; intro a hS
          refine g_no hS rfl rfl rfl rfl rfl rfl rfl ?_; clear hS a; intro a hS
          refine q_seq hS rfl rfl rfl (y_pick_t hS rfl rfl) ?_; clear hS a; intro a hS
          refine q_seq hS rfl rfl rfl (y_move hS rfl) ?_; clear hS a; intro a hS
          refine g_no hS rfl rfl rfl rfl rfl rfl rfl ?_; clear hS a; intro a hS
          refine g_no hS rfl rfl rfl rfl rfl rfl rfl ?_; clear hS a; intro a hS
          refine q_seq hS rfl rfl rfl (y_pick_t hS rfl rfl) ?_; clear hS a; intro a hS
          apply wpList_nil
          refine p_norm ?_
          exact ⟨(true), hg, (hS.sub ⟨rfl, rfl, trivial⟩ ⟨rfl, trivial⟩ trivial)⟩
        · have hs12e : decide ((runeAt s_ pos_7) < 33) = false := decide_eq_false hs12
          replace hg := br_f hg hs12
          rcases Decidable.em ((126 : Int) < (runeAt s_ pos_7)) with hs13 | hs13
          · have hs13e : decide ((126 : Int) < (runeAt s_ pos_7)) = true := decide_eq_true hs13
            replace hg := br_t hg hs13
            apply wp_region_lit
            refine q_seq hS rfl rfl rfl (y_move hS rfl) ?_; clear hS a; intro a hS
            refine q_seq hS rfl rfl rfl (yl_b (y_lss hS rfl rfl) hs12e) ?_; clear hS a; intro a hS
            refine q_seq hS rfl rfl rfl (y_move hS rfl) ?_; clear hS a; intro a hS
            refine g_yes hS rfl rfl rfl rfl (l_quiet hS rfl rfl (y_move hS rfl) ?_); clear hS a; intro a hS
            refine g_yes hS rfl rfl rfl rfl (l_quiet hS rfl rfl (yl_b (y_gtr hS rfl rfl) hs13e) ?_); clear hS a; intro a hS
            refine q_seq hS rfl rfl rfl (y_pick_f hS rfl rfl) ?_; clear hS a; intro a hS
            refine q_seq hS rfl rfl rfl (y_move hS rfl) ?_; clear hS a; intro a hS
            refine g_no hS rfl rfl rfl rfl rfl rfl rfl ?_; clear hS a; intro a hS
            refine g_no hS rfl rfl rfl rfl rfl rfl rfl ?_; clear hS a; intro a hS
            refine q_seq hS rfl rfl rfl (y_pick_t hS rfl rfl) ?_; clear hS a; intro a hS
            refine q_seq hS rfl rfl rfl (y_move hS rfl) ?_; clear hS a; intro a hS
            refine g_no hS rfl rfl rfl rfl rfl rfl rfl ?_; clear hS a; intro a hS
            refine g_no hS rfl rfl rfl rfl rfl rfl rfl ?_; clear hS a; intro a hS
            refine q_seq hS rfl rfl rfl (y_pick_t hS rfl rfl) ?_; clear hS a; intro a hS
            refine q_seq hS rfl rfl rfl (y_move hS rfl) ?_; clear hS a; intro a hS
            refine g_no hS rfl rfl rfl rfl rfl rfl rfl ?_; clear hS a; intro a hS
            refine g_no hS rfl rfl rfl rfl rfl rfl rfl ?_; clear hS a; intro a hS
            refine q_seq hS rfl rfl rfl (y_pick_t hS rfl rfl) ?_; clear hS a; intro a hS
            apply wpList_nil
            refine p_norm ?_
            exact ⟨(true), hg, (hS.sub ⟨rfl, rfl, trivial⟩ ⟨rfl, trivial⟩ trivial)⟩
          · have hs13e : decide ((126 : Int) < (runeAt s_ pos_7)) = false := decide_eq_false hs13
            replace hg := br_f hg hs13
            replace hg := bind_some hg; obtain ⟨r14, hr14, hg⟩ := hg
            rcases Bool.eq_false_or_eq_true (r14) with hs17 | hs17
            · replace hg := br_t hg hs17
              apply wp_region_lit
              refine q_seq hS rfl rfl rfl (y_move hS rfl) ?_; clear hS a; intro a hS
              refine q_seq hS rfl rfl rfl (yl_b (y_lss hS rfl rfl) hs12e) ?_; clear hS a; intro a hS
              refine q_seq hS rfl rfl rfl (y_move hS rfl) ?_; clear hS a; intro a hS
              refine g_yes hS rfl rfl rfl rfl (l_quiet hS rfl rfl (y_move hS rfl) ?_); clear hS a; intro a hS
              refine g_yes hS rfl rfl rfl rfl (l_quiet hS rfl rfl (yl_b (y_gtr hS rfl rfl) hs13e) ?_); clear hS a; intro a hS
              refine q_seq hS rfl rfl rfl (y_pick_f hS rfl rfl) ?_; clear hS a; intro a hS
              refine q_seq hS rfl rfl rfl (y_move hS rfl) ?_; clear hS a; intro a hS
              refine g_yes hS rfl rfl rfl rfl (l_quiet hS rfl rfl (y_move hS rfl) ?_); clear hS a; intro a hS
              refine g_yes hS rfl rfl rfl rfl (l_call (cap := []) hS rfl Try.func42 rfl (by kernel_rfl) rfl rfl (c_text_upper n _ _ hS.lt (runeAt s_ pos_7) r14 hr14) ?_); clear hS a; intro v18 a w hK hp hS
              clear hK
              obtain rfl := hp.trans (congrArg Value.bool hs17)
              refine q_seq hS rfl rfl rfl (y_pick_f hS rfl rfl) ?_; clear hS a; intro a hS
              refine q_seq hS rfl rfl rfl (y_move hS rfl) ?_; clear hS a; intro a hS
              refine g_no hS rfl rfl rfl rfl rfl rfl rfl ?_; clear hS a; intro a hS
              refine g_no hS rfl rfl rfl rfl rfl rfl rfl ?_; clear hS a; intro a hS
              refine q_seq hS rfl rfl rfl (y_pick_t hS rfl rfl) ?_; clear hS a; intro a hS
              refine q_seq hS rfl rfl rfl (y_move hS rfl) ?_; clear hS a; intro a hS
              refine g_no hS rfl rfl rfl rfl rfl rfl rfl ?_; clear hS a; intro a hS
              refine g_no hS rfl rfl rfl rfl rfl rfl rfl ?_; clear hS a; intro a hS
              refine q_seq hS rfl rfl rfl (y_pick_t hS rfl rfl) ?_; clear hS a; intro a hS
              apply wpList_nil
              refine p_norm ?_
              exact ⟨(true), hg, (hS.sub ⟨rfl, rfl, trivial⟩ ⟨rfl, trivial⟩ trivial)⟩
            · replace hg := br_f hg (by rw [hs17]; exact Bool.false_ne_true)
              rcases Decidable.em ((runeAt s_ pos_7) = 34) with hs20 | hs20
              · have hs20e : decide ((runeAt s_ pos_7) = 34) = true := decide_eq_true hs20
                replace hg := br_t hg hs20
                apply wp_region_lit
                refine q_seq hS rfl rfl rfl (y_move hS rfl) ?_; clear hS a; intro a hS
                refine q_seq hS rfl rfl rfl (yl_b (y_lss hS rfl rfl) hs12e) ?_; clear hS a; intro a hS
                refine q_seq hS rfl rfl rfl (y_move hS rfl) ?_; clear hS a; intro a hS
                refine g_yes hS rfl rfl rfl rfl (l_quiet hS rfl rfl (y_move hS rfl) ?_); clear hS a; intro a hS
                refine g_yes hS rfl rfl rfl rfl (l_quiet hS rfl rfl (yl_b (y_gtr hS rfl rfl) hs13e) ?_); clear hS a; intro a hS
                refine q_seq hS rfl rfl rfl (y_pick_f hS rfl rfl) ?_; clear hS a; intro a hS
                refine q_seq hS rfl rfl rfl (y_move hS rfl) ?_; clear hS a; intro a hS
                refine g_yes hS rfl rfl rfl rfl (l_quiet hS rfl rfl (y_move hS rfl) ?_); clear hS a; intro a hS
                refine g_yes hS rfl rfl rfl rfl (l_call (cap := []) hS rfl Try.func42 rfl (by kernel_rfl) rfl rfl (c_text_upper n _ _ hS.lt (runeAt s_ pos_7) r14 hr14) ?_); clear hS a; intro v21 a w hK hp hS
                clear hK
                obtain rfl := hp.trans (congrArg Value.bool hs17)
                refine q_seq hS rfl rfl rfl (y_pick_f hS rfl rfl) ?_; clear hS a; intro a hS
                refine q_seq hS rfl rfl rfl (y_move hS rfl) ?_; clear hS a; intro a hS
                refine g_yes hS rfl rfl rfl rfl (l_quiet hS rfl rfl (y_move hS rfl) ?_); clear hS a; intro a hS
                refine g_yes hS rfl rfl rfl rfl (l_quiet hS rfl rfl (yl_b (y_eql hS rfl rfl) hs20e) ?_); clear hS a; intro a hS
                refine q_seq hS rfl rfl rfl (y_pick_f hS rfl rfl) ?_; clear hS a; intro a hS
                refine q_seq hS rfl rfl rfl (y_move hS rfl) ?_; clear hS a; intro a hS
                refine g_no hS rfl rfl rfl rfl rfl rfl rfl ?_; clear hS a; intro a hS
                refine g_no hS rfl rfl rfl rfl rfl rfl rfl ?_; clear hS a; intro a hS
                refine q_seq hS rfl rfl rfl (y_pick_t hS rfl rfl) ?_; clear hS a; intro a hS
                apply wpList_nil
                refine p_norm ?_
                exact ⟨(true), hg, (hS.sub ⟨rfl, rfl, trivial⟩ ⟨rfl, trivial⟩ trivial)⟩
              · have hs20e : decide ((runeAt s_ pos_7) = 34) = false := decide_eq_false hs20
                replace hg := br_f hg hs20
                apply wp_region_lit
                refine q_seq hS rfl rfl rfl (y_move hS rfl) ?_; clear hS a; intro a hS
                refine q_seq hS rfl rfl rfl (yl_b (y_lss hS rfl rfl) hs12e) ?_; clear hS a; intro a hS
                refine q_seq hS rfl rfl rfl (y_move hS rfl) ?_; clear hS a; intro a hS
                refine g_yes hS rfl rfl rfl rfl (l_quiet hS rfl rfl (y_move hS rfl) ?_); clear hS a; intro a hS
                refine g_yes hS rfl rfl rfl rfl (l_quiet hS rfl rfl (yl_b (y_gtr hS rfl rfl) hs13e) ?_); clear hS a; intro a hS
                refine q_seq hS rfl rfl rfl (y_pick_f hS rfl rfl) ?_; clear hS a; intro a hS
                refine q_seq hS rfl rfl rfl (y_move hS rfl) ?_; clear hS a; intro a hS
                refine g_yes hS rfl rfl rfl rfl (l_quiet hS rfl rfl (y_move hS rfl) ?_); clear hS a; intro a hS
                refine g_yes hS rfl rfl rfl rfl (l_call (cap := []) hS rfl Try.func42 rfl (by kernel_rfl) rfl rfl (c_text_upper n _ _ hS.lt (runeAt s_ pos_7) r14 hr14) ?_); clear hS a; intro v23 a w hK hp hS
                clear hK
                obtain rfl := hp.trans (congrArg Value.bool hs17)
                refine q_seq hS rfl rfl rfl (y_pick_f hS rfl rfl) ?_; clear hS a; intro a hS
                refine q_seq hS rfl rfl rfl (y_move hS rfl) ?_; clear hS a; intro a hS
                refine g_yes hS rfl rfl rfl rfl (l_quiet hS rfl rfl (y_move hS rfl) ?_); clear hS a; intro a hS
                refine g_yes hS rfl rfl rfl rfl (l_quiet hS rfl rfl (yl_b (y_eql hS rfl rfl) hs20e) ?_); clear hS a; intro a hS
                refine q_seq hS rfl rfl rfl (y_pick_f hS rfl rfl) ?_; clear hS a; intro a hS
                refine q_seq hS rfl rfl rfl (y_move hS rfl) ?_; clear hS a; intro a hS
                refine g_yes hS rfl rfl rfl rfl (l_quiet hS rfl rfl (y_move hS rfl) ?_); clear hS a; intro a hS
                refine g_yes hS rfl rfl rfl rfl (l_quiet hS rfl rfl (y_eql hS rfl rfl) ?_); clear hS a; intro a hS
                refine q_seq hS rfl rfl rfl (y_pick_f hS rfl rfl) ?_; clear hS a; intro a hS
                apply wpList_nil
                refine p_norm ?_
                exact ⟨(decide ((runeAt s_ pos_7) = 92)), hg, (hS.sub ⟨rfl, rfl, trivial⟩ ⟨rfl, trivial⟩ trivial)⟩
      clear hS a; rintro a w ⟨t_11, hg, hS⟩
      subst hk10
      refine c_cond hS rfl (fun hc25 => ?_) (fun hc25 => ?_)
      · replace hg := br_t hg hc25
        apply wp_seq
        apply wp_region_lit
        refine q_seq hS rfl rfl rfl (y_assign hS rfl) ?_; clear hS a; intro a hS
        apply wpList_nil
        refine p_norm ?_
        apply wp_ret
        refine p_inR ?_
        refine p_thenR ?_
        refine p_inR ?_
        refine p_thenR ?_
        obtain rfl := Option.some.inj hg
        refine fin1 (fn := Try.f28) hS rfl (r_tmp hS rfl) ?_
        exact rfl
      · replace hg := br_f hg (by rw [hc25]; exact Bool.false_ne_true)
        apply wp_skip
        refine p_inN ?_
        refine p_norm ?_
        exact ⟨m1, Nat.lt_succ_self _, ⟨(pos_7 + runeLen s_ pos_7), hg, (hS.sub ⟨rfl, trivial⟩ ⟨rfl, trivial⟩ trivial)⟩⟩
    · have hs8e : decide (pos_7 < (s_).length) = false := decide_eq_false hs8
      replace hg := br_f hg hs8
      apply wp_region_lit
      refine l_seq rfl (l_nextE hS 1301 rfl rfl hs8 rfl ?_); clear hS a; intro a w hK hS
      clear hK
      refine q_seq hS rfl rfl rfl (y_extract hS rfl rfl) ?_; clear hS a; intro a hS
      apply wpList_nil
      refine p_norm ?_
      apply wp_seq
      refine c_f hS rfl ?_
      apply wp_exit
      refine p_then ?_
      refine p_then ?_
      refine p_in ?_
      refine p_norm ?_
      apply wp_seq
      apply wp_region_lit
      refine q_seq hS rfl rfl rfl (y_assign hS rfl) ?_; clear hS a; intro a hS
      apply wpList_nil
      refine p_norm ?_
      apply wp_ret
      obtain rfl := Option.some.inj hg
      refine fin1 (fn := Try.f28) hS rfl (r_tmp hS rfl) ?_
      exact rfl
set_option maxHeartbeats 400000 in
theorem c_affix_bytes (n : Nat) (M : Bs) (w0 : World) (hM : ∀ b, M b → b < w0.heap.size) (s_ : (List UInt8)) (lp01 : (s_).length ≤ 9223372036854775807) (r : Bool) (hg : affix_bytes n s_ = some r) :
    Calls Try.prog 22 [.string (bs (s_))].toArray w0 (Ret noB w0 fun v w => v = .bool (r)) := by
  unfold affix_bytes at hg
  refine enter M noB Try.func22 rfl rfl hM ?_
  intro a hS
  apply wp_seq
  apply wp_region_lit
  refine q_seq hS rfl rfl rfl (y_assign hS rfl) ?_; clear hS a; intro a hS
  apply wpList_nil
  refine p_norm ?_
  apply wp_seq
  apply wp_seq
  apply wp_region_lit
  refine q_seq hS rfl rfl rfl (y_move hS rfl) ?_; clear hS a; intro a hS
  refine q_seq hS rfl rfl rfl (y_lenStrN hS rfl Try.underlying9) ?_; clear hS a; intro a hS
  refine q_seq hS rfl rfl rfl (y_move hS rfl) ?_; clear hS a; intro a hS
  apply wpList_nil
  refine p_norm ?_
  apply wp_block
  refine c_loop (σ := Nat) (fun m1 a w => ∃ (t_1 : Nat), affix_bytes_L0 n s_ m1 t_1 = some r ∧ St (⟨Try.f22.ntmps, M, noB, w0⟩ : Ctx) [(0, .string (bs (s_))), (5, .int .i64 ((((s_).length : Nat) : Int))), (6, .int .i64 (((t_1 : Nat) : Int)))] [] [] a w) (fun m1 => m1) n ⟨(0), hg, (hS.sub ⟨rfl, rfl, rfl, trivial⟩ trivial trivial)⟩ ?_
  clear hS a; rintro m1 a w ⟨t_1, hg, hS⟩
  rcases m1 with _ | m1
  · rw [affix_bytes_L0] at hg; cases hg
  rw [affix_bytes_L0] at hg
  apply wp_seq
  apply wp_region_lit
  refine q_seq hS rfl rfl rfl (y_lssN (i := t_1) (j := ((s_).length)) hS rfl rfl) ?_; clear hS a; intro a hS
  apply wpList_nil
  refine p_norm ?_
  apply wp_seq
  refine c_dec hS rfl (fun hc2 => ?_) (fun hc2 => ?_)
  · replace hg := br_t hg hc2
    have hmx3 : (s_).length ≤ 9223372036854775807 := (by first | omega | (rw [List.length_append]; omega) | (simp only [List.length_append]; omega) | (simp only [List.length_append, List.length_take, List.length_drop, List.length_cons, List.length_nil]; omega))
    apply wp_skip
    refine p_norm ?_
    apply wp_seq
    apply wp_block
    apply wp_seq
    apply wp_region_lit
    refine q_seq hS rfl rfl rfl (y_move hS rfl) ?_; clear hS a; intro a hS
    refine q_seq hS rfl rfl rfl (y_assign hS rfl) ?_; clear hS a; intro a hS
    apply wpList_nil
    refine p_norm ?_
    apply wp_seq
    replace hg := chk_some hg; obtain ⟨hk4, hg⟩ := hg
    replace hg := bind_some hg; obtain ⟨r5, hr5, hg⟩ := hg
    apply wp_region_lit
    refine q_seq hS rfl rfl rfl (y_move hS rfl) ?_; clear hS a; intro a hS
    refine q_seq hS rfl rfl rfl (y_move hS rfl) ?_; clear hS a; intro a hS
    refine q_seq hS rfl rfl rfl (y_move hS rfl) ?_; clear hS a; intro a hS
    refine q_seq hS rfl rfl rfl (y_addN (i := t_1) (j := 1) hS rfl rfl (in64.2 (by omega))) ?_; clear hS a; intro a hS
    refine q_seq hS rfl rfl rfl (y_strLH (i := t_1) (j := (t_1 + 1)) hS rfl rfl rfl Try.underlying9 rfl rfl hk4.1 hk4.2) ?_; clear hS a; intro a hS
    refine l_seq rfl (l_call (cap := []) hS rfl Try.func28 rfl (by kernel_rfl) rfl rfl (c_text_Word n _ _ hS.lt (((s_).drop t_1).take (t_1 + 1 - t_1)) (by first | omega | (rw [List.length_append]; omega) | (simp only [List.length_append]; omega) | (simp only [List.length_append, List.length_take, List.length_drop, List.length_cons, List.length_nil]; omega)) r5 hr5) ?_); clear hS a; intro v8 a w hK hp hS
    clear hK
    obtain rfl := hp
    refine q_seq hS rfl rfl rfl (y_not hS rfl) ?_; clear hS a; intro a hS
    apply wpList_nil
    refine p_norm ?_
    refine c_cond hS rfl (fun hc10 => ?_) (fun hc10 => ?_)
    · replace hg := br_t hg hc10
      apply wp_seq
      apply wp_region_lit
      refine q_seq hS rfl rfl rfl (y_assign hS rfl) ?_; clear hS a; intro a hS
      apply wpList_nil
      refine p_norm ?_
      apply wp_ret
      refine p_inR ?_
      refine p_thenR ?_
      refine p_thenR ?_
      refine p_inR ?_
      refine p_thenR ?_
      obtain rfl := Option.some.inj hg
      refine fin1 (fn := Try.f22) hS rfl (r_tmp hS rfl) ?_
      exact rfl
    · replace hg := br_f hg (by rw [hc10]; exact Bool.false_ne_true)
      apply wp_skip
      refine p_inN ?_
      refine p_norm ?_
      apply wp_region_lit
      refine q_seq hS rfl rfl rfl (y_addN (i := t_1) (j := 1) hS rfl rfl (in64.2 (by omega))) ?_; clear hS a; intro a hS
      refine q_seq hS rfl rfl rfl (y_move hS rfl) ?_; clear hS a; intro a hS
      apply wpList_nil
      refine p_norm ?_
      exact ⟨m1, Nat.lt_succ_self _, ⟨(t_1 + 1), hg, (hS.sub ⟨rfl, rfl, rfl, trivial⟩ trivial trivial)⟩⟩
  · replace hg := br_f hg hc2
    apply wp_exit
    refine p_then ?_
    refine p_then ?_
    refine p_in ?_
    refine p_norm ?_
    apply wp_seq
    apply wp_region_lit
    refine q_seq hS rfl rfl rfl (y_assign hS rfl) ?_; clear hS a; intro a hS
    apply wpList_nil
    refine p_norm ?_
    apply wp_ret
    obtain rfl := Option.some.inj hg
    refine fin1 (fn := Try.f22) hS rfl (r_tmp hS rfl) ?_
    exact rfl
set_option maxHeartbeats 400000 in
theorem c_slices_IndexFunc_Change (n : Nat) (M : Bs) (w0 : World) (hM : ∀ b, M b → b < w0.heap.size) (s_ : (List Change)) (Ap01 : Option Addr) (cp01 : Nat) (hp01 : SlR RChange M w0 Ap01 (s_).length cp01 (s_)) (f_ : (Change → Option Bool)) (Ap11 : FuncId) (cp11 : List Value) (hp11 : FnR Try.prog Ap11 cp11 pre44 post44 (f_) M w0) (r : Int) (hg : slices_IndexFunc_Change n s_ f_ = some r) :
    Calls Try.prog 35 [.slice (Ap01) ((s_).length) (cp01), .func (.func Ap11) #[] (List.toArray cp11)].toArray w0 (Ret noB w0 fun v w => v = .int .i64 (r)) := by
  unfold slices_IndexFunc_Change at hg
  refine enter M noB Try.func35 rfl rfl hM ?_
  intro a hS
  replace hS := hS.add 101 (slF RChange (Ap01) ((s_).length) (cp01) (s_)) (by exact Fact.change _ enterM hp01)
  replace hS := hS.add 102 (fnF Try.prog Ap11 cp11 pre44 post44 (f_)) (by exact Fact.change _ enterM hp11)
  apply wp_seq
  apply wp_region_lit
  refine q_seq hS rfl rfl rfl (y_assign hS rfl) ?_; clear hS a; intro a hS
  apply wpList_nil
  refine p_norm ?_
  apply wp_seq
  apply wp_seq
  apply wp_region_lit
  refine q_seq hS rfl rfl rfl (y_move hS rfl) ?_; clear hS a; intro a hS
  refine q_seq hS rfl rfl rfl (y_lenSlice hS rfl Try.underlying22) ?_; clear hS a; intro a hS
  refine q_seq hS rfl rfl rfl (y_move hS rfl) ?_; clear hS a; intro a hS
  apply wpList_nil
  refine p_norm ?_
  apply wp_block
  refine c_loop (σ := Nat) (fun m1 a w => ∃ (t_1 : Nat), slices_IndexFunc_Change_L0 n s_ f_ m1 t_1 = some r ∧ St (⟨Try.f35.ntmps, M, noB, w0⟩ : Ctx) [(0, .slice (Ap01) ((s_).length) (cp01)), (1, .func (.func Ap11) #[] (List.toArray cp11)), (7, .int .i64 ((((s_).length : Nat) : Int))), (8, .int .i64 (((t_1 : Nat) : Int)))] [] [(101, slF RChange (Ap01) ((s_).length) (cp01) (s_)), (102, fnF Try.prog Ap11 cp11 pre44 post44 (f_))] a w) (fun m1 => m1) n ⟨(0), hg, (hS.sub ⟨rfl, rfl, rfl, rfl, trivial⟩ trivial ⟨rfl, rfl, trivial⟩)⟩ ?_
  clear hS a; rintro m1 a w ⟨t_1, hg, hS⟩
  rcases m1 with _ | m1
  · rw [slices_IndexFunc_Change_L0] at hg; cases hg
  rw [slices_IndexFunc_Change_L0] at hg
  apply wp_seq
  apply wp_region_lit
  refine q_seq hS rfl rfl rfl (y_lssN (i := t_1) (j := ((s_).length)) hS rfl rfl) ?_; clear hS a; intro a hS
  apply wpList_nil
  refine p_norm ?_
  apply wp_seq
  refine c_dec hS rfl (fun hc2 => ?_) (fun hc2 => ?_)
  · replace hg := br_t hg hc2
    have hmx3 := SlR.mx (hS.fact (k := 101) rfl)
    apply wp_skip
    refine p_norm ?_
    apply wp_seq
    apply wp_block
    apply wp_seq
    apply wp_region_lit
    refine q_seq hS rfl rfl rfl (y_move hS rfl) ?_; clear hS a; intro a hS
    refine q_seq hS rfl rfl rfl (y_assign hS rfl) ?_; clear hS a; intro a hS
    apply wpList_nil
    refine p_norm ?_
    apply wp_seq
    replace hg := bind_some hg; obtain ⟨x5, hx5, hg⟩ := hg
    replace hg := bind_some hg; obtain ⟨r7, hr7, hg⟩ := hg
    apply wp_region_lit
    refine q_seq hS rfl rfl rfl (y_move hS rfl) ?_; clear hS a; intro a hS
    refine q_seq hS rfl rfl rfl (y_move hS rfl) ?_; clear hS a; intro a hS
    refine q_seq hS rfl rfl rfl (y_move hS rfl) ?_; clear hS a; intro a hS
    obtain ⟨p10, hep10, hpp10⟩ := SlR.elemX (hS.fact (k := 101) rfl) hx5
    refine q_seq hS rfl rfl rfl (y_elem (sz := 2) (i := t_1) hS rfl rfl Try.underlying22 rfl hep10 rfl (lt_of_get hx5)) ?_; clear hS a; intro a hS
    obtain ⟨hlq11, hmq11, csq11, hdq11, hcq11⟩ := hpp10
    obtain ⟨rfl, lq111, lq112⟩ := RChange.open hdq11
    refine q_seq hS rfl rfl rfl (y_ldp hS rfl hlq11 hmq11 (by simpa using hcq11) Try.underlying42 rfl rfl) ?_; clear hS a; intro a hS
    refine l_seq rfl (l_callFn (cap := cp11) (x := x5) hS rfl (hS.fact (k := 102) rfl) rfl rfl ⟨rfl, (by first | omega | (rw [List.length_append]; omega) | (simp only [List.length_append]; omega) | (simp only [List.length_append, List.length_take, List.length_drop, List.length_cons, List.length_nil]; omega)), (by first | omega | (rw [List.length_append]; omega) | (simp only [List.length_append]; omega) | (simp only [List.length_append, List.length_take, List.length_drop, List.length_cons, List.length_nil]; omega))⟩ hr7 ?_); clear hS a; intro v12 a w hK hp hS
    clear hK
    obtain rfl := hp
    apply wpList_nil
    refine p_norm ?_
    refine c_cond hS rfl (fun hc14 => ?_) (fun hc14 => ?_)
    · replace hg := br_t hg hc14
      apply wp_seq
      apply wp_region_lit
      refine q_seq hS rfl rfl rfl (y_move hS rfl) ?_; clear hS a; intro a hS
      refine q_seq hS rfl rfl rfl (y_assign hS rfl) ?_; clear hS a; intro a hS
      apply wpList_nil
      refine p_norm ?_
      apply wp_ret
      refine p_inR ?_
      refine p_thenR ?_
      refine p_thenR ?_
      refine p_inR ?_
      refine p_thenR ?_
      obtain rfl := Option.some.inj hg
      refine fin1 (fn := Try.f35) hS rfl (r_tmp hS rfl) ?_
      exact rfl
    · replace hg := br_f hg (by rw [hc14]; exact Bool.false_ne_true)
      apply wp_skip
      refine p_inN ?_
      refine p_norm ?_
      apply wp_region_lit
      refine q_seq hS rfl rfl rfl (y_addN (i := t_1) (j := 1) hS rfl rfl (in64.2 (by omega))) ?_; clear hS a; intro a hS
      refine q_seq hS rfl rfl rfl (y_move hS rfl) ?_; clear hS a; intro a hS
      apply wpList_nil
      refine p_norm ?_
      exact ⟨m1, Nat.lt_succ_self _, ⟨(t_1 + 1), hg, (hS.sub ⟨rfl, rfl, rfl, rfl, trivial⟩ trivial ⟨rfl, rfl, trivial⟩)⟩⟩
  · replace hg := br_f hg hc2
    apply wp_exit
    refine p_then ?_
    refine p_then ?_
    refine p_in ?_
    refine p_norm ?_
    apply wp_seq
    apply wp_region_lit
    refine q_seq hS rfl rfl rfl (y_assign hS rfl) ?_; clear hS a; intro a hS
    apply wpList_nil
    refine p_norm ?_
    apply wp_ret
    obtain rfl := Option.some.inj hg
    refine fin1 (fn := Try.f35) hS rfl (r_tmp hS rfl) ?_
    exact rfl
set_option maxHeartbeats 400000 in
theorem c_slices_ContainsFunc_Change (n : Nat) (M : Bs) (w0 : World) (hM : ∀ b, M b → b < w0.heap.size) (s_ : (List Change)) (Ap01 : Option Addr) (cp01 : Nat) (hp01 : SlR RChange M w0 Ap01 (s_).length cp01 (s_)) (f_ : (Change → Option Bool)) (Ap11 : FuncId) (cp11 : List Value) (hp11 : FnR Try.prog Ap11 cp11 pre44 post44 (f_) M w0) (r : Bool) (hg : slices_ContainsFunc_Change n s_ f_ = some r) :
    Calls Try.prog 23 [.slice (Ap01) ((s_).length) (cp01), .func (.func Ap11) #[] (List.toArray cp11)].toArray w0 (Ret noB w0 fun v w => v = .bool (r)) := by
  unfold slices_ContainsFunc_Change at hg
  refine enter M noB Try.func23 rfl rfl hM ?_
  intro a hS
  replace hS := hS.add 101 (slF RChange (Ap01) ((s_).length) (cp01) (s_)) (by exact Fact.change _ enterM hp01)
  replace hS := hS.add 102 (fnF Try.prog Ap11 cp11 pre44 post44 (f_)) (by exact Fact.change _ enterM hp11)
  apply wp_seq
  apply wp_region_lit
  refine q_seq hS rfl rfl rfl (y_assign hS rfl) ?_; clear hS a; intro a hS
  apply wpList_nil
  refine p_norm ?_
  apply wp_seq
  replace hg := bind_some hg; obtain ⟨r1, hr1, hg⟩ := hg
  apply wp_region_lit
  refine q_seq hS rfl rfl rfl (y_move hS rfl) ?_; clear hS a; intro a hS
  refine q_seq hS rfl rfl rfl (y_move hS rfl) ?_; clear hS a; intro a hS
  refine l_seq rfl (l_call (cap := []) hS rfl Try.func35 rfl (by kernel_rfl) rfl rfl (c_slices_IndexFunc_Change n _ _ hS.lt s_ (Ap01) (cp01) (hS.fact (k := 101) rfl) f_ (Ap11) (cp11) (hS.fact (k := 102) rfl) r1 hr1) ?_); clear hS a; intro v4 a w hK hp hS
  clear hK
  obtain rfl := hp
  refine q_seq hS rfl rfl rfl (y_geq hS rfl rfl) ?_; clear hS a; intro a hS
  refine q_seq hS rfl rfl rfl (y_assign hS rfl) ?_; clear hS a; intro a hS
  apply wpList_nil
  refine p_norm ?_
  apply wp_ret
  obtain rfl := Option.some.inj hg
  refine fin1 (fn := Try.f23) hS rfl (r_tmp hS rfl) ?_
  exact rfl
set_option maxHeartbeats 400000 in
theorem c_affix_Check_1 (n : Nat) (M : Bs) (w0 : World) (hM : ∀ b, M b → b < w0.heap.size) (q_ : Change) (lp01 : (q_.Old).length ≤ 9223372036854775807) (lp02 : (q_.New).length ≤ 9223372036854775807) (bf0 : Nat) (c0_ : Change) (lf01 : (c0_.Old).length ≤ 9223372036854775807) (lf02 : (c0_.New).length ≤ 9223372036854775807) (hb0 : BoxR bf0 [.string (bs (c0_.Old)), .string (bs (c0_.New))] 42 M w0) (r : Bool) (hg : affix_Check_1 n q_ c0_ = some r) :
    Calls Try.prog 24 [.agg #[.string (bs (q_.Old)), .string (bs (q_.New))], .pointer (some ⟨bf0, 0, none⟩)].toArray w0 (Ret noB w0 fun v w => v = .bool (r)) := by
  unfold affix_Check_1 at hg
  refine enter M noB Try.func24 rfl rfl hM ?_
  intro a hS
  replace hS := hS.add 101 (boxF bf0 [.string (bs (c0_.Old)), .string (bs (c0_.New))] 42) (by exact Fact.change _ enterM hb0)
  apply wp_seq
  apply wp_region_lit
  refine l_seq rfl (l_box (zs := [.string (bs (q_.Old)), .string (bs (q_.New))]) hS 1000 rfl rfl rfl rfl ?_); clear hS a; intro b2 a w hb hK hS
  clear hb
  clear hK
  refine q_seq hS rfl rfl rfl (y_assign hS rfl) ?_; clear hS a; intro a hS
  apply wpList_nil
  refine p_norm ?_
  apply wp_seq
  apply wp_region_lit
  refine q_seq hS rfl rfl rfl (y_boxField (o' := 0) hS rfl Try.underlying42 rfl rfl rfl) ?_; clear hS a; intro a hS
  refine q_seq hS rfl rfl rfl (y_loadBox1 (kk := 1000) hS rfl rfl rfl Try.underlying9 rfl) ?_; clear hS a; intro a hS
  refine q_seq hS rfl rfl rfl (y_boxField (o' := 0) hS rfl Try.underlying42 rfl rfl rfl) ?_; clear hS a; intro a hS
  refine q_seq hS rfl rfl rfl (y_loadF1 hS rfl (hS.fact (k := 101) rfl) rfl Try.underlying9 rfl) ?_; clear hS a; intro a hS
  refine q_seq hS rfl rfl rfl (y_seq hS rfl rfl) ?_; clear hS a; intro a hS
  refine q_seq hS rfl rfl rfl (y_assign hS rfl) ?_; clear hS a; intro a hS
  apply wpList_nil
  refine p_norm ?_
  apply wp_ret
  obtain rfl := Option.some.inj hg
  refine fin1 (fn := Try.f24) hS rfl (r_tmp hS rfl) ?_
  exact rfl
set_option maxHeartbeats 400000 in
theorem c_affix_Check (n : Nat) (M : Bs) (w0 : World) (hM : ∀ b, M b → b < w0.heap.size) (t_ : Affix) (Ap02 : Option Addr) (cp02 : Nat) (hp02 : SlR RChange M w0 Ap02 (t_.Pairs).length cp02 (t_.Pairs)) (r : Int) (hg : affix_Check n t_ = some r) :
    Calls Try.prog 11 [.agg #[.int .i64 (t_.Kind), .slice (Ap02) ((t_.Pairs).length) (cp02)]].toArray w0 (Ret noB w0 fun v w => v = .int .i64 (r)) := by
  unfold affix_Check at hg
  refine enter M noB Try.func11 rfl rfl hM ?_
  intro a hS
  replace hS := hS.add 101 (slF RChange (Ap02) ((t_.Pairs).length) (cp02) (t_.Pairs)) (by exact Fact.change _ enterM hp02)
  apply wp_seq
  apply wp_region_lit
  refine l_seq rfl (l_box (zs := [.int .i64 (t_.Kind), .slice (Ap02) ((t_.Pairs).length) (cp02)]) hS 1000 rfl rfl rfl rfl ?_); clear hS a; intro b2 a w hb hK hS
  clear hb
  clear hK
  refine q_seq hS rfl rfl rfl (y_assign hS rfl) ?_; clear hS a; intro a hS
  apply wpList_nil
  refine p_norm ?_
  apply wp_seq
  apply wp_block
  apply wp_seq
  replace hg := jn_some hg; obtain ⟨k3, hg, hk3⟩ := hg
  refine c_post (fun a w => ∃ (t_4 : Bool), k3 t_4 = some r ∧ St (⟨Try.f11.ntmps, M, noB, w0⟩ : Ctx) [(1, .pointer (some ⟨b2, 0, none⟩)), (5, .bool (t_4))] [(1000, Ob.box b2 [.int .i64 (t_.Kind), .slice (Ap02) ((t_.Pairs).length) (cp02)] 24)] [(101, slF RChange (Ap02) ((t_.Pairs).length) (cp02) (t_.Pairs))] a w) ?_ ?_
  · rcases Decidable.em (t_.Kind ≠ 0) with hs5 | hs5
    · have hs5e : decide (t_.Kind ≠ 0) = true := decide_eq_true hs5
      replace hg := br_t hg hs5
      rcases Decidable.em (t_.Kind ≠ 1) with hs6 | hs6
      · have hs6e : decide (t_.Kind ≠ 1) = true := decide_eq_true hs6
        replace hg := br_t hg hs6
        apply wp_region_lit
        refine q_seq hS rfl rfl rfl (y_boxField (o' := 0) hS rfl Try.underlying24 rfl rfl rfl) ?_; clear hS a; intro a hS
        refine q_seq hS rfl rfl rfl (y_loadBox1 (kk := 1000) hS rfl rfl rfl Try.underlying3 rfl) ?_; clear hS a; intro a hS
        refine q_seq hS rfl rfl rfl (yl_b (y_neq hS rfl rfl) hs5e) ?_; clear hS a; intro a hS
        refine q_seq hS rfl rfl rfl (y_move hS rfl) ?_; clear hS a; intro a hS
        refine g_yes hS rfl rfl rfl rfl (l_quiet hS rfl rfl (y_boxField (o' := 0) hS rfl Try.underlying24 rfl rfl rfl) ?_); clear hS a; intro a hS
        refine g_yes hS rfl rfl rfl rfl (l_quiet hS rfl rfl (y_loadBox1 (kk := 1000) hS rfl rfl rfl Try.underlying3 rfl) ?_); clear hS a; intro a hS
        refine g_yes hS rfl rfl rfl rfl (l_quiet hS rfl rfl (yl_b (y_neq hS rfl rfl) hs6e) ?_); clear hS a; intro a hS
        refine q_seq hS rfl rfl rfl (y_pick_t hS rfl rfl) ?_; clear hS a; intro a hS
        refine q_seq hS rfl rfl rfl (y_move hS rfl) ?_; clear hS a; intro a hS
        refine g_yes hS rfl rfl rfl rfl (l_quiet hS rfl rfl (y_boxField (o' := 0) hS rfl Try.underlying24 rfl rfl rfl) ?_); clear hS a; intro a hS
        refine g_yes hS rfl rfl rfl rfl (l_quiet hS rfl rfl (y_loadBox1 (kk := 1000) hS rfl rfl rfl Try.underlying3 rfl) ?_); clear hS a; intro a hS
        refine g_yes hS rfl rfl rfl rfl (l_quiet hS rfl rfl (y_neq hS rfl rfl) ?_); clear hS a; intro a hS
        refine q_seq hS rfl rfl rfl (y_pick_t hS rfl rfl) ?_; clear hS a; intro a hS
        refine q_seq hS rfl rfl rfl (y_assign hS rfl) ?_; clear hS a; intro a hS
        apply wpList_nil
        refine p_norm ?_
        exact ⟨(decide (t_.Kind ≠ 2)), hg, (hS.sub ⟨rfl, rfl, trivial⟩ ⟨rfl, trivial⟩ ⟨rfl, trivial⟩)⟩
      · have hs6e : decide (t_.Kind ≠ 1) = false := decide_eq_false hs6
        replace hg := br_f hg hs6
        apply wp_region_lit
        refine q_seq hS rfl rfl rfl (y_boxField (o' := 0) hS rfl Try.underlying24 rfl rfl rfl) ?_; clear hS a; intro a hS
        refine q_seq hS rfl rfl rfl (y_loadBox1 (kk := 1000) hS rfl rfl rfl Try.underlying3 rfl) ?_; clear hS a; intro a hS
        refine q_seq hS rfl rfl rfl (yl_b (y_neq hS rfl rfl) hs5e) ?_; clear hS a; intro a hS
        refine q_seq hS rfl rfl rfl (y_move hS rfl) ?_; clear hS a; intro a hS
        refine g_yes hS rfl rfl rfl rfl (l_quiet hS rfl rfl (y_boxField (o' := 0) hS rfl Try.underlying24 rfl rfl rfl) ?_); clear hS a; intro a hS
        refine g_yes hS rfl rfl rfl rfl (l_quiet hS rfl rfl (y_loadBox1 (kk := 1000) hS rfl rfl rfl Try.underlying3 rfl) ?_); clear hS a; intro a hS
        refine g_yes hS rfl rfl rfl rfl (l_quiet hS rfl rfl (yl_b (y_neq hS rfl rfl) hs6e) ?_); clear hS a; intro a hS
        refine q_seq hS rfl rfl rfl (y_pick_t hS rfl rfl) ?_; clear hS a; intro a hS
        refine q_seq hS rfl rfl rfl (y_move hS rfl) ?_; clear hS a; intro a hS
        refine g_no hS rfl rfl rfl rfl rfl rfl rfl ?_; clear hS a; intro a hS
        refine g_no hS rfl rfl rfl rfl rfl rfl rfl ?_; clear hS a; intro a hS
        refine g_no hS rfl rfl rfl rfl rfl rfl rfl ?_; clear hS a; intro a hS
        refine q_seq hS rfl rfl rfl (y_pick_f hS rfl rfl) ?_; clear hS a; intro a hS
        refine q_seq hS rfl rfl rfl (y_assign hS rfl) ?_; clear hS a; intro a hS
        apply wpList_nil
        refine p_norm ?_
        exact ⟨(false), hg, (hS.sub ⟨rfl, rfl, trivial⟩ ⟨rfl, trivial⟩ ⟨rfl, trivial⟩)⟩
    · have hs5e : decide (t_.Kind ≠ 0) = false := decide_eq_false hs5
      replace hg := br_f hg hs5
      apply wp_region_lit
      refine q_seq hS rfl rfl rfl (y_boxField (o' := 0) hS rfl Try.underlying24 rfl rfl rfl) ?_; clear hS a; intro a hS
      refine q_seq hS rfl rfl rfl (y_loadBox1 (kk := 1000) hS rfl rfl rfl Try.underlying3 rfl) ?_; clear hS a; intro a hS
      refine q_seq hS rfl rfl rfl (yl_b (y_neq hS rfl rfl) hs5e) ?_; clear hS a; intro a hS
      refine q_seq hS rfl rfl rfl (y_move hS rfl) ?_; clear hS a; intro a hS
      refine g_no hS rfl rfl rfl rfl rfl rfl rfl ?_; clear hS a; intro a hS
      refine g_no hS rfl rfl rfl rfl rfl rfl rfl ?_; clear hS a; intro a hS
      refine g_no hS rfl rfl rfl rfl rfl rfl rfl ?_; clear hS a; intro a hS
      refine q_seq hS rfl rfl rfl (y_pick_f hS rfl rfl) ?_; clear hS a; intro a hS
      refine q_seq hS rfl rfl rfl (y_move hS rfl) ?_; clear hS a; intro a hS
      refine g_no hS rfl rfl rfl rfl rfl rfl rfl ?_; clear hS a; intro a hS
      refine g_no hS rfl rfl rfl rfl rfl rfl rfl ?_; clear hS a; intro a hS
      refine g_no hS rfl rfl rfl rfl rfl rfl rfl ?_; clear hS a; intro a hS
      refine q_seq hS rfl rfl rfl (y_pick_f hS rfl rfl) ?_; clear hS a; intro a hS
      refine q_seq hS rfl rfl rfl (y_assign hS rfl) ?_; clear hS a; intro a hS
      apply wpList_nil
      refine p_norm ?_
      exact ⟨(false), hg, (hS.sub ⟨rfl, rfl, trivial⟩ ⟨rfl, trivial⟩ ⟨rfl, trivial⟩)⟩
  clear hS a; rintro a w ⟨t_4, hg, hS⟩
  subst hk3
  refine c_cond hS rfl (fun hc7 => ?_) (fun hc7 => ?_)
  · replace hg := br_t hg hc7
    apply wp_seq
    apply wp_region_lit
    refine q_seq hS rfl rfl rfl (y_assign hS rfl) ?_; clear hS a; intro a hS
    apply wpList_nil
    refine p_norm ?_
    apply wp_ret
    refine p_inR ?_
    refine p_thenR ?_
    obtain rfl := Option.some.inj hg
    refine fin1 (fn := Try.f11) hS rfl (r_tmp hS rfl) ?_
    exact rfl
  · replace hg := br_f hg (by rw [hc7]; exact Bool.false_ne_true)
    apply wp_seq
    apply wp_region_lit
    refine q_seq hS rfl rfl rfl (y_boxField (o' := 0) hS rfl Try.underlying24 rfl rfl rfl) ?_; clear hS a; intro a hS
    refine q_seq hS rfl rfl rfl (y_loadBox1 (kk := 1000) hS rfl rfl rfl Try.underlying3 rfl) ?_; clear hS a; intro a hS
    refine q_seq hS rfl rfl rfl (y_eql hS rfl rfl) ?_; clear hS a; intro a hS
    refine q_seq hS rfl rfl rfl (y_boxField (o' := 1) hS rfl Try.underlying24 rfl rfl rfl) ?_; clear hS a; intro a hS
    refine q_seq hS rfl rfl rfl (y_loadBox1 (kk := 1000) hS rfl rfl rfl Try.underlying22 rfl) ?_; clear hS a; intro a hS
    refine q_seq hS rfl rfl rfl (y_lenSlice hS rfl Try.underlying22) ?_; clear hS a; intro a hS
    refine q_seq hS rfl rfl rfl (y_eqlN (i := ((t_.Pairs).length)) (j := 0) hS rfl rfl) ?_; clear hS a; intro a hS
    refine q_seq hS rfl rfl rfl (y_bne hS rfl rfl Try.underlying4) ?_; clear hS a; intro a hS
    refine q_seq hS rfl rfl rfl (y_assign hS rfl) ?_; clear hS a; intro a hS
    apply wpList_nil
    refine p_norm ?_
    refine c_cond hS rfl (fun hc8 => ?_) (fun hc8 => ?_)
    · replace hg := br_t hg hc8
      apply wp_seq
      apply wp_region_lit
      refine q_seq hS rfl rfl rfl (y_assign hS rfl) ?_; clear hS a; intro a hS
      apply wpList_nil
      refine p_norm ?_
      apply wp_ret
      refine p_inR ?_
      refine p_thenR ?_
      obtain rfl := Option.some.inj hg
      refine fin1 (fn := Try.f11) hS rfl (r_tmp hS rfl) ?_
      exact rfl
    · replace hg := br_f hg (by rw [hc8]; exact Bool.false_ne_true)
      apply wp_seq
      apply wp_region_lit
      refine q_seq hS rfl rfl rfl (y_boxField (o' := 1) hS rfl Try.underlying24 rfl rfl rfl) ?_; clear hS a; intro a hS
      refine q_seq hS rfl rfl rfl (y_loadBox1 (kk := 1000) hS rfl rfl rfl Try.underlying22 rfl) ?_; clear hS a; intro a hS
      refine q_seq hS rfl rfl rfl (y_lenSlice hS rfl Try.underlying22) ?_; clear hS a; intro a hS
      refine q_seq hS rfl rfl rfl (y_gtrN (i := ((t_.Pairs).length)) (j := 16) hS rfl rfl) ?_; clear hS a; intro a hS
      refine q_seq hS rfl rfl rfl (y_assign hS rfl) ?_; clear hS a; intro a hS
      apply wpList_nil
      refine p_norm ?_
      refine c_dec hS rfl (fun hc9 => ?_) (fun hc9 => ?_)
      · replace hg := br_t hg hc9
        have hmx10 := SlR.mx (hS.fact (k := 101) rfl)
        apply wp_seq
        apply wp_region_lit
        refine q_seq hS rfl rfl rfl (y_assign hS rfl) ?_; clear hS a; intro a hS
        apply wpList_nil
        refine p_norm ?_
        apply wp_ret
        refine p_inR ?_
        refine p_thenR ?_
        obtain rfl := Option.some.inj hg
        refine fin1 (fn := Try.f11) hS rfl (r_tmp hS rfl) ?_
        exact rfl
      · replace hg := br_f hg hc9
        apply wp_skip
        refine p_inN ?_
        refine p_norm ?_
        apply wp_seq
        apply wp_seq
        apply wp_region_lit
        refine q_seq hS rfl rfl rfl (y_boxField (o' := 1) hS rfl Try.underlying24 rfl rfl rfl) ?_; clear hS a; intro a hS
        refine q_seq hS rfl rfl rfl (y_loadBox1 (kk := 1000) hS rfl rfl rfl Try.underlying22 rfl) ?_; clear hS a; intro a hS
        refine q_seq hS rfl rfl rfl (y_lenSlice hS rfl Try.underlying22) ?_; clear hS a; intro a hS
        refine q_seq hS rfl rfl rfl (y_move hS rfl) ?_; clear hS a; intro a hS
        apply wpList_nil
        refine p_norm ?_
        apply wp_block
        refine c_loop (σ := Nat) (fun m1 a w => ∃ (t_11 : Nat), affix_Check_L0 n t_ m1 t_11 = some r ∧ St (⟨Try.f11.ntmps, M, noB, w0⟩ : Ctx) [(1, .pointer (some ⟨b2, 0, none⟩)), (34, .slice (Ap02) ((t_.Pairs).length) (cp02)), (35, .int .i64 ((((t_.Pairs).length : Nat) : Int))), (36, .int .i64 (((t_11 : Nat) : Int)))] [(1000, Ob.box b2 [.int .i64 (t_.Kind), .slice (Ap02) ((t_.Pairs).length) (cp02)] 24)] [(101, slF RChange (Ap02) ((t_.Pairs).length) (cp02) (t_.Pairs))] a w) (fun m1 => m1) n ⟨(0), hg, (hS.sub ⟨rfl, rfl, rfl, rfl, trivial⟩ ⟨rfl, trivial⟩ ⟨rfl, trivial⟩)⟩ ?_
        clear hS a; rintro m1 a w ⟨t_11, hg, hS⟩
        rcases m1 with _ | m1
        · rw [affix_Check_L0] at hg; cases hg
        rw [affix_Check_L0] at hg
        apply wp_seq
        apply wp_region_lit
        refine q_seq hS rfl rfl rfl (y_lssN (i := t_11) (j := ((t_.Pairs).length)) hS rfl rfl) ?_; clear hS a; intro a hS
        apply wpList_nil
        refine p_norm ?_
        apply wp_seq
        refine c_dec hS rfl (fun hc12 => ?_) (fun hc12 => ?_)
        · replace hg := br_t hg hc12
          have hmx13 := SlR.mx (hS.fact (k := 101) rfl)
          apply wp_skip
          refine p_norm ?_
          apply wp_seq
          apply wp_block
          apply wp_seq
          replace hg := bind_some hg; obtain ⟨x15, hx15, hg⟩ := hg
          apply wp_region_lit
          refine q_seq hS rfl rfl rfl (y_move hS rfl) ?_; clear hS a; intro a hS
          obtain ⟨p18, hep18, hpp18⟩ := SlR.elemX (hS.fact (k := 101) rfl) hx15
          refine q_seq hS rfl rfl rfl (y_elem (sz := 2) (i := t_11) hS rfl rfl Try.underlying22 rfl hep18 rfl (lt_of_get hx15)) ?_; clear hS a; intro a hS
          obtain ⟨hlq19, hmq19, csq19, hdq19, hcq19⟩ := hpp18
          obtain ⟨rfl, lq191, lq192⟩ := RChange.open hdq19
          refine q_seq hS rfl rfl rfl (y_ldp hS rfl hlq19 hmq19 (by simpa using hcq19) Try.underlying42 rfl rfl) ?_; clear hS a; intro a hS
          refine l_seq rfl (l_alloc (zs := [.string (bs ([])), .string (bs ([]))]) hS 1903 rfl rfl rfl rfl ?_); clear hS a; intro b20 a w hb hK hS
          clear hb
          clear hK
          refine q_seq hS rfl rfl rfl (y_assign hS rfl) ?_; clear hS a; intro a hS
          refine l_seq rfl (l_store (n := 2) (cs' := [.string (bs (x15.Old)), .string (bs (x15.New))]) hS 1903 rfl rfl rfl rfl rfl rfl rfl rfl ?_); clear hS; intro w hK hS; clear hK
          apply wpList_nil
          refine p_norm ?_
          apply wp_seq
          apply wp_seq
          replace hg := jn_some hg; obtain ⟨k21, hg, hk21⟩ := hg
          refine c_post (fun a w => ∃ (t_22 : Bool), k21 t_22 = some r ∧ St (⟨Try.f11.ntmps, M, noB, w0⟩ : Ctx) [(1, .pointer (some ⟨b2, 0, none⟩)), (3, .int .i64 (((t_11 : Nat) : Int))), (4, .pointer (some ⟨b20, 0, none⟩)), (34, .slice (Ap02) ((t_.Pairs).length) (cp02)), (35, .int .i64 ((((t_.Pairs).length : Nat) : Int))), (36, .int .i64 (((t_11 : Nat) : Int))), (50, .bool (t_22))] [(1000, Ob.box b2 [.int .i64 (t_.Kind), .slice (Ap02) ((t_.Pairs).length) (cp02)] 24), (1903, Ob.box b20 [.string (bs (x15.Old)), .string (bs (x15.New))] 42)] [(101, slF RChange (Ap02) ((t_.Pairs).length) (cp02) (t_.Pairs))] a w) ?_ ?_
          · replace hg := bind_some hg; obtain ⟨r23, hr23, hg⟩ := hg
            rcases Bool.eq_false_or_eq_true (!(r23)) with hs26 | hs26
            · replace hg := br_t hg hs26
              apply wp_region_lit
              refine q_seq hS rfl rfl rfl (y_boxField (o' := 0) hS rfl Try.underlying42 rfl rfl rfl) ?_; clear hS a; intro a hS
              refine q_seq hS rfl rfl rfl (y_loadBox1 (kk := 1903) hS rfl rfl rfl Try.underlying9 rfl) ?_; clear hS a; intro a hS
              refine l_seq rfl (l_call (cap := []) hS rfl Try.func22 rfl (by kernel_rfl) rfl rfl (c_affix_bytes n _ _ hS.lt x15.Old (by first | omega | (rw [List.length_append]; omega) | (simp only [List.length_append]; omega) | (simp only [List.length_append, List.length_take, List.length_drop, List.length_cons, List.length_nil]; omega)) r23 hr23) ?_); clear hS a; intro v27 a w hK hp hS
              clear hK
              obtain rfl := hp
              refine q_seq hS rfl rfl rfl (yl_b (y_not hS rfl) hs26) ?_; clear hS a; intro a hS
              refine q_seq hS rfl rfl rfl (y_move hS rfl) ?_; clear hS a; intro a hS
              refine g_no hS rfl rfl rfl rfl rfl rfl rfl ?_; clear hS a; intro a hS
              refine g_no hS rfl rfl rfl rfl rfl rfl rfl ?_; clear hS a; intro a hS
              refine g_no hS rfl rfl rfl rfl rfl rfl rfl ?_; clear hS a; intro a hS
              refine g_no hS rfl rfl rfl rfl rfl rfl rfl ?_; clear hS a; intro a hS
              refine q_seq hS rfl rfl rfl (y_pick_t hS rfl rfl) ?_; clear hS a; intro a hS
              apply wpList_nil
              refine p_norm ?_
              exact ⟨(true), hg, (hS.sub ⟨rfl, rfl, rfl, rfl, rfl, rfl, rfl, trivial⟩ ⟨rfl, rfl, trivial⟩ ⟨rfl, trivial⟩)⟩
            · replace hg := br_f hg (by rw [hs26]; exact Bool.false_ne_true)
              replace hg := bind_some hg; obtain ⟨r29, hr29, hg⟩ := hg
              apply wp_region_lit
              refine q_seq hS rfl rfl rfl (y_boxField (o' := 0) hS rfl Try.underlying42 rfl rfl rfl) ?_; clear hS a; intro a hS
              refine q_seq hS rfl rfl rfl (y_loadBox1 (kk := 1903) hS rfl rfl rfl Try.underlying9 rfl) ?_; clear hS a; intro a hS
              refine l_seq rfl (l_call (cap := []) hS rfl Try.func22 rfl (by kernel_rfl) rfl rfl (c_affix_bytes n _ _ hS.lt x15.Old (by first | omega | (rw [List.length_append]; omega) | (simp only [List.length_append]; omega) | (simp only [List.length_append, List.length_take, List.length_drop, List.length_cons, List.length_nil]; omega)) r23 hr23) ?_); clear hS a; intro v32 a w hK hp hS
              clear hK
              obtain rfl := hp
              refine q_seq hS rfl rfl rfl (yl_b (y_not hS rfl) hs26) ?_; clear hS a; intro a hS
              refine q_seq hS rfl rfl rfl (y_move hS rfl) ?_; clear hS a; intro a hS
              refine g_yes hS rfl rfl rfl rfl (l_quiet hS rfl rfl (y_boxField (o' := 1) hS rfl Try.underlying42 rfl rfl rfl) ?_); clear hS a; intro a hS
              refine g_yes hS rfl rfl rfl rfl (l_quiet hS rfl rfl (y_loadBox1 (kk := 1903) hS rfl rfl rfl Try.underlying9 rfl) ?_); clear hS a; intro a hS
              refine g_yes hS rfl rfl rfl rfl (l_call (cap := []) hS rfl Try.func22 rfl (by kernel_rfl) rfl rfl (c_affix_bytes n _ _ hS.lt x15.New (by first | omega | (rw [List.length_append]; omega) | (simp only [List.length_append]; omega) | (simp only [List.length_append, List.length_take, List.length_drop, List.length_cons, List.length_nil]; omega)) r29 hr29) ?_); clear hS a; intro v34 a w hK hp hS
              clear hK
              obtain rfl := hp
              refine g_yes hS rfl rfl rfl rfl (l_quiet hS rfl rfl (y_not hS rfl) ?_); clear hS a; intro a hS
              refine q_seq hS rfl rfl rfl (y_pick_f hS rfl rfl) ?_; clear hS a; intro a hS
              apply wpList_nil
              refine p_norm ?_
              exact ⟨(!(r29)), hg, (hS.sub ⟨rfl, rfl, rfl, rfl, rfl, rfl, rfl, trivial⟩ ⟨rfl, rfl, trivial⟩ ⟨rfl, trivial⟩)⟩
          clear hS a; rintro a w ⟨t_22, hg, hS⟩
          subst hk21
          refine c_cond hS rfl (fun hc36 => ?_) (fun hc36 => ?_)
          · replace hg := br_t hg hc36
            apply wp_seq
            apply wp_region_lit
            refine q_seq hS rfl rfl rfl (y_assign hS rfl) ?_; clear hS a; intro a hS
            apply wpList_nil
            refine p_norm ?_
            apply wp_ret
            refine p_thenR ?_
            refine p_inR ?_
            refine p_thenR ?_
            refine p_thenR ?_
            refine p_inR ?_
            refine p_thenR ?_
            obtain rfl := Option.some.inj hg
            refine fin1 (fn := Try.f11) hS rfl (r_tmp hS rfl) ?_
            exact rfl
          · replace hg := br_f hg (by rw [hc36]; exact Bool.false_ne_true)
            apply wp_skip
            refine p_norm ?_
            apply wp_seq
            apply wp_seq
            replace hg := jn_some hg; obtain ⟨k37, hg, hk37⟩ := hg
            refine c_post (fun a w => ∃ (t_38 : Bool), k37 t_38 = some r ∧ St (⟨Try.f11.ntmps, M, noB, w0⟩ : Ctx) [(1, .pointer (some ⟨b2, 0, none⟩)), (3, .int .i64 (((t_11 : Nat) : Int))), (4, .pointer (some ⟨b20, 0, none⟩)), (34, .slice (Ap02) ((t_.Pairs).length) (cp02)), (35, .int .i64 ((((t_.Pairs).length : Nat) : Int))), (36, .int .i64 (((t_11 : Nat) : Int))), (60, .bool (t_38))] [(1000, Ob.box b2 [.int .i64 (t_.Kind), .slice (Ap02) ((t_.Pairs).length) (cp02)] 24), (1903, Ob.box b20 [.string (bs (x15.Old)), .string (bs (x15.New))] 42)] [(101, slF RChange (Ap02) ((t_.Pairs).length) (cp02) (t_.Pairs))] a w) ?_ ?_
            · rcases Decidable.em ((32 : Nat) < ((x15.Old).length)) with hs39 | hs39
              · have hs39e : decide ((32 : Nat) < ((x15.Old).length)) = true := decide_eq_true hs39
                replace hg := br_t hg hs39
                apply wp_region_lit
                refine q_seq hS rfl rfl rfl (y_boxField (o' := 0) hS rfl Try.underlying42 rfl rfl rfl) ?_; clear hS a; intro a hS
                refine q_seq hS rfl rfl rfl (y_loadBox1 (kk := 1903) hS rfl rfl rfl Try.underlying9 rfl) ?_; clear hS a; intro a hS
                refine q_seq hS rfl rfl rfl (y_lenStrN hS rfl Try.underlying9) ?_; clear hS a; intro a hS
                refine q_seq hS rfl rfl rfl (yl_b (y_gtrN (i := ((x15.Old).length)) (j := 32) hS rfl rfl) hs39e) ?_; clear hS a; intro a hS
                refine q_seq hS rfl rfl rfl (y_move hS rfl) ?_; clear hS a; intro a hS
                refine g_no hS rfl rfl rfl rfl rfl rfl rfl ?_; clear hS a; intro a hS
                refine g_no hS rfl rfl rfl rfl rfl rfl rfl ?_; clear hS a; intro a hS
                refine g_no hS rfl rfl rfl rfl rfl rfl rfl ?_; clear hS a; intro a hS
                refine g_no hS rfl rfl rfl rfl rfl rfl rfl ?_; clear hS a; intro a hS
                refine q_seq hS rfl rfl rfl (y_pick_t hS rfl rfl) ?_; clear hS a; intro a hS
                apply wpList_nil
                refine p_norm ?_
                exact ⟨(true), hg, (hS.sub ⟨rfl, rfl, rfl, rfl, rfl, rfl, rfl, trivial⟩ ⟨rfl, rfl, trivial⟩ ⟨rfl, trivial⟩)⟩
              · have hs39e : decide ((32 : Nat) < ((x15.Old).length)) = false := decide_eq_false hs39
                replace hg := br_f hg hs39
                apply wp_region_lit
                refine q_seq hS rfl rfl rfl (y_boxField (o' := 0) hS rfl Try.underlying42 rfl rfl rfl) ?_; clear hS a; intro a hS
                refine q_seq hS rfl rfl rfl (y_loadBox1 (kk := 1903) hS rfl rfl rfl Try.underlying9 rfl) ?_; clear hS a; intro a hS
                refine q_seq hS rfl rfl rfl (y_lenStrN hS rfl Try.underlying9) ?_; clear hS a; intro a hS
                refine q_seq hS rfl rfl rfl (yl_b (y_gtrN (i := ((x15.Old).length)) (j := 32) hS rfl rfl) hs39e) ?_; clear hS a; intro a hS
                refine q_seq hS rfl rfl rfl (y_move hS rfl) ?_; clear hS a; intro a hS
                refine g_yes hS rfl rfl rfl rfl (l_quiet hS rfl rfl (y_boxField (o' := 1) hS rfl Try.underlying42 rfl rfl rfl) ?_); clear hS a; intro a hS
                refine g_yes hS rfl rfl rfl rfl (l_quiet hS rfl rfl (y_loadBox1 (kk := 1903) hS rfl rfl rfl Try.underlying9 rfl) ?_); clear hS a; intro a hS
                refine g_yes hS rfl rfl rfl rfl (l_quiet hS rfl rfl (y_lenStrN hS rfl Try.underlying9) ?_); clear hS a; intro a hS
                refine g_yes hS rfl rfl rfl rfl (l_quiet hS rfl rfl (y_gtrN (i := ((x15.New).length)) (j := 32) hS rfl rfl) ?_); clear hS a; intro a hS
                refine q_seq hS rfl rfl rfl (y_pick_f hS rfl rfl) ?_; clear hS a; intro a hS
                apply wpList_nil
                refine p_norm ?_
                exact ⟨(decide ((32 : Nat) < ((x15.New).length))), hg, (hS.sub ⟨rfl, rfl, rfl, rfl, rfl, rfl, rfl, trivial⟩ ⟨rfl, rfl, trivial⟩ ⟨rfl, trivial⟩)⟩
            clear hS a; rintro a w ⟨t_38, hg, hS⟩
            subst hk37
            refine c_cond hS rfl (fun hc40 => ?_) (fun hc40 => ?_)
            · replace hg := br_t hg hc40
              apply wp_seq
              apply wp_region_lit
              refine q_seq hS rfl rfl rfl (y_assign hS rfl) ?_; clear hS a; intro a hS
              apply wpList_nil
              refine p_norm ?_
              apply wp_ret
              refine p_thenR ?_
              refine p_inR ?_
              refine p_thenR ?_
              refine p_thenR ?_
              refine p_inR ?_
              refine p_thenR ?_
              obtain rfl := Option.some.inj hg
              refine fin1 (fn := Try.f11) hS rfl (r_tmp hS rfl) ?_
              exact rfl
            · replace hg := br_f hg (by rw [hc40]; exact Bool.false_ne_true)
              apply wp_skip
              refine p_norm ?_
              apply wp_seq
              replace hg := chk_some hg; obtain ⟨hk41, hg⟩ := hg
              replace hg := bind_some hg; obtain ⟨r42, hr42, hg⟩ := hg
              apply wp_region_lit
              refine q_seq hS rfl rfl rfl (y_boxField (o' := 1) hS rfl Try.underlying24 rfl rfl rfl) ?_; clear hS a; intro a hS
              refine q_seq hS rfl rfl rfl (y_loadBox1 (kk := 1000) hS rfl rfl rfl Try.underlying22 rfl) ?_; clear hS a; intro a hS
              refine q_seq hS rfl rfl rfl (y_move hS rfl) ?_; clear hS a; intro a hS
              have hcap104 := (hS.fact (k := 101) rfl).cap
              refine q_seq hS rfl rfl rfl (y_cutH (xs := t_.Pairs) (sz := 2) (i := t_11) hS rfl rfl Try.underlying22 rfl rfl hk41 hcap104) ?_; clear hS a; intro a hS
              replace hS := hS.add 104 (slF RChange (Ap02) (((t_.Pairs).take t_11).length) (cp02) ((t_.Pairs).take t_11)) (SlR.cutH (hS.fact (k := 101) rfl) t_11 hk41)
              replace hS := hS.freezeBox (L' := [(1000, Ob.box b2 [.int .i64 (t_.Kind), .slice (Ap02) ((t_.Pairs).length) (cp02)] 24)]) 105 1903 rfl ⟨rfl, trivial⟩ rfl
              refine q_seq hS rfl rfl rfl (y_makeFunc (xs := [.tmp 4]) (vs := [.pointer (some ⟨b20, 0, none⟩)]) hS rfl) ?_; clear hS a; intro a hS
              refine l_seq rfl (l_call (cap := []) hS rfl Try.func23 rfl (by kernel_rfl) rfl rfl (c_slices_ContainsFunc_Change n _ _ hS.lt ((t_.Pairs).take t_11) (Ap02) (cp02) (hS.fact (k := 104) rfl) (fun p => affix_Check_1 n p x15) (24) ([.pointer (some ⟨b20, 0, none⟩)]) ⟨⟨_, _, Try.func24, rfl, by kernel_rfl⟩, fun M1 w1 hk hm hlt vs x r hp hr => by obtain ⟨rfl, la1, la2⟩ := hp; exact c_affix_Check_1 n M1 w1 hlt (x) la1 la2 b20 (x15) (by first | omega | (rw [List.length_append]; omega) | (simp only [List.length_append]; omega) | (simp only [List.length_append, List.length_take, List.length_drop, List.length_cons, List.length_nil]; omega)) (by first | omega | (rw [List.length_append]; omega) | (simp only [List.length_append]; omega) | (simp only [List.length_append, List.length_take, List.length_drop, List.length_cons, List.length_nil]; omega)) (Fact.move (boxF b20 [.string (bs (x15.Old)), .string (bs (x15.New))] 42) hk hm (hS.fact (k := 105) rfl)) r hr⟩ r42 hr42) ?_); clear hS a; intro v45 a w hK hp hS
              clear hK
              obtain rfl := hp
              apply wpList_nil
              refine p_norm ?_
              refine c_cond hS rfl (fun hc47 => ?_) (fun hc47 => ?_)
              · replace hg := br_t hg hc47
                apply wp_seq
                apply wp_region_lit
                refine q_seq hS rfl rfl rfl (y_assign hS rfl) ?_; clear hS a; intro a hS
                apply wpList_nil
                refine p_norm ?_
                apply wp_ret
                refine p_inR ?_
                refine p_thenR ?_
                refine p_thenR ?_
                refine p_inR ?_
                refine p_thenR ?_
                obtain rfl := Option.some.inj hg
                refine fin1 (fn := Try.f11) hS rfl (r_tmp hS rfl) ?_
                exact rfl
              · replace hg := br_f hg (by rw [hc47]; exact Bool.false_ne_true)
                apply wp_skip
                refine p_inN ?_
                refine p_norm ?_
                apply wp_region_lit
                refine q_seq hS rfl rfl rfl (y_addN (i := t_11) (j := 1) hS rfl rfl (in64.2 (by omega))) ?_; clear hS a; intro a hS
                refine q_seq hS rfl rfl rfl (y_move hS rfl) ?_; clear hS a; intro a hS
                apply wpList_nil
                refine p_norm ?_
                exact ⟨m1, Nat.lt_succ_self _, ⟨(t_11 + 1), hg, (hS.sub ⟨rfl, rfl, rfl, rfl, trivial⟩ ⟨rfl, trivial⟩ ⟨rfl, trivial⟩)⟩⟩
        · replace hg := br_f hg hc12
          apply wp_exit
          refine p_then ?_
          refine p_then ?_
          refine p_in ?_
          refine p_norm ?_
          apply wp_seq
          apply wp_region_lit
          refine q_seq hS rfl rfl rfl (y_assign hS rfl) ?_; clear hS a; intro a hS
          apply wpList_nil
          refine p_norm ?_
          apply wp_ret
          obtain rfl := Option.some.inj hg
          refine fin1 (fn := Try.f11) hS rfl (r_tmp hS rfl) ?_
          exact rfl
set_option maxHeartbeats 400000 in
theorem c_stringslite_HasPrefix (n : Nat) (M : Bs) (w0 : World) (hM : ∀ b, M b → b < w0.heap.size) (s_ : (List UInt8)) (lp01 : (s_).length ≤ 9223372036854775807) (prefix_ : (List UInt8)) (lp11 : (prefix_).length ≤ 9223372036854775807) (r : Bool) (hg : stringslite_HasPrefix n s_ prefix_ = some r) :
    Calls Try.prog 45 [.string (bs (s_)), .string (bs (prefix_))].toArray w0 (Ret noB w0 fun v w => v = .bool (r)) := by
  unfold stringslite_HasPrefix at hg
  refine enter M noB Try.func45 rfl rfl hM ?_
  intro a hS
  apply wp_seq
  apply wp_region_lit
  refine q_seq hS rfl rfl rfl (y_assign hS rfl) ?_; clear hS a; intro a hS
  apply wpList_nil
  refine p_norm ?_
  apply wp_seq
  rcases Decidable.em (((prefix_).length) ≤ ((s_).length)) with hs1 | hs1
  · have hs1e : decide (((prefix_).length) ≤ ((s_).length)) = true := decide_eq_true hs1
    replace hg := br_t hg hs1
    replace hg := chk_some hg; obtain ⟨hk2, hg⟩ := hg
    apply wp_region_lit
    refine q_seq hS rfl rfl rfl (y_move hS rfl) ?_; clear hS a; intro a hS
    refine q_seq hS rfl rfl rfl (y_lenStrN hS rfl Try.underlying9) ?_; clear hS a; intro a hS
    refine q_seq hS rfl rfl rfl (y_move hS rfl) ?_; clear hS a; intro a hS
    refine q_seq hS rfl rfl rfl (y_lenStrN hS rfl Try.underlying9) ?_; clear hS a; intro a hS
    refine q_seq hS rfl rfl rfl (yl_b (y_geqN (i := ((s_).length)) (j := ((prefix_).length)) hS rfl rfl) hs1e) ?_; clear hS a; intro a hS
    refine q_seq hS rfl rfl rfl (y_move hS rfl) ?_; clear hS a; intro a hS
    refine g_yes hS rfl rfl rfl rfl (l_quiet hS rfl rfl (y_move hS rfl) ?_); clear hS a; intro a hS
    refine g_yes hS rfl rfl rfl rfl (l_quiet hS rfl rfl (y_move hS rfl) ?_); clear hS a; intro a hS
    refine g_yes hS rfl rfl rfl rfl (l_quiet hS rfl rfl (y_lenStrN hS rfl Try.underlying9) ?_); clear hS a; intro a hS
    refine g_yes hS rfl rfl rfl rfl (l_quiet hS rfl rfl (y_strH (i := ((prefix_).length)) hS rfl rfl Try.underlying9 rfl hk2) ?_); clear hS a; intro a hS
    refine g_yes hS rfl rfl rfl rfl (l_quiet hS rfl rfl (y_move hS rfl) ?_); clear hS a; intro a hS
    refine g_yes hS rfl rfl rfl rfl (l_quiet hS rfl rfl (y_seq hS rfl rfl) ?_); clear hS a; intro a hS
    refine q_seq hS rfl rfl rfl (y_pick_t hS rfl rfl) ?_; clear hS a; intro a hS
    refine q_seq hS rfl rfl rfl (y_assign hS rfl) ?_; clear hS a; intro a hS
    apply wpList_nil
    refine p_norm ?_
    apply wp_ret
    obtain rfl := Option.some.inj hg
    refine fin1 (fn := Try.f45) hS rfl (r_tmp hS rfl) ?_
    exact rfl
  · have hs1e : decide (((prefix_).length) ≤ ((s_).length)) = false := decide_eq_false hs1
    replace hg := br_f hg hs1
    apply wp_region_lit
    refine q_seq hS rfl rfl rfl (y_move hS rfl) ?_; clear hS a; intro a hS
    refine q_seq hS rfl rfl rfl (y_lenStrN hS rfl Try.underlying9) ?_; clear hS a; intro a hS
    refine q_seq hS rfl rfl rfl (y_move hS rfl) ?_; clear hS a; intro a hS
    refine q_seq hS rfl rfl rfl (y_lenStrN hS rfl Try.underlying9) ?_; clear hS a; intro a hS
    refine q_seq hS rfl rfl rfl (yl_b (y_geqN (i := ((s_).length)) (j := ((prefix_).length)) hS rfl rfl) hs1e) ?_; clear hS a; intro a hS
    refine q_seq hS rfl rfl rfl (y_move hS rfl) ?_; clear hS a; intro a hS
    refine g_no hS rfl rfl rfl rfl rfl rfl rfl ?_; clear hS a; intro a hS
    refine g_no hS rfl rfl rfl rfl rfl rfl rfl ?_; clear hS a; intro a hS
    refine g_no hS rfl rfl rfl rfl rfl rfl rfl ?_; clear hS a; intro a hS
    refine g_no hS rfl rfl rfl rfl rfl rfl rfl ?_; clear hS a; intro a hS
    refine g_no hS rfl rfl rfl rfl rfl rfl rfl ?_; clear hS a; intro a hS
    refine g_no hS rfl rfl rfl rfl rfl rfl rfl ?_; clear hS a; intro a hS
    refine q_seq hS rfl rfl rfl (y_pick_f hS rfl rfl) ?_; clear hS a; intro a hS
    refine q_seq hS rfl rfl rfl (y_assign hS rfl) ?_; clear hS a; intro a hS
    apply wpList_nil
    refine p_norm ?_
    apply wp_ret
    obtain rfl := Option.some.inj hg
    refine fin1 (fn := Try.f45) hS rfl (r_tmp hS rfl) ?_
    exact rfl
set_option maxHeartbeats 400000 in
theorem c_strings_HasPrefix (n : Nat) (M : Bs) (w0 : World) (hM : ∀ b, M b → b < w0.heap.size) (s_ : (List UInt8)) (lp01 : (s_).length ≤ 9223372036854775807) (prefix_ : (List UInt8)) (lp11 : (prefix_).length ≤ 9223372036854775807) (r : Bool) (hg : strings_HasPrefix n s_ prefix_ = some r) :
    Calls Try.prog 36 [.string (bs (s_)), .string (bs (prefix_))].toArray w0 (Ret noB w0 fun v w => v = .bool (r)) := by
  unfold strings_HasPrefix at hg
  refine enter M noB Try.func36 rfl rfl hM ?_
  intro a hS
  apply wp_seq
  apply wp_region_lit
  refine q_seq hS rfl rfl rfl (y_assign hS rfl) ?_; clear hS a; intro a hS
  apply wpList_nil
  refine p_norm ?_
  apply wp_seq
  replace hg := bind_some hg; obtain ⟨r1, hr1, hg⟩ := hg
  apply wp_region_lit
  refine q_seq hS rfl rfl rfl (y_move hS rfl) ?_; clear hS a; intro a hS
  refine q_seq hS rfl rfl rfl (y_move hS rfl) ?_; clear hS a; intro a hS
  refine l_seq rfl (l_call (cap := []) hS rfl Try.func45 rfl (by kernel_rfl) rfl rfl (c_stringslite_HasPrefix n _ _ hS.lt s_ (by first | omega | (rw [List.length_append]; omega) | (simp only [List.length_append]; omega) | (simp only [List.length_append, List.length_take, List.length_drop, List.length_cons, List.length_nil]; omega)) prefix_ (by first | omega | (rw [List.length_append]; omega) | (simp only [List.length_append]; omega) | (simp only [List.length_append, List.length_take, List.length_drop, List.length_cons, List.length_nil]; omega)) r1 hr1) ?_); clear hS a; intro v4 a w hK hp hS
  clear hK
  obtain rfl := hp
  refine q_seq hS rfl rfl rfl (y_assign hS rfl) ?_; clear hS a; intro a hS
  apply wpList_nil
  refine p_norm ?_
  apply wp_ret
  obtain rfl := Option.some.inj hg
  refine fin1 (fn := Try.f36) hS rfl (r_tmp hS rfl) ?_
  exact rfl
set_option maxHeartbeats 400000 in
theorem c_stringslite_TrimPrefix (n : Nat) (M : Bs) (w0 : World) (hM : ∀ b, M b → b < w0.heap.size) (s_ : (List UInt8)) (lp01 : (s_).length ≤ 9223372036854775807) (prefix_ : (List UInt8)) (lp11 : (prefix_).length ≤ 9223372036854775807) (r : (List UInt8)) (hg : stringslite_TrimPrefix n s_ prefix_ = some r) :
    Calls Try.prog 46 [.string (bs (s_)), .string (bs (prefix_))].toArray w0 (Ret noB w0 fun v w => v = .string (bs (r)) ∧ ((r).length ≤ 9223372036854775807)) := by
  unfold stringslite_TrimPrefix at hg
  refine enter M noB Try.func46 rfl rfl hM ?_
  intro a hS
  apply wp_seq
  apply wp_region_lit
  refine q_seq hS rfl rfl rfl (y_assign hS rfl) ?_; clear hS a; intro a hS
  apply wpList_nil
  refine p_norm ?_
  apply wp_seq
  apply wp_seq
  replace hg := bind_some hg; obtain ⟨r1, hr1, hg⟩ := hg
  apply wp_region_lit
  refine q_seq hS rfl rfl rfl (y_move hS rfl) ?_; clear hS a; intro a hS
  refine q_seq hS rfl rfl rfl (y_move hS rfl) ?_; clear hS a; intro a hS
  refine l_seq rfl (l_call (cap := []) hS rfl Try.func45 rfl (by kernel_rfl) rfl rfl (c_stringslite_HasPrefix n _ _ hS.lt s_ (by first | omega | (rw [List.length_append]; omega) | (simp only [List.length_append]; omega) | (simp only [List.length_append, List.length_take, List.length_drop, List.length_cons, List.length_nil]; omega)) prefix_ (by first | omega | (rw [List.length_append]; omega) | (simp only [List.length_append]; omega) | (simp only [List.length_append, List.length_take, List.length_drop, List.length_cons, List.length_nil]; omega)) r1 hr1) ?_); clear hS a; intro v4 a w hK hp hS
  clear hK
  obtain rfl := hp
  apply wpList_nil
  refine p_norm ?_
  refine c_cond hS rfl (fun hc6 => ?_) (fun hc6 => ?_)
  · replace hg := br_t hg hc6
    apply wp_seq
    replace hg := chk_some hg; obtain ⟨hk7, hg⟩ := hg
    apply wp_region_lit
    refine q_seq hS rfl rfl rfl (y_move hS rfl) ?_; clear hS a; intro a hS
    refine q_seq hS rfl rfl rfl (y_move hS rfl) ?_; clear hS a; intro a hS
    refine q_seq hS rfl rfl rfl (y_lenStrN hS rfl Try.underlying9) ?_; clear hS a; intro a hS
    refine q_seq hS rfl rfl rfl (y_strL (i := ((prefix_).length)) hS rfl rfl Try.underlying9 rfl hk7) ?_; clear hS a; intro a hS
    refine q_seq hS rfl rfl rfl (y_assign hS rfl) ?_; clear hS a; intro a hS
    apply wpList_nil
    refine p_norm ?_
    apply wp_ret
    refine p_thenR ?_
    obtain rfl := Option.some.inj hg
    refine fin1 (fn := Try.f46) hS rfl (r_tmp hS rfl) ?_
    exact ⟨rfl, (by first | omega | (rw [List.length_append]; omega) | (simp only [List.length_append]; omega) | (simp only [List.length_append, List.length_take, List.length_drop, List.length_cons, List.length_nil]; omega))⟩
  · replace hg := br_f hg (by rw [hc6]; exact Bool.false_ne_true)
    apply wp_skip
    refine p_norm ?_
    apply wp_seq
    apply wp_region_lit
    refine q_seq hS rfl rfl rfl (y_move hS rfl) ?_; clear hS a; intro a hS
    refine q_seq hS rfl rfl rfl (y_assign hS rfl) ?_; clear hS a; intro a hS
    apply wpList_nil
    refine p_norm ?_
    apply wp_ret
    obtain rfl := Option.some.inj hg
    refine fin1 (fn := Try.f46) hS rfl (r_tmp hS rfl) ?_
    exact ⟨rfl, (by first | omega | (rw [List.length_append]; omega) | (simp only [List.length_append]; omega) | (simp only [List.length_append, List.length_take, List.length_drop, List.length_cons, List.length_nil]; omega))⟩
set_option maxHeartbeats 400000 in
theorem c_strings_TrimPrefix (n : Nat) (M : Bs) (w0 : World) (hM : ∀ b, M b → b < w0.heap.size) (s_ : (List UInt8)) (lp01 : (s_).length ≤ 9223372036854775807) (prefix_ : (List UInt8)) (lp11 : (prefix_).length ≤ 9223372036854775807) (r : (List UInt8)) (hg : strings_TrimPrefix n s_ prefix_ = some r) :
    Calls Try.prog 37 [.string (bs (s_)), .string (bs (prefix_))].toArray w0 (Ret noB w0 fun v w => v = .string (bs (r)) ∧ ((r).length ≤ 9223372036854775807)) := by
  unfold strings_TrimPrefix at hg
  refine enter M noB Try.func37 rfl rfl hM ?_
  intro a hS
  apply wp_seq
  apply wp_region_lit
  refine q_seq hS rfl rfl rfl (y_assign hS rfl) ?_; clear hS a; intro a hS
  apply wpList_nil
  refine p_norm ?_
  apply wp_seq
  replace hg := bind_some hg; obtain ⟨r1, hr1, hg⟩ := hg
  apply wp_region_lit
  refine q_seq hS rfl rfl rfl (y_move hS rfl) ?_; clear hS a; intro a hS
  refine q_seq hS rfl rfl rfl (y_move hS rfl) ?_; clear hS a; intro a hS
  refine l_seq rfl (l_call (cap := []) hS rfl Try.func46 rfl (by kernel_rfl) rfl rfl (c_stringslite_TrimPrefix n _ _ hS.lt s_ (by first | omega | (rw [List.length_append]; omega) | (simp only [List.length_append]; omega) | (simp only [List.length_append, List.length_take, List.length_drop, List.length_cons, List.length_nil]; omega)) prefix_ (by first | omega | (rw [List.length_append]; omega) | (simp only [List.length_append]; omega) | (simp only [List.length_append, List.length_take, List.length_drop, List.length_cons, List.length_nil]; omega)) r1 hr1) ?_); clear hS a; intro v4 a w hK hp hS
  clear hK
  obtain ⟨rfl, lu5a1⟩ := hp
  refine q_seq hS rfl rfl rfl (y_assign hS rfl) ?_; clear hS a; intro a hS
  apply wpList_nil
  refine p_norm ?_
  apply wp_ret
  obtain rfl := Option.some.inj hg
  refine fin1 (fn := Try.f37) hS rfl (r_tmp hS rfl) ?_
  exact ⟨rfl, (by first | omega | (rw [List.length_append]; omega) | (simp only [List.length_append]; omega) | (simp only [List.length_append, List.length_take, List.length_drop, List.length_cons, List.length_nil]; omega))⟩
set_option maxHeartbeats 400000 in
theorem c_affix_sideOf_1 (n : Nat) (M : Bs) (w0 : World) (hM : ∀ b, M b → b < w0.heap.size) (w_ : (List UInt8)) (lp01 : (w_).length ≤ 9223372036854775807) (part_ : (List UInt8)) (lp11 : (part_).length ≤ 9223372036854775807) (r : (List UInt8)) (hg : affix_sideOf_1 n w_ part_ = some r) :
    Calls Try.prog 38 [.string (bs (w_)), .string (bs (part_))].toArray w0 (Ret noB w0 fun v w => v = .string (bs (r)) ∧ ((r).length ≤ 9223372036854775807)) := by
  unfold affix_sideOf_1 at hg
  refine enter M noB Try.func38 rfl rfl hM ?_
  intro a hS
  apply wp_seq
  apply wp_region_lit
  refine q_seq hS rfl rfl rfl (y_assign hS rfl) ?_; clear hS a; intro a hS
  apply wpList_nil
  refine p_norm ?_
  apply wp_seq
  replace hg := chk_some hg; obtain ⟨hk1, hg⟩ := hg
  apply wp_region_lit
  refine q_seq hS rfl rfl rfl (y_move hS rfl) ?_; clear hS a; intro a hS
  refine q_seq hS rfl rfl rfl (y_move hS rfl) ?_; clear hS a; intro a hS
  refine q_seq hS rfl rfl rfl (y_concat hS rfl rfl hk1) ?_; clear hS a; intro a hS
  refine q_seq hS rfl rfl rfl (y_assign hS rfl) ?_; clear hS a; intro a hS
  apply wpList_nil
  refine p_norm ?_
  apply wp_ret
  obtain rfl := Option.some.inj hg
  refine fin1 (fn := Try.f38) hS rfl (r_tmp hS rfl) ?_
  exact ⟨rfl, (by first | omega | (rw [List.length_append]; omega) | (simp only [List.length_append]; omega) | (simp only [List.length_append, List.length_take, List.length_drop, List.length_cons, List.length_nil]; omega))⟩
set_option maxHeartbeats 400000 in
theorem c_stringslite_HasSuffix (n : Nat) (M : Bs) (w0 : World) (hM : ∀ b, M b → b < w0.heap.size) (s_ : (List UInt8)) (lp01 : (s_).length ≤ 9223372036854775807) (suffix_ : (List UInt8)) (lp11 : (suffix_).length ≤ 9223372036854775807) (r : Bool) (hg : stringslite_HasSuffix n s_ suffix_ = some r) :
    Calls Try.prog 47 [.string (bs (s_)), .string (bs (suffix_))].toArray w0 (Ret noB w0 fun v w => v = .bool (r)) := by
  unfold stringslite_HasSuffix at hg
  refine enter M noB Try.func47 rfl rfl hM ?_
  intro a hS
  apply wp_seq
  apply wp_region_lit
  refine q_seq hS rfl rfl rfl (y_assign hS rfl) ?_; clear hS a; intro a hS
  apply wpList_nil
  refine p_norm ?_
  apply wp_seq
  rcases Decidable.em (((suffix_).length) ≤ ((s_).length)) with hs1 | hs1
  · have hs1e : decide (((suffix_).length) ≤ ((s_).length)) = true := decide_eq_true hs1
    replace hg := br_t hg hs1
    replace hg := chk_some hg; obtain ⟨hk2, hg⟩ := hg
    replace hg := chk_some hg; obtain ⟨hk3, hg⟩ := hg
    apply wp_region_lit
    refine q_seq hS rfl rfl rfl (y_move hS rfl) ?_; clear hS a; intro a hS
    refine q_seq hS rfl rfl rfl (y_lenStrN hS rfl Try.underlying9) ?_; clear hS a; intro a hS
    refine q_seq hS rfl rfl rfl (y_move hS rfl) ?_; clear hS a; intro a hS
    refine q_seq hS rfl rfl rfl (y_lenStrN hS rfl Try.underlying9) ?_; clear hS a; intro a hS
    refine q_seq hS rfl rfl rfl (yl_b (y_geqN (i := ((s_).length)) (j := ((suffix_).length)) hS rfl rfl) hs1e) ?_; clear hS a; intro a hS
    refine q_seq hS rfl rfl rfl (y_move hS rfl) ?_; clear hS a; intro a hS
    refine g_yes hS rfl rfl rfl rfl (l_quiet hS rfl rfl (y_move hS rfl) ?_); clear hS a; intro a hS
    refine g_yes hS rfl rfl rfl rfl (l_quiet hS rfl rfl (y_move hS rfl) ?_); clear hS a; intro a hS
    refine g_yes hS rfl rfl rfl rfl (l_quiet hS rfl rfl (y_lenStrN hS rfl Try.underlying9) ?_); clear hS a; intro a hS
    refine g_yes hS rfl rfl rfl rfl (l_quiet hS rfl rfl (y_move hS rfl) ?_); clear hS a; intro a hS
    refine g_yes hS rfl rfl rfl rfl (l_quiet hS rfl rfl (y_lenStrN hS rfl Try.underlying9) ?_); clear hS a; intro a hS
    have hmx4 : (s_).length ≤ 9223372036854775807 := (by first | omega | (rw [List.length_append]; omega) | (simp only [List.length_append]; omega) | (simp only [List.length_append, List.length_take, List.length_drop, List.length_cons, List.length_nil]; omega))
    have hmx5 : (suffix_).length ≤ 9223372036854775807 := (by first | omega | (rw [List.length_append]; omega) | (simp only [List.length_append]; omega) | (simp only [List.length_append, List.length_take, List.length_drop, List.length_cons, List.length_nil]; omega))
    refine g_yes hS rfl rfl rfl rfl (l_quiet hS rfl rfl (y_sub hS rfl rfl (in64.2 (by omega))) ?_); clear hS a; intro a hS
    refine g_yes hS rfl rfl rfl rfl (l_quiet hS rfl rfl (y_strL (i := (((((s_).length : Nat) : Int) - (((suffix_).length : Nat) : Int)).toNat)) hS rfl rfl Try.underlying9 (by omega) hk3) ?_); clear hS a; intro a hS
    refine g_yes hS rfl rfl rfl rfl (l_quiet hS rfl rfl (y_move hS rfl) ?_); clear hS a; intro a hS
    refine g_yes hS rfl rfl rfl rfl (l_quiet hS rfl rfl (y_seq hS rfl rfl) ?_); clear hS a; intro a hS
    refine q_seq hS rfl rfl rfl (y_pick_t hS rfl rfl) ?_; clear hS a; intro a hS
    refine q_seq hS rfl rfl rfl (y_assign hS rfl) ?_; clear hS a; intro a hS
    apply wpList_nil
    refine p_norm ?_
    apply wp_ret
    obtain rfl := Option.some.inj hg
    refine fin1 (fn := Try.f47) hS rfl (r_tmp hS rfl) ?_
    exact rfl
  · have hs1e : decide (((suffix_).length) ≤ ((s_).length)) = false := decide_eq_false hs1
    replace hg := br_f hg hs1
    apply wp_region_lit
    refine q_seq hS rfl rfl rfl (y_move hS rfl) ?_; clear hS a; intro a hS
    refine q_seq hS rfl rfl rfl (y_lenStrN hS rfl Try.underlying9) ?_; clear hS a; intro a hS
    refine q_seq hS rfl rfl rfl (y_move hS rfl) ?_; clear hS a; intro a hS
    refine q_seq hS rfl rfl rfl (y_lenStrN hS rfl Try.underlying9) ?_; clear hS a; intro a hS
    refine q_seq hS rfl rfl rfl (yl_b (y_geqN (i := ((s_).length)) (j := ((suffix_).length)) hS rfl rfl) hs1e) ?_; clear hS a; intro a hS
    refine q_seq hS rfl rfl rfl (y_move hS rfl) ?_; clear hS a; intro a hS
    refine g_no hS rfl rfl rfl rfl rfl rfl rfl ?_; clear hS a; intro a hS
    refine g_no hS rfl rfl rfl rfl rfl rfl rfl ?_; clear hS a; intro a hS
    refine g_no hS rfl rfl rfl rfl rfl rfl rfl ?_; clear hS a; intro a hS
    refine g_no hS rfl rfl rfl rfl rfl rfl rfl ?_; clear hS a; intro a hS
    refine g_no hS rfl rfl rfl rfl rfl rfl rfl ?_; clear hS a; intro a hS
    refine g_no hS rfl rfl rfl rfl rfl rfl rfl ?_; clear hS a; intro a hS
    refine g_no hS rfl rfl rfl rfl rfl rfl rfl ?_; clear hS a; intro a hS
    refine g_no hS rfl rfl rfl rfl rfl rfl rfl ?_; clear hS a; intro a hS
    refine g_no hS rfl rfl rfl rfl rfl rfl rfl ?_; clear hS a; intro a hS
    refine q_seq hS rfl rfl rfl (y_pick_f hS rfl rfl) ?_; clear hS a; intro a hS
    refine q_seq hS rfl rfl rfl (y_assign hS rfl) ?_; clear hS a; intro a hS
    apply wpList_nil
    refine p_norm ?_
    apply wp_ret
    obtain rfl := Option.some.inj hg
    refine fin1 (fn := Try.f47) hS rfl (r_tmp hS rfl) ?_
    exact rfl
set_option maxHeartbeats 400000 in
theorem c_strings_HasSuffix (n : Nat) (M : Bs) (w0 : World) (hM : ∀ b, M b → b < w0.heap.size) (s_ : (List UInt8)) (lp01 : (s_).length ≤ 9223372036854775807) (suffix_ : (List UInt8)) (lp11 : (suffix_).length ≤ 9223372036854775807) (r : Bool) (hg : strings_HasSuffix n s_ suffix_ = some r) :
    Calls Try.prog 39 [.string (bs (s_)), .string (bs (suffix_))].toArray w0 (Ret noB w0 fun v w => v = .bool (r)) := by
  unfold strings_HasSuffix at hg
  refine enter M noB Try.func39 rfl rfl hM ?_
  intro a hS
  apply wp_seq
  apply wp_region_lit
  refine q_seq hS rfl rfl rfl (y_assign hS rfl) ?_; clear hS a; intro a hS
  apply wpList_nil
  refine p_norm ?_
  apply wp_seq
  replace hg := bind_some hg; obtain ⟨r1, hr1, hg⟩ := hg
  apply wp_region_lit
  refine q_seq hS rfl rfl rfl (y_move hS rfl) ?_; clear hS a; intro a hS
  refine q_seq hS rfl rfl rfl (y_move hS rfl) ?_; clear hS a; intro a hS
  refine l_seq rfl (l_call (cap := []) hS rfl Try.func47 rfl (by kernel_rfl) rfl rfl (c_stringslite_HasSuffix n _ _ hS.lt s_ (by first | omega | (rw [List.length_append]; omega) | (simp only [List.length_append]; omega) | (simp only [List.length_append, List.length_take, List.length_drop, List.length_cons, List.length_nil]; omega)) suffix_ (by first | omega | (rw [List.length_append]; omega) | (simp only [List.length_append]; omega) | (simp only [List.length_append, List.length_take, List.length_drop, List.length_cons, List.length_nil]; omega)) r1 hr1) ?_); clear hS a; intro v4 a w hK hp hS
  clear hK
  obtain rfl := hp
  refine q_seq hS rfl rfl rfl (y_assign hS rfl) ?_; clear hS a; intro a hS
  apply wpList_nil
  refine p_norm ?_
  apply wp_ret
  obtain rfl := Option.some.inj hg
  refine fin1 (fn := Try.f39) hS rfl (r_tmp hS rfl) ?_
  exact rfl
set_option maxHeartbeats 400000 in
theorem c_stringslite_TrimSuffix (n : Nat) (M : Bs) (w0 : World) (hM : ∀ b, M b → b < w0.heap.size) (s_ : (List UInt8)) (lp01 : (s_).length ≤ 9223372036854775807) (suffix_ : (List UInt8)) (lp11 : (suffix_).length ≤ 9223372036854775807) (r : (List UInt8)) (hg : stringslite_TrimSuffix n s_ suffix_ = some r) :
    Calls Try.prog 48 [.string (bs (s_)), .string (bs (suffix_))].toArray w0 (Ret noB w0 fun v w => v = .string (bs (r)) ∧ ((r).length ≤ 9223372036854775807)) := by
  unfold stringslite_TrimSuffix at hg
  refine enter M noB Try.func48 rfl rfl hM ?_
  intro a hS
  apply wp_seq
  apply wp_region_lit
  refine q_seq hS rfl rfl rfl (y_assign hS rfl) ?_; clear hS a; intro a hS
  apply wpList_nil
  refine p_norm ?_
  apply wp_seq
  apply wp_seq
  replace hg := bind_some hg; obtain ⟨r1, hr1, hg⟩ := hg
  apply wp_region_lit
  refine q_seq hS rfl rfl rfl (y_move hS rfl) ?_; clear hS a; intro a hS
  refine q_seq hS rfl rfl rfl (y_move hS rfl) ?_; clear hS a; intro a hS
  refine l_seq rfl (l_call (cap := []) hS rfl Try.func47 rfl (by kernel_rfl) rfl rfl (c_stringslite_HasSuffix n _ _ hS.lt s_ (by first | omega | (rw [List.length_append]; omega) | (simp only [List.length_append]; omega) | (simp only [List.length_append, List.length_take, List.length_drop, List.length_cons, List.length_nil]; omega)) suffix_ (by first | omega | (rw [List.length_append]; omega) | (simp only [List.length_append]; omega) | (simp only [List.length_append, List.length_take, List.length_drop, List.length_cons, List.length_nil]; omega)) r1 hr1) ?_); clear hS a; intro v4 a w hK hp hS
  clear hK
  obtain rfl := hp
  apply wpList_nil
  refine p_norm ?_
  refine c_cond hS rfl (fun hc6 => ?_) (fun hc6 => ?_)
  · replace hg := br_t hg hc6
    apply wp_seq
    replace hg := chk_some hg; obtain ⟨hk7, hg⟩ := hg
    replace hg := chk_some hg; obtain ⟨hk8, hg⟩ := hg
    apply wp_region_lit
    refine q_seq hS rfl rfl rfl (y_move hS rfl) ?_; clear hS a; intro a hS
    refine q_seq hS rfl rfl rfl (y_move hS rfl) ?_; clear hS a; intro a hS
    refine q_seq hS rfl rfl rfl (y_lenStrN hS rfl Try.underlying9) ?_; clear hS a; intro a hS
    refine q_seq hS rfl rfl rfl (y_move hS rfl) ?_; clear hS a; intro a hS
    refine q_seq hS rfl rfl rfl (y_lenStrN hS rfl Try.underlying9) ?_; clear hS a; intro a hS
    have hmx9 : (s_).length ≤ 9223372036854775807 := (by first | omega | (rw [List.length_append]; omega) | (simp only [List.length_append]; omega) | (simp only [List.length_append, List.length_take, List.length_drop, List.length_cons, List.length_nil]; omega))
    have hmx10 : (suffix_).length ≤ 9223372036854775807 := (by first | omega | (rw [List.length_append]; omega) | (simp only [List.length_append]; omega) | (simp only [List.length_append, List.length_take, List.length_drop, List.length_cons, List.length_nil]; omega))
    refine q_seq hS rfl rfl rfl (y_sub hS rfl rfl (in64.2 (by omega))) ?_; clear hS a; intro a hS
    refine q_seq hS rfl rfl rfl (y_strH (i := (((((s_).length : Nat) : Int) - (((suffix_).length : Nat) : Int)).toNat)) hS rfl rfl Try.underlying9 (by omega) hk8) ?_; clear hS a; intro a hS
    refine q_seq hS rfl rfl rfl (y_assign hS rfl) ?_; clear hS a; intro a hS
    apply wpList_nil
    refine p_norm ?_
    apply wp_ret
    refine p_thenR ?_
    obtain rfl := Option.some.inj hg
    refine fin1 (fn := Try.f48) hS rfl (r_tmp hS rfl) ?_
    exact ⟨rfl, (by first | omega | (rw [List.length_append]; omega) | (simp only [List.length_append]; omega) | (simp only [List.length_append, List.length_take, List.length_drop, List.length_cons, List.length_nil]; omega))⟩
  · replace hg := br_f hg (by rw [hc6]; exact Bool.false_ne_true)
    apply wp_skip
    refine p_norm ?_
    apply wp_seq
    apply wp_region_lit
    refine q_seq hS rfl rfl rfl (y_move hS rfl) ?_; clear hS a; intro a hS
    refine q_seq hS rfl rfl rfl (y_assign hS rfl) ?_; clear hS a; intro a hS
    apply wpList_nil
    refine p_norm ?_
    apply wp_ret
    obtain rfl := Option.some.inj hg
    refine fin1 (fn := Try.f48) hS rfl (r_tmp hS rfl) ?_
    exact ⟨rfl, (by first | omega | (rw [List.length_append]; omega) | (simp only [List.length_append]; omega) | (simp only [List.length_append, List.length_take, List.length_drop, List.length_cons, List.length_nil]; omega))⟩
set_option maxHeartbeats 400000 in
theorem c_strings_TrimSuffix (n : Nat) (M : Bs) (w0 : World) (hM : ∀ b, M b → b < w0.heap.size) (s_ : (List UInt8)) (lp01 : (s_).length ≤ 9223372036854775807) (suffix_ : (List UInt8)) (lp11 : (suffix_).length ≤ 9223372036854775807) (r : (List UInt8)) (hg : strings_TrimSuffix n s_ suffix_ = some r) :
    Calls Try.prog 40 [.string (bs (s_)), .string (bs (suffix_))].toArray w0 (Ret noB w0 fun v w => v = .string (bs (r)) ∧ ((r).length ≤ 9223372036854775807)) := by
  unfold strings_TrimSuffix at hg
  refine enter M noB Try.func40 rfl rfl hM ?_
  intro a hS
  apply wp_seq
  apply wp_region_lit
  refine q_seq hS rfl rfl rfl (y_assign hS rfl) ?_; clear hS a; intro a hS
  apply wpList_nil
  refine p_norm ?_
  apply wp_seq
  replace hg := bind_some hg; obtain ⟨r1, hr1, hg⟩ := hg
  apply wp_region_lit
  refine q_seq hS rfl rfl rfl (y_move hS rfl) ?_; clear hS a; intro a hS
  refine q_seq hS rfl rfl rfl (y_move hS rfl) ?_; clear hS a; intro a hS
  refine l_seq rfl (l_call (cap := []) hS rfl Try.func48 rfl (by kernel_rfl) rfl rfl (c_stringslite_TrimSuffix n _ _ hS.lt s_ (by first | omega | (rw [List.length_append]; omega) | (simp only [List.length_append]; omega) | (simp only [List.length_append, List.length_take, List.length_drop, List.length_cons, List.length_nil]; omega)) suffix_ (by first | omega | (rw [List.length_append]; omega) | (simp only [List.length_append]; omega) | (simp only [List.length_append, List.length_take, List.length_drop, List.length_cons, List.length_nil]; omega)) r1 hr1) ?_); clear hS a; intro v4 a w hK hp hS
  clear hK
  obtain ⟨rfl, lu5a1⟩ := hp
  refine q_seq hS rfl rfl rfl (y_assign hS rfl) ?_; clear hS a; intro a hS
  apply wpList_nil
  refine p_norm ?_
  apply wp_ret
  obtain rfl := Option.some.inj hg
  refine fin1 (fn := Try.f40) hS rfl (r_tmp hS rfl) ?_
  exact ⟨rfl, (by first | omega | (rw [List.length_append]; omega) | (simp only [List.length_append]; omega) | (simp only [List.length_append, List.length_take, List.length_drop, List.length_cons, List.length_nil]; omega))⟩
set_option maxHeartbeats 400000 in
theorem c_affix_sideOf_2 (n : Nat) (M : Bs) (w0 : World) (hM : ∀ b, M b → b < w0.heap.size) (w_ : (List UInt8)) (lp01 : (w_).length ≤ 9223372036854775807) (part_ : (List UInt8)) (lp11 : (part_).length ≤ 9223372036854775807) (r : (List UInt8)) (hg : affix_sideOf_2 n w_ part_ = some r) :
    Calls Try.prog 41 [.string (bs (w_)), .string (bs (part_))].toArray w0 (Ret noB w0 fun v w => v = .string (bs (r)) ∧ ((r).length ≤ 9223372036854775807)) := by
  unfold affix_sideOf_2 at hg
  refine enter M noB Try.func41 rfl rfl hM ?_
  intro a hS
  apply wp_seq
  apply wp_region_lit
  refine q_seq hS rfl rfl rfl (y_assign hS rfl) ?_; clear hS a; intro a hS
  apply wpList_nil
  refine p_norm ?_
  apply wp_seq
  replace hg := chk_some hg; obtain ⟨hk1, hg⟩ := hg
  apply wp_region_lit
  refine q_seq hS rfl rfl rfl (y_move hS rfl) ?_; clear hS a; intro a hS
  refine q_seq hS rfl rfl rfl (y_move hS rfl) ?_; clear hS a; intro a hS
  refine q_seq hS rfl rfl rfl (y_concat hS rfl rfl hk1) ?_; clear hS a; intro a hS
  refine q_seq hS rfl rfl rfl (y_assign hS rfl) ?_; clear hS a; intro a hS
  apply wpList_nil
  refine p_norm ?_
  apply wp_ret
  obtain rfl := Option.some.inj hg
  refine fin1 (fn := Try.f41) hS rfl (r_tmp hS rfl) ?_
  exact ⟨rfl, (by first | omega | (rw [List.length_append]; omega) | (simp only [List.length_append]; omega) | (simp only [List.length_append, List.length_take, List.length_drop, List.length_cons, List.length_nil]; omega))⟩
set_option maxHeartbeats 400000 in
theorem c_affix_sideOf (n : Nat) (M : Bs) (w0 : World) (hM : ∀ b, M b → b < w0.heap.size) (kind_ : Int) (r : side) (hg : affix_sideOf n kind_ = some r) :
    Calls Try.prog 27 [.int .i64 (kind_)].toArray w0 (Ret noB w0 fun v w => ∃ (Aa1 : FuncId), ∃ (ca1 : List Value), ∃ (Aa2 : FuncId), ∃ (ca2 : List Value), ∃ (Aa3 : FuncId), ∃ (ca3 : List Value), v = .agg #[.func (.func Aa1) #[] (List.toArray ca1), .func (.func Aa2) #[] (List.toArray ca2), .func (.func Aa3) #[] (List.toArray ca3)] ∧ (FnR Try.prog Aa1 ca1 pre46 post46 (r.fits_) M w) ∧ (FnR Try.prog Aa2 ca2 pre47 post47 (r.remove_) M w) ∧ (FnR Try.prog Aa3 ca3 pre47 post47 (r.add_) M w)) := by
  unfold affix_sideOf at hg
  refine enter M noB Try.func27 rfl rfl hM ?_
  intro a hS
  apply wp_seq
  apply wp_region_lit
  refine l_seq rfl (l_alloc (zs := [.nilFunc, .nilFunc, .nilFunc]) hS 1000 rfl rfl rfl rfl ?_); clear hS a; intro b2 a w hb hK hS
  clear hb
  clear hK
  apply wpList_nil
  refine p_norm ?_
  apply wp_seq
  apply wp_seq
  apply wp_region_lit
  refine q_seq hS rfl rfl rfl (y_move hS rfl) ?_; clear hS a; intro a hS
  refine q_seq hS rfl rfl rfl (y_eql hS rfl rfl) ?_; clear hS a; intro a hS
  apply wpList_nil
  refine p_norm ?_
  refine c_dec hS rfl (fun hc3 => ?_) (fun hc3 => ?_)
  · replace hg := br_t hg hc3
    apply wp_seq
    apply wp_region_lit
    refine q_seq hS rfl rfl rfl (y_build (parts := [(0, .func 36), (1, .func 37), (2, .func 38)]) (ps := [(0, .func (.func 36) #[] #[]), (1, .func (.func 37) #[] #[]), (2, .func (.func 38) #[] #[])]) (cells := #[.func (.func 36) #[] #[], .func (.func 37) #[] #[], .func (.func 38) #[] #[]]) hS rfl (by kernel_rfl)) ?_; clear hS a; intro a hS
    refine l_seq rfl (l_store (n := 3) (cs' := [.func (.func 36) #[] #[], .func (.func 37) #[] #[], .func (.func 38) #[] #[]]) hS 1000 rfl rfl rfl rfl rfl rfl rfl rfl ?_); clear hS; intro w hK hS; clear hK
    apply wpList_nil
    refine p_norm ?_
    apply wp_ret
    refine p_thenR ?_
    obtain rfl := Option.some.inj hg
    refine fin1 (fn := Try.f27) hS rfl (r_cell (kk := 1000) (n := 3) (vs := [.func (.func 36) #[] #[], .func (.func 37) #[] #[], .func (.func 38) #[] #[]]) hS rfl rfl Try.underlying49 rfl rfl rfl rfl) ?_
    exact ⟨(36), ([]), (37), ([]), (38), ([]), rfl, ⟨⟨_, _, Try.func36, rfl, by kernel_rfl⟩, fun M1 w1 hk hm hlt vs x r hp hr => by obtain ⟨rfl, la1, lb1⟩ := hp; exact c_strings_HasPrefix n M1 w1 hlt (x.1) la1 (x.2) lb1 r hr⟩, ⟨⟨_, _, Try.func37, rfl, by kernel_rfl⟩, fun M1 w1 hk hm hlt vs x r hp hr => by obtain ⟨rfl, la1, lb1⟩ := hp; exact c_strings_TrimPrefix n M1 w1 hlt (x.1) la1 (x.2) lb1 r hr⟩, ⟨⟨_, _, Try.func38, rfl, by kernel_rfl⟩, fun M1 w1 hk hm hlt vs x r hp hr => by obtain ⟨rfl, la1, lb1⟩ := hp; exact c_affix_sideOf_1 n M1 w1 hlt (x.1) la1 (x.2) lb1 r hr⟩⟩
  · replace hg := br_f hg hc3
    apply wp_skip
    refine p_norm ?_
    apply wp_seq
    apply wp_region_lit
    refine q_seq hS rfl rfl rfl (y_build (parts := [(0, .func 39), (1, .func 40), (2, .func 41)]) (ps := [(0, .func (.func 39) #[] #[]), (1, .func (.func 40) #[] #[]), (2, .func (.func 41) #[] #[])]) (cells := #[.func (.func 39) #[] #[], .func (.func 40) #[] #[], .func (.func 41) #[] #[]]) hS rfl (by kernel_rfl)) ?_; clear hS a; intro a hS
    refine l_seq rfl (l_store (n := 3) (cs' := [.func (.func 39) #[] #[], .func (.func 40) #[] #[], .func (.func 41) #[] #[]]) hS 1000 rfl rfl rfl rfl rfl rfl rfl rfl ?_); clear hS; intro w hK hS; clear hK
    apply wpList_nil
    refine p_norm ?_
    apply wp_ret
    obtain rfl := Option.some.inj hg
    refine fin1 (fn := Try.f27) hS rfl (r_cell (kk := 1000) (n := 3) (vs := [.func (.func 39) #[] #[], .func (.func 40) #[] #[], .func (.func 41) #[] #[]]) hS rfl rfl Try.underlying49 rfl rfl rfl rfl) ?_
    exact ⟨(39), ([]), (40), ([]), (41), ([]), rfl, ⟨⟨_, _, Try.func39, rfl, by kernel_rfl⟩, fun M1 w1 hk hm hlt vs x r hp hr => by obtain ⟨rfl, la1, lb1⟩ := hp; exact c_strings_HasSuffix n M1 w1 hlt (x.1) la1 (x.2) lb1 r hr⟩, ⟨⟨_, _, Try.func40, rfl, by kernel_rfl⟩, fun M1 w1 hk hm hlt vs x r hp hr => by obtain ⟨rfl, la1, lb1⟩ := hp; exact c_strings_TrimSuffix n M1 w1 hlt (x.1) la1 (x.2) lb1 r hr⟩, ⟨⟨_, _, Try.func41, rfl, by kernel_rfl⟩, fun M1 w1 hk hm hlt vs x r hp hr => by obtain ⟨rfl, la1, lb1⟩ := hp; exact c_affix_sideOf_2 n M1 w1 hlt (x.1) la1 (x.2) lb1 r hr⟩⟩
set_option maxHeartbeats 400000 in
theorem c_affix_Apply (n : Nat) (M : Bs) (w0 : World) (hM : ∀ b, M b → b < w0.heap.size) (a_ : Affix) (Ap02 : Option Addr) (cp02 : Nat) (hp02 : SlR RChange M w0 Ap02 (a_.Pairs).length cp02 (a_.Pairs)) (w_ : (List UInt8)) (lp11 : (w_).length ≤ 9223372036854775807) (r : ((List UInt8) × Bool)) (hg : affix_Apply n a_ w_ = some r) :
    Calls Try.prog 14 [.agg #[.int .i64 (a_.Kind), .slice (Ap02) ((a_.Pairs).length) (cp02)], .string (bs (w_))].toArray w0 (Ret noB w0 fun v w => v = .tuple #[.string (bs (r.1)), .bool (r.2)] ∧ ((r.1).length ≤ 9223372036854775807)) := by
  unfold affix_Apply at hg
  refine enter M noB Try.func14 rfl rfl hM ?_
  intro a hS
  replace hS := hS.add 101 (slF RChange (Ap02) ((a_.Pairs).length) (cp02) (a_.Pairs)) (by exact Fact.change _ enterM hp02)
  apply wp_seq
  apply wp_region_lit
  refine l_seq rfl (l_box (zs := [.int .i64 (a_.Kind), .slice (Ap02) ((a_.Pairs).length) (cp02)]) hS 1000 rfl rfl rfl rfl ?_); clear hS a; intro b2 a w hb hK hS
  clear hb
  clear hK
  refine q_seq hS rfl rfl rfl (y_assign hS rfl) ?_; clear hS a; intro a hS
  refine q_seq hS rfl rfl rfl (y_assign hS rfl) ?_; clear hS a; intro a hS
  apply wpList_nil
  refine p_norm ?_
  apply wp_seq
  apply wp_seq
  apply wp_region_lit
  refine q_seq hS rfl rfl rfl (y_boxField (o' := 0) hS rfl Try.underlying24 rfl rfl rfl) ?_; clear hS a; intro a hS
  refine q_seq hS rfl rfl rfl (y_loadBox1 (kk := 1000) hS rfl rfl rfl Try.underlying3 rfl) ?_; clear hS a; intro a hS
  refine q_seq hS rfl rfl rfl (y_eql hS rfl rfl) ?_; clear hS a; intro a hS
  apply wpList_nil
  refine p_norm ?_
  refine c_dec hS rfl (fun hc3 => ?_) (fun hc3 => ?_)
  · replace hg := br_t hg hc3
    apply wp_seq
    apply wp_region_lit
    refine q_seq hS rfl rfl rfl (y_move hS rfl) ?_; clear hS a; intro a hS
    refine q_seq hS rfl rfl rfl (y_assign hS rfl) ?_; clear hS a; intro a hS
    refine q_seq hS rfl rfl rfl (y_assign hS rfl) ?_; clear hS a; intro a hS
    apply wpList_nil
    refine p_norm ?_
    apply wp_ret
    refine p_thenR ?_
    obtain rfl := Option.some.inj hg
    refine fin2 (fn := Try.f14) hS rfl (r_tmp hS rfl) (r_tmp hS rfl) ?_
    exact ⟨rfl, (by first | omega | (rw [List.length_append]; omega) | (simp only [List.length_append]; omega) | (simp only [List.length_append, List.length_take, List.length_drop, List.length_cons, List.length_nil]; omega))⟩
  · replace hg := br_f hg hc3
    apply wp_skip
    refine p_norm ?_
    apply wp_seq
    replace hg := bind_some hg; obtain ⟨r4, hr4, hg⟩ := hg
    apply wp_region_lit
    refine q_seq hS rfl rfl rfl (y_boxField (o' := 0) hS rfl Try.underlying24 rfl rfl rfl) ?_; clear hS a; intro a hS
    refine q_seq hS rfl rfl rfl (y_loadBox1 (kk := 1000) hS rfl rfl rfl Try.underlying3 rfl) ?_; clear hS a; intro a hS
    refine l_seq rfl (l_call (cap := []) hS rfl Try.func27 rfl (by kernel_rfl) rfl rfl (c_affix_sideOf n _ _ hS.lt a_.Kind r4 hr4) ?_); clear hS a; intro v8 a w hK hp hS
    clear hK
    obtain ⟨Au9a1, cu9a1, Au9a2, cu9a2, Au9a3, cu9a3, rfl, hu9a1, hu9a2, hu9a3⟩ := hp
    replace hS := hS.add 105 (fnF Try.prog Au9a1 cu9a1 pre46 post46 (r4.fits_)) hu9a1
    replace hS := hS.add 106 (fnF Try.prog Au9a2 cu9a2 pre47 post47 (r4.remove_)) hu9a2
    replace hS := hS.add 107 (fnF Try.prog Au9a3 cu9a3 pre47 post47 (r4.add_)) hu9a3
    refine l_seq rfl (l_alloc (zs := [.nilFunc, .nilFunc, .nilFunc]) hS 1303 rfl rfl rfl rfl ?_); clear hS a; intro b10 a w hb hK hS
    clear hb
    clear hK
    refine l_seq rfl (l_store (n := 3) (cs' := [.func (.func Au9a1) #[] (List.toArray cu9a1), .func (.func Au9a2) #[] (List.toArray cu9a2), .func (.func Au9a3) #[] (List.toArray cu9a3)]) hS 1303 rfl rfl rfl rfl rfl rfl rfl rfl ?_); clear hS; intro w hK hS; clear hK
    apply wpList_nil
    refine p_norm ?_
    apply wp_seq
    apply wp_seq
    apply wp_region_lit
    refine q_seq hS rfl rfl rfl (y_boxField (o' := 1) hS rfl Try.underlying24 rfl rfl rfl) ?_; clear hS a; intro a hS
    refine q_seq hS rfl rfl rfl (y_loadBox1 (kk := 1000) hS rfl rfl rfl Try.underlying22 rfl) ?_; clear hS a; intro a hS
    refine q_seq hS rfl rfl rfl (y_lenSlice hS rfl Try.underlying22) ?_; clear hS a; intro a hS
    refine q_seq hS rfl rfl rfl (y_move hS rfl) ?_; clear hS a; intro a hS
    apply wpList_nil
    refine p_norm ?_
    apply wp_block
    refine c_loop (σ := Nat) (fun m1 a w => ∃ (t_11 : Nat), affix_Apply_L0 n a_ w_ r4 m1 t_11 = some r ∧ St (⟨Try.f14.ntmps, M, noB, w0⟩ : Ctx) [(1, .string (bs (w_))), (6, .pointer (some ⟨b10, 0, none⟩)), (18, .slice (Ap02) ((a_.Pairs).length) (cp02)), (19, .int .i64 ((((a_.Pairs).length : Nat) : Int))), (20, .int .i64 (((t_11 : Nat) : Int)))] [(1303, Ob.box b10 [.func (.func Au9a1) #[] (List.toArray cu9a1), .func (.func Au9a2) #[] (List.toArray cu9a2), .func (.func Au9a3) #[] (List.toArray cu9a3)] 49)] [(101, slF RChange (Ap02) ((a_.Pairs).length) (cp02) (a_.Pairs)), (105, fnF Try.prog Au9a1 cu9a1 pre46 post46 (r4.fits_)), (106, fnF Try.prog Au9a2 cu9a2 pre47 post47 (r4.remove_)), (107, fnF Try.prog Au9a3 cu9a3 pre47 post47 (r4.add_))] a w) (fun m1 => m1) n ⟨(0), hg, (hS.sub ⟨rfl, rfl, rfl, rfl, rfl, trivial⟩ ⟨rfl, trivial⟩ ⟨rfl, rfl, rfl, rfl, trivial⟩)⟩ ?_
    clear hS a; rintro m1 a w ⟨t_11, hg, hS⟩
    rcases m1 with _ | m1
    · rw [affix_Apply_L0] at hg; cases hg
    rw [affix_Apply_L0] at hg
    apply wp_seq
    apply wp_region_lit
    refine q_seq hS rfl rfl rfl (y_lssN (i := t_11) (j := ((a_.Pairs).length)) hS rfl rfl) ?_; clear hS a; intro a hS
    apply wpList_nil
    refine p_norm ?_
    apply wp_seq
    refine c_dec hS rfl (fun hc12 => ?_) (fun hc12 => ?_)
    · replace hg := br_t hg hc12
      have hmx13 := SlR.mx (hS.fact (k := 101) rfl)
      apply wp_skip
      refine p_norm ?_
      apply wp_seq
      apply wp_block
      apply wp_seq
      replace hg := bind_some hg; obtain ⟨x15, hx15, hg⟩ := hg
      apply wp_region_lit
      obtain ⟨p18, hep18, hpp18⟩ := SlR.elemX (hS.fact (k := 101) rfl) hx15
      refine q_seq hS rfl rfl rfl (y_elem (sz := 2) (i := t_11) hS rfl rfl Try.underlying22 rfl hep18 rfl (lt_of_get hx15)) ?_; clear hS a; intro a hS
      obtain ⟨hlq19, hmq19, csq19, hdq19, hcq19⟩ := hpp18
      obtain ⟨rfl, lq191, lq192⟩ := RChange.open hdq19
      refine q_seq hS rfl rfl rfl (y_ldp hS rfl hlq19 hmq19 (by simpa using hcq19) Try.underlying42 rfl rfl) ?_; clear hS a; intro a hS
      refine l_seq rfl (l_alloc (zs := [.string (bs ([])), .string (bs ([]))]) hS 1602 rfl rfl rfl rfl ?_); clear hS a; intro b20 a w hb hK hS
      clear hb
      clear hK
      refine l_seq rfl (l_store (n := 2) (cs' := [.string (bs (x15.Old)), .string (bs (x15.New))]) hS 1602 rfl rfl rfl rfl rfl rfl rfl rfl ?_); clear hS; intro w hK hS; clear hK
      apply wpList_nil
      refine p_norm ?_
      apply wp_seq
      replace hg := jn_some hg; obtain ⟨k21, hg, hk21⟩ := hg
      refine c_post (fun a w => ∃ (t_22 : Bool), k21 t_22 = some r ∧ St (⟨Try.f14.ntmps, M, noB, w0⟩ : Ctx) [(1, .string (bs (w_))), (6, .pointer (some ⟨b10, 0, none⟩)), (8, .pointer (some ⟨b20, 0, none⟩)), (18, .slice (Ap02) ((a_.Pairs).length) (cp02)), (19, .int .i64 ((((a_.Pairs).length : Nat) : Int))), (20, .int .i64 (((t_11 : Nat) : Int))), (37, .bool (t_22))] [(1303, Ob.box b10 [.func (.func Au9a1) #[] (List.toArray cu9a1), .func (.func Au9a2) #[] (List.toArray cu9a2), .func (.func Au9a3) #[] (List.toArray cu9a3)] 49), (1602, Ob.box b20 [.string (bs (x15.Old)), .string (bs (x15.New))] 42)] [(101, slF RChange (Ap02) ((a_.Pairs).length) (cp02) (a_.Pairs)), (105, fnF Try.prog Au9a1 cu9a1 pre46 post46 (r4.fits_)), (106, fnF Try.prog Au9a2 cu9a2 pre47 post47 (r4.remove_)), (107, fnF Try.prog Au9a3 cu9a3 pre47 post47 (r4.add_))] a w) ?_ ?_
      · replace hg := bind_some hg; obtain ⟨r23, hr23, hg⟩ := hg
        rcases Bool.eq_false_or_eq_true (r23) with hs26 | hs26
        · replace hg := br_t hg hs26
          apply wp_region_lit
          refine q_seq hS rfl rfl rfl (y_boxField (o' := 0) hS rfl Try.underlying49 rfl rfl rfl) ?_; clear hS a; intro a hS
          refine q_seq hS rfl rfl rfl (y_loadBox1 (kk := 1303) hS rfl rfl rfl Try.underlying46 rfl) ?_; clear hS a; intro a hS
          refine q_seq hS rfl rfl rfl (y_move hS rfl) ?_; clear hS a; intro a hS
          refine q_seq hS rfl rfl rfl (y_boxField (o' := 0) hS rfl Try.underlying42 rfl rfl rfl) ?_; clear hS a; intro a hS
          refine q_seq hS rfl rfl rfl (y_loadBox1 (kk := 1602) hS rfl rfl rfl Try.underlying9 rfl) ?_; clear hS a; intro a hS
          refine l_seq rfl (l_callFn (cap := cu9a1) (x := (w_, x15.Old)) hS rfl (hS.fact (k := 105) rfl) rfl rfl ⟨rfl, (by first | omega | (rw [List.length_append]; omega) | (simp only [List.length_append]; omega) | (simp only [List.length_append, List.length_take, List.length_drop, List.length_cons, List.length_nil]; omega)), (by first | omega | (rw [List.length_append]; omega) | (simp only [List.length_append]; omega) | (simp only [List.length_append, List.length_take, List.length_drop, List.length_cons, List.length_nil]; omega))⟩ hr23 ?_); clear hS a; intro v27 a w hK hp hS
          clear hK
          obtain rfl := hp.trans (congrArg Value.bool hs26)
          refine q_seq hS rfl rfl rfl (y_move hS rfl) ?_; clear hS a; intro a hS
          refine g_yes hS rfl rfl rfl rfl (l_quiet hS rfl rfl (y_move hS rfl) ?_); clear hS a; intro a hS
          refine g_yes hS rfl rfl rfl rfl (l_quiet hS rfl rfl (y_lenStrN hS rfl Try.underlying9) ?_); clear hS a; intro a hS
          refine g_yes hS rfl rfl rfl rfl (l_quiet hS rfl rfl (y_boxField (o' := 0) hS rfl Try.underlying42 rfl rfl rfl) ?_); clear hS a; intro a hS
          refine g_yes hS rfl rfl rfl rfl (l_quiet hS rfl rfl (y_loadBox1 (kk := 1602) hS rfl rfl rfl Try.underlying9 rfl) ?_); clear hS a; intro a hS
          refine g_yes hS rfl rfl rfl rfl (l_quiet hS rfl rfl (y_lenStrN hS rfl Try.underlying9) ?_); clear hS a; intro a hS
          refine g_yes hS rfl rfl rfl rfl (l_quiet hS rfl rfl (y_gtrN (i := ((w_).length)) (j := ((x15.Old).length)) hS rfl rfl) ?_); clear hS a; intro a hS
          refine q_seq hS rfl rfl rfl (y_pick_t hS rfl rfl) ?_; clear hS a; intro a hS
          apply wpList_nil
          refine p_norm ?_
          exact ⟨(decide (((x15.Old).length) < ((w_).length))), hg, (hS.sub ⟨rfl, rfl, rfl, rfl, rfl, rfl, rfl, trivial⟩ ⟨rfl, rfl, trivial⟩ ⟨rfl, rfl, rfl, rfl, trivial⟩)⟩
        · replace hg := br_f hg (by rw [hs26]; exact Bool.false_ne_true)
          apply wp_region_lit
          refine q_seq hS rfl rfl rfl (y_boxField (o' := 0) hS rfl Try.underlying49 rfl rfl rfl) ?_; clear hS a; intro a hS
          refine q_seq hS rfl rfl rfl (y_loadBox1 (kk := 1303) hS rfl rfl rfl Try.underlying46 rfl) ?_; clear hS a; intro a hS
          refine q_seq hS rfl rfl rfl (y_move hS rfl) ?_; clear hS a; intro a hS
          refine q_seq hS rfl rfl rfl (y_boxField (o' := 0) hS rfl Try.underlying42 rfl rfl rfl) ?_; clear hS a; intro a hS
          refine q_seq hS rfl rfl rfl (y_loadBox1 (kk := 1602) hS rfl rfl rfl Try.underlying9 rfl) ?_; clear hS a; intro a hS
          refine l_seq rfl (l_callFn (cap := cu9a1) (x := (w_, x15.Old)) hS rfl (hS.fact (k := 105) rfl) rfl rfl ⟨rfl, (by first | omega | (rw [List.length_append]; omega) | (simp only [List.length_append]; omega) | (simp only [List.length_append, List.length_take, List.length_drop, List.length_cons, List.length_nil]; omega)), (by first | omega | (rw [List.length_append]; omega) | (simp only [List.length_append]; omega) | (simp only [List.length_append, List.length_take, List.length_drop, List.length_cons, List.length_nil]; omega))⟩ hr23 ?_); clear hS a; intro v29 a w hK hp hS
          clear hK
          obtain rfl := hp.trans (congrArg Value.bool hs26)
          refine q_seq hS rfl rfl rfl (y_move hS rfl) ?_; clear hS a; intro a hS
          refine g_no hS rfl rfl rfl rfl rfl rfl rfl ?_; clear hS a; intro a hS
          refine g_no hS rfl rfl rfl rfl rfl rfl rfl ?_; clear hS a; intro a hS
          refine g_no hS rfl rfl rfl rfl rfl rfl rfl ?_; clear hS a; intro a hS
          refine g_no hS rfl rfl rfl rfl rfl rfl rfl ?_; clear hS a; intro a hS
          refine g_no hS rfl rfl rfl rfl rfl rfl rfl ?_; clear hS a; intro a hS
          refine g_no hS rfl rfl rfl rfl rfl rfl rfl ?_; clear hS a; intro a hS
          refine q_seq hS rfl rfl rfl (y_pick_f hS rfl rfl) ?_; clear hS a; intro a hS
          apply wpList_nil
          refine p_norm ?_
          exact ⟨(false), hg, (hS.sub ⟨rfl, rfl, rfl, rfl, rfl, rfl, rfl, trivial⟩ ⟨rfl, rfl, trivial⟩ ⟨rfl, rfl, rfl, rfl, trivial⟩)⟩
      clear hS a; rintro a w ⟨t_22, hg, hS⟩
      subst hk21
      refine c_cond hS rfl (fun hc31 => ?_) (fun hc31 => ?_)
      · replace hg := br_t hg hc31
        apply wp_seq
        replace hg := bind_some hg; obtain ⟨r32, hr32, hg⟩ := hg
        replace hg := bind_some hg; obtain ⟨r35, hr35, hg⟩ := hg
        refine d_plan hS [] [(0, some 0), (1, some 1303), (2, some 0), (3, some 1303), (4, some 0), (5, some 0), (6, some 1602), (8, some 0), (9, some 1602), (7, none), (10, none), (11, none)] rfl (by kernel_rfl) (by kernel_rfl) rfl ?_; clear hS; intro wr hZ hS; have hR := hS.wd
        refine q_take hS hR rfl rfl rfl rfl (y_boxField (o' := 2) hS rfl Try.underlying49 rfl rfl rfl) ?_; clear hS a; intro a hS
        refine q_take hS hR rfl rfl rfl rfl (y_loadBox1 (kk := 1303) hS rfl rfl rfl Try.underlying47 rfl) ?_; clear hS a; intro a hS
        refine q_take hS hR rfl rfl rfl rfl (y_boxField (o' := 1) hS rfl Try.underlying49 rfl rfl rfl) ?_; clear hS a; intro a hS
        refine q_take hS hR rfl rfl rfl rfl (y_loadBox1 (kk := 1303) hS rfl rfl rfl Try.underlying47 rfl) ?_; clear hS a; intro a hS
        refine q_take hS hR rfl rfl rfl rfl (y_move hS rfl) ?_; clear hS a; intro a hS
        refine q_take hS hR rfl rfl rfl rfl (y_boxField (o' := 0) hS rfl Try.underlying42 rfl rfl rfl) ?_; clear hS a; intro a hS
        refine q_take hS hR rfl rfl rfl rfl (y_loadBox1 (kk := 1602) hS rfl rfl rfl Try.underlying9 rfl) ?_; clear hS a; intro a hS
        refine q_take hS hR rfl rfl rfl rfl (y_boxField (o' := 1) hS rfl Try.underlying42 rfl rfl rfl) ?_; clear hS a; intro a hS
        refine q_take hS hR rfl rfl rfl rfl (y_loadBox1 (kk := 1602) hS rfl rfl rfl Try.underlying9 rfl) ?_; clear hS a; intro a hS
        refine l_take hS rfl rfl (l_callFn (cap := cu9a2) (x := (w_, x15.Old)) hS rfl (hS.fact (k := 106) rfl) rfl rfl ⟨rfl, (by first | omega | (rw [List.length_append]; omega) | (simp only [List.length_append]; omega) | (simp only [List.length_append, List.length_take, List.length_drop, List.length_cons, List.length_nil]; omega)), (by first | omega | (rw [List.length_append]; omega) | (simp only [List.length_append]; omega) | (simp only [List.length_append, List.length_take, List.length_drop, List.length_cons, List.length_nil]; omega))⟩ hr32 ?_); clear hS a; intro v38 a w hK hp hS
        replace hZ := Nat.le_trans hZ hK.size; refine ⟨fun g _ h => h.grow hK, ?_⟩; clear hK
        obtain ⟨rfl, lu39a1⟩ := hp
        refine l_take hS rfl rfl (l_callFn (cap := cu9a3) (x := (r32, x15.New)) hS rfl (hS.fact (k := 107) rfl) rfl rfl ⟨rfl, (by first | omega | (rw [List.length_append]; omega) | (simp only [List.length_append]; omega) | (simp only [List.length_append, List.length_take, List.length_drop, List.length_cons, List.length_nil]; omega)), (by first | omega | (rw [List.length_append]; omega) | (simp only [List.length_append]; omega) | (simp only [List.length_append, List.length_take, List.length_drop, List.length_cons, List.length_nil]; omega))⟩ hr35 ?_); clear hS a; intro v40 a w hK hp hS
        replace hZ := Nat.le_trans hZ hK.size; refine ⟨fun g _ h => h.grow hK, ?_⟩; clear hK
        obtain ⟨rfl, lu41a1⟩ := hp
        refine l_take hS rfl rfl (l_quiet hS rfl rfl (y_assign hS rfl) ?_); clear hS a; intro a hS; refine ⟨fun g _ h => h, ?_⟩
        clear hR hZ
        refine p_norm ?_
        apply wp_seq
        apply wp_seq
        replace hg := bind_some hg; obtain ⟨r42, hr42, hg⟩ := hg
        apply wp_region_lit
        refine q_seq hS rfl rfl rfl (y_move hS rfl) ?_; clear hS a; intro a hS
        refine l_seq rfl (l_call (cap := []) hS rfl Try.func28 rfl (by kernel_rfl) rfl rfl (c_text_Word n _ _ hS.lt r35 (by first | omega | (rw [List.length_append]; omega) | (simp only [List.length_append]; omega) | (simp only [List.length_append, List.length_take, List.length_drop, List.length_cons, List.length_nil]; omega)) r42 hr42) ?_); clear hS a; intro v45 a w hK hp hS
        clear hK
        obtain rfl := hp
        refine q_seq hS rfl rfl rfl (y_not hS rfl) ?_; clear hS a; intro a hS
        apply wpList_nil
        refine p_norm ?_
        refine c_cond hS rfl (fun hc47 => ?_) (fun hc47 => ?_)
        · replace hg := br_t hg hc47
          apply wp_seq
          apply wp_region_lit
          refine q_seq hS rfl rfl rfl (y_assign hS rfl) ?_; clear hS a; intro a hS
          refine q_seq hS rfl rfl rfl (y_assign hS rfl) ?_; clear hS a; intro a hS
          apply wpList_nil
          refine p_norm ?_
          apply wp_ret
          refine p_thenR ?_
          refine p_inR ?_
          refine p_thenR ?_
          refine p_thenR ?_
          refine p_inR ?_
          refine p_thenR ?_
          obtain rfl := Option.some.inj hg
          refine fin2 (fn := Try.f14) hS rfl (r_tmp hS rfl) (r_tmp hS rfl) ?_
          exact ⟨rfl, (by first | omega | (rw [List.length_append]; omega) | (simp only [List.length_append]; omega) | (simp only [List.length_append, List.length_take, List.length_drop, List.length_cons, List.length_nil]; omega))⟩
        · replace hg := br_f hg (by rw [hc47]; exact Bool.false_ne_true)
          apply wp_skip
          refine p_norm ?_
          apply wp_seq
          apply wp_region_lit
          refine q_seq hS rfl rfl rfl (y_move hS rfl) ?_; clear hS a; intro a hS
          refine q_seq hS rfl rfl rfl (y_assign hS rfl) ?_; clear hS a; intro a hS
          refine q_seq hS rfl rfl rfl (y_assign hS rfl) ?_; clear hS a; intro a hS
          apply wpList_nil
          refine p_norm ?_
          apply wp_ret
          refine p_inR ?_
          refine p_thenR ?_
          refine p_thenR ?_
          refine p_inR ?_
          refine p_thenR ?_
          obtain rfl := Option.some.inj hg
          refine fin2 (fn := Try.f14) hS rfl (r_tmp hS rfl) (r_tmp hS rfl) ?_
          exact ⟨rfl, (by first | omega | (rw [List.length_append]; omega) | (simp only [List.length_append]; omega) | (simp only [List.length_append, List.length_take, List.length_drop, List.length_cons, List.length_nil]; omega))⟩
      · replace hg := br_f hg (by rw [hc31]; exact Bool.false_ne_true)
        apply wp_skip
        refine p_inN ?_
        refine p_norm ?_
        apply wp_region_lit
        refine q_seq hS rfl rfl rfl (y_addN (i := t_11) (j := 1) hS rfl rfl (in64.2 (by omega))) ?_; clear hS a; intro a hS
        refine q_seq hS rfl rfl rfl (y_move hS rfl) ?_; clear hS a; intro a hS
        apply wpList_nil
        refine p_norm ?_
        exact ⟨m1, Nat.lt_succ_self _, ⟨(t_11 + 1), hg, (hS.sub ⟨rfl, rfl, rfl, rfl, rfl, trivial⟩ ⟨rfl, trivial⟩ ⟨rfl, rfl, rfl, rfl, trivial⟩)⟩⟩
    · replace hg := br_f hg hc12
      apply wp_exit
      refine p_then ?_
      refine p_then ?_
      refine p_in ?_
      refine p_norm ?_
      apply wp_seq
      apply wp_region_lit
      refine q_seq hS rfl rfl rfl (y_assign hS rfl) ?_; clear hS a; intro a hS
      refine q_seq hS rfl rfl rfl (y_assign hS rfl) ?_; clear hS a; intro a hS
      apply wpList_nil
      refine p_norm ?_
      apply wp_ret
      obtain rfl := Option.some.inj hg
      refine fin2 (fn := Try.f14) hS rfl (r_tmp hS rfl) (r_tmp hS rfl) ?_
      exact ⟨rfl, (by first | omega | (rw [List.length_append]; omega) | (simp only [List.length_append]; omega) | (simp only [List.length_append, List.length_take, List.length_drop, List.length_cons, List.length_nil]; omega))⟩
set_option maxHeartbeats 400000 in
theorem c_r01_Same (n : Nat) (M : Bs) (w0 : World) (hM : ∀ b, M b → b < w0.heap.size) (a_ : (List (List UInt8))) (Ap01 : Option Addr) (cp01 : Nat) (hp01 : SlR Rep.str M w0 Ap01 (a_).length cp01 (a_)) (b_ : (List (List UInt8))) (Ap11 : Option Addr) (cp11 : Nat) (hp11 : SlR Rep.str M w0 Ap11 (b_).length cp11 (b_)) (r : Bool) (hg : r01_Same n a_ b_ = some r) :
    Calls Try.prog 16 [.slice (Ap01) ((a_).length) (cp01), .slice (Ap11) ((b_).length) (cp11)].toArray w0 (Ret noB w0 fun v w => v = .bool (r)) := by
  unfold r01_Same at hg
  refine enter M noB Try.func16 rfl rfl hM ?_
  intro a hS
  replace hS := hS.add 101 (slF Rep.str (Ap01) ((a_).length) (cp01) (a_)) (by exact Fact.change _ enterM hp01)
  replace hS := hS.add 102 (slF Rep.str (Ap11) ((b_).length) (cp11) (b_)) (by exact Fact.change _ enterM hp11)
  apply wp_seq
  apply wp_region_lit
  refine q_seq hS rfl rfl rfl (y_assign hS rfl) ?_; clear hS a; intro a hS
  apply wpList_nil
  refine p_norm ?_
  apply wp_seq
  apply wp_seq
  apply wp_region_lit
  refine q_seq hS rfl rfl rfl (y_move hS rfl) ?_; clear hS a; intro a hS
  refine q_seq hS rfl rfl rfl (y_lenSlice hS rfl Try.underlying34) ?_; clear hS a; intro a hS
  refine q_seq hS rfl rfl rfl (y_move hS rfl) ?_; clear hS a; intro a hS
  refine q_seq hS rfl rfl rfl (y_lenSlice hS rfl Try.underlying34) ?_; clear hS a; intro a hS
  refine q_seq hS rfl rfl rfl (y_neqN (i := ((a_).length)) (j := ((b_).length)) hS rfl rfl) ?_; clear hS a; intro a hS
  apply wpList_nil
  refine p_norm ?_
  refine c_dec hS rfl (fun hc1 => ?_) (fun hc1 => ?_)
  · replace hg := br_t hg hc1
    apply wp_seq
    apply wp_region_lit
    refine q_seq hS rfl rfl rfl (y_assign hS rfl) ?_; clear hS a; intro a hS
    apply wpList_nil
    refine p_norm ?_
    apply wp_ret
    refine p_thenR ?_
    obtain rfl := Option.some.inj hg
    refine fin1 (fn := Try.f16) hS rfl (r_tmp hS rfl) ?_
    exact rfl
  · replace hg := br_f hg hc1
    apply wp_skip
    refine p_norm ?_
    apply wp_seq
    apply wp_seq
    apply wp_region_lit
    refine q_seq hS rfl rfl rfl (y_assign hS rfl) ?_; clear hS a; intro a hS
    apply wpList_nil
    refine p_norm ?_
    apply wp_block
    refine c_loop (σ := Nat) (fun m1 a w => ∃ (i_2 : Nat), r01_Same_L0 n a_ b_ m1 i_2 = some r ∧ St (⟨Try.f16.ntmps, M, noB, w0⟩ : Ctx) [(0, .slice (Ap01) ((a_).length) (cp01)), (1, .slice (Ap11) ((b_).length) (cp11)), (5, .int .i64 (((i_2 : Nat) : Int)))] [] [(101, slF Rep.str (Ap01) ((a_).length) (cp01) (a_)), (102, slF Rep.str (Ap11) ((b_).length) (cp11) (b_))] a w) (fun m1 => m1) n ⟨(0), hg, (hS.sub ⟨rfl, rfl, rfl, trivial⟩ trivial ⟨rfl, rfl, trivial⟩)⟩ ?_
    clear hS a; rintro m1 a w ⟨i_2, hg, hS⟩
    rcases m1 with _ | m1
    · rw [r01_Same_L0] at hg; cases hg
    rw [r01_Same_L0] at hg
    apply wp_seq
    apply wp_seq
    apply wp_region_lit
    refine q_seq hS rfl rfl rfl (y_move hS rfl) ?_; clear hS a; intro a hS
    refine q_seq hS rfl rfl rfl (y_move hS rfl) ?_; clear hS a; intro a hS
    refine q_seq hS rfl rfl rfl (y_lenSlice hS rfl Try.underlying34) ?_; clear hS a; intro a hS
    refine q_seq hS rfl rfl rfl (y_lssN (i := i_2) (j := ((a_).length)) hS rfl rfl) ?_; clear hS a; intro a hS
    apply wpList_nil
    refine p_norm ?_
    refine c_dec hS rfl (fun hc3 => ?_) (fun hc3 => ?_)
    · replace hg := br_t hg hc3
      have hmx4 := SlR.mx (hS.fact (k := 101) rfl)
      apply wp_skip
      refine p_norm ?_
      apply wp_seq
      apply wp_block
      apply wp_seq
      replace hg := bind_some hg; obtain ⟨x6, hx6, hg⟩ := hg
      replace hg := bind_some hg; obtain ⟨x9, hx9, hg⟩ := hg
      refine d_plan hS [] [(0, some 0), (1, some 0), (2, some 0), (3, some 0), (4, some 0), (5, some 0), (6, some 0), (7, some 0), (8, some 0)] rfl (by kernel_rfl) (by kernel_rfl) rfl ?_; clear hS; intro wr hZ hS; have hR := hS.wd
      refine q_take hS hR rfl rfl rfl rfl (y_move hS rfl) ?_; clear hS a; intro a hS
      refine q_take hS hR rfl rfl rfl rfl (y_move hS rfl) ?_; clear hS a; intro a hS
      obtain ⟨p11, hep11, hpp11⟩ := SlR.elemX (hS.fact (k := 101) rfl) hx6
      refine q_take hS hR rfl rfl rfl rfl (y_elem (sz := 1) (i := i_2) hS rfl rfl Try.underlying34 rfl hep11 rfl (lt_of_get hx6)) ?_; clear hS a; intro a hS
      obtain ⟨hlq12, hmq12, csq12, hdq12, hcq12⟩ := hpp11
      obtain ⟨rfl, lq121⟩ := hdq12
      refine q_take hS hR rfl rfl rfl rfl (y_ldp1 hS rfl hlq12 hmq12 (hcq12 0 _ rfl) Try.underlying9 rfl) ?_; clear hS a; intro a hS
      refine q_take hS hR rfl rfl rfl rfl (y_move hS rfl) ?_; clear hS a; intro a hS
      refine q_take hS hR rfl rfl rfl rfl (y_move hS rfl) ?_; clear hS a; intro a hS
      obtain ⟨p13, hep13, hpp13⟩ := SlR.elemX (hS.fact (k := 102) rfl) hx9
      refine q_take hS hR rfl rfl rfl rfl (y_elem (sz := 1) (i := i_2) hS rfl rfl Try.underlying34 rfl hep13 rfl (lt_of_get hx9)) ?_; clear hS a; intro a hS
      obtain ⟨hlq14, hmq14, csq14, hdq14, hcq14⟩ := hpp13
      obtain ⟨rfl, lq141⟩ := hdq14
      refine q_take hS hR rfl rfl rfl rfl (y_ldp1 hS rfl hlq14 hmq14 (hcq14 0 _ rfl) Try.underlying9 rfl) ?_; clear hS a; intro a hS
      refine q_take hS hR rfl rfl rfl rfl (y_sne hS rfl rfl) ?_; clear hS a; intro a hS
      clear hR hZ
      refine p_norm ?_
      refine c_dec hS rfl (fun hc15 => ?_) (fun hc15 => ?_)
      · replace hg := br_t hg hc15
        apply wp_seq
        apply wp_region_lit
        refine q_seq hS rfl rfl rfl (y_assign hS rfl) ?_; clear hS a; intro a hS
        apply wpList_nil
        refine p_norm ?_
        apply wp_ret
        refine p_inR ?_
        refine p_thenR ?_
        refine p_thenR ?_
        refine p_inR ?_
        refine p_thenR ?_
        obtain rfl := Option.some.inj hg
        refine fin1 (fn := Try.f16) hS rfl (r_tmp hS rfl) ?_
        exact rfl
      · replace hg := br_f hg hc15
        apply wp_skip
        refine p_inN ?_
        refine p_norm ?_
        apply wp_region_lit
        refine q_seq hS rfl rfl rfl (y_move hS rfl) ?_; clear hS a; intro a hS
        refine q_seq hS rfl rfl rfl (y_addN (i := i_2) (j := 1) hS rfl rfl (in64.2 (by omega))) ?_; clear hS a; intro a hS
        refine q_seq hS rfl rfl rfl (y_assign hS rfl) ?_; clear hS a; intro a hS
        apply wpList_nil
        refine p_norm ?_
        exact ⟨m1, Nat.lt_succ_self _, ⟨(i_2 + 1), hg, (hS.sub ⟨rfl, rfl, rfl, trivial⟩ trivial ⟨rfl, rfl, trivial⟩)⟩⟩
    · replace hg := br_f hg hc3
      apply wp_exit
      refine p_then ?_
      refine p_then ?_
      refine p_in ?_
      refine p_norm ?_
      apply wp_seq
      apply wp_region_lit
      refine q_seq hS rfl rfl rfl (y_assign hS rfl) ?_; clear hS a; intro a hS
      apply wpList_nil
      refine p_norm ?_
      apply wp_ret
      obtain rfl := Option.some.inj hg
      refine fin1 (fn := Try.f16) hS rfl (r_tmp hS rfl) ?_
      exact rfl
set_option maxHeartbeats 400000 in
theorem c_affix_Undo (n : Nat) (M : Bs) (w0 : World) (hM : ∀ b, M b → b < w0.heap.size) (t_ : Affix) (Ap02 : Option Addr) (cp02 : Nat) (hp02 : SlR RChange M w0 Ap02 (t_.Pairs).length cp02 (t_.Pairs)) (t_' : (List UInt8)) (lp11 : (t_').length ≤ 9223372036854775807) (r : (List (List UInt8))) (hg : affix_Undo n t_ t_' = some r) :
    Calls Try.prog 17 [.agg #[.int .i64 (t_.Kind), .slice (Ap02) ((t_.Pairs).length) (cp02)], .string (bs (t_'))].toArray w0 (Ret noB w0 fun v w => ∃ (Aa1 : Option Addr), ∃ (ca1 : Nat), v = .slice (Aa1) ((r).length) (ca1) ∧ (SlR Rep.str M w Aa1 (r).length ca1 (r))) := by
  unfold affix_Undo at hg
  refine enter M noB Try.func17 rfl rfl hM ?_
  intro a hS
  replace hS := hS.add 101 (slF RChange (Ap02) ((t_.Pairs).length) (cp02) (t_.Pairs)) (by exact Fact.change _ enterM hp02)
  apply wp_seq
  apply wp_region_lit
  refine l_seq rfl (l_box (zs := [.int .i64 (t_.Kind), .slice (Ap02) ((t_.Pairs).length) (cp02)]) hS 1000 rfl rfl rfl rfl ?_); clear hS a; intro b2 a w hb hK hS
  clear hb
  clear hK
  refine q_seq hS rfl rfl rfl (y_assign hS rfl) ?_; clear hS a; intro a hS
  apply wpList_nil
  refine p_norm ?_
  apply wp_seq
  apply wp_seq
  apply wp_region_lit
  refine q_seq hS rfl rfl rfl (y_boxField (o' := 0) hS rfl Try.underlying24 rfl rfl rfl) ?_; clear hS a; intro a hS
  refine q_seq hS rfl rfl rfl (y_loadBox1 (kk := 1000) hS rfl rfl rfl Try.underlying3 rfl) ?_; clear hS a; intro a hS
  refine q_seq hS rfl rfl rfl (y_eql hS rfl rfl) ?_; clear hS a; intro a hS
  apply wpList_nil
  refine p_norm ?_
  refine c_dec hS rfl (fun hc3 => ?_) (fun hc3 => ?_)
  · replace hg := br_t hg hc3
    apply wp_seq
    apply wp_region_lit
    refine q_seq hS rfl rfl rfl (y_move hS rfl) ?_; clear hS a; intro a hS
    refine l_seq rfl (l_buildDense (sz := 1) hS 1201 rfl rfl rfl Try.underlying34 rfl rfl rfl rfl rfl rfl rfl ?_); clear hS a; intro b5 a w hbb5 hK hS
    clear hbb5
    clear hK
    refine q_seq hS rfl rfl rfl (y_assign hS rfl) ?_; clear hS a; intro a hS
    apply wpList_nil
    refine p_norm ?_
    apply wp_ret
    refine p_thenR ?_
    obtain rfl := Option.some.inj hg
    refine fin1 (fn := Try.f17) hS rfl (r_tmp hS rfl) ?_
    replace hS := hS.add 102 (rdF Rep.str (cellsOfL [.string (bs (t_'))]) ([t_'])) (RdAll.cons (by exact ⟨rfl, (by first | omega | (rw [List.length_append]; omega) | (simp only [List.length_append]; omega) | (simp only [List.length_append, List.length_take, List.length_drop, List.length_cons, List.length_nil]; omega))⟩) (RdAll.nil _ _ _))
    exact ⟨(some ⟨b5, 0, none⟩), (1), rfl, (hS.rowOut (R := Rep.str) (kk := 1201) rfl rfl (hS.fact (k := 102) rfl))⟩
  · replace hg := br_f hg hc3
    apply wp_skip
    refine p_norm ?_
    apply wp_seq
    replace hg := bind_some hg; obtain ⟨r6, hr6, hg⟩ := hg
    apply wp_region_lit
    refine q_seq hS rfl rfl rfl (y_boxField (o' := 0) hS rfl Try.underlying24 rfl rfl rfl) ?_; clear hS a; intro a hS
    refine q_seq hS rfl rfl rfl (y_loadBox1 (kk := 1000) hS rfl rfl rfl Try.underlying3 rfl) ?_; clear hS a; intro a hS
    refine l_seq rfl (l_call (cap := []) hS rfl Try.func27 rfl (by kernel_rfl) rfl rfl (c_affix_sideOf n _ _ hS.lt t_.Kind r6 hr6) ?_); clear hS a; intro v10 a w hK hp hS
    clear hK
    obtain ⟨Au11a1, cu11a1, Au11a2, cu11a2, Au11a3, cu11a3, rfl, hu11a1, hu11a2, hu11a3⟩ := hp
    replace hS := hS.add 106 (fnF Try.prog Au11a1 cu11a1 pre46 post46 (r6.fits_)) hu11a1
    replace hS := hS.add 107 (fnF Try.prog Au11a2 cu11a2 pre47 post47 (r6.remove_)) hu11a2
    replace hS := hS.add 108 (fnF Try.prog Au11a3 cu11a3 pre47 post47 (r6.add_)) hu11a3
    refine l_seq rfl (l_alloc (zs := [.nilFunc, .nilFunc, .nilFunc]) hS 1303 rfl rfl rfl rfl ?_); clear hS a; intro b12 a w hb hK hS
    clear hb
    clear hK
    refine l_seq rfl (l_store (n := 3) (cs' := [.func (.func Au11a1) #[] (List.toArray cu11a1), .func (.func Au11a2) #[] (List.toArray cu11a2), .func (.func Au11a3) #[] (List.toArray cu11a3)]) hS 1303 rfl rfl rfl rfl rfl rfl rfl rfl ?_); clear hS; intro w hK hS; clear hK
    apply wpList_nil
    refine p_norm ?_
    apply wp_seq
    apply wp_region_lit
    refine q_seq hS rfl rfl rfl (y_assign hS rfl) ?_; clear hS a; intro a hS
    apply wpList_nil
    refine p_norm ?_
    apply wp_seq
    apply wp_seq
    apply wp_region_lit
    refine q_seq hS rfl rfl rfl (y_boxField (o' := 1) hS rfl Try.underlying24 rfl rfl rfl) ?_; clear hS a; intro a hS
    refine q_seq hS rfl rfl rfl (y_loadBox1 (kk := 1000) hS rfl rfl rfl Try.underlying22 rfl) ?_; clear hS a; intro a hS
    refine q_seq hS rfl rfl rfl (y_lenSlice hS rfl Try.underlying22) ?_; clear hS a; intro a hS
    refine q_seq hS rfl rfl rfl (y_move hS rfl) ?_; clear hS a; intro a hS
    apply wpList_nil
    refine p_norm ?_
    replace hg := jn_some hg; obtain ⟨k13, hg, hk13⟩ := hg
    refine c_post (fun a w => ∃ (t_14 : (List (List UInt8))), ∃ (A15 : Option Addr), ∃ (c16 : Nat), ∃ (cs17 : List Value), k13 t_14 = some r ∧ St (⟨Try.f17.ntmps, M, noB, w0⟩ : Ctx) [(6, .slice (A15) ((t_14).length) (c16))] [(700109, Ob.row (A15) ((t_14).length) (c16) 9 1 (cs17))] [(110, rdF Rep.str (cs17) (t_14))] a w) ?_ ?_
    · apply wp_block
      replace hS := hS.nilRow 700111 9 1 rfl
      replace hS := hS.add 112 (rdF Rep.str [] []) (RdAll.nil _ _ _)
      refine c_loop (σ := Nat) (fun m1 a w => ∃ (t_18 : (List (List UInt8))), ∃ (t_22 : Nat), ∃ (A19 : Option Addr), ∃ (c20 : Nat), ∃ (cs21 : List Value), affix_Undo_L0 n t_ t_' r6 k13 m1 t_18 t_22 = some r ∧ St (⟨Try.f17.ntmps, M, noB, w0⟩ : Ctx) [(1, .string (bs (t_'))), (2, .pointer (some ⟨b2, 0, none⟩)), (5, .pointer (some ⟨b12, 0, none⟩)), (6, .slice (A19) ((t_18).length) (c20)), (21, .slice (Ap02) ((t_.Pairs).length) (cp02)), (22, .int .i64 ((((t_.Pairs).length : Nat) : Int))), (23, .int .i64 (((t_22 : Nat) : Int)))] [(1000, Ob.box b2 [.int .i64 (t_.Kind), .slice (Ap02) ((t_.Pairs).length) (cp02)] 24), (1303, Ob.box b12 [.func (.func Au11a1) #[] (List.toArray cu11a1), .func (.func Au11a2) #[] (List.toArray cu11a2), .func (.func Au11a3) #[] (List.toArray cu11a3)] 49), (700111, Ob.row (A19) ((t_18).length) (c20) 9 1 (cs21))] [(101, slF RChange (Ap02) ((t_.Pairs).length) (cp02) (t_.Pairs)), (106, fnF Try.prog Au11a1 cu11a1 pre46 post46 (r6.fits_)), (107, fnF Try.prog Au11a2 cu11a2 pre47 post47 (r6.remove_)), (108, fnF Try.prog Au11a3 cu11a3 pre47 post47 (r6.add_)), (112, rdF Rep.str (cs21) (t_18))] a w) (fun m1 => m1) n ⟨([]), (0), (none), (0), ([]), hg, (hS.sub ⟨rfl, rfl, rfl, rfl, rfl, rfl, rfl, trivial⟩ ⟨rfl, rfl, rfl, trivial⟩ ⟨rfl, rfl, rfl, rfl, rfl, trivial⟩)⟩ ?_
      clear hS a; rintro m1 a w ⟨t_18, t_22, A19, c20, cs21, hg, hS⟩
      rcases m1 with _ | m1
      · rw [affix_Undo_L0] at hg; cases hg
      rw [affix_Undo_L0] at hg
      apply wp_seq
      apply wp_region_lit
      refine q_seq hS rfl rfl rfl (y_lssN (i := t_22) (j := ((t_.Pairs).length)) hS rfl rfl) ?_; clear hS a; intro a hS
      apply wpList_nil
      refine p_norm ?_
      apply wp_seq
      refine c_dec hS rfl (fun hc23 => ?_) (fun hc23 => ?_)
      · replace hg := br_t hg hc23
        have hmx24 := SlR.mx (hS.fact (k := 101) rfl)
        apply wp_skip
        refine p_norm ?_
        apply wp_seq
        apply wp_block
        apply wp_seq
        replace hg := bind_some hg; obtain ⟨x26, hx26, hg⟩ := hg
        apply wp_region_lit
        obtain ⟨p29, hep29, hpp29⟩ := SlR.elemX (hS.fact (k := 101) rfl) hx26
        refine q_seq hS rfl rfl rfl (y_elem (sz := 2) (i := t_22) hS rfl rfl Try.underlying22 rfl hep29 rfl (lt_of_get hx26)) ?_; clear hS a; intro a hS
        obtain ⟨hlq30, hmq30, csq30, hdq30, hcq30⟩ := hpp29
        obtain ⟨rfl, lq301, lq302⟩ := RChange.open hdq30
        refine q_seq hS rfl rfl rfl (y_ldp hS rfl hlq30 hmq30 (by simpa using hcq30) Try.underlying42 rfl rfl) ?_; clear hS a; intro a hS
        refine l_seq rfl (l_alloc (zs := [.string (bs ([])), .string (bs ([]))]) hS 1702 rfl rfl rfl rfl ?_); clear hS a; intro b31 a w hb hK hS
        clear hb
        clear hK
        refine l_seq rfl (l_store (n := 2) (cs' := [.string (bs (x26.Old)), .string (bs (x26.New))]) hS 1702 rfl rfl rfl rfl rfl rfl rfl rfl ?_); clear hS; intro w hK hS; clear hK
        apply wpList_nil
        refine p_norm ?_
        apply wp_seq
        apply wp_seq
        replace hg := bind_some hg; obtain ⟨r32, hr32, hg⟩ := hg
        apply wp_region_lit
        refine q_seq hS rfl rfl rfl (y_boxField (o' := 0) hS rfl Try.underlying49 rfl rfl rfl) ?_; clear hS a; intro a hS
        refine q_seq hS rfl rfl rfl (y_loadBox1 (kk := 1303) hS rfl rfl rfl Try.underlying46 rfl) ?_; clear hS a; intro a hS
        refine q_seq hS rfl rfl rfl (y_move hS rfl) ?_; clear hS a; intro a hS
        refine q_seq hS rfl rfl rfl (y_boxField (o' := 1) hS rfl Try.underlying42 rfl rfl rfl) ?_; clear hS a; intro a hS
        refine q_seq hS rfl rfl rfl (y_loadBox1 (kk := 1702) hS rfl rfl rfl Try.underlying9 rfl) ?_; clear hS a; intro a hS
        refine l_seq rfl (l_callFn (cap := cu11a1) (x := (t_', x26.New)) hS rfl (hS.fact (k := 106) rfl) rfl rfl ⟨rfl, (by first | omega | (rw [List.length_append]; omega) | (simp only [List.length_append]; omega) | (simp only [List.length_append, List.length_take, List.length_drop, List.length_cons, List.length_nil]; omega)), (by first | omega | (rw [List.length_append]; omega) | (simp only [List.length_append]; omega) | (simp only [List.length_append, List.length_take, List.length_drop, List.length_cons, List.length_nil]; omega))⟩ hr32 ?_); clear hS a; intro v35 a w hK hp hS
        clear hK
        obtain rfl := hp
        refine q_seq hS rfl rfl rfl (y_not hS rfl) ?_; clear hS a; intro a hS
        apply wpList_nil
        refine p_norm ?_
        refine c_cond hS rfl (fun hc37 => ?_) (fun hc37 => ?_)
        · replace hg := br_t hg hc37
          apply wp_exit
          refine p_then ?_
          refine p_in ?_
          refine p_norm ?_
          apply wp_region_lit
          refine q_seq hS rfl rfl rfl (y_addN (i := t_22) (j := 1) hS rfl rfl (in64.2 (by omega))) ?_; clear hS a; intro a hS
          refine q_seq hS rfl rfl rfl (y_move hS rfl) ?_; clear hS a; intro a hS
          apply wpList_nil
          refine p_norm ?_
          replace hS := hS.add 112 (rdF Rep.str (cs21) (t_18)) (hS.fact (k := 112) rfl)
          exact ⟨m1, Nat.lt_succ_self _, ⟨(t_18), (t_22 + 1), (A19), (c20), (cs21), hg, (hS.sub ⟨rfl, rfl, rfl, rfl, rfl, rfl, rfl, trivial⟩ ⟨rfl, rfl, rfl, trivial⟩ ⟨rfl, rfl, rfl, rfl, rfl, trivial⟩)⟩⟩
        · replace hg := br_f hg (by rw [hc37]; exact Bool.false_ne_true)
          apply wp_skip
          refine p_norm ?_
          apply wp_seq
          replace hg := bind_some hg; obtain ⟨r38, hr38, hg⟩ := hg
          replace hg := bind_some hg; obtain ⟨r41, hr41, hg⟩ := hg
          refine d_plan hS [] [(0, some 0), (1, some 1303), (2, some 0), (3, some 1303), (4, some 0), (5, some 0), (6, some 1702), (8, some 0), (9, some 1702), (7, none), (10, none), (11, none)] rfl (by kernel_rfl) (by kernel_rfl) rfl ?_; clear hS; intro wr hZ hS; have hR := hS.wd
          refine q_take hS hR rfl rfl rfl rfl (y_boxField (o' := 2) hS rfl Try.underlying49 rfl rfl rfl) ?_; clear hS a; intro a hS
          refine q_take hS hR rfl rfl rfl rfl (y_loadBox1 (kk := 1303) hS rfl rfl rfl Try.underlying47 rfl) ?_; clear hS a; intro a hS
          refine q_take hS hR rfl rfl rfl rfl (y_boxField (o' := 1) hS rfl Try.underlying49 rfl rfl rfl) ?_; clear hS a; intro a hS
          refine q_take hS hR rfl rfl rfl rfl (y_loadBox1 (kk := 1303) hS rfl rfl rfl Try.underlying47 rfl) ?_; clear hS a; intro a hS
          refine q_take hS hR rfl rfl rfl rfl (y_move hS rfl) ?_; clear hS a; intro a hS
          refine q_take hS hR rfl rfl rfl rfl (y_boxField (o' := 1) hS rfl Try.underlying42 rfl rfl rfl) ?_; clear hS a; intro a hS
          refine q_take hS hR rfl rfl rfl rfl (y_loadBox1 (kk := 1702) hS rfl rfl rfl Try.underlying9 rfl) ?_; clear hS a; intro a hS
          refine q_take hS hR rfl rfl rfl rfl (y_boxField (o' := 0) hS rfl Try.underlying42 rfl rfl rfl) ?_; clear hS a; intro a hS
          refine q_take hS hR rfl rfl rfl rfl (y_loadBox1 (kk := 1702) hS rfl rfl rfl Try.underlying9 rfl) ?_; clear hS a; intro a hS
          refine l_take hS rfl rfl (l_callFn (cap := cu11a2) (x := (t_', x26.New)) hS rfl (hS.fact (k := 107) rfl) rfl rfl ⟨rfl, (by first | omega | (rw [List.length_append]; omega) | (simp only [List.length_append]; omega) | (simp only [List.length_append, List.length_take, List.length_drop, List.length_cons, List.length_nil]; omega)), (by first | omega | (rw [List.length_append]; omega) | (simp only [List.length_append]; omega) | (simp only [List.length_append, List.length_take, List.length_drop, List.length_cons, List.length_nil]; omega))⟩ hr38 ?_); clear hS a; intro v44 a w hK hp hS
          replace hZ := Nat.le_trans hZ hK.size; refine ⟨fun g _ h => h.grow hK, ?_⟩; clear hK
          obtain ⟨rfl, lu45a1⟩ := hp
          refine l_take hS rfl rfl (l_callFn (cap := cu11a3) (x := (r38, x26.Old)) hS rfl (hS.fact (k := 108) rfl) rfl rfl ⟨rfl, (by first | omega | (rw [List.length_append]; omega) | (simp only [List.length_append]; omega) | (simp only [List.length_append, List.length_take, List.length_drop, List.length_cons, List.length_nil]; omega)), (by first | omega | (rw [List.length_append]; omega) | (simp only [List.length_append]; omega) | (simp only [List.length_append, List.length_take, List.length_drop, List.length_cons, List.length_nil]; omega))⟩ hr41 ?_); clear hS a; intro v46 a w hK hp hS
          replace hZ := Nat.le_trans hZ hK.size; refine ⟨fun g _ h => h.grow hK, ?_⟩; clear hK
          obtain ⟨rfl, lu47a1⟩ := hp
          refine l_take hS rfl rfl (l_quiet hS rfl rfl (y_assign hS rfl) ?_); clear hS a; intro a hS; refine ⟨fun g _ h => h, ?_⟩
          clear hR hZ
          refine p_norm ?_
          apply wp_seq
          replace hg := bind_some hg; obtain ⟨r48, hr48, hg⟩ := hg
          apply wp_region_lit
          refine q_seq hS rfl rfl rfl (y_loadBox (kk := 1000) (n := 2) (vs := [.int .i64 (t_.Kind), .slice (Ap02) ((t_.Pairs).length) (cp02)]) hS rfl rfl Try.underlying24 rfl rfl rfl rfl) ?_; clear hS a; intro a hS
          refine q_seq hS rfl rfl rfl (y_move hS rfl) ?_; clear hS a; intro a hS
          refine l_seq rfl (l_call (cap := []) hS rfl Try.func14 rfl (by kernel_rfl) rfl rfl (c_affix_Apply n _ _ hS.lt t_ (Ap02) (cp02) (hS.fact (k := 101) rfl) r41 (by first | omega | (rw [List.length_append]; omega) | (simp only [List.length_append]; omega) | (simp only [List.length_append, List.length_take, List.length_drop, List.length_cons, List.length_nil]; omega)) r48 hr48) ?_); clear hS a; intro v51 a w hK hp hS
          clear hK
          obtain ⟨rfl, lu52a1⟩ := hp
          refine q_seq hS rfl rfl rfl (y_move hS rfl) ?_; clear hS a; intro a hS
          refine q_seq hS rfl rfl rfl (y_extract hS rfl rfl) ?_; clear hS a; intro a hS
          refine q_seq hS rfl rfl rfl (y_extract hS rfl rfl) ?_; clear hS a; intro a hS
          refine q_seq hS rfl rfl rfl (y_assign hS rfl) ?_; clear hS a; intro a hS
          refine q_seq hS rfl rfl rfl (y_assign hS rfl) ?_; clear hS a; intro a hS
          apply wpList_nil
          refine p_norm ?_
          apply wp_seq
          replace hg := jn_some hg; obtain ⟨k53, hg, hk53⟩ := hg
          refine c_post (fun a w => ∃ (t_54 : Bool), k53 t_54 = some r ∧ St (⟨Try.f17.ntmps, M, noB, w0⟩ : Ctx) [(1, .string (bs (t_'))), (2, .pointer (some ⟨b2, 0, none⟩)), (5, .pointer (some ⟨b12, 0, none⟩)), (6, .slice (A19) ((t_18).length) (c20)), (9, .string (bs (r41))), (21, .slice (Ap02) ((t_.Pairs).length) (cp02)), (22, .int .i64 ((((t_.Pairs).length : Nat) : Int))), (23, .int .i64 (((t_22 : Nat) : Int))), (60, .bool (t_54))] [(1000, Ob.box b2 [.int .i64 (t_.Kind), .slice (Ap02) ((t_.Pairs).length) (cp02)] 24), (1303, Ob.box b12 [.func (.func Au11a1) #[] (List.toArray cu11a1), .func (.func Au11a2) #[] (List.toArray cu11a2), .func (.func Au11a3) #[] (List.toArray cu11a3)] 49), (700111, Ob.row (A19) ((t_18).length) (c20) 9 1 (cs21))] [(101, slF RChange (Ap02) ((t_.Pairs).length) (cp02) (t_.Pairs)), (106, fnF Try.prog Au11a1 cu11a1 pre46 post46 (r6.fits_)), (107, fnF Try.prog Au11a2 cu11a2 pre47 post47 (r6.remove_)), (108, fnF Try.prog Au11a3 cu11a3 pre47 post47 (r6.add_)), (112, rdF Rep.str (cs21) (t_18))] a w) ?_ ?_
          · replace hg := bind_some hg; obtain ⟨r55, hr55, hg⟩ := hg
            rcases Bool.eq_false_or_eq_true (r55) with hs58 | hs58
            · replace hg := br_t hg hs58
              rcases Bool.eq_false_or_eq_true (r48.2) with hs59 | hs59
              · replace hg := br_t hg hs59
                apply wp_region_lit
                refine q_seq hS rfl rfl rfl (y_move hS rfl) ?_; clear hS a; intro a hS
                refine l_seq rfl (l_call (cap := []) hS rfl Try.func28 rfl (by kernel_rfl) rfl rfl (c_text_Word n _ _ hS.lt r41 (by first | omega | (rw [List.length_append]; omega) | (simp only [List.length_append]; omega) | (simp only [List.length_append, List.length_take, List.length_drop, List.length_cons, List.length_nil]; omega)) r55 hr55) ?_); clear hS a; intro v60 a w hK hp hS
                clear hK
                obtain rfl := hp.trans (congrArg Value.bool hs58)
                refine q_seq hS rfl rfl rfl (y_move hS rfl) ?_; clear hS a; intro a hS
                refine g_yes hS rfl rfl rfl rfl (l_quiet hS rfl rfl (yl_b (y_move hS rfl) hs59) ?_); clear hS a; intro a hS
                refine q_seq hS rfl rfl rfl (y_pick_t hS rfl rfl) ?_; clear hS a; intro a hS
                refine q_seq hS rfl rfl rfl (y_move hS rfl) ?_; clear hS a; intro a hS
                refine g_yes hS rfl rfl rfl rfl (l_quiet hS rfl rfl (y_move hS rfl) ?_); clear hS a; intro a hS
                refine g_yes hS rfl rfl rfl rfl (l_quiet hS rfl rfl (y_move hS rfl) ?_); clear hS a; intro a hS
                refine g_yes hS rfl rfl rfl rfl (l_quiet hS rfl rfl (y_seq hS rfl rfl) ?_); clear hS a; intro a hS
                refine q_seq hS rfl rfl rfl (y_pick_t hS rfl rfl) ?_; clear hS a; intro a hS
                apply wpList_nil
                refine p_norm ?_
                exact ⟨(decide ((r48.1 : List UInt8) = t_')), hg, (hS.sub ⟨rfl, rfl, rfl, rfl, rfl, rfl, rfl, rfl, rfl, trivial⟩ ⟨rfl, rfl, rfl, trivial⟩ ⟨rfl, rfl, rfl, rfl, rfl, trivial⟩)⟩
              · replace hg := br_f hg (by rw [hs59]; exact Bool.false_ne_true)
                apply wp_region_lit
                refine q_seq hS rfl rfl rfl (y_move hS rfl) ?_; clear hS a; intro a hS
                refine l_seq rfl (l_call (cap := []) hS rfl Try.func28 rfl (by kernel_rfl) rfl rfl (c_text_Word n _ _ hS.lt r41 (by first | omega | (rw [List.length_append]; omega) | (simp only [List.length_append]; omega) | (simp only [List.length_append, List.length_take, List.length_drop, List.length_cons, List.length_nil]; omega)) r55 hr55) ?_); clear hS a; intro v62 a w hK hp hS
                clear hK
                obtain rfl := hp.trans (congrArg Value.bool hs58)
                refine q_seq hS rfl rfl rfl (y_move hS rfl) ?_; clear hS a; intro a hS
                refine g_yes hS rfl rfl rfl rfl (l_quiet hS rfl rfl (yl_b (y_move hS rfl) hs59) ?_); clear hS a; intro a hS
                refine q_seq hS rfl rfl rfl (y_pick_t hS rfl rfl) ?_; clear hS a; intro a hS
                refine q_seq hS rfl rfl rfl (y_move hS rfl) ?_; clear hS a; intro a hS
                refine g_no hS rfl rfl rfl rfl rfl rfl rfl ?_; clear hS a; intro a hS
                refine g_no hS rfl rfl rfl rfl rfl rfl rfl ?_; clear hS a; intro a hS
                refine g_no hS rfl rfl rfl rfl rfl rfl rfl ?_; clear hS a; intro a hS
                refine q_seq hS rfl rfl rfl (y_pick_f hS rfl rfl) ?_; clear hS a; intro a hS
                apply wpList_nil
                refine p_norm ?_
                exact ⟨(false), hg, (hS.sub ⟨rfl, rfl, rfl, rfl, rfl, rfl, rfl, rfl, rfl, trivial⟩ ⟨rfl, rfl, rfl, trivial⟩ ⟨rfl, rfl, rfl, rfl, rfl, trivial⟩)⟩
            · replace hg := br_f hg (by rw [hs58]; exact Bool.false_ne_true)
              apply wp_region_lit
              refine q_seq hS rfl rfl rfl (y_move hS rfl) ?_; clear hS a; intro a hS
              refine l_seq rfl (l_call (cap := []) hS rfl Try.func28 rfl (by kernel_rfl) rfl rfl (c_text_Word n _ _ hS.lt r41 (by first | omega | (rw [List.length_append]; omega) | (simp only [List.length_append]; omega) | (simp only [List.length_append, List.length_take, List.length_drop, List.length_cons, List.length_nil]; omega)) r55 hr55) ?_); clear hS a; intro v64 a w hK hp hS
              clear hK
              obtain rfl := hp.trans (congrArg Value.bool hs58)
              refine q_seq hS rfl rfl rfl (y_move hS rfl) ?_; clear hS a; intro a hS
              refine g_no hS rfl rfl rfl rfl rfl rfl rfl ?_; clear hS a; intro a hS
              refine q_seq hS rfl rfl rfl (y_pick_f hS rfl rfl) ?_; clear hS a; intro a hS
              refine q_seq hS rfl rfl rfl (y_move hS rfl) ?_; clear hS a; intro a hS
              refine g_no hS rfl rfl rfl rfl rfl rfl rfl ?_; clear hS a; intro a hS
              refine g_no hS rfl rfl rfl rfl rfl rfl rfl ?_; clear hS a; intro a hS
              refine g_no hS rfl rfl rfl rfl rfl rfl rfl ?_; clear hS a; intro a hS
              refine q_seq hS rfl rfl rfl (y_pick_f hS rfl rfl) ?_; clear hS a; intro a hS
              apply wpList_nil
              refine p_norm ?_
              exact ⟨(false), hg, (hS.sub ⟨rfl, rfl, rfl, rfl, rfl, rfl, rfl, rfl, rfl, trivial⟩ ⟨rfl, rfl, rfl, trivial⟩ ⟨rfl, rfl, rfl, rfl, rfl, trivial⟩)⟩
          clear hS a; rintro a w ⟨t_54, hg, hS⟩
          subst hk53
          refine c_cond hS rfl (fun hc66 => ?_) (fun hc66 => ?_)
          · replace hg := br_t hg hc66
            replace hg := chk_some hg; obtain ⟨hk68, hg⟩ := hg
            apply wp_region_lit
            refine q_seq hS rfl rfl rfl (y_move hS rfl) ?_; clear hS a; intro a hS
            refine q_seq hS rfl rfl rfl (y_move hS rfl) ?_; clear hS a; intro a hS
            refine l_seq rfl (l_buildDense (sz := 1) hS 2202 rfl rfl rfl Try.underlying34 rfl rfl rfl rfl rfl rfl rfl ?_); clear hS a; intro b71 a w hbb71 hK hS
            clear hbb71
            clear hK
            replace hS := hS.add 115 (rdF Rep.str (cellsOfL [.string (bs (r41))]) ([r41])) (RdAll.cons (by exact ⟨rfl, (by first | omega | (rw [List.length_append]; omega) | (simp only [List.length_append]; omega) | (simp only [List.length_append, List.length_take, List.length_drop, List.length_cons, List.length_nil]; omega))⟩) (RdAll.nil _ _ _))
            have hs73 := row_src (hS.wd.holds 2202 _ rfl) (RdAll.one (hS.fact (k := 115) rfl))
            refine l_seq rfl (l_append (sz := 1) (by_ := 16) (N := (t_18 ++ [r41]).length) (ys := cs21 ++ (cellsOfL [.string (bs (r41))])) hS 700111 rfl rfl rfl Try.underlying34 rfl rfl rfl rfl rfl hs73 (by simp) rfl (by have hr := hk68; clear hg; first | omega | (simp only [List.length_append, List.length_cons, List.length_nil] at hr ⊢; omega) | (simp at hr ⊢; omega)) (by have hr := hk68; clear hg; first | omega | (simp only [List.length_append, List.length_cons, List.length_nil] at hr ⊢; omega) | (simp at hr ⊢; omega)) rfl ?_); clear hS a; intro Aq72 cq72 a w hA hK hS
            clear hK hA
            replace hS := hS.add 116 (rdF Rep.str (cs21 ++ (cellsOfL [.string (bs (r41))])) (t_18 ++ [r41])) (RdAll.append (hS.fact (k := 112) rfl) (hS.fact (k := 115) rfl))
            refine q_seq hS rfl rfl rfl (y_assign hS rfl) ?_; clear hS a; intro a hS
            apply wpList_nil
            refine p_inN ?_
            refine p_norm ?_
            apply wp_region_lit
            refine q_seq hS rfl rfl rfl (y_addN (i := t_22) (j := 1) hS rfl rfl (in64.2 (by omega))) ?_; clear hS a; intro a hS
            refine q_seq hS rfl rfl rfl (y_move hS rfl) ?_; clear hS a; intro a hS
            apply wpList_nil
            refine p_norm ?_
            replace hS := hS.add 112 (rdF Rep.str (cs21 ++ (cellsOfL [.string (bs (r41))])) (t_18 ++ [r41])) (hS.fact (k := 116) rfl)
            exact ⟨m1, Nat.lt_succ_self _, ⟨(t_18 ++ [r41]), (t_22 + 1), (Aq72), (cq72), (cs21 ++ (cellsOfL [.string (bs (r41))])), hg, (hS.sub ⟨rfl, rfl, rfl, rfl, rfl, rfl, rfl, trivial⟩ ⟨rfl, rfl, rfl, trivial⟩ ⟨rfl, rfl, rfl, rfl, rfl, trivial⟩)⟩⟩
          · replace hg := br_f hg (by rw [hc66]; exact Bool.false_ne_true)
            apply wp_skip
            refine p_inN ?_
            refine p_norm ?_
            apply wp_region_lit
            refine q_seq hS rfl rfl rfl (y_addN (i := t_22) (j := 1) hS rfl rfl (in64.2 (by omega))) ?_; clear hS a; intro a hS
            refine q_seq hS rfl rfl rfl (y_move hS rfl) ?_; clear hS a; intro a hS
            apply wpList_nil
            refine p_norm ?_
            replace hS := hS.add 112 (rdF Rep.str (cs21) (t_18)) (hS.fact (k := 112) rfl)
            exact ⟨m1, Nat.lt_succ_self _, ⟨(t_18), (t_22 + 1), (A19), (c20), (cs21), hg, (hS.sub ⟨rfl, rfl, rfl, rfl, rfl, rfl, rfl, trivial⟩ ⟨rfl, rfl, rfl, trivial⟩ ⟨rfl, rfl, rfl, rfl, rfl, trivial⟩)⟩⟩
      · replace hg := br_f hg hc23
        apply wp_exit
        refine p_then ?_
        refine p_then ?_
        refine p_in ?_
        refine p_norm ?_
        replace hS := hS.add 110 (rdF Rep.str (cs21) (t_18)) (hS.fact (k := 112) rfl)
        replace hS := hS.ren [(1000, Ob.box b2 [.int .i64 (t_.Kind), .slice (Ap02) ((t_.Pairs).length) (cp02)] 24), (1303, Ob.box b12 [.func (.func Au11a1) #[] (List.toArray cu11a1), .func (.func Au11a2) #[] (List.toArray cu11a2), .func (.func Au11a3) #[] (List.toArray cu11a3)] 49), (700109, Ob.row (A19) ((t_18).length) (c20) 9 1 (cs21))] [1000, 1303, 700111] ⟨rfl, rfl, rfl, trivial⟩ (by decide)
        exact ⟨(t_18), (A19), (c20), (cs21), hg, (hS.sub ⟨rfl, trivial⟩ ⟨rfl, trivial⟩ ⟨rfl, trivial⟩)⟩
    clear hS a; rintro a w ⟨t_14, A15, c16, cs17, hg, hS⟩
    subst hk13
    apply wp_seq
    replace hg := bind_some hg; obtain ⟨r74, hr74, hg⟩ := hg
    apply wp_region_lit
    refine q_seq hS rfl rfl rfl (y_move hS rfl) ?_; clear hS a; intro a hS
    have hT := hS.ren [(9200000, Ob.row (A15) ((t_14).length) (c16) 9 1 (cs17))] [700109] ⟨rfl, trivial⟩ (by decide)
    replace hT := hT.add 9300000 (rdF Rep.str (cs17) (t_14)) (hT.fact (k := 110) rfl)
    refine l_seq rfl (l_callMut (cap := []) hT [(9200000, Ob.row (A15) ((t_14).length) (c16) 9 1 (cs17))] [] ⟨rfl, trivial⟩ trivial rfl rfl Try.func31 rfl (by kernel_rfl) rfl rfl (c_slices_Sort_string n _ _ (hT.lendLt (L' := []) trivial) _ t_14 (A15) (c16) (cs17) (hT.wd.lendL [(9200000, Ob.row (A15) ((t_14).length) (c16) 9 1 (cs17))] [] [(9300000, rdF Rep.str (cs17) (t_14))] ⟨rfl, trivial⟩ trivial rfl ⟨rfl, trivial⟩) r74 hr74) ?_); intro v77 a' w' hK hp hF
    obtain ⟨csm0_0u78, rfl, hWu78⟩ := hp
    have hS2 := St.mk hF (hT.wd.back (Lsub := [(9200000, Ob.row (A15) ((t_14).length) (c16) 9 1 (cs17))]) (Lrest := []) ⟨rfl, trivial⟩ trivial rfl hWu78 rfl)
    clear hS hT hF hWu78 hK; revert hS2; revert w'; revert a'; intro a w hS
    replace hS := hS.add 118 (rdF Rep.str (csm0_0u78) (r74)) (hS.fact (k := 9300000) rfl)
    replace hS := hS.ren [(700109, Ob.row (A15) ((t_14).length) (c16) 9 1 (csm0_0u78))] [9200000] ⟨rfl, trivial⟩ (by decide)
    apply wpList_nil
    refine p_norm ?_
    apply wp_seq
    replace hg := bind_some hg; obtain ⟨r79, hr79, hg⟩ := hg
    apply wp_region_lit
    refine q_seq hS rfl rfl rfl (y_move hS rfl) ?_; clear hS a; intro a hS
    have hT := hS.ren [(9200000, Ob.row (A15) ((t_14).length) (c16) 9 1 (csm0_0u78))] [700109] ⟨rfl, trivial⟩ (by decide)
    replace hT := hT.add 9300000 (rdF Rep.str (csm0_0u78) (r74)) (hT.fact (k := 118) rfl)
    refine l_seq rfl (l_callMut (cap := []) hT [(9200000, Ob.row (A15) ((t_14).length) (c16) 9 1 (csm0_0u78))] [] ⟨rfl, trivial⟩ trivial rfl rfl Try.func32 rfl (by kernel_rfl) rfl rfl (c_slices_Compact_string n _ _ (hT.lendLt (L' := []) trivial) _ r74 (A15) (c16) (csm0_0u78) (hT.wd.lendL [(9200000, Ob.row (A15) ((t_14).length) (c16) 9 1 (csm0_0u78))] [] [(9300000, rdF Rep.str (csm0_0u78) (r74))] ⟨rfl, trivial⟩ trivial rfl ⟨rfl, trivial⟩) r79 hr79) ?_); intro v82 a' w' hK hp hF
    obtain ⟨Aou83, cou83, csou83, rfl, hWu83⟩ := hp
    have hS2 := St.mk hF (hT.wd.back (Lsub := [(9200000, Ob.row (A15) ((t_14).length) (c16) 9 1 (csm0_0u78))]) (Lrest := []) ⟨rfl, trivial⟩ trivial rfl hWu83 rfl)
    clear hS hT hF hWu83 hK; revert hS2; revert w'; revert a'; intro a w hS
    replace hS := hS.add 120 (rdF Rep.str (csou83) (r79)) (hS.fact (k := 9300000) rfl)
    replace hS := hS.ren [(700109, Ob.row (Aou83) ((r79).length) (cou83) 9 1 (csou83))] [9200000] ⟨rfl, trivial⟩ (by decide)
    refine q_seq hS rfl rfl rfl (y_assign hS rfl) ?_; clear hS a; intro a hS
    apply wpList_nil
    refine p_norm ?_
    apply wp_ret
    obtain rfl := Option.some.inj hg
    refine fin1 (fn := Try.f17) hS rfl (r_tmp hS rfl) ?_
    exact ⟨(Aou83), (cou83), rfl, (hS.rowOut (R := Rep.str) (kk := 700109) rfl rfl (hS.fact (k := 120) rfl))⟩
set_option maxHeartbeats 400000 in
theorem c_slices_Clone_string (n : Nat) (M : Bs) (w0 : World) (hM : ∀ b, M b → b < w0.heap.size) (s_ : (List (List UInt8))) (Ap01 : Option Addr) (cp01 : Nat) (hp01 : SlR Rep.str M w0 Ap01 (s_).length cp01 (s_)) (r : (List (List UInt8))) (hg : slices_Clone_string n s_ = some r) :
    Calls Try.prog 34 [.slice (Ap01) ((s_).length) (cp01)].toArray w0 (Ret noB w0 fun v w => ∃ (Ao : Option Addr), ∃ (co : Nat), ∃ (cso : List Value), v = .slice (Ao) ((r).length) (co) ∧ ((Ob.row Ao (r).length co 9 1 cso).holds w) ∧ (∀ b, (Ob.row Ao (r).length co 9 1 cso).ids b → w0.heap.size ≤ b) ∧ (RdAll Rep.str (fun b => M b ∨ (Ob.row Ao (r).length co 9 1 cso).ids b) w cso (r))) := by
  unfold slices_Clone_string at hg
  refine enter M noB Try.func34 rfl rfl hM ?_
  intro a hS
  replace hS := hS.add 101 (slF Rep.str (Ap01) ((s_).length) (cp01) (s_)) (by exact Fact.change _ enterM hp01)
  apply wp_seq
  apply wp_region_lit
  refine q_seq hS rfl rfl rfl (y_assign hS rfl) ?_; clear hS a; intro a hS
  apply wpList_nil
  refine p_norm ?_
  apply wp_seq
  apply wp_seq
  apply wp_region_lit
  refine q_seq hS rfl rfl rfl (y_move hS rfl) ?_; clear hS a; intro a hS
  refine q_seq hS rfl rfl rfl (y_slnil hS rfl rfl Try.underlying34) ?_; clear hS a; intro a hS
  apply wpList_nil
  refine p_norm ?_
  refine c_cond hS rfl (fun hc1 => ?_) (fun hc1 => ?_)
  · have hnil := SlR.nil0 (hS.fact (k := 101) rfl) (by simpa using hc1)
    replace hg : (some []) = some r := by have h0 := hg; rw [hnil] at h0; simpa [chk] using h0
    apply wp_seq
    apply wp_region_lit
    refine q_seq hS rfl rfl rfl (y_assign hS rfl) ?_; clear hS a; intro a hS
    apply wpList_nil
    refine p_norm ?_
    apply wp_ret
    refine p_thenR ?_
    obtain rfl := Option.some.inj hg
    refine fin1 (fn := Try.f34) hS rfl (r_tmp hS rfl) ?_
    exact ⟨none, 0, [], rfl, (World.ownsRow_nil _ 0 9 1), (fun b hb => by obtain ⟨p, hp, _⟩ := hb; cases hp), RdAll.nil _ _ _⟩
  · apply wp_skip
    refine p_norm ?_
    apply wp_seq
    replace hg := chk_some hg; obtain ⟨hk3, hg⟩ := hg
    apply wp_region_lit
    refine l_seq rfl (l_buildEmpty (sz := 1) hS 1300 Try.underlying34 rfl rfl rfl ?_); clear hS a; intro b6 a w hbb6 hK hS
    clear hbb6
    clear hK
    refine q_seq hS rfl rfl rfl (y_move hS rfl) ?_; clear hS a; intro a hS
    replace hS := hS.add 105 (rdF Rep.str ([]) ([])) (RdAll.nil _ _ _)
    obtain ⟨ns8, hs8, hns8⟩ := SlR.src (hS.fact (k := 101) rfl)
    replace hS := hS.add 106 (rdF Rep.str ns8 (s_)) hns8
    refine l_seq rfl (l_append (sz := 1) (by_ := 16) (N := (s_).length) (ys := ns8) hS 1300 rfl rfl rfl Try.underlying34 rfl rfl rfl rfl rfl hs8 (by simp) rfl (by have hr := hk3; clear hg; first | omega | (simp only [List.length_append, List.length_cons, List.length_nil] at hr ⊢; omega) | (simp at hr ⊢; omega)) (by have hr := hk3; clear hg; first | omega | (simp only [List.length_append, List.length_cons, List.length_nil] at hr ⊢; omega) | (simp at hr ⊢; omega)) rfl ?_); clear hS a; intro Aq7 cq7 a w hA hK hS
    clear hK hA
    replace hS := hS.add 107 (rdF Rep.str (ns8) (s_)) (hS.fact (k := 106) rfl)
    refine q_seq hS rfl rfl rfl (y_assign hS rfl) ?_; clear hS a; intro a hS
    apply wpList_nil
    refine p_norm ?_
    apply wp_ret
    obtain rfl := Option.some.inj hg
    refine fin1 (fn := Try.f34) hS rfl (r_tmp hS rfl) ?_
    exact ⟨(Aq7), (cq7), (ns8), rfl, (hS.wd.holds 1300 _ rfl), (row_new hS (kk := 1300) rfl rfl), (RdAll.own hS (kk := 1300) rfl (hS.fact (k := 107) rfl))⟩
set_option maxHeartbeats 400000 in
theorem c_affix_Words (n : Nat) (M : Bs) (w0 : World) (hM : ∀ b, M b → b < w0.heap.size) (a_ : Affix) (Ap02 : Option Addr) (cp02 : Nat) (hp02 : SlR RChange M w0 Ap02 (a_.Pairs).length cp02 (a_.Pairs)) (w_ : (List (List UInt8))) (Ap11 : Option Addr) (cp11 : Nat) (hp11 : SlR Rep.str M w0 Ap11 (w_).length cp11 (w_)) (r : ((List (List UInt8)) × Bool)) (hg : affix_Words n a_ w_ = some r) :
    Calls Try.prog 20 [.agg #[.int .i64 (a_.Kind), .slice (Ap02) ((a_.Pairs).length) (cp02)], .slice (Ap11) ((w_).length) (cp11)].toArray w0 (Ret noB w0 fun v w => ∃ (Aa1 : Option Addr), ∃ (ca1 : Nat), v = .tuple #[.slice (Aa1) ((r.1).length) (ca1), .bool (r.2)] ∧ (SlR Rep.str M w Aa1 (r.1).length ca1 (r.1))) := by
  unfold affix_Words at hg
  refine enter M noB Try.func20 rfl rfl hM ?_
  intro a hS
  replace hS := hS.add 101 (slF RChange (Ap02) ((a_.Pairs).length) (cp02) (a_.Pairs)) (by exact Fact.change _ enterM hp02)
  replace hS := hS.add 102 (slF Rep.str (Ap11) ((w_).length) (cp11) (w_)) (by exact Fact.change _ enterM hp11)
  apply wp_seq
  apply wp_region_lit
  refine l_seq rfl (l_box (zs := [.int .i64 (a_.Kind), .slice (Ap02) ((a_.Pairs).length) (cp02)]) hS 1000 rfl rfl rfl rfl ?_); clear hS a; intro b2 a w hb hK hS
  clear hb
  clear hK
  refine q_seq hS rfl rfl rfl (y_assign hS rfl) ?_; clear hS a; intro a hS
  refine q_seq hS rfl rfl rfl (y_assign hS rfl) ?_; clear hS a; intro a hS
  apply wpList_nil
  refine p_norm ?_
  apply wp_seq
  apply wp_seq
  apply wp_region_lit
  refine q_seq hS rfl rfl rfl (y_boxField (o' := 0) hS rfl Try.underlying24 rfl rfl rfl) ?_; clear hS a; intro a hS
  refine q_seq hS rfl rfl rfl (y_loadBox1 (kk := 1000) hS rfl rfl rfl Try.underlying3 rfl) ?_; clear hS a; intro a hS
  refine q_seq hS rfl rfl rfl (y_eql hS rfl rfl) ?_; clear hS a; intro a hS
  apply wpList_nil
  refine p_norm ?_
  refine c_dec hS rfl (fun hc3 => ?_) (fun hc3 => ?_)
  · replace hg := br_t hg hc3
    apply wp_seq
    apply wp_region_lit
    refine q_seq hS rfl rfl rfl (y_move hS rfl) ?_; clear hS a; intro a hS
    refine q_seq hS rfl rfl rfl (y_assign hS rfl) ?_; clear hS a; intro a hS
    refine q_seq hS rfl rfl rfl (y_assign hS rfl) ?_; clear hS a; intro a hS
    apply wpList_nil
    refine p_norm ?_
    apply wp_ret
    refine p_thenR ?_
    obtain rfl := Option.some.inj hg
    refine fin2 (fn := Try.f20) hS rfl (r_tmp hS rfl) (r_tmp hS rfl) ?_
    exact ⟨(Ap11), (cp11), rfl, (hS.out (k := 102) rfl)⟩
  · replace hg := br_f hg hc3
    apply wp_skip
    refine p_norm ?_
    apply wp_seq
    apply wp_region_lit
    refine q_seq hS rfl rfl rfl (y_move hS rfl) ?_; clear hS a; intro a hS
    refine q_seq hS rfl rfl rfl (y_lenSlice hS rfl Try.underlying34) ?_; clear hS a; intro a hS
    have hmx4 := SlR.mx (hS.fact (k := 102) rfl)
    refine q_seq hS rfl rfl rfl (y_sub hS rfl rfl (in64.2 (by omega))) ?_; clear hS a; intro a hS
    refine q_seq hS rfl rfl rfl (y_assign hS rfl) ?_; clear hS a; intro a hS
    apply wpList_nil
    refine p_norm ?_
    apply wp_seq
    apply wp_seq
    apply wp_region_lit
    refine q_seq hS rfl rfl rfl (y_boxField (o' := 0) hS rfl Try.underlying24 rfl rfl rfl) ?_; clear hS a; intro a hS
    refine q_seq hS rfl rfl rfl (y_loadBox1 (kk := 1000) hS rfl rfl rfl Try.underlying3 rfl) ?_; clear hS a; intro a hS
    refine q_seq hS rfl rfl rfl (y_eql hS rfl rfl) ?_; clear hS a; intro a hS
    apply wpList_nil
    refine p_norm ?_
    replace hg := jn_some hg; obtain ⟨k5, hg, hk5⟩ := hg
    refine c_post (fun a w => ∃ (at_6 : Int), k5 at_6 = some r ∧ St (⟨Try.f20.ntmps, M, noB, w0⟩ : Ctx) [(1, .slice (Ap11) ((w_).length) (cp11)), (2, .pointer (some ⟨b2, 0, none⟩)), (6, .int .i64 (at_6))] [(1000, Ob.box b2 [.int .i64 (a_.Kind), .slice (Ap02) ((a_.Pairs).length) (cp02)] 24)] [(101, slF RChange (Ap02) ((a_.Pairs).length) (cp02) (a_.Pairs)), (102, slF Rep.str (Ap11) ((w_).length) (cp11) (w_))] a w) ?_ ?_
    · refine c_dec hS rfl (fun hc7 => ?_) (fun hc7 => ?_)
      · replace hg := br_t hg hc7
        apply wp_region_lit
        refine q_seq hS rfl rfl rfl (y_assign hS rfl) ?_; clear hS a; intro a hS
        apply wpList_nil
        refine p_norm ?_
        exact ⟨(0), hg, (hS.sub ⟨rfl, rfl, rfl, trivial⟩ ⟨rfl, trivial⟩ ⟨rfl, rfl, trivial⟩)⟩
      · replace hg := br_f hg hc7
        apply wp_skip
        refine p_norm ?_
        exact ⟨((((w_).length : Nat) : Int) - 1), hg, (hS.sub ⟨rfl, rfl, rfl, trivial⟩ ⟨rfl, trivial⟩ ⟨rfl, rfl, trivial⟩)⟩
    clear hS a; rintro a w ⟨at_6, hg, hS⟩
    subst hk5
    apply wp_seq
    replace hg := bind_some hg; obtain ⟨x9, hx9, hg⟩ := hg
    replace hg := bind_some hg; obtain ⟨r11, hr11, hg⟩ := hg
    refine d_steps hS [] rfl ?_; clear hS; intro wr hZ hS; have hR := hS.wd
    refine n_q 0 1000 hS hR rfl (by kernel_rfl) (by kernel_rfl) (by kernel_rfl) rfl rfl rfl (y_loadBox (kk := 1000) (n := 2) (vs := [.int .i64 (a_.Kind), .slice (Ap02) ((a_.Pairs).length) (cp02)]) hS rfl rfl Try.underlying24 rfl rfl rfl rfl) ?_; clear hS a; intro a hS
    refine n_q 1 0 hS hR rfl (by kernel_rfl) (by kernel_rfl) (by kernel_rfl) rfl rfl rfl (y_move hS rfl) ?_; clear hS a; intro a hS
    refine n_q 2 0 hS hR rfl (by kernel_rfl) (by kernel_rfl) (by kernel_rfl) rfl rfl rfl (y_move hS rfl) ?_; clear hS a; intro a hS
    obtain ⟨p14, hep14, hpp14⟩ := SlR.elemX (hS.fact (k := 102) rfl) (ix_some hx9).1
    refine n_q 3 0 hS hR rfl (by kernel_rfl) (by kernel_rfl) (by kernel_rfl) rfl rfl rfl (y_elem (sz := 1) (i := ((at_6).toNat)) hS rfl rfl Try.underlying34 rfl hep14 (ix_some hx9).2.1 (lt_of_get (ix_some hx9).1)) ?_; clear hS a; intro a hS
    obtain ⟨hlq15, hmq15, csq15, hdq15, hcq15⟩ := hpp14
    obtain ⟨rfl, lq151⟩ := hdq15
    refine n_q 4 0 hS hR rfl (by kernel_rfl) (by kernel_rfl) (by kernel_rfl) rfl rfl rfl (y_ldp1 hS rfl hlq15 hmq15 (hcq15 0 _ rfl) Try.underlying9 rfl) ?_; clear hS a; intro a hS
    refine n_1 5 hS (by kernel_rfl) rfl rfl (l_call (cap := []) hS rfl Try.func14 rfl (by kernel_rfl) rfl rfl (c_affix_Apply n _ _ hS.lt a_ (Ap02) (cp02) (hS.fact (k := 101) rfl) x9 (by first | omega | (rw [List.length_append]; omega) | (simp only [List.length_append]; omega) | (simp only [List.length_append, List.length_take, List.length_drop, List.length_cons, List.length_nil]; omega)) r11 hr11) ?_); clear hS a; intro v16 a w hK hp hS
    replace hZ := Nat.le_trans hZ hK.size; refine ⟨fun g _ h => h.grow hK, ?_⟩; clear hK
    obtain ⟨rfl, lu17a1⟩ := hp
    refine n_1 6 hS (by kernel_rfl) rfl rfl (l_quiet hS rfl rfl (y_move hS rfl) ?_); clear hS a; intro a hS; refine ⟨fun g _ h => h, ?_⟩
    refine n_2 7 8 hS (by kernel_rfl) rfl rfl rfl rfl ?_ ?_
    · refine l_quiet hS rfl rfl (y_extract hS rfl rfl) ?_; clear hS a; intro a hS; refine ⟨fun g _ h => h, ?_⟩
      refine n_2 8 9 hS (by kernel_rfl) rfl rfl rfl rfl ?_ ?_
      · refine l_quiet hS rfl rfl (y_extract hS rfl rfl) ?_; clear hS a; intro a hS; refine ⟨fun g _ h => h, ?_⟩
        refine n_1 9 hS (by kernel_rfl) rfl rfl (l_quiet hS rfl rfl (y_assign hS rfl) ?_); clear hS a; intro a hS; refine ⟨fun g _ h => h, ?_⟩
        refine n_1 10 hS (by kernel_rfl) rfl rfl (l_quiet hS rfl rfl (y_assign hS rfl) ?_); clear hS a; intro a hS; refine ⟨fun g _ h => h, ?_⟩
        refine n_end (by kernel_rfl) ?_; clear hR hZ
        refine p_norm ?_
        apply wp_seq
        apply wp_seq
        apply wp_region_lit
        refine q_seq hS rfl rfl rfl (y_move hS rfl) ?_; clear hS a; intro a hS
        refine q_seq hS rfl rfl rfl (y_not hS rfl) ?_; clear hS a; intro a hS
        apply wpList_nil
        refine p_norm ?_
        refine c_cond hS rfl (fun hc18 => ?_) (fun hc18 => ?_)
        · replace hg := br_t hg hc18
          apply wp_seq
          apply wp_region_lit
          refine q_seq hS rfl rfl rfl (y_assign hS rfl) ?_; clear hS a; intro a hS
          refine q_seq hS rfl rfl rfl (y_assign hS rfl) ?_; clear hS a; intro a hS
          apply wpList_nil
          refine p_norm ?_
          apply wp_ret
          refine p_thenR ?_
          obtain rfl := Option.some.inj hg
          refine fin2 (fn := Try.f20) hS rfl (r_tmp hS rfl) (r_tmp hS rfl) ?_
          exact ⟨(none), (0), rfl, (SlR.nil_ _ _ _)⟩
        · replace hg := br_f hg (by rw [hc18]; exact Bool.false_ne_true)
          apply wp_skip
          refine p_norm ?_
          apply wp_seq
          replace hg := bind_some hg; obtain ⟨r19, hr19, hg⟩ := hg
          apply wp_region_lit
          refine q_seq hS rfl rfl rfl (y_move hS rfl) ?_; clear hS a; intro a hS
          refine l_seq rfl (l_callOwn (cap := []) (post := (fun v ob w' => ∃ Ao co cso, ob = Ob.row Ao (r19).length co 9 1 cso ∧ v = .slice (Ao) ((r19).length) (co) ∧ RdAll Rep.str (fun b => mtb _ _ b ∨ ob.ids b) w' cso (r19))) hS 1901 rfl rfl Try.func34 rfl (by kernel_rfl) rfl rfl ((c_slices_Clone_string n _ _ hS.lt w_ (Ap11) (cp11) (hS.fact (k := 102) rfl) r19 hr19).mono (fun e w' h => by obtain ⟨v, he, hk, Ao, co, cso, hv, ho1, ho2, ho3⟩ := h; exact ⟨v, he, hk, _, ho1, ho2, ⟨Ao, co, cso, rfl, hv, ho3⟩⟩)) ?_); clear hS a; intro v23 ob a w hK hp hS
          obtain ⟨Au22, cu22, csu22, rfl, rfl, hou22⟩ := hp
          clear hK
          replace hS := hS.add 104 (rdF Rep.str csu22 (r19)) (RdAll.up2 hS hou22)
          refine q_seq hS rfl rfl rfl (y_assign hS rfl) ?_; clear hS a; intro a hS
          apply wpList_nil
          refine p_norm ?_
          apply wp_seq
          replace hg := bind_some hg; obtain ⟨x25, hx25, hg⟩ := hg
          apply wp_region_lit
          refine q_seq hS rfl rfl rfl (y_move hS rfl) ?_; clear hS a; intro a hS
          refine q_seq hS rfl rfl rfl (y_move hS rfl) ?_; clear hS a; intro a hS
          refine q_seq hS rfl rfl rfl (y_move hS rfl) ?_; clear hS a; intro a hS
          obtain ⟨hiq26, bq26, hAq26⟩ := SlR.row1 (hS.wd.holds 1901 _ rfl) (hS.fact (k := 104) rfl) rfl rfl (ix_some hx25).1
          refine q_seq hS rfl rfl rfl (y_rowIndex (sz := 1) (i := ((at_6).toNat)) hS rfl rfl Try.underlying34 rfl hAq26 (ix_some hx25).2.1 hiq26) ?_; clear hS a; intro a hS
          have hzi := lt_of_get (ix_some hx25).1
          have hzn := rowN (hS.wd.holds 1901 _ rfl) (hS.fact (k := 104) rfl) rfl rfl
          have hzf : ((at_6).toNat) * 1 + 1 ≤ ((r19).length) * 1 := by have := Nat.mul_le_mul_right 1 (Nat.succ_le_of_lt hzi); omega
          refine l_seq rfl (l_storeRow (N := 1) (cs' := splice (csu22) (((at_6).toNat) * 1) [.string (bs (r11.1))]) hS 1901 rfl rfl rfl hAq26 rfl rfl hzf rfl rfl ?_); clear hS; intro w hK hS; clear hK
          replace hS := hS.sub (l' := [(1, .slice (Ap11) ((w_).length) (cp11)), (2, .pointer (some ⟨b2, 0, none⟩)), (6, .int .i64 (at_6)), (7, .string (bs (r11.1))), (8, .bool (r11.2)), (9, .slice (Au22) ((r19).length) (cu22)), (20, .tuple #[.string (bs (r11.1)), .bool (r11.2)]), (21, .agg #[.int .i64 (a_.Kind), .slice (Ap02) ((a_.Pairs).length) (cp02)]), (22, .slice (Ap11) ((w_).length) (cp11)), (23, .int .i64 (at_6)), (24, .pointer (some (p14.add 0))), (25, .string (bs (x9))), (26, .tuple #[.string (bs (r11.1)), .bool (r11.2)]), (27, .string (bs (r11.1))), (28, .bool (r11.2)), (29, .bool (r11.2)), (30, .bool (!(r11.2))), (31, .slice (Ap11) ((w_).length) (cp11)), (32, .slice (Au22) ((r19).length) (cu22)), (33, .slice (Au22) ((r19).length) (cu22)), (34, .int .i64 (at_6)), (35, .string (bs (r11.1))), (36, .pointer (some ⟨bq26, ((at_6).toNat) * 1, none⟩))]) (L' := [(1000, Ob.box b2 [.int .i64 (a_.Kind), .slice (Ap02) ((a_.Pairs).length) (cp02)] 24), (1901, Ob.row (Au22) ((r19).length) (cu22) 9 1 (splice (csu22) (((at_6).toNat) * 1) [.string (bs (r11.1))]))]) (D' := [(101, slF RChange (Ap02) ((a_.Pairs).length) (cp02) (a_.Pairs)), (102, slF Rep.str (Ap11) ((w_).length) (cp11) (w_)), (104, rdF Rep.str (csu22) (r19))]) ⟨rfl, rfl, rfl, rfl, rfl, rfl, rfl, rfl, rfl, rfl, rfl, rfl, rfl, rfl, rfl, rfl, rfl, rfl, rfl, rfl, rfl, rfl, rfl, trivial⟩ ⟨rfl, rfl, trivial⟩ ⟨rfl, rfl, rfl, trivial⟩
          replace hS := hS.eqs (l' := [(1, .slice (Ap11) ((w_).length) (cp11)), (2, .pointer (some ⟨b2, 0, none⟩)), (6, .int .i64 (at_6)), (7, .string (bs (r11.1))), (8, .bool (r11.2)), (9, .slice (Au22) (((r19).set ((at_6).toNat) r11.1).length) (cu22)), (20, .tuple #[.string (bs (r11.1)), .bool (r11.2)]), (21, .agg #[.int .i64 (a_.Kind), .slice (Ap02) ((a_.Pairs).length) (cp02)]), (22, .slice (Ap11) ((w_).length) (cp11)), (23, .int .i64 (at_6)), (24, .pointer (some (p14.add 0))), (25, .string (bs (x9))), (26, .tuple #[.string (bs (r11.1)), .bool (r11.2)]), (27, .string (bs (r11.1))), (28, .bool (r11.2)), (29, .bool (r11.2)), (30, .bool (!(r11.2))), (31, .slice (Ap11) ((w_).length) (cp11)), (32, .slice (Au22) (((r19).set ((at_6).toNat) r11.1).length) (cu22)), (33, .slice (Au22) (((r19).set ((at_6).toNat) r11.1).length) (cu22)), (34, .int .i64 (at_6)), (35, .string (bs (r11.1))), (36, .pointer (some ⟨bq26, ((at_6).toNat) * 1, none⟩))]) (L' := [(1000, Ob.box b2 [.int .i64 (a_.Kind), .slice (Ap02) ((a_.Pairs).length) (cp02)] 24), (1901, Ob.row (Au22) (((r19).set ((at_6).toNat) r11.1).length) (cu22) 9 1 (splice (csu22) (((at_6).toNat) * 1) [.string (bs (r11.1))]))]) (by simp only [List.length_set]) (by simp only [List.length_set])
          replace hS := hS.add 106 (rdF Rep.str (splice (csu22) (((at_6).toNat) * 1) [.string (bs (r11.1))]) ((r19).set ((at_6).toNat) r11.1)) (RdAll.put (hS.fact (k := 104) rfl) ⟨rfl, (by first | omega | (rw [List.length_append]; omega) | (simp only [List.length_append]; omega) | (simp only [List.length_append, List.length_take, List.length_drop, List.length_cons, List.length_nil]; omega))⟩ hzi)
          apply wpList_nil
          refine p_norm ?_
          apply wp_seq
          apply wp_region_lit
          refine q_seq hS rfl rfl rfl (y_move hS rfl) ?_; clear hS a; intro a hS
          refine q_seq hS rfl rfl rfl (y_assign hS rfl) ?_; clear hS a; intro a hS
          refine q_seq hS rfl rfl rfl (y_assign hS rfl) ?_; clear hS a; intro a hS
          apply wpList_nil
          refine p_norm ?_
          apply wp_ret
          obtain rfl := Option.some.inj hg
          refine fin2 (fn := Try.f20) hS rfl (r_tmp hS rfl) (r_tmp hS rfl) ?_
          exact ⟨(Au22), (cu22), rfl, (hS.rowOut (R := Rep.str) (kk := 1901) rfl rfl (hS.fact (k := 106) rfl))⟩
      · refine l_quiet hS rfl rfl (y_assign hS rfl) ?_; clear hS a; intro a hS; refine ⟨fun g _ h => h, ?_⟩
        refine n_1 8 hS (by kernel_rfl) rfl rfl (l_quiet hS rfl rfl (y_extract hS rfl rfl) ?_); clear hS a; intro a hS; refine ⟨fun g _ h => h, ?_⟩
        refine n_1 10 hS (by kernel_rfl) rfl rfl (l_quiet hS rfl rfl (y_assign hS rfl) ?_); clear hS a; intro a hS; refine ⟨fun g _ h => h, ?_⟩
        refine n_end (by kernel_rfl) ?_; clear hR hZ
        refine p_norm ?_
        apply wp_seq
        apply wp_seq
        apply wp_region_lit
        refine q_seq hS rfl rfl rfl (y_move hS rfl) ?_; clear hS a; intro a hS
        refine q_seq hS rfl rfl rfl (y_not hS rfl) ?_; clear hS a; intro a hS
        apply wpList_nil
        refine p_norm ?_
        refine c_cond hS rfl (fun hc27 => ?_) (fun hc27 => ?_)
        · replace hg := br_t hg hc27
          apply wp_seq
          apply wp_region_lit
          refine q_seq hS rfl rfl rfl (y_assign hS rfl) ?_; clear hS a; intro a hS
          refine q_seq hS rfl rfl rfl (y_assign hS rfl) ?_; clear hS a; intro a hS
          apply wpList_nil
          refine p_norm ?_
          apply wp_ret
          refine p_thenR ?_
          obtain rfl := Option.some.inj hg
          refine fin2 (fn := Try.f20) hS rfl (r_tmp hS rfl) (r_tmp hS rfl) ?_
          exact ⟨(none), (0), rfl, (SlR.nil_ _ _ _)⟩
        · replace hg := br_f hg (by rw [hc27]; exact Bool.false_ne_true)
          apply wp_skip
          refine p_norm ?_
          apply wp_seq
          replace hg := bind_some hg; obtain ⟨r28, hr28, hg⟩ := hg
          apply wp_region_lit
          refine q_seq hS rfl rfl rfl (y_move hS rfl) ?_; clear hS a; intro a hS
          refine l_seq rfl (l_callOwn (cap := []) (post := (fun v ob w' => ∃ Ao co cso, ob = Ob.row Ao (r28).length co 9 1 cso ∧ v = .slice (Ao) ((r28).length) (co) ∧ RdAll Rep.str (fun b => mtb _ _ b ∨ ob.ids b) w' cso (r28))) hS 1901 rfl rfl Try.func34 rfl (by kernel_rfl) rfl rfl ((c_slices_Clone_string n _ _ hS.lt w_ (Ap11) (cp11) (hS.fact (k := 102) rfl) r28 hr28).mono (fun e w' h => by obtain ⟨v, he, hk, Ao, co, cso, hv, ho1, ho2, ho3⟩ := h; exact ⟨v, he, hk, _, ho1, ho2, ⟨Ao, co, cso, rfl, hv, ho3⟩⟩)) ?_); clear hS a; intro v32 ob a w hK hp hS
          obtain ⟨Au31, cu31, csu31, rfl, rfl, hou31⟩ := hp
          clear hK
          replace hS := hS.add 108 (rdF Rep.str csu31 (r28)) (RdAll.up2 hS hou31)
          refine q_seq hS rfl rfl rfl (y_assign hS rfl) ?_; clear hS a; intro a hS
          apply wpList_nil
          refine p_norm ?_
          apply wp_seq
          replace hg := bind_some hg; obtain ⟨x34, hx34, hg⟩ := hg
          apply wp_region_lit
          refine q_seq hS rfl rfl rfl (y_move hS rfl) ?_; clear hS a; intro a hS
          refine q_seq hS rfl rfl rfl (y_move hS rfl) ?_; clear hS a; intro a hS
          refine q_seq hS rfl rfl rfl (y_move hS rfl) ?_; clear hS a; intro a hS
          obtain ⟨hiq35, bq35, hAq35⟩ := SlR.row1 (hS.wd.holds 1901 _ rfl) (hS.fact (k := 108) rfl) rfl rfl (ix_some hx34).1
          refine q_seq hS rfl rfl rfl (y_rowIndex (sz := 1) (i := ((at_6).toNat)) hS rfl rfl Try.underlying34 rfl hAq35 (ix_some hx34).2.1 hiq35) ?_; clear hS a; intro a hS
          have hzi := lt_of_get (ix_some hx34).1
          have hzn := rowN (hS.wd.holds 1901 _ rfl) (hS.fact (k := 108) rfl) rfl rfl
          have hzf : ((at_6).toNat) * 1 + 1 ≤ ((r28).length) * 1 := by have := Nat.mul_le_mul_right 1 (Nat.succ_le_of_lt hzi); omega
          refine l_seq rfl (l_storeRow (N := 1) (cs' := splice (csu31) (((at_6).toNat) * 1) [.string (bs (r11.1))]) hS 1901 rfl rfl rfl hAq35 rfl rfl hzf rfl rfl ?_); clear hS; intro w hK hS; clear hK
          replace hS := hS.sub (l' := [(1, .slice (Ap11) ((w_).length) (cp11)), (2, .pointer (some ⟨b2, 0, none⟩)), (6, .int .i64 (at_6)), (7, .string (bs (r11.1))), (8, .bool (r11.2)), (9, .slice (Au31) ((r28).length) (cu31)), (20, .tuple #[.string (bs (r11.1)), .bool (r11.2)]), (21, .agg #[.int .i64 (a_.Kind), .slice (Ap02) ((a_.Pairs).length) (cp02)]), (22, .slice (Ap11) ((w_).length) (cp11)), (23, .int .i64 (at_6)), (24, .pointer (some (p14.add 0))), (25, .string (bs (x9))), (26, .tuple #[.string (bs (r11.1)), .bool (r11.2)]), (27, .string (bs (r11.1))), (28, .bool (r11.2)), (29, .bool (r11.2)), (30, .bool (!(r11.2))), (31, .slice (Ap11) ((w_).length) (cp11)), (32, .slice (Au31) ((r28).length) (cu31)), (33, .slice (Au31) ((r28).length) (cu31)), (34, .int .i64 (at_6)), (35, .string (bs (r11.1))), (36, .pointer (some ⟨bq35, ((at_6).toNat) * 1, none⟩))]) (L' := [(1000, Ob.box b2 [.int .i64 (a_.Kind), .slice (Ap02) ((a_.Pairs).length) (cp02)] 24), (1901, Ob.row (Au31) ((r28).length) (cu31) 9 1 (splice (csu31) (((at_6).toNat) * 1) [.string (bs (r11.1))]))]) (D' := [(101, slF RChange (Ap02) ((a_.Pairs).length) (cp02) (a_.Pairs)), (102, slF Rep.str (Ap11) ((w_).length) (cp11) (w_)), (108, rdF Rep.str (csu31) (r28))]) ⟨rfl, rfl, rfl, rfl, rfl, rfl, rfl, rfl, rfl, rfl, rfl, rfl, rfl, rfl, rfl, rfl, rfl, rfl, rfl, rfl, rfl, rfl, rfl, trivial⟩ ⟨rfl, rfl, trivial⟩ ⟨rfl, rfl, rfl, trivial⟩
          replace hS := hS.eqs (l' := [(1, .slice (Ap11) ((w_).length) (cp11)), (2, .pointer (some ⟨b2, 0, none⟩)), (6, .int .i64 (at_6)), (7, .string (bs (r11.1))), (8, .bool (r11.2)), (9, .slice (Au31) (((r28).set ((at_6).toNat) r11.1).length) (cu31)), (20, .tuple #[.string (bs (r11.1)), .bool (r11.2)]), (21, .agg #[.int .i64 (a_.Kind), .slice (Ap02) ((a_.Pairs).length) (cp02)]), (22, .slice (Ap11) ((w_).length) (cp11)), (23, .int .i64 (at_6)), (24, .pointer (some (p14.add 0))), (25, .string (bs (x9))), (26, .tuple #[.string (bs (r11.1)), .bool (r11.2)]), (27, .string (bs (r11.1))), (28, .bool (r11.2)), (29, .bool (r11.2)), (30, .bool (!(r11.2))), (31, .slice (Ap11) ((w_).length) (cp11)), (32, .slice (Au31) (((r28).set ((at_6).toNat) r11.1).length) (cu31)), (33, .slice (Au31) (((r28).set ((at_6).toNat) r11.1).length) (cu31)), (34, .int .i64 (at_6)), (35, .string (bs (r11.1))), (36, .pointer (some ⟨bq35, ((at_6).toNat) * 1, none⟩))]) (L' := [(1000, Ob.box b2 [.int .i64 (a_.Kind), .slice (Ap02) ((a_.Pairs).length) (cp02)] 24), (1901, Ob.row (Au31) (((r28).set ((at_6).toNat) r11.1).length) (cu31) 9 1 (splice (csu31) (((at_6).toNat) * 1) [.string (bs (r11.1))]))]) (by simp only [List.length_set]) (by simp only [List.length_set])
          replace hS := hS.add 110 (rdF Rep.str (splice (csu31) (((at_6).toNat) * 1) [.string (bs (r11.1))]) ((r28).set ((at_6).toNat) r11.1)) (RdAll.put (hS.fact (k := 108) rfl) ⟨rfl, (by first | omega | (rw [List.length_append]; omega) | (simp only [List.length_append]; omega) | (simp only [List.length_append, List.length_take, List.length_drop, List.length_cons, List.length_nil]; omega))⟩ hzi)
          apply wpList_nil
          refine p_norm ?_
          apply wp_seq
          apply wp_region_lit
          refine q_seq hS rfl rfl rfl (y_move hS rfl) ?_; clear hS a; intro a hS
          refine q_seq hS rfl rfl rfl (y_assign hS rfl) ?_; clear hS a; intro a hS
          refine q_seq hS rfl rfl rfl (y_assign hS rfl) ?_; clear hS a; intro a hS
          apply wpList_nil
          refine p_norm ?_
          apply wp_ret
          obtain rfl := Option.some.inj hg
          refine fin2 (fn := Try.f20) hS rfl (r_tmp hS rfl) (r_tmp hS rfl) ?_
          exact ⟨(Au31), (cu31), rfl, (hS.rowOut (R := Rep.str) (kk := 1901) rfl rfl (hS.fact (k := 110) rfl))⟩
    · refine l_quiet hS rfl rfl (y_extract hS rfl rfl) ?_; clear hS a; intro a hS; refine ⟨fun g _ h => h, ?_⟩
      refine n_1 7 hS (by kernel_rfl) rfl rfl (l_quiet hS rfl rfl (y_extract hS rfl rfl) ?_); clear hS a; intro a hS; refine ⟨fun g _ h => h, ?_⟩
      refine n_1 9 hS (by kernel_rfl) rfl rfl (l_quiet hS rfl rfl (y_assign hS rfl) ?_); clear hS a; intro a hS; refine ⟨fun g _ h => h, ?_⟩
      refine n_1 10 hS (by kernel_rfl) rfl rfl (l_quiet hS rfl rfl (y_assign hS rfl) ?_); clear hS a; intro a hS; refine ⟨fun g _ h => h, ?_⟩
      refine n_end (by kernel_rfl) ?_; clear hR hZ
      refine p_norm ?_
      apply wp_seq
      apply wp_seq
      apply wp_region_lit
      refine q_seq hS rfl rfl rfl (y_move hS rfl) ?_; clear hS a; intro a hS
      refine q_seq hS rfl rfl rfl (y_not hS rfl) ?_; clear hS a; intro a hS
      apply wpList_nil
      refine p_norm ?_
      refine c_cond hS rfl (fun hc36 => ?_) (fun hc36 => ?_)
      · replace hg := br_t hg hc36
        apply wp_seq
        apply wp_region_lit
        refine q_seq hS rfl rfl rfl (y_assign hS rfl) ?_; clear hS a; intro a hS
        refine q_seq hS rfl rfl rfl (y_assign hS rfl) ?_; clear hS a; intro a hS
        apply wpList_nil
        refine p_norm ?_
        apply wp_ret
        refine p_thenR ?_
        obtain rfl := Option.some.inj hg
        refine fin2 (fn := Try.f20) hS rfl (r_tmp hS rfl) (r_tmp hS rfl) ?_
        exact ⟨(none), (0), rfl, (SlR.nil_ _ _ _)⟩
      · replace hg := br_f hg (by rw [hc36]; exact Bool.false_ne_true)
        apply wp_skip
        refine p_norm ?_
        apply wp_seq
        replace hg := bind_some hg; obtain ⟨r37, hr37, hg⟩ := hg
        apply wp_region_lit
        refine q_seq hS rfl rfl rfl (y_move hS rfl) ?_; clear hS a; intro a hS
        refine l_seq rfl (l_callOwn (cap := []) (post := (fun v ob w' => ∃ Ao co cso, ob = Ob.row Ao (r37).length co 9 1 cso ∧ v = .slice (Ao) ((r37).length) (co) ∧ RdAll Rep.str (fun b => mtb _ _ b ∨ ob.ids b) w' cso (r37))) hS 1901 rfl rfl Try.func34 rfl (by kernel_rfl) rfl rfl ((c_slices_Clone_string n _ _ hS.lt w_ (Ap11) (cp11) (hS.fact (k := 102) rfl) r37 hr37).mono (fun e w' h => by obtain ⟨v, he, hk, Ao, co, cso, hv, ho1, ho2, ho3⟩ := h; exact ⟨v, he, hk, _, ho1, ho2, ⟨Ao, co, cso, rfl, hv, ho3⟩⟩)) ?_); clear hS a; intro v41 ob a w hK hp hS
        obtain ⟨Au40, cu40, csu40, rfl, rfl, hou40⟩ := hp
        clear hK
        replace hS := hS.add 112 (rdF Rep.str csu40 (r37)) (RdAll.up2 hS hou40)
        refine q_seq hS rfl rfl rfl (y_assign hS rfl) ?_; clear hS a; intro a hS
        apply wpList_nil
        refine p_norm ?_
        apply wp_seq
        replace hg := bind_some hg; obtain ⟨x43, hx43, hg⟩ := hg
        apply wp_region_lit
        refine q_seq hS rfl rfl rfl (y_move hS rfl) ?_; clear hS a; intro a hS
        refine q_seq hS rfl rfl rfl (y_move hS rfl) ?_; clear hS a; intro a hS
        refine q_seq hS rfl rfl rfl (y_move hS rfl) ?_; clear hS a; intro a hS
        obtain ⟨hiq44, bq44, hAq44⟩ := SlR.row1 (hS.wd.holds 1901 _ rfl) (hS.fact (k := 112) rfl) rfl rfl (ix_some hx43).1
        refine q_seq hS rfl rfl rfl (y_rowIndex (sz := 1) (i := ((at_6).toNat)) hS rfl rfl Try.underlying34 rfl hAq44 (ix_some hx43).2.1 hiq44) ?_; clear hS a; intro a hS
        have hzi := lt_of_get (ix_some hx43).1
        have hzn := rowN (hS.wd.holds 1901 _ rfl) (hS.fact (k := 112) rfl) rfl rfl
        have hzf : ((at_6).toNat) * 1 + 1 ≤ ((r37).length) * 1 := by have := Nat.mul_le_mul_right 1 (Nat.succ_le_of_lt hzi); omega
        refine l_seq rfl (l_storeRow (N := 1) (cs' := splice (csu40) (((at_6).toNat) * 1) [.string (bs (r11.1))]) hS 1901 rfl rfl rfl hAq44 rfl rfl hzf rfl rfl ?_); clear hS; intro w hK hS; clear hK
        replace hS := hS.sub (l' := [(1, .slice (Ap11) ((w_).length) (cp11)), (2, .pointer (some ⟨b2, 0, none⟩)), (6, .int .i64 (at_6)), (7, .string (bs (r11.1))), (8, .bool (r11.2)), (9, .slice (Au40) ((r37).length) (cu40)), (20, .tuple #[.string (bs (r11.1)), .bool (r11.2)]), (21, .agg #[.int .i64 (a_.Kind), .slice (Ap02) ((a_.Pairs).length) (cp02)]), (22, .slice (Ap11) ((w_).length) (cp11)), (23, .int .i64 (at_6)), (24, .pointer (some (p14.add 0))), (25, .string (bs (x9))), (26, .tuple #[.string (bs (r11.1)), .bool (r11.2)]), (27, .string (bs (r11.1))), (28, .bool (r11.2)), (29, .bool (r11.2)), (30, .bool (!(r11.2))), (31, .slice (Ap11) ((w_).length) (cp11)), (32, .slice (Au40) ((r37).length) (cu40)), (33, .slice (Au40) ((r37).length) (cu40)), (34, .int .i64 (at_6)), (35, .string (bs (r11.1))), (36, .pointer (some ⟨bq44, ((at_6).toNat) * 1, none⟩))]) (L' := [(1000, Ob.box b2 [.int .i64 (a_.Kind), .slice (Ap02) ((a_.Pairs).length) (cp02)] 24), (1901, Ob.row (Au40) ((r37).length) (cu40) 9 1 (splice (csu40) (((at_6).toNat) * 1) [.string (bs (r11.1))]))]) (D' := [(101, slF RChange (Ap02) ((a_.Pairs).length) (cp02) (a_.Pairs)), (102, slF Rep.str (Ap11) ((w_).length) (cp11) (w_)), (112, rdF Rep.str (csu40) (r37))]) ⟨rfl, rfl, rfl, rfl, rfl, rfl, rfl, rfl, rfl, rfl, rfl, rfl, rfl, rfl, rfl, rfl, rfl, rfl, rfl, rfl, rfl, rfl, rfl, trivial⟩ ⟨rfl, rfl, trivial⟩ ⟨rfl, rfl, rfl, trivial⟩
        replace hS := hS.eqs (l' := [(1, .slice (Ap11) ((w_).length) (cp11)), (2, .pointer (some ⟨b2, 0, none⟩)), (6, .int .i64 (at_6)), (7, .string (bs (r11.1))), (8, .bool (r11.2)), (9, .slice (Au40) (((r37).set ((at_6).toNat) r11.1).length) (cu40)), (20, .tuple #[.string (bs (r11.1)), .bool (r11.2)]), (21, .agg #[.int .i64 (a_.Kind), .slice (Ap02) ((a_.Pairs).length) (cp02)]), (22, .slice (Ap11) ((w_).length) (cp11)), (23, .int .i64 (at_6)), (24, .pointer (some (p14.add 0))), (25, .string (bs (x9))), (26, .tuple #[.string (bs (r11.1)), .bool (r11.2)]), (27, .string (bs (r11.1))), (28, .bool (r11.2)), (29, .bool (r11.2)), (30, .bool (!(r11.2))), (31, .slice (Ap11) ((w_).length) (cp11)), (32, .slice (Au40) (((r37).set ((at_6).toNat) r11.1).length) (cu40)), (33, .slice (Au40) (((r37).set ((at_6).toNat) r11.1).length) (cu40)), (34, .int .i64 (at_6)), (35, .string (bs (r11.1))), (36, .pointer (some ⟨bq44, ((at_6).toNat) * 1, none⟩))]) (L' := [(1000, Ob.box b2 [.int .i64 (a_.Kind), .slice (Ap02) ((a_.Pairs).length) (cp02)] 24), (1901, Ob.row (Au40) (((r37).set ((at_6).toNat) r11.1).length) (cu40) 9 1 (splice (csu40) (((at_6).toNat) * 1) [.string (bs (r11.1))]))]) (by simp only [List.length_set]) (by simp only [List.length_set])
        replace hS := hS.add 114 (rdF Rep.str (splice (csu40) (((at_6).toNat) * 1) [.string (bs (r11.1))]) ((r37).set ((at_6).toNat) r11.1)) (RdAll.put (hS.fact (k := 112) rfl) ⟨rfl, (by first | omega | (rw [List.length_append]; omega) | (simp only [List.length_append]; omega) | (simp only [List.length_append, List.length_take, List.length_drop, List.length_cons, List.length_nil]; omega))⟩ hzi)
        apply wpList_nil
        refine p_norm ?_
        apply wp_seq
        apply wp_region_lit
        refine q_seq hS rfl rfl rfl (y_move hS rfl) ?_; clear hS a; intro a hS
        refine q_seq hS rfl rfl rfl (y_assign hS rfl) ?_; clear hS a; intro a hS
        refine q_seq hS rfl rfl rfl (y_assign hS rfl) ?_; clear hS a; intro a hS
        apply wpList_nil
        refine p_norm ?_
        apply wp_ret
        obtain rfl := Option.some.inj hg
        refine fin2 (fn := Try.f20) hS rfl (r_tmp hS rfl) (r_tmp hS rfl) ?_
        exact ⟨(Au40), (cu40), rfl, (hS.rowOut (R := Rep.str) (kk := 1901) rfl rfl (hS.fact (k := 114) rfl))⟩
end Go.Proofs.Ytolgbjbfhoffpaa
