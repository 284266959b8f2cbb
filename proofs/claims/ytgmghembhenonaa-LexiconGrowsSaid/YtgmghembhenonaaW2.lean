/- Chapter 24: the walks, part 2 -/
import Derived.Test.YtgmghembhenonaaW1
namespace Go.Proofs.Ytgmghembhenonaa
open Go.Gl Go.RowKit
set_option linter.unusedVariables false
set_option linter.unusedSimpArgs false

set_option maxHeartbeats 400000 in
theorem c_r24_SameAnalyses (n : Nat) (M : Bs) (w0 : World) (hM : ∀ b, M b → b < w0.heap.size) (a_ : (List Analysis)) (Ap01 : Option Addr) (cp01 : Nat) (hp01 : SlR RAnalysis M w0 Ap01 (a_).length cp01 (a_)) (b_ : (List Analysis)) (Ap11 : Option Addr) (cp11 : Nat) (hp11 : SlR RAnalysis M w0 Ap11 (b_).length cp11 (b_)) (r : Bool) (hg : r24_SameAnalyses n a_ b_ = some r) :
    Calls Try.prog 21 [.slice (Ap01) ((a_).length) (cp01), .slice (Ap11) ((b_).length) (cp11)].toArray w0 (Ret noB w0 fun v w => v = .bool (r)) := by
  unfold r24_SameAnalyses at hg
  refine enter M noB Try.func21 rfl rfl hM ?_
  intro a hS
  replace hS := hS.add 101 (slF RAnalysis (Ap01) ((a_).length) (cp01) (a_)) (by exact Fact.change _ enterM hp01)
  replace hS := hS.add 102 (slF RAnalysis (Ap11) ((b_).length) (cp11) (b_)) (by exact Fact.change _ enterM hp11)
  apply wp_seq
  apply wp_region_lit
  refine q_seq hS rfl rfl rfl (y_assign hS rfl) ?_; clear hS a; intro a hS
  apply wpList_nil
  refine p_norm ?_
  apply wp_seq
  apply wp_seq
  apply wp_region_lit
  refine q_seq hS rfl rfl rfl (y_move hS rfl) ?_; clear hS a; intro a hS
  refine q_seq hS rfl rfl rfl (y_lenSlice hS rfl Try.underlying41) ?_; clear hS a; intro a hS
  refine q_seq hS rfl rfl rfl (y_move hS rfl) ?_; clear hS a; intro a hS
  refine q_seq hS rfl rfl rfl (y_lenSlice hS rfl Try.underlying41) ?_; clear hS a; intro a hS
  refine q_seq hS rfl rfl rfl (y_neqN (i := ((a_).length)) (j := ((b_).length)) hS rfl rfl) ?_; clear hS a; intro a hS
  apply wpList_nil
  refine p_norm ?_
  refine c_dec hS rfl (fun hc1 => ?_) (fun hc1 => ?_)
  · replace hg := br_t hg hc1
    apply wp_seq
    apply wp_region_lit
    refine q_seq hS rfl rfl rfl (y_assign hS rfl) ?_; clear hS a; intro a hS
    apply wpList_nil
    refine p_norm ?_
    apply wp_ret
    refine p_thenR ?_
    obtain rfl := Option.some.inj hg
    refine fin1 (fn := Try.f21) hS rfl (r_tmp hS rfl) ?_
    exact rfl
  · replace hg := br_f hg hc1
    apply wp_skip
    refine p_norm ?_
    apply wp_seq
    apply wp_seq
    apply wp_region_lit
    refine q_seq hS rfl rfl rfl (y_assign hS rfl) ?_; clear hS a; intro a hS
    apply wpList_nil
    refine p_norm ?_
    apply wp_block
    refine c_loop (σ := Nat) (fun m1 a w => ∃ (i_2 : Nat), r24_SameAnalyses_L0 n a_ b_ m1 i_2 = some r ∧ St (⟨Try.f21.ntmps, M, noB, w0⟩ : Ctx) [(0, .slice (Ap01) ((a_).length) (cp01)), (1, .slice (Ap11) ((b_).length) (cp11)), (5, .int .i64 (((i_2 : Nat) : Int)))] [] [(101, slF RAnalysis (Ap01) ((a_).length) (cp01) (a_)), (102, slF RAnalysis (Ap11) ((b_).length) (cp11) (b_))] a w) (fun m1 => m1) n ⟨(0), hg, (hS.sub ⟨rfl, rfl, rfl, trivial⟩ trivial ⟨rfl, rfl, trivial⟩)⟩ ?_
    clear hS a; rintro m1 a w ⟨i_2, hg, hS⟩
    rcases m1 with _ | m1
    · rw [r24_SameAnalyses_L0] at hg; cases hg
    rw [r24_SameAnalyses_L0] at hg
    apply wp_seq
    apply wp_seq
    apply wp_region_lit
    refine q_seq hS rfl rfl rfl (y_move hS rfl) ?_; clear hS a; intro a hS
    refine q_seq hS rfl rfl rfl (y_move hS rfl) ?_; clear hS a; intro a hS
    refine q_seq hS rfl rfl rfl (y_lenSlice hS rfl Try.underlying41) ?_; clear hS a; intro a hS
    refine q_seq hS rfl rfl rfl (y_lssN (i := i_2) (j := ((a_).length)) hS rfl rfl) ?_; clear hS a; intro a hS
    apply wpList_nil
    refine p_norm ?_
    refine c_dec hS rfl (fun hc3 => ?_) (fun hc3 => ?_)
    · replace hg := br_t hg hc3
      have hmx4 := SlR.mx (hS.fact (k := 101) rfl)
      apply wp_skip
      refine p_norm ?_
      apply wp_seq
      apply wp_block
      apply wp_seq
      replace hg := jn_some hg; obtain ⟨k5, hg, hk5⟩ := hg
      refine c_post (fun a w => ∃ (t_6 : Bool), k5 t_6 = some r ∧ St (⟨Try.f21.ntmps, M, noB, w0⟩ : Ctx) [(0, .slice (Ap01) ((a_).length) (cp01)), (1, .slice (Ap11) ((b_).length) (cp11)), (5, .int .i64 (((i_2 : Nat) : Int))), (41, .bool (t_6))] [] [(101, slF RAnalysis (Ap01) ((a_).length) (cp01) (a_)), (102, slF RAnalysis (Ap11) ((b_).length) (cp11) (b_))] a w) ?_ ?_
      · replace hg := bind_some hg; obtain ⟨x8, hx8, hg⟩ := hg
        replace hg := bind_some hg; obtain ⟨x11, hx11, hg⟩ := hg
        rcases Decidable.em (x8.Entry ≠ x11.Entry) with hs13 | hs13
        · have hs13e : decide (x8.Entry ≠ x11.Entry) = true := decide_eq_true hs13
          replace hg := br_t hg hs13
          refine d_plan hS [] [(0, some 0), (1, some 0), (2, some 0), (3, some 0), (4, some 0), (5, some 0), (6, some 0), (7, some 0), (8, some 0), (9, some 0), (10, some 0), (11, some 0), (12, some 0), (13, some 0), (14, some 0), (15, some 0), (16, some 0), (17, some 0), (18, some 0), (19, some 0), (20, some 0), (21, some 0), (22, some 0), (23, some 0), (24, some 0)] rfl (by kernel_rfl) (by kernel_rfl) rfl ?_; clear hS; intro wr hZ hS; have hR := hS.wd
          refine q_take hS hR rfl rfl rfl rfl (y_move hS rfl) ?_; clear hS a; intro a hS
          refine q_take hS hR rfl rfl rfl rfl (y_move hS rfl) ?_; clear hS a; intro a hS
          obtain ⟨p14, hep14, hpp14⟩ := SlR.elemX (hS.fact (k := 101) rfl) hx8
          refine q_take hS hR rfl rfl rfl rfl (y_elem (sz := 2) (i := i_2) hS rfl rfl Try.underlying41 rfl hep14 rfl (lt_of_get hx8)) ?_; clear hS a; intro a hS
          refine q_take hS hR rfl rfl rfl rfl (y_ptrField (o' := 0) hS rfl Try.underlying35 rfl rfl rfl) ?_; clear hS a; intro a hS
          obtain ⟨hlq15, hmq15, csq15, hdq15, hcq15⟩ := hpp14
          obtain ⟨Aq152, cq152, rfl, hq152⟩ := RAnalysis.open hdq15
          replace hS := hS.add 105 (slF (Rep.num .i64) (Aq152) ((x8.Rules).length) (cq152) (x8.Rules)) hq152
          refine q_take hS hR rfl rfl rfl rfl (y_ldp1 hS rfl hlq15 hmq15 (hcq15 0 _ rfl) Try.underlying3 rfl) ?_; clear hS a; intro a hS
          refine q_take hS hR rfl rfl rfl rfl (y_move hS rfl) ?_; clear hS a; intro a hS
          refine q_take hS hR rfl rfl rfl rfl (y_move hS rfl) ?_; clear hS a; intro a hS
          obtain ⟨p16, hep16, hpp16⟩ := SlR.elemX (hS.fact (k := 102) rfl) hx11
          refine q_take hS hR rfl rfl rfl rfl (y_elem (sz := 2) (i := i_2) hS rfl rfl Try.underlying41 rfl hep16 rfl (lt_of_get hx11)) ?_; clear hS a; intro a hS
          refine q_take hS hR rfl rfl rfl rfl (y_ptrField (o' := 0) hS rfl Try.underlying35 rfl rfl rfl) ?_; clear hS a; intro a hS
          obtain ⟨hlq17, hmq17, csq17, hdq17, hcq17⟩ := hpp16
          obtain ⟨Aq172, cq172, rfl, hq172⟩ := RAnalysis.open hdq17
          replace hS := hS.add 106 (slF (Rep.num .i64) (Aq172) ((x11.Rules).length) (cq172) (x11.Rules)) hq172
          refine q_take hS hR rfl rfl rfl rfl (y_ldp1 hS rfl hlq17 hmq17 (hcq17 0 _ rfl) Try.underlying3 rfl) ?_; clear hS a; intro a hS
          refine q_take hS hR rfl rfl rfl rfl (yl_b (y_neq hS rfl rfl) hs13e) ?_; clear hS a; intro a hS
          refine q_take hS hR rfl rfl rfl rfl (y_move hS rfl) ?_; clear hS a; intro a hS
          refine q_pass hS hR rfl rfl ⟨_, _, _, rfl, rfl, rfl, rfl⟩ rfl ?_; clear hS a; intro a hS
          refine q_pass hS hR rfl rfl ⟨_, _, _, rfl, rfl, rfl, rfl⟩ rfl ?_; clear hS a; intro a hS
          refine q_pass hS hR rfl rfl ⟨_, _, _, rfl, rfl, rfl, rfl⟩ rfl ?_; clear hS a; intro a hS
          refine q_pass hS hR rfl rfl ⟨_, _, _, rfl, rfl, rfl, rfl⟩ rfl ?_; clear hS a; intro a hS
          refine q_pass hS hR rfl rfl ⟨_, _, _, rfl, rfl, rfl, rfl⟩ rfl ?_; clear hS a; intro a hS
          refine q_pass hS hR rfl rfl ⟨_, _, _, rfl, rfl, rfl, rfl⟩ rfl ?_; clear hS a; intro a hS
          refine q_pass hS hR rfl rfl ⟨_, _, _, rfl, rfl, rfl, rfl⟩ rfl ?_; clear hS a; intro a hS
          refine q_pass hS hR rfl rfl ⟨_, _, _, rfl, rfl, rfl, rfl⟩ rfl ?_; clear hS a; intro a hS
          refine q_pass hS hR rfl rfl ⟨_, _, _, rfl, rfl, rfl, rfl⟩ rfl ?_; clear hS a; intro a hS
          refine q_pass hS hR rfl rfl ⟨_, _, _, rfl, rfl, rfl, rfl⟩ rfl ?_; clear hS a; intro a hS
          refine q_pass hS hR rfl rfl ⟨_, _, _, rfl, rfl, rfl, rfl⟩ rfl ?_; clear hS a; intro a hS
          refine q_pass hS hR rfl rfl ⟨_, _, _, rfl, rfl, rfl, rfl⟩ rfl ?_; clear hS a; intro a hS
          refine q_take hS hR rfl rfl rfl rfl (y_pick_t hS rfl rfl) ?_; clear hS a; intro a hS
          clear hR hZ
          refine p_norm ?_
          exact ⟨(true), hg, (hS.sub ⟨rfl, rfl, rfl, rfl, trivial⟩ trivial ⟨rfl, rfl, trivial⟩)⟩
        · have hs13e : decide (x8.Entry ≠ x11.Entry) = false := decide_eq_false hs13
          replace hg := br_f hg hs13
          replace hg := bind_some hg; obtain ⟨r22, hr22, hg⟩ := hg
          refine d_plan hS [] [(0, some 0), (1, some 0), (2, some 0), (3, some 0), (4, some 0), (5, some 0), (6, some 0), (7, some 0), (8, some 0), (9, some 0), (10, some 0), (11, some 0), (12, some 0), (13, some 0), (14, some 0), (15, some 0), (16, some 0), (17, some 0), (18, some 0), (19, some 0), (20, some 0), (21, some 0), (22, none), (23, none), (24, none)] rfl (by kernel_rfl) (by kernel_rfl) rfl ?_; clear hS; intro wr hZ hS; have hR := hS.wd
          refine q_take hS hR rfl rfl rfl rfl (y_move hS rfl) ?_; clear hS a; intro a hS
          refine q_take hS hR rfl rfl rfl rfl (y_move hS rfl) ?_; clear hS a; intro a hS
          obtain ⟨p25, hep25, hpp25⟩ := SlR.elemX (hS.fact (k := 101) rfl) hx8
          refine q_take hS hR rfl rfl rfl rfl (y_elem (sz := 2) (i := i_2) hS rfl rfl Try.underlying41 rfl hep25 rfl (lt_of_get hx8)) ?_; clear hS a; intro a hS
          refine q_take hS hR rfl rfl rfl rfl (y_ptrField (o' := 0) hS rfl Try.underlying35 rfl rfl rfl) ?_; clear hS a; intro a hS
          obtain ⟨hlq26, hmq26, csq26, hdq26, hcq26⟩ := hpp25
          obtain ⟨Aq262, cq262, rfl, hq262⟩ := RAnalysis.open hdq26
          replace hS := hS.add 109 (slF (Rep.num .i64) (Aq262) ((x8.Rules).length) (cq262) (x8.Rules)) hq262
          refine q_take hS hR rfl rfl rfl rfl (y_ldp1 hS rfl hlq26 hmq26 (hcq26 0 _ rfl) Try.underlying3 rfl) ?_; clear hS a; intro a hS
          refine q_take hS hR rfl rfl rfl rfl (y_move hS rfl) ?_; clear hS a; intro a hS
          refine q_take hS hR rfl rfl rfl rfl (y_move hS rfl) ?_; clear hS a; intro a hS
          obtain ⟨p27, hep27, hpp27⟩ := SlR.elemX (hS.fact (k := 102) rfl) hx11
          refine q_take hS hR rfl rfl rfl rfl (y_elem (sz := 2) (i := i_2) hS rfl rfl Try.underlying41 rfl hep27 rfl (lt_of_get hx11)) ?_; clear hS a; intro a hS
          refine q_take hS hR rfl rfl rfl rfl (y_ptrField (o' := 0) hS rfl Try.underlying35 rfl rfl rfl) ?_; clear hS a; intro a hS
          obtain ⟨hlq28, hmq28, csq28, hdq28, hcq28⟩ := hpp27
          obtain ⟨Aq282, cq282, rfl, hq282⟩ := RAnalysis.open hdq28
          replace hS := hS.add 110 (slF (Rep.num .i64) (Aq282) ((x11.Rules).length) (cq282) (x11.Rules)) hq282
          refine q_take hS hR rfl rfl rfl rfl (y_ldp1 hS rfl hlq28 hmq28 (hcq28 0 _ rfl) Try.underlying3 rfl) ?_; clear hS a; intro a hS
          refine q_take hS hR rfl rfl rfl rfl (yl_b (y_neq hS rfl rfl) hs13e) ?_; clear hS a; intro a hS
          refine q_take hS hR rfl rfl rfl rfl (y_move hS rfl) ?_; clear hS a; intro a hS
          refine q_take hS hR rfl rfl ⟨_, _, _, rfl, rfl, rfl, rfl⟩ rfl (y_move hS rfl) ?_; clear hS a; intro a hS
          refine q_take hS hR rfl rfl ⟨_, _, _, rfl, rfl, rfl, rfl⟩ rfl (y_move hS rfl) ?_; clear hS a; intro a hS
          obtain ⟨p29, hep29, hpp29⟩ := SlR.elemX (hS.fact (k := 101) rfl) hx8
          refine q_take hS hR rfl rfl ⟨_, _, _, rfl, rfl, rfl, rfl⟩ rfl (y_elem (sz := 2) (i := i_2) hS rfl rfl Try.underlying41 rfl hep29 rfl (lt_of_get hx8)) ?_; clear hS a; intro a hS
          refine q_take hS hR rfl rfl ⟨_, _, _, rfl, rfl, rfl, rfl⟩ rfl (y_ptrField (o' := 1) hS rfl Try.underlying35 rfl rfl rfl) ?_; clear hS a; intro a hS
          obtain ⟨hlq30, hmq30, csq30, hdq30, hcq30⟩ := hpp29
          obtain ⟨Aq302, cq302, rfl, hq302⟩ := RAnalysis.open hdq30
          replace hS := hS.add 111 (slF (Rep.num .i64) (Aq302) ((x8.Rules).length) (cq302) (x8.Rules)) hq302
          refine q_take hS hR rfl rfl ⟨_, _, _, rfl, rfl, rfl, rfl⟩ rfl (y_ldp1 hS rfl hlq30 hmq30 (hcq30 1 _ rfl) Try.underlying30 rfl) ?_; clear hS a; intro a hS
          refine q_take hS hR rfl rfl ⟨_, _, _, rfl, rfl, rfl, rfl⟩ rfl (y_move hS rfl) ?_; clear hS a; intro a hS
          refine q_take hS hR rfl rfl ⟨_, _, _, rfl, rfl, rfl, rfl⟩ rfl (y_move hS rfl) ?_; clear hS a; intro a hS
          obtain ⟨p31, hep31, hpp31⟩ := SlR.elemX (hS.fact (k := 102) rfl) hx11
          refine q_take hS hR rfl rfl ⟨_, _, _, rfl, rfl, rfl, rfl⟩ rfl (y_elem (sz := 2) (i := i_2) hS rfl rfl Try.underlying41 rfl hep31 rfl (lt_of_get hx11)) ?_; clear hS a; intro a hS
          refine q_take hS hR rfl rfl ⟨_, _, _, rfl, rfl, rfl, rfl⟩ rfl (y_ptrField (o' := 1) hS rfl Try.underlying35 rfl rfl rfl) ?_; clear hS a; intro a hS
          obtain ⟨hlq32, hmq32, csq32, hdq32, hcq32⟩ := hpp31
          obtain ⟨Aq322, cq322, rfl, hq322⟩ := RAnalysis.open hdq32
          replace hS := hS.add 112 (slF (Rep.num .i64) (Aq322) ((x11.Rules).length) (cq322) (x11.Rules)) hq322
          refine q_take hS hR rfl rfl ⟨_, _, _, rfl, rfl, rfl, rfl⟩ rfl (y_ldp1 hS rfl hlq32 hmq32 (hcq32 1 _ rfl) Try.underlying30 rfl) ?_; clear hS a; intro a hS
          refine l_take hS rfl ⟨_, _, _, rfl, rfl, rfl, rfl⟩ (l_call (cap := []) hS rfl Try.func15 rfl (by kernel_rfl) rfl rfl (c_r24_SameInts n _ _ hS.lt x8.Rules (Aq302) (cq302) (hS.fact (k := 111) rfl) x11.Rules (Aq322) (cq322) (hS.fact (k := 112) rfl) r22 hr22) ?_); clear hS a; intro v33 a w hK hp hS
          replace hZ := Nat.le_trans hZ hK.size; refine ⟨fun g _ h => h.grow hK, ?_⟩; clear hK
          obtain rfl := hp
          refine l_take hS rfl ⟨_, _, _, rfl, rfl, rfl, rfl⟩ (l_quiet hS rfl rfl (y_not hS rfl) ?_); clear hS a; intro a hS; refine ⟨fun g _ h => h, ?_⟩
          refine l_take hS rfl rfl (l_quiet hS rfl rfl (y_pick_f hS rfl rfl) ?_); clear hS a; intro a hS; refine ⟨fun g _ h => h, ?_⟩
          clear hR hZ
          refine p_norm ?_
          exact ⟨(!(r22)), hg, (hS.sub ⟨rfl, rfl, rfl, rfl, trivial⟩ trivial ⟨rfl, rfl, trivial⟩)⟩
      clear hS a; rintro a w ⟨t_6, hg, hS⟩
      subst hk5
      refine c_cond hS rfl (fun hc35 => ?_) (fun hc35 => ?_)
      · replace hg := br_t hg hc35
        apply wp_seq
        apply wp_region_lit
        refine q_seq hS rfl rfl rfl (y_assign hS rfl) ?_; clear hS a; intro a hS
        apply wpList_nil
        refine p_norm ?_
        apply wp_ret
        refine p_inR ?_
        refine p_thenR ?_
        refine p_thenR ?_
        refine p_inR ?_
        refine p_thenR ?_
        obtain rfl := Option.some.inj hg
        refine fin1 (fn := Try.f21) hS rfl (r_tmp hS rfl) ?_
        exact rfl
      · replace hg := br_f hg (by rw [hc35]; exact Bool.false_ne_true)
        apply wp_skip
        refine p_inN ?_
        refine p_norm ?_
        apply wp_region_lit
        refine q_seq hS rfl rfl rfl (y_move hS rfl) ?_; clear hS a; intro a hS
        refine q_seq hS rfl rfl rfl (y_addN (i := i_2) (j := 1) hS rfl rfl (in64.2 (by omega))) ?_; clear hS a; intro a hS
        refine q_seq hS rfl rfl rfl (y_assign hS rfl) ?_; clear hS a; intro a hS
        apply wpList_nil
        refine p_norm ?_
        exact ⟨m1, Nat.lt_succ_self _, ⟨(i_2 + 1), hg, (hS.sub ⟨rfl, rfl, rfl, trivial⟩ trivial ⟨rfl, rfl, trivial⟩)⟩⟩
    · replace hg := br_f hg hc3
      apply wp_exit
      refine p_then ?_
      refine p_then ?_
      refine p_in ?_
      refine p_norm ?_
      apply wp_seq
      apply wp_region_lit
      refine q_seq hS rfl rfl rfl (y_assign hS rfl) ?_; clear hS a; intro a hS
      apply wpList_nil
      refine p_norm ?_
      apply wp_ret
      obtain rfl := Option.some.inj hg
      refine fin1 (fn := Try.f21) hS rfl (r_tmp hS rfl) ?_
      exact rfl
set_option maxHeartbeats 400000 in
theorem c_slices_Clone_int (n : Nat) (M : Bs) (w0 : World) (hM : ∀ b, M b → b < w0.heap.size) (s_ : (List Int)) (Ap01 : Option Addr) (cp01 : Nat) (hp01 : SlR (Rep.num .i64) M w0 Ap01 (s_).length cp01 (s_)) (r : (List Int)) (hg : slices_Clone_int n s_ = some r) :
    Calls Try.prog 50 [.slice (Ap01) ((s_).length) (cp01)].toArray w0 (Ret noB w0 fun v w => ∃ (Ao : Option Addr), ∃ (co : Nat), ∃ (cso : List Value), v = .slice (Ao) ((r).length) (co) ∧ ((Ob.row Ao (r).length co 3 1 cso).holds w) ∧ (∀ b, (Ob.row Ao (r).length co 3 1 cso).ids b → w0.heap.size ≤ b) ∧ (RdAll (Rep.num .i64) (fun b => M b ∨ (Ob.row Ao (r).length co 3 1 cso).ids b) w cso (r))) := by
  unfold slices_Clone_int at hg
  refine enter M noB Try.func50 rfl rfl hM ?_
  intro a hS
  replace hS := hS.add 101 (slF (Rep.num .i64) (Ap01) ((s_).length) (cp01) (s_)) (by exact Fact.change _ enterM hp01)
  apply wp_seq
  apply wp_region_lit
  refine q_seq hS rfl rfl rfl (y_assign hS rfl) ?_; clear hS a; intro a hS
  apply wpList_nil
  refine p_norm ?_
  apply wp_seq
  apply wp_seq
  apply wp_region_lit
  refine q_seq hS rfl rfl rfl (y_move hS rfl) ?_; clear hS a; intro a hS
  refine q_seq hS rfl rfl rfl (y_slnil hS rfl rfl Try.underlying30) ?_; clear hS a; intro a hS
  apply wpList_nil
  refine p_norm ?_
  refine c_cond hS rfl (fun hc1 => ?_) (fun hc1 => ?_)
  · have hnil := SlR.nil0 (hS.fact (k := 101) rfl) (by simpa using hc1)
    replace hg : (some []) = some r := by have h0 := hg; rw [hnil] at h0; simpa [chk] using h0
    apply wp_seq
    apply wp_region_lit
    refine q_seq hS rfl rfl rfl (y_assign hS rfl) ?_; clear hS a; intro a hS
    apply wpList_nil
    refine p_norm ?_
    apply wp_ret
    refine p_thenR ?_
    obtain rfl := Option.some.inj hg
    refine fin1 (fn := Try.f50) hS rfl (r_tmp hS rfl) ?_
    exact ⟨none, 0, [], rfl, (World.ownsRow_nil _ 0 3 1), (fun b hb => by obtain ⟨p, hp, _⟩ := hb; cases hp), RdAll.nil _ _ _⟩
  · apply wp_skip
    refine p_norm ?_
    apply wp_seq
    replace hg := chk_some hg; obtain ⟨hk3, hg⟩ := hg
    apply wp_region_lit
    refine l_seq rfl (l_buildEmpty (sz := 1) hS 1300 Try.underlying30 rfl rfl rfl ?_); clear hS a; intro b6 a w hbb6 hK hS
    clear hbb6
    clear hK
    refine q_seq hS rfl rfl rfl (y_move hS rfl) ?_; clear hS a; intro a hS
    replace hS := hS.add 105 (rdF (Rep.num .i64) ([]) ([])) (RdAll.nil _ _ _)
    obtain ⟨ns8, hs8, hns8⟩ := SlR.src (hS.fact (k := 101) rfl)
    replace hS := hS.add 106 (rdF (Rep.num .i64) ns8 (s_)) hns8
    refine l_seq rfl (l_append (sz := 1) (by_ := 8) (N := (s_).length) (ys := ns8) hS 1300 rfl rfl rfl Try.underlying30 rfl rfl rfl rfl rfl hs8 (by simp) rfl (by have hr := hk3; clear hg; first | omega | (simp only [List.length_append, List.length_cons, List.length_nil] at hr ⊢; omega) | (simp at hr ⊢; omega)) (by have hr := hk3; clear hg; first | omega | (simp only [List.length_append, List.length_cons, List.length_nil] at hr ⊢; omega) | (simp at hr ⊢; omega)) rfl ?_); clear hS a; intro Aq7 cq7 a w hA hK hS
    clear hK hA
    replace hS := hS.add 107 (rdF (Rep.num .i64) (ns8) (s_)) (hS.fact (k := 106) rfl)
    refine q_seq hS rfl rfl rfl (y_assign hS rfl) ?_; clear hS a; intro a hS
    apply wpList_nil
    refine p_norm ?_
    apply wp_ret
    obtain rfl := Option.some.inj hg
    refine fin1 (fn := Try.f50) hS rfl (r_tmp hS rfl) ?_
    exact ⟨(Aq7), (cq7), (ns8), rfl, (hS.wd.holds 1300 _ rfl), (row_new hS (kk := 1300) rfl rfl), (RdAll.own hS (kk := 1300) rfl (hS.fact (k := 107) rfl))⟩
set_option maxHeartbeats 400000 in
theorem c_lexicon_chains (n : Nat) (M : Bs) (w0 : World) (hM : ∀ b, M b → b < w0.heap.size) (rules_ : Int) (most_ : Int) (r : (List (List Int))) (hg : lexicon_chains n rules_ most_ = some r) :
    Calls Try.prog 37 [.int .i64 (rules_), .int .i64 (most_)].toArray w0 (Ret noB w0 fun v w => ∃ (Aa1 : Option Addr), ∃ (ca1 : Nat), v = .slice (Aa1) ((r).length) (ca1) ∧ (SlR (Rep.list (Rep.num .i64)) M w Aa1 (r).length ca1 (r))) := by
  unfold lexicon_chains at hg
  refine enter M noB Try.func37 rfl rfl hM ?_
  intro a hS
  apply wp_seq
  apply wp_region_lit
  refine q_seq hS rfl rfl rfl (y_assign hS rfl) ?_; clear hS a; intro a hS
  apply wpList_nil
  refine p_norm ?_
  apply wp_seq
  apply wp_region_lit
  refine l_seq rfl (l_buildDense (sz := 1) hS 1100 rfl rfl rfl Try.underlying62 rfl rfl rfl rfl rfl rfl rfl ?_); clear hS a; intro b2 a w hbb2 hK hS
  clear hbb2
  clear hK
  refine q_seq hS rfl rfl rfl (y_assign hS rfl) ?_; clear hS a; intro a hS
  apply wpList_nil
  refine p_norm ?_
  apply wp_seq
  apply wp_seq
  apply wp_region_lit
  refine q_seq hS rfl rfl rfl (y_assign hS rfl) ?_; clear hS a; intro a hS
  refine q_seq hS rfl rfl rfl (y_assign hS rfl) ?_; clear hS a; intro a hS
  apply wpList_nil
  refine p_norm ?_
  apply wp_block
  replace hS := hS.add 103 (rdF (Rep.list (Rep.num .i64)) (cellsOfL [.slice (none) (0) (0)]) ([[]])) (RdAll.cons (by exact ⟨_, _, _, rfl, (SlR.nil_ _ _ _)⟩) (RdAll.nil _ _ _))
  replace hS := hS.add 102 (rdF (Rep.list (Rep.num .i64)) (cellsOfL [.slice (none) (0) (0)]) ([[]])) (hS.fact (k := 103) rfl)
  replace hS := hS.ren [(700101, Ob.row (some ⟨b2, 0, none⟩) (1) (1) 30 1 (cellsOfL [.slice (none) (0) (0)]))] [1100] ⟨rfl, trivial⟩ (by decide)
  refine c_loop (σ := Nat) (fun m1 a w => ∃ (out_3 : (List (List Int))), ∃ (from_7 : Nat), ∃ (n_8 : Nat), ∃ (A4 : Option Addr), ∃ (c5 : Nat), ∃ (cs6 : List Value), lexicon_chains_L0 n rules_ most_ m1 out_3 from_7 n_8 = some r ∧ St (⟨Try.f37.ntmps, M, noB, w0⟩ : Ctx) [(0, .int .i64 (rules_)), (1, .int .i64 (most_)), (5, .slice (A4) ((out_3).length) (c5)), (6, .int .i64 (((from_7 : Nat) : Int))), (7, .int .i64 (((n_8 : Nat) : Int)))] [(700101, Ob.row (A4) ((out_3).length) (c5) 30 1 (cs6))] [(102, rdF (Rep.list (Rep.num .i64)) (cs6) (out_3))] a w) (fun m1 => m1) n ⟨([[]]), (0), (0), (some ⟨b2, 0, none⟩), (1), (cellsOfL [.slice (none) (0) (0)]), hg, (hS.sub ⟨rfl, rfl, rfl, rfl, rfl, trivial⟩ ⟨rfl, trivial⟩ ⟨rfl, trivial⟩)⟩ ?_
  clear hS a; rintro m1 a w ⟨out_3, from_7, n_8, A4, c5, cs6, hg, hS⟩
  rcases m1 with _ | m1
  · rw [lexicon_chains_L0] at hg; cases hg
  rw [lexicon_chains_L0] at hg
  apply wp_seq
  apply wp_seq
  apply wp_region_lit
  refine q_seq hS rfl rfl rfl (y_move hS rfl) ?_; clear hS a; intro a hS
  refine q_seq hS rfl rfl rfl (y_move hS rfl) ?_; clear hS a; intro a hS
  refine q_seq hS rfl rfl rfl (y_lss hS rfl rfl) ?_; clear hS a; intro a hS
  apply wpList_nil
  refine p_norm ?_
  refine c_dec hS rfl (fun hc9 => ?_) (fun hc9 => ?_)
  · replace hg := br_t hg hc9
    apply wp_skip
    refine p_norm ?_
    apply wp_seq
    apply wp_block
    apply wp_seq
    apply wp_region_lit
    refine q_seq hS rfl rfl rfl (y_move hS rfl) ?_; clear hS a; intro a hS
    refine q_seq hS rfl rfl rfl (y_lenSlice hS rfl Try.underlying62) ?_; clear hS a; intro a hS
    refine q_seq hS rfl rfl rfl (y_assign hS rfl) ?_; clear hS a; intro a hS
    apply wpList_nil
    refine p_norm ?_
    apply wp_seq
    apply wp_seq
    replace hg := chk_some hg; obtain ⟨hk10, hg⟩ := hg
    apply wp_region_lit
    refine q_seq hS rfl rfl rfl (y_move hS rfl) ?_; clear hS a; intro a hS
    refine q_seq hS rfl rfl rfl (y_move hS rfl) ?_; clear hS a; intro a hS
    refine q_seq hS rfl rfl rfl (y_move hS rfl) ?_; clear hS a; intro a hS
    have hrl105 := rowN (hS.wd.holds 700101 _ rfl) (hS.fact (k := 102) rfl) rfl rfl
    have hcap105 := row_cap (hS.wd.holds 700101 _ rfl)
    have hmx105 := row_mx (hS.wd.holds 700101 _ rfl)
    have hV105 := view_q (i := from_7) (j := ((out_3).length)) (hS.wd.holds 700101 _ rfl) (hS.fact (k := 102) rfl) rfl rfl hk10.2
    have hvm105 : (((out_3).drop from_7).take ((out_3).length - from_7)).length ≤ 9223372036854775807 := by rw [List.length_take, List.length_drop]; omega
    refine q_seq hS rfl rfl rfl (y_cutLH (xs := out_3) (sz := 1) (i := from_7) (j := ((out_3).length)) hS rfl rfl rfl Try.underlying62 rfl rfl rfl hk10.1 hk10.2 (by omega)) ?_; clear hS a; intro a hS
    replace hS := hS.view (xs := out_3) (kk := 700101) (i := from_7) (j := ((out_3).length)) rfl hk10.1 (by omega)
    replace hS := hS.add 105 (rdF (Rep.list (Rep.num .i64)) (((cs6).drop (from_7 * 1)).take (((out_3).length - from_7) * 1)) (((out_3).drop from_7).take ((out_3).length - from_7))) (RdAll.part (hS.fact (k := 102) rfl) hk10.1 hk10.2)
    refine q_seq hS rfl rfl rfl (y_lenSlice hS rfl Try.underlying62) ?_; clear hS a; intro a hS
    refine q_seq hS rfl rfl rfl (y_move hS rfl) ?_; clear hS a; intro a hS
    apply wpList_nil
    refine p_norm ?_
    replace hg := jn_some hg; obtain ⟨k11, hg, hk11⟩ := hg
    refine c_post (fun a w => ∃ (out_12 : (List (List Int))), ∃ (A13 : Option Addr), ∃ (c14 : Nat), ∃ (cs15 : List Value), k11 out_12 = some r ∧ St (⟨Try.f37.ntmps, M, noB, w0⟩ : Ctx) [(0, .int .i64 (rules_)), (1, .int .i64 (most_)), (5, .slice (A13) ((out_12).length) (c14)), (7, .int .i64 (((n_8 : Nat) : Int))), (8, .int .i64 ((((out_3).length : Nat) : Int)))] [(700106, Ob.row (A13) ((out_12).length) (c14) 30 1 (cs15))] [(107, rdF (Rep.list (Rep.num .i64)) (cs15) (out_12))] a w) ?_ ?_
    · apply wp_block
      replace hS := hS.add 109 (rdF (Rep.list (Rep.num .i64)) (cs6) (out_3)) (hS.fact (k := 102) rfl)
      replace hS := hS.ren [(700108, Ob.rowV (A4) ((out_3).length) (c5) 30 1 (cs6) (if c5 = from_7 then A4 else (A4).map (·.add (from_7 * 1))) (((cs6).drop (from_7 * 1)).take (((out_3).length - from_7) * 1)))] [700101] ⟨rfl, trivial⟩ (by decide)
      refine c_loop (σ := Nat) (fun m2 a w => ∃ (out_16 : (List (List Int))), ∃ (t_20 : Nat), ∃ (A17 : Option Addr), ∃ (c18 : Nat), ∃ (cs19 : List Value), lexicon_chains_L1 n rules_ out_3 from_7 k11 m2 out_16 t_20 = some r ∧ St (⟨Try.f37.ntmps, M, noB, w0⟩ : Ctx) [(0, .int .i64 (rules_)), (1, .int .i64 (most_)), (5, .slice (A17) ((out_16).length) (c18)), (7, .int .i64 (((n_8 : Nat) : Int))), (8, .int .i64 ((((out_3).length : Nat) : Int))), (23, .slice (if c5 = from_7 then A4 else (A4).map (·.add (from_7 * 1))) ((((out_3).drop from_7).take ((out_3).length - from_7)).length) (c5 - from_7)), (24, .int .i64 ((((((out_3).drop from_7).take ((out_3).length - from_7)).length : Nat) : Int))), (25, .int .i64 (((t_20 : Nat) : Int)))] [(700108, Ob.rowV (A17) ((out_16).length) (c18) 30 1 (cs19) (if c5 = from_7 then A4 else (A4).map (·.add (from_7 * 1))) (((cs6).drop (from_7 * 1)).take (((out_3).length - from_7) * 1)))] [(105, rdF (Rep.list (Rep.num .i64)) (((cs6).drop (from_7 * 1)).take (((out_3).length - from_7) * 1)) (((out_3).drop from_7).take ((out_3).length - from_7))), (109, rdF (Rep.list (Rep.num .i64)) (cs19) (out_16))] a w) (fun m2 => m2) n ⟨(out_3), (0), (A4), (c5), (cs6), hg, (hS.sub ⟨rfl, rfl, rfl, rfl, rfl, rfl, rfl, rfl, trivial⟩ ⟨rfl, trivial⟩ ⟨rfl, rfl, trivial⟩)⟩ ?_
      clear hS a; rintro m2 a w ⟨out_16, t_20, A17, c18, cs19, hg, hS⟩
      rcases m2 with _ | m2
      · rw [lexicon_chains_L1] at hg; cases hg
      rw [lexicon_chains_L1] at hg
      apply wp_seq
      apply wp_region_lit
      refine q_seq hS rfl rfl rfl (y_lssN (i := t_20) (j := ((((out_3).drop from_7).take ((out_3).length - from_7)).length)) hS rfl rfl) ?_; clear hS a; intro a hS
      apply wpList_nil
      refine p_norm ?_
      apply wp_seq
      refine c_dec hS rfl (fun hc21 => ?_) (fun hc21 => ?_)
      · replace hg := br_t hg hc21
        have hmx22 := hvm105
        apply wp_skip
        refine p_norm ?_
        apply wp_seq
        replace hg := jn_some hg; obtain ⟨k23, hg, hk23⟩ := hg
        refine c_post (fun a w => ∃ (out_24 : (List (List Int))), ∃ (A25 : Option Addr), ∃ (c26 : Nat), ∃ (cs27 : List Value), k23 out_24 = some r ∧ St (⟨Try.f37.ntmps, M, noB, w0⟩ : Ctx) [(0, .int .i64 (rules_)), (1, .int .i64 (most_)), (5, .slice (A25) ((out_24).length) (c26)), (7, .int .i64 (((n_8 : Nat) : Int))), (8, .int .i64 ((((out_3).length : Nat) : Int))), (23, .slice (if c5 = from_7 then A4 else (A4).map (·.add (from_7 * 1))) ((((out_3).drop from_7).take ((out_3).length - from_7)).length) (c5 - from_7)), (24, .int .i64 ((((((out_3).drop from_7).take ((out_3).length - from_7)).length : Nat) : Int))), (25, .int .i64 (((t_20 : Nat) : Int)))] [(700110, Ob.rowV (A25) ((out_24).length) (c26) 30 1 (cs27) (if c5 = from_7 then A4 else (A4).map (·.add (from_7 * 1))) (((cs6).drop (from_7 * 1)).take (((out_3).length - from_7) * 1)))] [(105, rdF (Rep.list (Rep.num .i64)) (((cs6).drop (from_7 * 1)).take (((out_3).length - from_7) * 1)) (((out_3).drop from_7).take ((out_3).length - from_7))), (111, rdF (Rep.list (Rep.num .i64)) (cs27) (out_24))] a w) ?_ ?_
        · apply wp_block
          apply wp_seq
          replace hg := bind_some hg; obtain ⟨x29, hx29, hg⟩ := hg
          apply wp_region_lit
          obtain ⟨q31, hqq31⟩ := hV105 _ _ hx29
          refine q_seq hS rfl rfl rfl (y_elemV (sz := 1) (i := t_20) hS rfl rfl Try.underlying62 rfl hqq31 rfl (lt_of_get hx29)) ?_; clear hS a; intro a hS
          have hz32 := (hS.fact (k := 105) rfl).at_ _ _ hx29
          obtain ⟨Az321, nnz32, cz321, ez32, hz321⟩ := hz32
          obtain rfl := hz321.len
          replace hS := hS.add 113 (slF (Rep.num .i64) (Az321) ((x29).length) (cz321) (x29)) hz321
          refine q_seq hS rfl rfl rfl (y_loadV1 (kk := 700108) hS rfl rfl hqq31 (take1 ez32) Try.underlying30 rfl) ?_; clear hS a; intro a hS
          refine q_seq hS rfl rfl rfl (y_assign hS rfl) ?_; clear hS a; intro a hS
          apply wpList_nil
          refine p_norm ?_
          apply wp_seq
          apply wp_region_lit
          refine q_seq hS rfl rfl rfl (y_move hS rfl) ?_; clear hS a; intro a hS
          refine q_seq hS rfl rfl rfl (y_move hS rfl) ?_; clear hS a; intro a hS
          apply wpList_nil
          refine p_norm ?_
          apply wp_block
          replace hS := hS.add 115 (rdF (Rep.list (Rep.num .i64)) (cs19) (out_16)) (hS.fact (k := 109) rfl)
          replace hS := hS.ren [(700114, Ob.rowV (A17) ((out_16).length) (c18) 30 1 (cs19) (if c5 = from_7 then A4 else (A4).map (·.add (from_7 * 1))) (((cs6).drop (from_7 * 1)).take (((out_3).length - from_7) * 1)))] [700108] ⟨rfl, trivial⟩ (by decide)
          refine c_loop (σ := Nat) (fun m3 a w => ∃ (out_33 : (List (List Int))), ∃ (t_37 : Nat), ∃ (A34 : Option Addr), ∃ (c35 : Nat), ∃ (cs36 : List Value), lexicon_chains_L2 n rules_ k23 x29 m3 out_33 t_37 = some r ∧ St (⟨Try.f37.ntmps, M, noB, w0⟩ : Ctx) [(0, .int .i64 (rules_)), (1, .int .i64 (most_)), (5, .slice (A34) ((out_33).length) (c35)), (7, .int .i64 (((n_8 : Nat) : Int))), (8, .int .i64 ((((out_3).length : Nat) : Int))), (10, .slice (Az321) ((x29).length) (cz321)), (23, .slice (if c5 = from_7 then A4 else (A4).map (·.add (from_7 * 1))) ((((out_3).drop from_7).take ((out_3).length - from_7)).length) (c5 - from_7)), (24, .int .i64 ((((((out_3).drop from_7).take ((out_3).length - from_7)).length : Nat) : Int))), (25, .int .i64 (((t_20 : Nat) : Int))), (29, .int .i64 (rules_)), (30, .int .i64 (((t_37 : Nat) : Int)))] [(700114, Ob.rowV (A34) ((out_33).length) (c35) 30 1 (cs36) (if c5 = from_7 then A4 else (A4).map (·.add (from_7 * 1))) (((cs6).drop (from_7 * 1)).take (((out_3).length - from_7) * 1)))] [(105, rdF (Rep.list (Rep.num .i64)) (((cs6).drop (from_7 * 1)).take (((out_3).length - from_7) * 1)) (((out_3).drop from_7).take ((out_3).length - from_7))), (113, slF (Rep.num .i64) (Az321) ((x29).length) (cz321) (x29)), (115, rdF (Rep.list (Rep.num .i64)) (cs36) (out_33))] a w) (fun m3 => m3) n ⟨(out_16), (0), (A17), (c18), (cs19), hg, (hS.sub ⟨rfl, rfl, rfl, rfl, rfl, rfl, rfl, rfl, rfl, rfl, rfl, trivial⟩ ⟨rfl, trivial⟩ ⟨rfl, rfl, rfl, trivial⟩)⟩ ?_
          clear hS a; rintro m3 a w ⟨out_33, t_37, A34, c35, cs36, hg, hS⟩
          rcases m3 with _ | m3
          · rw [lexicon_chains_L2] at hg; cases hg
          rw [lexicon_chains_L2] at hg
          apply wp_seq
          apply wp_region_lit
          refine q_seq hS rfl rfl rfl (y_lss hS rfl rfl) ?_; clear hS a; intro a hS
          apply wpList_nil
          refine p_norm ?_
          apply wp_seq
          refine c_dec hS rfl (fun hc38 => ?_) (fun hc38 => ?_)
          · replace hg := br_t hg hc38
            apply wp_skip
            refine p_norm ?_
            apply wp_seq
            apply wp_block
            apply wp_seq
            apply wp_region_lit
            refine q_seq hS rfl rfl rfl (y_move hS rfl) ?_; clear hS a; intro a hS
            refine q_seq hS rfl rfl rfl (y_assign hS rfl) ?_; clear hS a; intro a hS
            apply wpList_nil
            refine p_norm ?_
            replace hg := bind_some hg; obtain ⟨r39, hr39, hg⟩ := hg
            replace hg := chk_some hg; obtain ⟨hk43, hg⟩ := hg
            replace hg := chk_some hg; obtain ⟨hk47, hg⟩ := hg
            apply wp_region_lit
            refine q_seq hS rfl rfl rfl (y_move hS rfl) ?_; clear hS a; intro a hS
            refine q_seq hS rfl rfl rfl (y_move hS rfl) ?_; clear hS a; intro a hS
            refine l_seq rfl (l_callOwn (cap := []) (post := (fun v ob w' => ∃ Ao co cso, ob = Ob.row Ao (r39).length co 3 1 cso ∧ v = .slice (Ao) ((r39).length) (co) ∧ RdAll (Rep.num .i64) (fun b => mtb _ _ b ∨ ob.ids b) w' cso (r39))) hS 2202 rfl rfl Try.func50 rfl (by kernel_rfl) rfl rfl ((c_slices_Clone_int n _ _ hS.lt x29 (Az321) (cz321) (hS.fact (k := 113) rfl) r39 hr39).mono (fun e w' h => by obtain ⟨v, he, hk, Ao, co, cso, hv, ho1, ho2, ho3⟩ := h; exact ⟨v, he, hk, _, ho1, ho2, ⟨Ao, co, cso, rfl, hv, ho3⟩⟩)) ?_); clear hS a; intro v51 ob a w hK hp hS
            obtain ⟨Au50, cu50, csu50, rfl, rfl, hou50⟩ := hp
            clear hK
            replace hS := hS.add 122 (rdF (Rep.num .i64) csu50 (r39)) (RdAll.up2 hS hou50)
            refine q_seq hS rfl rfl rfl (y_move hS rfl) ?_; clear hS a; intro a hS
            refine l_seq rfl (l_buildDense (sz := 1) hS 2204 rfl rfl rfl Try.underlying30 rfl rfl rfl rfl rfl rfl rfl ?_); clear hS a; intro b52 a w hbb52 hK hS
            clear hbb52
            clear hK
            replace hS := hS.add 123 (rdF (Rep.num .i64) (cellsOfL [.int .i64 (((t_37 : Nat) : Int))]) ([((t_37 : Nat) : Int)])) (RdAll.cons (by exact rfl) (RdAll.nil _ _ _))
            have hs54 := row_src (hS.wd.holds 2204 _ rfl) (RdAll.one (hS.fact (k := 123) rfl))
            refine l_seq rfl (l_append (sz := 1) (by_ := 8) (N := (r39 ++ [((t_37 : Nat) : Int)]).length) (ys := csu50 ++ (cellsOfL [.int .i64 (((t_37 : Nat) : Int))])) hS 2202 rfl rfl rfl Try.underlying30 rfl rfl rfl rfl rfl hs54 (by simp) rfl (by have hr := hk43; clear hg; first | omega | (simp only [List.length_append, List.length_cons, List.length_nil] at hr ⊢; omega) | (simp at hr ⊢; omega)) (by have hr := hk43; clear hg; first | omega | (simp only [List.length_append, List.length_cons, List.length_nil] at hr ⊢; omega) | (simp at hr ⊢; omega)) rfl ?_); clear hS a; intro Aq53 cq53 a w hA hK hS
            clear hK hA
            replace hS := hS.add 124 (rdF (Rep.num .i64) (csu50 ++ (cellsOfL [.int .i64 (((t_37 : Nat) : Int))])) (r39 ++ [((t_37 : Nat) : Int)])) (RdAll.append (hS.fact (k := 122) rfl) (hS.fact (k := 123) rfl))
            replace hS := hS.freeze (R := (Rep.num .i64)) (kk := 2202) (L' := [(2204, Ob.row (some ⟨b52, 0, none⟩) (1) (1) 3 1 (cellsOfL [.int .i64 (((t_37 : Nat) : Int))])), (700114, Ob.rowV (A34) ((out_33).length) (c35) 30 1 (cs36) (if c5 = from_7 then A4 else (A4).map (·.add (from_7 * 1))) (((cs6).drop (from_7 * 1)).take (((out_3).length - from_7) * 1)))]) 125 rfl rfl (hS.fact (k := 124) rfl) ⟨rfl, rfl, trivial⟩ rfl
            refine l_seq rfl (l_buildDense (sz := 1) hS 2206 rfl rfl rfl Try.underlying62 rfl rfl rfl rfl rfl rfl rfl ?_); clear hS a; intro b55 a w hbb55 hK hS
            clear hbb55
            clear hK
            replace hS := hS.add 126 (rdF (Rep.list (Rep.num .i64)) (cellsOfL [.slice (Aq53) ((r39 ++ [((t_37 : Nat) : Int)]).length) (cq53)]) ([r39 ++ [((t_37 : Nat) : Int)]])) (RdAll.cons (by exact ⟨_, _, _, rfl, (hS.fact (k := 125) rfl)⟩) (RdAll.nil _ _ _))
            have hs57 := row_src (hS.wd.holds 2206 _ rfl) (RdAll.one (hS.fact (k := 126) rfl))
            refine l_seq rfl (l_appendV (sz := 1) (by_ := 24) (N := (out_33 ++ [r39 ++ [((t_37 : Nat) : Int)]]).length) (ys := cs36 ++ (cellsOfL [.slice (Aq53) ((r39 ++ [((t_37 : Nat) : Int)]).length) (cq53)])) hS 700114 rfl rfl rfl Try.underlying62 rfl rfl rfl rfl rfl hs57 (by simp) rfl (by have hr := hk47; clear hg; first | omega | (simp only [List.length_append, List.length_cons, List.length_nil] at hr ⊢; omega) | (simp at hr ⊢; omega)) (by have hr := hk47; clear hg; first | omega | (simp only [List.length_append, List.length_cons, List.length_nil] at hr ⊢; omega) | (simp at hr ⊢; omega)) rfl ?_); clear hS a; intro Aq56 cq56 a w hK hS
            have hA := True.intro
            clear hK hA
            replace hS := hS.add 127 (rdF (Rep.list (Rep.num .i64)) (cs36 ++ (cellsOfL [.slice (Aq53) ((r39 ++ [((t_37 : Nat) : Int)]).length) (cq53)])) (out_33 ++ [r39 ++ [((t_37 : Nat) : Int)]])) (RdAll.append (hS.fact (k := 115) rfl) (hS.fact (k := 126) rfl))
            refine q_seq hS rfl rfl rfl (y_assign hS rfl) ?_; clear hS a; intro a hS
            apply wpList_nil
            refine p_inN ?_
            refine p_norm ?_
            replace hg := chk_some hg; obtain ⟨hk58, hg⟩ := hg
            apply wp_region_lit
            refine q_seq hS rfl rfl rfl (y_addN (i := t_37) (j := 1) hS rfl rfl (in64.2 (by omega))) ?_; clear hS a; intro a hS
            refine q_seq hS rfl rfl rfl (y_move hS rfl) ?_; clear hS a; intro a hS
            apply wpList_nil
            refine p_norm ?_
            replace hS := hS.add 115 (rdF (Rep.list (Rep.num .i64)) (cs36 ++ (cellsOfL [.slice (Aq53) ((r39 ++ [((t_37 : Nat) : Int)]).length) (cq53)])) (out_33 ++ [r39 ++ [((t_37 : Nat) : Int)]])) (hS.fact (k := 127) rfl)
            exact ⟨m3, Nat.lt_succ_self _, ⟨(out_33 ++ [r39 ++ [((t_37 : Nat) : Int)]]), (t_37 + 1), (Aq56), (cq56), (cs36 ++ (cellsOfL [.slice (Aq53) ((r39 ++ [((t_37 : Nat) : Int)]).length) (cq53)])), hg, (hS.sub ⟨rfl, rfl, rfl, rfl, rfl, rfl, rfl, rfl, rfl, rfl, rfl, trivial⟩ ⟨rfl, trivial⟩ ⟨rfl, rfl, rfl, trivial⟩)⟩⟩
          · replace hg := br_f hg hc38
            apply wp_exit
            refine p_then ?_
            refine p_then ?_
            refine p_in ?_
            refine p_inN ?_
            refine p_norm ?_
            replace hS := hS.add 111 (rdF (Rep.list (Rep.num .i64)) (cs36) (out_33)) (hS.fact (k := 115) rfl)
            replace hS := hS.ren [(700110, Ob.rowV (A34) ((out_33).length) (c35) 30 1 (cs36) (if c5 = from_7 then A4 else (A4).map (·.add (from_7 * 1))) (((cs6).drop (from_7 * 1)).take (((out_3).length - from_7) * 1)))] [700114] ⟨rfl, trivial⟩ (by decide)
            exact ⟨(out_33), (A34), (c35), (cs36), hg, (hS.sub ⟨rfl, rfl, rfl, rfl, rfl, rfl, rfl, rfl, trivial⟩ ⟨rfl, trivial⟩ ⟨rfl, rfl, trivial⟩)⟩
        clear hS a; rintro a w ⟨out_24, A25, c26, cs27, hg, hS⟩
        subst hk23
        apply wp_region_lit
        refine q_seq hS rfl rfl rfl (y_addN (i := t_20) (j := 1) hS rfl rfl (in64.2 (by omega))) ?_; clear hS a; intro a hS
        refine q_seq hS rfl rfl rfl (y_move hS rfl) ?_; clear hS a; intro a hS
        apply wpList_nil
        refine p_norm ?_
        replace hS := hS.add 109 (rdF (Rep.list (Rep.num .i64)) (cs27) (out_24)) (hS.fact (k := 111) rfl)
        replace hS := hS.ren [(700108, Ob.rowV (A25) ((out_24).length) (c26) 30 1 (cs27) (if c5 = from_7 then A4 else (A4).map (·.add (from_7 * 1))) (((cs6).drop (from_7 * 1)).take (((out_3).length - from_7) * 1)))] [700110] ⟨rfl, trivial⟩ (by decide)
        exact ⟨m2, Nat.lt_succ_self _, ⟨(out_24), (t_20 + 1), (A25), (c26), (cs27), hg, (hS.sub ⟨rfl, rfl, rfl, rfl, rfl, rfl, rfl, rfl, trivial⟩ ⟨rfl, trivial⟩ ⟨rfl, rfl, trivial⟩)⟩⟩
      · replace hg := br_f hg hc21
        apply wp_exit
        refine p_then ?_
        refine p_then ?_
        refine p_in ?_
        refine p_norm ?_
        replace hS := hS.unview (kk := 700108) rfl
        replace hS := hS.add 107 (rdF (Rep.list (Rep.num .i64)) (cs19) (out_16)) (hS.fact (k := 109) rfl)
        replace hS := hS.ren [(700106, Ob.row (A17) ((out_16).length) (c18) 30 1 (cs19))] [700108] ⟨rfl, trivial⟩ (by decide)
        exact ⟨(out_16), (A17), (c18), (cs19), hg, (hS.sub ⟨rfl, rfl, rfl, rfl, rfl, trivial⟩ ⟨rfl, trivial⟩ ⟨rfl, trivial⟩)⟩
    clear hS a; rintro a w ⟨out_12, A13, c14, cs15, hg, hS⟩
    subst hk11
    apply wp_region_lit
    refine q_seq hS rfl rfl rfl (y_move hS rfl) ?_; clear hS a; intro a hS
    refine q_seq hS rfl rfl rfl (y_assign hS rfl) ?_; clear hS a; intro a hS
    apply wpList_nil
    refine p_inN ?_
    refine p_norm ?_
    replace hg := chk_some hg; obtain ⟨hk59, hg⟩ := hg
    apply wp_region_lit
    refine q_seq hS rfl rfl rfl (y_move hS rfl) ?_; clear hS a; intro a hS
    refine q_seq hS rfl rfl rfl (y_addN (i := n_8) (j := 1) hS rfl rfl (in64.2 (by omega))) ?_; clear hS a; intro a hS
    refine q_seq hS rfl rfl rfl (y_assign hS rfl) ?_; clear hS a; intro a hS
    apply wpList_nil
    refine p_norm ?_
    replace hS := hS.add 102 (rdF (Rep.list (Rep.num .i64)) (cs15) (out_12)) (hS.fact (k := 107) rfl)
    replace hS := hS.ren [(700101, Ob.row (A13) ((out_12).length) (c14) 30 1 (cs15))] [700106] ⟨rfl, trivial⟩ (by decide)
    exact ⟨m1, Nat.lt_succ_self _, ⟨(out_12), ((out_3).length), (n_8 + 1), (A13), (c14), (cs15), hg, (hS.sub ⟨rfl, rfl, rfl, rfl, rfl, trivial⟩ ⟨rfl, trivial⟩ ⟨rfl, trivial⟩)⟩⟩
  · replace hg := br_f hg hc9
    apply wp_exit
    refine p_then ?_
    refine p_then ?_
    refine p_in ?_
    refine p_norm ?_
    apply wp_seq
    apply wp_region_lit
    refine q_seq hS rfl rfl rfl (y_move hS rfl) ?_; clear hS a; intro a hS
    refine q_seq hS rfl rfl rfl (y_assign hS rfl) ?_; clear hS a; intro a hS
    apply wpList_nil
    refine p_norm ?_
    apply wp_ret
    obtain rfl := Option.some.inj hg
    refine fin1 (fn := Try.f37) hS rfl (r_tmp hS rfl) ?_
    exact ⟨(A4), (c5), rfl, (hS.rowOut (R := (Rep.list (Rep.num .i64))) (kk := 700101) rfl rfl (hS.fact (k := 102) rfl))⟩
set_option maxHeartbeats 400000 in
theorem c_lexicon_Analyses_1 (n : Nat) (M : Bs) (w0 : World) (hM : ∀ b, M b → b < w0.heap.size) (x_ : Entry) (Ap02 : Option Addr) (cp02 : Nat) (Ap03 : Option Addr) (cp03 : Nat) (lp01 : (x_.Name).length ≤ 9223372036854775807) (hp02 : SlR Rep.str M w0 Ap02 (x_.Words).length cp02 (x_.Words)) (hp03 : SlR RNode M w0 Ap03 (x_.FS.Nodes).length cp03 (x_.FS.Nodes)) (bf0 : Nat) (c0_ : (List (List UInt8))) (Af01 : Option Addr) (cf01 : Nat) (hf01 : SlR Rep.str M w0 Af01 (c0_).length cf01 (c0_)) (hb0 : BoxR bf0 [.slice (Af01) ((c0_).length) (cf01)] 27 M w0) (r : Bool) (hg : lexicon_Analyses_1 n x_ c0_ = some r) :
    Calls Try.prog 38 [.agg #[.string (bs (x_.Name)), .slice (Ap02) ((x_.Words).length) (cp02), .slice (Ap03) ((x_.FS.Nodes).length) (cp03)], .pointer (some ⟨bf0, 0, none⟩)].toArray w0 (Ret noB w0 fun v w => v = .bool (r)) := by
  unfold lexicon_Analyses_1 at hg
  refine enter M noB Try.func38 rfl rfl hM ?_
  intro a hS
  replace hS := hS.add 101 (slF Rep.str (Ap02) ((x_.Words).length) (cp02) (x_.Words)) (by exact Fact.change _ enterM hp02)
  replace hS := hS.add 102 (slF RNode (Ap03) ((x_.FS.Nodes).length) (cp03) (x_.FS.Nodes)) (by exact Fact.change _ enterM hp03)
  replace hS := hS.add 103 (slF Rep.str (Af01) ((c0_).length) (cf01) (c0_)) (by exact Fact.change _ enterM hf01)
  replace hS := hS.add 104 (boxF bf0 [.slice (Af01) ((c0_).length) (cf01)] 27) (by exact Fact.change _ enterM hb0)
  apply wp_seq
  apply wp_region_lit
  refine l_seq rfl (l_box (zs := [.string (bs (x_.Name)), .slice (Ap02) ((x_.Words).length) (cp02), .slice (Ap03) ((x_.FS.Nodes).length) (cp03)]) hS 1000 rfl rfl rfl rfl ?_); clear hS a; intro b2 a w hb hK hS
  clear hb
  clear hK
  refine q_seq hS rfl rfl rfl (y_assign hS rfl) ?_; clear hS a; intro a hS
  apply wpList_nil
  refine p_norm ?_
  apply wp_seq
  apply wp_region_lit
  refine q_seq hS rfl rfl rfl (y_boxField (o' := 1) hS rfl Try.underlying47 rfl rfl rfl) ?_; clear hS a; intro a hS
  refine q_seq hS rfl rfl rfl (y_loadBox1 (kk := 1000) hS rfl rfl rfl Try.underlying27 rfl) ?_; clear hS a; intro a hS
  refine q_seq hS rfl rfl rfl (y_lenSlice hS rfl Try.underlying27) ?_; clear hS a; intro a hS
  refine q_seq hS rfl rfl rfl (y_loadF1 hS rfl (hS.fact (k := 104) rfl) rfl Try.underlying27 rfl) ?_; clear hS a; intro a hS
  refine q_seq hS rfl rfl rfl (y_lenSlice hS rfl Try.underlying27) ?_; clear hS a; intro a hS
  refine q_seq hS rfl rfl rfl (y_eqlN (i := ((x_.Words).length)) (j := ((c0_).length)) hS rfl rfl) ?_; clear hS a; intro a hS
  refine q_seq hS rfl rfl rfl (y_assign hS rfl) ?_; clear hS a; intro a hS
  apply wpList_nil
  refine p_norm ?_
  apply wp_ret
  obtain rfl := Option.some.inj hg
  refine fin1 (fn := Try.f38) hS rfl (r_tmp hS rfl) ?_
  exact rfl
set_option maxHeartbeats 400000 in
theorem c_lexicon_Analyses (n : Nat) (M : Bs) (w0 : World) (hM : ∀ b, M b → b < w0.heap.size) (e_ : (List Entry)) (Ap01 : Option Addr) (cp01 : Nat) (hp01 : SlR REntry M w0 Ap01 (e_).length cp01 (e_)) (r_ : (List LexRule)) (Ap11 : Option Addr) (cp11 : Nat) (hp11 : SlR RLexRule M w0 Ap11 (r_).length cp11 (r_)) (words_ : (List (List UInt8))) (Ap21 : Option Addr) (cp21 : Nat) (hp21 : SlR Rep.str M w0 Ap21 (words_).length cp21 (words_)) (r : (List Analysis)) (hg : lexicon_Analyses n e_ r_ words_ = some r) :
    Calls Try.prog 22 [.slice (Ap01) ((e_).length) (cp01), .slice (Ap11) ((r_).length) (cp11), .slice (Ap21) ((words_).length) (cp21)].toArray w0 (Ret noB w0 fun v w => ∃ (Aa1 : Option Addr), ∃ (ca1 : Nat), v = .slice (Aa1) ((r).length) (ca1) ∧ (SlR RAnalysis M w Aa1 (r).length ca1 (r))) := by
  unfold lexicon_Analyses at hg
  refine enter M noB Try.func22 rfl rfl hM ?_
  intro a hS
  replace hS := hS.add 101 (slF REntry (Ap01) ((e_).length) (cp01) (e_)) (by exact Fact.change _ enterM hp01)
  replace hS := hS.add 102 (slF RLexRule (Ap11) ((r_).length) (cp11) (r_)) (by exact Fact.change _ enterM hp11)
  replace hS := hS.add 103 (slF Rep.str (Ap21) ((words_).length) (cp21) (words_)) (by exact Fact.change _ enterM hp21)
  apply wp_seq
  apply wp_region_lit
  refine l_seq rfl (l_box (zs := [.slice (Ap21) ((words_).length) (cp21)]) hS 1000 rfl rfl rfl rfl ?_); clear hS a; intro b2 a w hb hK hS
  clear hb
  clear hK
  refine q_seq hS rfl rfl rfl (y_assign hS rfl) ?_; clear hS a; intro a hS
  apply wpList_nil
  refine p_norm ?_
  apply wp_seq
  replace hg := bind_some hg; obtain ⟨r3, hr3, hg⟩ := hg
  apply wp_region_lit
  refine q_seq hS rfl rfl rfl (y_move hS rfl) ?_; clear hS a; intro a hS
  refine q_seq hS rfl rfl rfl (y_lenSlice hS rfl Try.underlying33) ?_; clear hS a; intro a hS
  refine l_seq rfl (l_call (cap := []) hS rfl Try.func37 rfl (by kernel_rfl) rfl rfl (c_lexicon_chains n _ _ hS.lt (((r_).length : Nat) : Int) 2 r3 hr3) ?_); clear hS a; intro v6 a w hK hp hS
  clear hK
  obtain ⟨Au7a1, cu7a1, rfl, hu7a1⟩ := hp
  replace hS := hS.add 105 (slF (Rep.list (Rep.num .i64)) (Au7a1) ((r3).length) (cu7a1) (r3)) hu7a1
  refine q_seq hS rfl rfl rfl (y_assign hS rfl) ?_; clear hS a; intro a hS
  apply wpList_nil
  refine p_norm ?_
  apply wp_seq
  apply wp_region_lit
  refine q_seq hS rfl rfl rfl (y_assign hS rfl) ?_; clear hS a; intro a hS
  apply wpList_nil
  refine p_norm ?_
  apply wp_seq
  apply wp_seq
  replace hg := bind_some hg; obtain ⟨r8, hr8, hg⟩ := hg
  apply wp_region_lit
  refine q_seq hS rfl rfl rfl (y_move hS rfl) ?_; clear hS a; intro a hS
  replace hS := hS.freezeBox (L' := []) 108 1000 rfl trivial rfl
  refine q_seq hS rfl rfl rfl (y_makeFunc (xs := [.tmp 5]) (vs := [.pointer (some ⟨b2, 0, none⟩)]) hS rfl) ?_; clear hS a; intro a hS
  refine l_seq rfl (l_call (cap := []) hS rfl Try.func32 rfl (by kernel_rfl) rfl rfl (c_lexicon_indices_Entry n _ _ hS.lt e_ (Ap01) (cp01) (hS.fact (k := 101) rfl) (fun p => lexicon_Analyses_1 n p words_) (38) ([.pointer (some ⟨b2, 0, none⟩)]) ⟨⟨_, _, Try.func38, rfl, by kernel_rfl⟩, fun M1 w1 hk hm hlt vs x r hp hr => by obtain ⟨Aa2, ca2, Aa3, ca3, rfl, la1, ha2, ha3⟩ := hp; exact c_lexicon_Analyses_1 n M1 w1 hlt (x) Aa2 ca2 Aa3 ca3 la1 ha2 ha3 b2 (words_) (Ap21) (cp21) (Fact.move (slF Rep.str (Ap21) ((words_).length) (cp21) (words_)) hk hm (hS.fact (k := 103) rfl)) (Fact.move (boxF b2 [.slice (Ap21) ((words_).length) (cp21)] 27) hk hm (hS.fact (k := 108) rfl)) r hr⟩ r8 hr8) ?_); clear hS a; intro v11 a w hK hp hS
  clear hK
  obtain ⟨Au12a1, cu12a1, rfl, hu12a1⟩ := hp
  replace hS := hS.add 109 (slF (Rep.num .i64) (Au12a1) ((r8).length) (cu12a1) (r8)) hu12a1
  refine q_seq hS rfl rfl rfl (y_lenSlice hS rfl Try.underlying30) ?_; clear hS a; intro a hS
  refine q_seq hS rfl rfl rfl (y_move hS rfl) ?_; clear hS a; intro a hS
  apply wpList_nil
  refine p_norm ?_
  apply wp_block
  replace hS := hS.nilRow 700110 35 2 rfl
  replace hS := hS.add 111 (rdF RAnalysis [] []) (RdAll.nil _ _ _)
  refine c_loop (σ := Nat) (fun m1 a w => ∃ (out_13 : (List Analysis)), ∃ (t_17 : Nat), ∃ (A14 : Option Addr), ∃ (c15 : Nat), ∃ (cs16 : List Value), lexicon_Analyses_L0 n e_ r_ words_ r3 r8 m1 out_13 t_17 = some r ∧ St (⟨Try.f22.ntmps, M, noB, w0⟩ : Ctx) [(0, .slice (Ap01) ((e_).length) (cp01)), (1, .slice (Ap11) ((r_).length) (cp11)), (5, .pointer (some ⟨b2, 0, none⟩)), (7, .slice (Au7a1) ((r3).length) (cu7a1)), (8, .slice (A14) ((out_13).length) (c15)), (21, .slice (Au12a1) ((r8).length) (cu12a1)), (22, .int .i64 ((((r8).length : Nat) : Int))), (23, .int .i64 (((t_17 : Nat) : Int)))] [(700110, Ob.row (A14) ((out_13).length) (c15) 35 2 (cs16))] [(101, slF REntry (Ap01) ((e_).length) (cp01) (e_)), (102, slF RLexRule (Ap11) ((r_).length) (cp11) (r_)), (103, slF Rep.str (Ap21) ((words_).length) (cp21) (words_)), (105, slF (Rep.list (Rep.num .i64)) (Au7a1) ((r3).length) (cu7a1) (r3)), (108, boxF b2 [.slice (Ap21) ((words_).length) (cp21)] 27), (109, slF (Rep.num .i64) (Au12a1) ((r8).length) (cu12a1) (r8)), (111, rdF RAnalysis (cs16) (out_13))] a w) (fun m1 => m1) n ⟨([]), (0), (none), (0), ([]), hg, (hS.sub ⟨rfl, rfl, rfl, rfl, rfl, rfl, rfl, rfl, trivial⟩ ⟨rfl, trivial⟩ ⟨rfl, rfl, rfl, rfl, rfl, rfl, rfl, trivial⟩)⟩ ?_
  clear hS a; rintro m1 a w ⟨out_13, t_17, A14, c15, cs16, hg, hS⟩
  rcases m1 with _ | m1
  · rw [lexicon_Analyses_L0] at hg; cases hg
  rw [lexicon_Analyses_L0] at hg
  apply wp_seq
  apply wp_region_lit
  refine q_seq hS rfl rfl rfl (y_lssN (i := t_17) (j := ((r8).length)) hS rfl rfl) ?_; clear hS a; intro a hS
  apply wpList_nil
  refine p_norm ?_
  apply wp_seq
  refine c_dec hS rfl (fun hc18 => ?_) (fun hc18 => ?_)
  · replace hg := br_t hg hc18
    have hmx19 := SlR.mx (hS.fact (k := 109) rfl)
    apply wp_skip
    refine p_norm ?_
    apply wp_seq
    replace hg := jn_some hg; obtain ⟨k20, hg, hk20⟩ := hg
    refine c_post (fun a w => ∃ (out_21 : (List Analysis)), ∃ (A22 : Option Addr), ∃ (c23 : Nat), ∃ (cs24 : List Value), k20 out_21 = some r ∧ St (⟨Try.f22.ntmps, M, noB, w0⟩ : Ctx) [(0, .slice (Ap01) ((e_).length) (cp01)), (1, .slice (Ap11) ((r_).length) (cp11)), (5, .pointer (some ⟨b2, 0, none⟩)), (7, .slice (Au7a1) ((r3).length) (cu7a1)), (8, .slice (A22) ((out_21).length) (c23)), (21, .slice (Au12a1) ((r8).length) (cu12a1)), (22, .int .i64 ((((r8).length : Nat) : Int))), (23, .int .i64 (((t_17 : Nat) : Int)))] [(700112, Ob.row (A22) ((out_21).length) (c23) 35 2 (cs24))] [(101, slF REntry (Ap01) ((e_).length) (cp01) (e_)), (102, slF RLexRule (Ap11) ((r_).length) (cp11) (r_)), (103, slF Rep.str (Ap21) ((words_).length) (cp21) (words_)), (105, slF (Rep.list (Rep.num .i64)) (Au7a1) ((r3).length) (cu7a1) (r3)), (108, boxF b2 [.slice (Ap21) ((words_).length) (cp21)] 27), (109, slF (Rep.num .i64) (Au12a1) ((r8).length) (cu12a1) (r8)), (113, rdF RAnalysis (cs24) (out_21))] a w) ?_ ?_
    · apply wp_block
      apply wp_seq
      replace hg := bind_some hg; obtain ⟨x26, hx26, hg⟩ := hg
      apply wp_region_lit
      obtain ⟨p28, hep28, hpp28⟩ := SlR.elemX (hS.fact (k := 109) rfl) hx26
      refine q_seq hS rfl rfl rfl (y_elem (sz := 1) (i := t_17) hS rfl rfl Try.underlying30 rfl hep28 rfl (lt_of_get hx26)) ?_; clear hS a; intro a hS
      obtain ⟨hlq29, hmq29, csq29, hdq29, hcq29⟩ := hpp28
      obtain rfl := hdq29
      refine q_seq hS rfl rfl rfl (y_ldp1 hS rfl hlq29 hmq29 (hcq29 0 _ rfl) Try.underlying3 rfl) ?_; clear hS a; intro a hS
      refine q_seq hS rfl rfl rfl (y_assign hS rfl) ?_; clear hS a; intro a hS
      apply wpList_nil
      refine p_norm ?_
      apply wp_seq
      apply wp_region_lit
      refine q_seq hS rfl rfl rfl (y_move hS rfl) ?_; clear hS a; intro a hS
      refine q_seq hS rfl rfl rfl (y_lenSlice hS rfl Try.underlying62) ?_; clear hS a; intro a hS
      refine q_seq hS rfl rfl rfl (y_move hS rfl) ?_; clear hS a; intro a hS
      apply wpList_nil
      refine p_norm ?_
      apply wp_block
      replace hS := hS.add 115 (rdF RAnalysis (cs16) (out_13)) (hS.fact (k := 111) rfl)
      replace hS := hS.ren [(700114, Ob.row (A14) ((out_13).length) (c15) 35 2 (cs16))] [700110] ⟨rfl, trivial⟩ (by decide)
      refine c_loop (σ := Nat) (fun m2 a w => ∃ (out_30 : (List Analysis)), ∃ (t_34 : Nat), ∃ (A31 : Option Addr), ∃ (c32 : Nat), ∃ (cs33 : List Value), lexicon_Analyses_L1 n e_ r_ words_ r3 k20 x26 m2 out_30 t_34 = some r ∧ St (⟨Try.f22.ntmps, M, noB, w0⟩ : Ctx) [(0, .slice (Ap01) ((e_).length) (cp01)), (1, .slice (Ap11) ((r_).length) (cp11)), (5, .pointer (some ⟨b2, 0, none⟩)), (7, .slice (Au7a1) ((r3).length) (cu7a1)), (8, .slice (A31) ((out_30).length) (c32)), (10, .int .i64 (x26)), (21, .slice (Au12a1) ((r8).length) (cu12a1)), (22, .int .i64 ((((r8).length : Nat) : Int))), (23, .int .i64 (((t_17 : Nat) : Int))), (27, .slice (Au7a1) ((r3).length) (cu7a1)), (28, .int .i64 ((((r3).length : Nat) : Int))), (29, .int .i64 (((t_34 : Nat) : Int)))] [(700114, Ob.row (A31) ((out_30).length) (c32) 35 2 (cs33))] [(101, slF REntry (Ap01) ((e_).length) (cp01) (e_)), (102, slF RLexRule (Ap11) ((r_).length) (cp11) (r_)), (103, slF Rep.str (Ap21) ((words_).length) (cp21) (words_)), (105, slF (Rep.list (Rep.num .i64)) (Au7a1) ((r3).length) (cu7a1) (r3)), (108, boxF b2 [.slice (Ap21) ((words_).length) (cp21)] 27), (109, slF (Rep.num .i64) (Au12a1) ((r8).length) (cu12a1) (r8)), (115, rdF RAnalysis (cs33) (out_30))] a w) (fun m2 => m2) n ⟨(out_13), (0), (A14), (c15), (cs16), hg, (hS.sub ⟨rfl, rfl, rfl, rfl, rfl, rfl, rfl, rfl, rfl, rfl, rfl, rfl, trivial⟩ ⟨rfl, trivial⟩ ⟨rfl, rfl, rfl, rfl, rfl, rfl, rfl, trivial⟩)⟩ ?_
      clear hS a; rintro m2 a w ⟨out_30, t_34, A31, c32, cs33, hg, hS⟩
      rcases m2 with _ | m2
      · rw [lexicon_Analyses_L1] at hg; cases hg
      rw [lexicon_Analyses_L1] at hg
      apply wp_seq
      apply wp_region_lit
      refine q_seq hS rfl rfl rfl (y_lssN (i := t_34) (j := ((r3).length)) hS rfl rfl) ?_; clear hS a; intro a hS
      apply wpList_nil
      refine p_norm ?_
      apply wp_seq
      refine c_dec hS rfl (fun hc35 => ?_) (fun hc35 => ?_)
      · replace hg := br_t hg hc35
        have hmx36 := SlR.mx (hS.fact (k := 105) rfl)
        apply wp_skip
        refine p_norm ?_
        apply wp_seq
        apply wp_block
        apply wp_seq
        replace hg := bind_some hg; obtain ⟨x38, hx38, hg⟩ := hg
        apply wp_region_lit
        obtain ⟨p40, hep40, hpp40⟩ := SlR.elemX (hS.fact (k := 105) rfl) hx38
        refine q_seq hS rfl rfl rfl (y_elem (sz := 1) (i := t_34) hS rfl rfl Try.underlying62 rfl hep40 rfl (lt_of_get hx38)) ?_; clear hS a; intro a hS
        obtain ⟨hlq41, hmq41, csq41, hdq41, hcq41⟩ := hpp40
        obtain ⟨Aq411, nnq41, cq411, rfl, hq411⟩ := hdq41
        obtain rfl := hq411.len
        replace hS := hS.add 117 (slF (Rep.num .i64) (Aq411) ((x38).length) (cq411) (x38)) hq411
        refine q_seq hS rfl rfl rfl (y_ldp1 hS rfl hlq41 hmq41 (hcq41 0 _ rfl) Try.underlying30 rfl) ?_; clear hS a; intro a hS
        refine q_seq hS rfl rfl rfl (y_assign hS rfl) ?_; clear hS a; intro a hS
        apply wpList_nil
        refine p_norm ?_
        apply wp_seq
        apply wp_region_lit
        refine q_seq hS rfl rfl rfl (y_move hS rfl) ?_; clear hS a; intro a hS
        refine q_seq hS rfl rfl rfl (y_move hS rfl) ?_; clear hS a; intro a hS
        refine q_seq hS rfl rfl rfl (y_build (parts := [(0, .tmp 33), (1, .tmp 34)]) (ps := [(0, .int .i64 (x26)), (1, .slice (Aq411) ((x38).length) (cq411))]) (cells := #[.int .i64 (x26), .slice (Aq411) ((x38).length) (cq411)]) hS rfl (by kernel_rfl)) ?_; clear hS a; intro a hS
        refine l_seq rfl (l_alloc (zs := [.int .i64 (0), .slice (none) (0) (0)]) hS 1903 rfl rfl rfl rfl ?_); clear hS a; intro b43 a w hb hK hS
        clear hb
        clear hK
        refine l_seq rfl (l_store (n := 2) (cs' := [.int .i64 (x26), .slice (Aq411) ((x38).length) (cq411)]) hS 1903 rfl rfl rfl rfl rfl rfl rfl rfl ?_); clear hS; intro w hK hS; clear hK
        apply wpList_nil
        refine p_norm ?_
        apply wp_seq
        replace hg := bind_some hg; obtain ⟨r44, hr44, hg⟩ := hg
        apply wp_region_lit
        refine q_seq hS rfl rfl rfl (y_move hS rfl) ?_; clear hS a; intro a hS
        refine q_seq hS rfl rfl rfl (y_move hS rfl) ?_; clear hS a; intro a hS
        refine q_seq hS rfl rfl rfl (y_loadBox (kk := 1903) (n := 2) (vs := [.int .i64 (x26), .slice (Aq411) ((x38).length) (cq411)]) hS rfl rfl Try.underlying35 rfl rfl rfl rfl) ?_; clear hS a; intro a hS
        refine l_seq rfl (l_call (cap := []) hS rfl Try.func18 rfl (by kernel_rfl) rfl rfl (c_lexicon_Form n _ _ hS.lt e_ (Ap01) (cp01) (hS.fact (k := 101) rfl) r_ (Ap11) (cp11) (hS.fact (k := 102) rfl) (Analysis.mk x26 x38) (Aq411) (cq411) (hS.fact (k := 117) rfl) r44 hr44) ?_); clear hS a; intro v47 a w hK hp hS
        clear hK
        obtain ⟨Au48a1, cu48a1, rfl, hu48a1⟩ := hp
        replace hS := hS.add 119 (slF Rep.str (Au48a1) ((r44.1).length) (cu48a1) (r44.1)) hu48a1
        refine q_seq hS rfl rfl rfl (y_move hS rfl) ?_; clear hS a; intro a hS
        refine q_seq hS rfl rfl rfl (y_extract hS rfl rfl) ?_; clear hS a; intro a hS
        refine q_seq hS rfl rfl rfl (y_extract hS rfl rfl) ?_; clear hS a; intro a hS
        refine q_seq hS rfl rfl rfl (y_assign hS rfl) ?_; clear hS a; intro a hS
        refine q_seq hS rfl rfl rfl (y_assign hS rfl) ?_; clear hS a; intro a hS
        apply wpList_nil
        refine p_norm ?_
        apply wp_seq
        replace hg := jn_some hg; obtain ⟨k49, hg, hk49⟩ := hg
        refine c_post (fun a w => ∃ (t_50 : Bool), k49 t_50 = some r ∧ St (⟨Try.f22.ntmps, M, noB, w0⟩ : Ctx) [(0, .slice (Ap01) ((e_).length) (cp01)), (1, .slice (Ap11) ((r_).length) (cp11)), (5, .pointer (some ⟨b2, 0, none⟩)), (7, .slice (Au7a1) ((r3).length) (cu7a1)), (8, .slice (A31) ((out_30).length) (c32)), (10, .int .i64 (x26)), (13, .pointer (some ⟨b43, 0, none⟩)), (21, .slice (Au12a1) ((r8).length) (cu12a1)), (22, .int .i64 ((((r8).length : Nat) : Int))), (23, .int .i64 (((t_17 : Nat) : Int))), (27, .slice (Au7a1) ((r3).length) (cu7a1)), (28, .int .i64 ((((r3).length : Nat) : Int))), (29, .int .i64 (((t_34 : Nat) : Int))), (48, .bool (t_50))] [(1903, Ob.box b43 [.int .i64 (x26), .slice (Aq411) ((x38).length) (cq411)] 35), (700114, Ob.row (A31) ((out_30).length) (c32) 35 2 (cs33))] [(101, slF REntry (Ap01) ((e_).length) (cp01) (e_)), (102, slF RLexRule (Ap11) ((r_).length) (cp11) (r_)), (103, slF Rep.str (Ap21) ((words_).length) (cp21) (words_)), (105, slF (Rep.list (Rep.num .i64)) (Au7a1) ((r3).length) (cu7a1) (r3)), (108, boxF b2 [.slice (Ap21) ((words_).length) (cp21)] 27), (109, slF (Rep.num .i64) (Au12a1) ((r8).length) (cu12a1) (r8)), (115, rdF RAnalysis (cs33) (out_30)), (117, slF (Rep.num .i64) (Aq411) ((x38).length) (cq411) (x38))] a w) ?_ ?_
        · rcases Bool.eq_false_or_eq_true (r44.2) with hs51 | hs51
          · replace hg := br_t hg hs51
            replace hg := bind_some hg; obtain ⟨r52, hr52, hg⟩ := hg
            apply wp_region_lit
            refine q_seq hS rfl rfl rfl (yl_b (y_move hS rfl) hs51) ?_; clear hS a; intro a hS
            refine q_seq hS rfl rfl rfl (y_move hS rfl) ?_; clear hS a; intro a hS
            refine g_yes hS rfl rfl rfl rfl (l_quiet hS rfl rfl (y_move hS rfl) ?_); clear hS a; intro a hS
            refine g_yes hS rfl rfl rfl rfl (l_quiet hS rfl rfl (y_loadF1 hS rfl (hS.fact (k := 108) rfl) rfl Try.underlying27 rfl) ?_); clear hS a; intro a hS
            refine g_yes hS rfl rfl rfl rfl (l_call (cap := []) hS rfl Try.func34 rfl (by kernel_rfl) rfl rfl (c_slices_Equal_string n _ _ hS.lt r44.1 (Au48a1) (cu48a1) (hS.fact (k := 119) rfl) words_ (Ap21) (cp21) (hS.fact (k := 103) rfl) r52 hr52) ?_); clear hS a; intro v55 a w hK hp hS
            clear hK
            obtain rfl := hp
            refine q_seq hS rfl rfl rfl (y_pick_t hS rfl rfl) ?_; clear hS a; intro a hS
            apply wpList_nil
            refine p_norm ?_
            exact ⟨(r52), hg, (hS.sub ⟨rfl, rfl, rfl, rfl, rfl, rfl, rfl, rfl, rfl, rfl, rfl, rfl, rfl, rfl, trivial⟩ ⟨rfl, rfl, trivial⟩ ⟨rfl, rfl, rfl, rfl, rfl, rfl, rfl, rfl, trivial⟩)⟩
          · replace hg := br_f hg (by rw [hs51]; exact Bool.false_ne_true)
            apply wp_region_lit
            refine q_seq hS rfl rfl rfl (yl_b (y_move hS rfl) hs51) ?_; clear hS a; intro a hS
            refine q_seq hS rfl rfl rfl (y_move hS rfl) ?_; clear hS a; intro a hS
            refine g_no hS rfl rfl rfl rfl rfl rfl rfl ?_; clear hS a; intro a hS
            refine g_no hS rfl rfl rfl rfl rfl rfl rfl ?_; clear hS a; intro a hS
            refine g_no hS rfl rfl rfl rfl rfl rfl rfl ?_; clear hS a; intro a hS
            refine q_seq hS rfl rfl rfl (y_pick_f hS rfl rfl) ?_; clear hS a; intro a hS
            apply wpList_nil
            refine p_norm ?_
            exact ⟨(false), hg, (hS.sub ⟨rfl, rfl, rfl, rfl, rfl, rfl, rfl, rfl, rfl, rfl, rfl, rfl, rfl, rfl, trivial⟩ ⟨rfl, rfl, trivial⟩ ⟨rfl, rfl, rfl, rfl, rfl, rfl, rfl, rfl, trivial⟩)⟩
        clear hS a; rintro a w ⟨t_50, hg, hS⟩
        subst hk49
        refine c_cond hS rfl (fun hc57 => ?_) (fun hc57 => ?_)
        · replace hg := br_t hg hc57
          replace hg := chk_some hg; obtain ⟨hk59, hg⟩ := hg
          apply wp_region_lit
          refine q_seq hS rfl rfl rfl (y_move hS rfl) ?_; clear hS a; intro a hS
          refine q_seq hS rfl rfl rfl (y_loadBox (kk := 1903) (n := 2) (vs := [.int .i64 (x26), .slice (Aq411) ((x38).length) (cq411)]) hS rfl rfl Try.underlying35 rfl rfl rfl rfl) ?_; clear hS a; intro a hS
          refine l_seq rfl (l_buildDense (sz := 2) hS 2202 rfl rfl rfl Try.underlying41 rfl rfl rfl rfl rfl rfl rfl ?_); clear hS a; intro b62 a w hbb62 hK hS
          clear hbb62
          clear hK
          replace hS := hS.add 122 (rdF RAnalysis (cellsOfL [.agg #[.int .i64 (x26), .slice (Aq411) ((x38).length) (cq411)]]) ([(Analysis.mk x26 x38)])) (RdAll.cons (by exact (RAnalysis.mk' (x := (Analysis.mk x26 x38)) (hS.fact (k := 117) rfl))) (RdAll.nil _ _ _))
          have hs64 := row_src (hS.wd.holds 2202 _ rfl) (RdAll.one (hS.fact (k := 122) rfl))
          refine l_seq rfl (l_append (sz := 2) (by_ := 32) (N := (out_30 ++ [(Analysis.mk x26 x38)]).length) (ys := cs33 ++ (cellsOfL [.agg #[.int .i64 (x26), .slice (Aq411) ((x38).length) (cq411)]])) hS 700114 rfl rfl rfl Try.underlying41 rfl rfl rfl rfl rfl hs64 (by simp) rfl (by have hr := hk59; clear hg; first | omega | (simp only [List.length_append, List.length_cons, List.length_nil] at hr ⊢; omega) | (simp at hr ⊢; omega)) (by have hr := hk59; clear hg; first | omega | (simp only [List.length_append, List.length_cons, List.length_nil] at hr ⊢; omega) | (simp at hr ⊢; omega)) rfl ?_); clear hS a; intro Aq63 cq63 a w hA hK hS
          clear hK hA
          replace hS := hS.add 123 (rdF RAnalysis (cs33 ++ (cellsOfL [.agg #[.int .i64 (x26), .slice (Aq411) ((x38).length) (cq411)]])) (out_30 ++ [(Analysis.mk x26 x38)])) (RdAll.append (hS.fact (k := 115) rfl) (hS.fact (k := 122) rfl))
          refine q_seq hS rfl rfl rfl (y_assign hS rfl) ?_; clear hS a; intro a hS
          apply wpList_nil
          refine p_inN ?_
          refine p_norm ?_
          apply wp_region_lit
          refine q_seq hS rfl rfl rfl (y_addN (i := t_34) (j := 1) hS rfl rfl (in64.2 (by omega))) ?_; clear hS a; intro a hS
          refine q_seq hS rfl rfl rfl (y_move hS rfl) ?_; clear hS a; intro a hS
          apply wpList_nil
          refine p_norm ?_
          replace hS := hS.add 115 (rdF RAnalysis (cs33 ++ (cellsOfL [.agg #[.int .i64 (x26), .slice (Aq411) ((x38).length) (cq411)]])) (out_30 ++ [(Analysis.mk x26 x38)])) (hS.fact (k := 123) rfl)
          exact ⟨m2, Nat.lt_succ_self _, ⟨(out_30 ++ [(Analysis.mk x26 x38)]), (t_34 + 1), (Aq63), (cq63), (cs33 ++ (cellsOfL [.agg #[.int .i64 (x26), .slice (Aq411) ((x38).length) (cq411)]])), hg, (hS.sub ⟨rfl, rfl, rfl, rfl, rfl, rfl, rfl, rfl, rfl, rfl, rfl, rfl, trivial⟩ ⟨rfl, trivial⟩ ⟨rfl, rfl, rfl, rfl, rfl, rfl, rfl, trivial⟩)⟩⟩
        · replace hg := br_f hg (by rw [hc57]; exact Bool.false_ne_true)
          apply wp_skip
          refine p_inN ?_
          refine p_norm ?_
          apply wp_region_lit
          refine q_seq hS rfl rfl rfl (y_addN (i := t_34) (j := 1) hS rfl rfl (in64.2 (by omega))) ?_; clear hS a; intro a hS
          refine q_seq hS rfl rfl rfl (y_move hS rfl) ?_; clear hS a; intro a hS
          apply wpList_nil
          refine p_norm ?_
          replace hS := hS.add 115 (rdF RAnalysis (cs33) (out_30)) (hS.fact (k := 115) rfl)
          exact ⟨m2, Nat.lt_succ_self _, ⟨(out_30), (t_34 + 1), (A31), (c32), (cs33), hg, (hS.sub ⟨rfl, rfl, rfl, rfl, rfl, rfl, rfl, rfl, rfl, rfl, rfl, rfl, trivial⟩ ⟨rfl, trivial⟩ ⟨rfl, rfl, rfl, rfl, rfl, rfl, rfl, trivial⟩)⟩⟩
      · replace hg := br_f hg hc35
        apply wp_exit
        refine p_then ?_
        refine p_then ?_
        refine p_in ?_
        refine p_inN ?_
        refine p_norm ?_
        replace hS := hS.add 113 (rdF RAnalysis (cs33) (out_30)) (hS.fact (k := 115) rfl)
        replace hS := hS.ren [(700112, Ob.row (A31) ((out_30).length) (c32) 35 2 (cs33))] [700114] ⟨rfl, trivial⟩ (by decide)
        exact ⟨(out_30), (A31), (c32), (cs33), hg, (hS.sub ⟨rfl, rfl, rfl, rfl, rfl, rfl, rfl, rfl, trivial⟩ ⟨rfl, trivial⟩ ⟨rfl, rfl, rfl, rfl, rfl, rfl, rfl, trivial⟩)⟩
    clear hS a; rintro a w ⟨out_21, A22, c23, cs24, hg, hS⟩
    subst hk20
    apply wp_region_lit
    refine q_seq hS rfl rfl rfl (y_addN (i := t_17) (j := 1) hS rfl rfl (in64.2 (by omega))) ?_; clear hS a; intro a hS
    refine q_seq hS rfl rfl rfl (y_move hS rfl) ?_; clear hS a; intro a hS
    apply wpList_nil
    refine p_norm ?_
    replace hS := hS.add 111 (rdF RAnalysis (cs24) (out_21)) (hS.fact (k := 113) rfl)
    replace hS := hS.ren [(700110, Ob.row (A22) ((out_21).length) (c23) 35 2 (cs24))] [700112] ⟨rfl, trivial⟩ (by decide)
    exact ⟨m1, Nat.lt_succ_self _, ⟨(out_21), (t_17 + 1), (A22), (c23), (cs24), hg, (hS.sub ⟨rfl, rfl, rfl, rfl, rfl, rfl, rfl, rfl, trivial⟩ ⟨rfl, trivial⟩ ⟨rfl, rfl, rfl, rfl, rfl, rfl, rfl, trivial⟩)⟩⟩
  · replace hg := br_f hg hc18
    apply wp_exit
    refine p_then ?_
    refine p_then ?_
    refine p_in ?_
    refine p_norm ?_
    apply wp_seq
    apply wp_region_lit
    refine q_seq hS rfl rfl rfl (y_move hS rfl) ?_; clear hS a; intro a hS
    refine q_seq hS rfl rfl rfl (y_assign hS rfl) ?_; clear hS a; intro a hS
    apply wpList_nil
    refine p_norm ?_
    apply wp_ret
    obtain rfl := Option.some.inj hg
    refine fin1 (fn := Try.f22) hS rfl (r_tmp hS rfl) ?_
    exact ⟨(A14), (c15), rfl, (hS.rowOut (R := RAnalysis) (kk := 700110) rfl rfl (hS.fact (k := 111) rfl))⟩
set_option maxHeartbeats 400000 in
theorem c_law24_exampleHolds (n : Nat) (M : Bs) (w0 : World) (hM : ∀ b, M b → b < w0.heap.size)  (r : Bool) (hg : law24_exampleHolds n = some r) :
    Calls Try.prog 11 [].toArray w0 (Ret noB w0 fun v w => v = .bool (r)) := by
  unfold law24_exampleHolds at hg
  refine enter M noB Try.func11 rfl rfl hM ?_
  intro a hS
  apply wp_seq
  apply wp_region_lit
  refine q_seq hS rfl rfl rfl (y_assign hS rfl) ?_; clear hS a; intro a hS
  apply wpList_nil
  refine p_norm ?_
  apply wp_seq
  apply wp_region_lit
  refine l_seq rfl (l_buildDense (sz := 1) hS 1100 rfl rfl rfl Try.underlying27 rfl rfl rfl rfl rfl rfl rfl ?_); clear hS a; intro b3 a w hbb3 hK hS
  clear hbb3
  clear hK
  replace hS := hS.add 103 (rdF Rep.str (cellsOfL [.string (bs ([102, 108, 121]))]) ([[102, 108, 121]])) (RdAll.cons (by exact ⟨rfl, (by first | omega | (rw [List.length_append]; omega) | (simp only [List.length_append]; omega) | (simp only [List.length_append, List.length_take, List.length_drop, List.length_cons, List.length_nil]; omega))⟩) (RdAll.nil _ _ _))
  replace hS := hS.freeze (R := Rep.str) (kk := 1100) (L' := []) 104 rfl rfl (hS.fact (k := 103) rfl) trivial rfl
  refine q_seq hS rfl rfl rfl (y_build (parts := [(0, .const (.string (bs ([102, 108, 121])))), (1, .tmp 6)]) (ps := [(0, .string (bs ([102, 108, 121]))), (1, .slice (some ⟨b3, 0, none⟩) (1) (1))]) (cells := #[.string (bs ([102, 108, 121])), .slice (some ⟨b3, 0, none⟩) (1) (1), .slice (none) (0) (0)]) hS rfl (by kernel_rfl)) ?_; clear hS a; intro a hS
  refine l_seq rfl (l_buildDense (sz := 3) hS 1102 rfl rfl rfl Try.underlying22 rfl rfl rfl rfl rfl rfl rfl ?_); clear hS a; intro b4 a w hbb4 hK hS
  clear hbb4
  clear hK
  refine q_seq hS rfl rfl rfl (y_assign hS rfl) ?_; clear hS a; intro a hS
  apply wpList_nil
  refine p_norm ?_
  apply wp_seq
  apply wp_region_lit
  refine q_seq hS rfl rfl rfl (y_build (parts := [(0, .const (.string (bs ([121])))), (1, .const (.string (bs ([105, 101, 115]))))]) (ps := [(0, .string (bs ([121]))), (1, .string (bs ([105, 101, 115])))]) (cells := #[.string (bs ([121])), .string (bs ([105, 101, 115]))]) hS rfl (by kernel_rfl)) ?_; clear hS a; intro a hS
  refine q_seq hS rfl rfl rfl (y_build (parts := [(0, .const (.string (bs ([])))), (1, .const (.string (bs ([115]))))]) (ps := [(0, .string (bs ([]))), (1, .string (bs ([115])))]) (cells := #[.string (bs ([])), .string (bs ([115]))]) hS rfl (by kernel_rfl)) ?_; clear hS a; intro a hS
  refine l_seq rfl (l_buildDense (sz := 2) hS 1202 rfl rfl rfl Try.underlying50 rfl rfl rfl rfl rfl rfl rfl ?_); clear hS a; intro b8 a w hbb8 hK hS
  clear hbb8
  clear hK
  replace hS := hS.add 109 (rdF RChange (cellsOfL [.agg #[.string (bs ([121])), .string (bs ([105, 101, 115]))], .agg #[.string (bs ([])), .string (bs ([115]))]]) ([(Change.mk [121] [105, 101, 115]), (Change.mk [] [115])])) (RdAll.cons (by exact (RChange.mk' (x := (Change.mk [121] [105, 101, 115])) (by first | omega | (rw [List.length_append]; omega) | (simp only [List.length_append]; omega) | (simp only [List.length_append, List.length_take, List.length_drop, List.length_cons, List.length_nil]; omega)) (by first | omega | (rw [List.length_append]; omega) | (simp only [List.length_append]; omega) | (simp only [List.length_append, List.length_take, List.length_drop, List.length_cons, List.length_nil]; omega)))) (RdAll.cons (by exact (RChange.mk' (x := (Change.mk [] [115])) (by first | omega | (rw [List.length_append]; omega) | (simp only [List.length_append]; omega) | (simp only [List.length_append, List.length_take, List.length_drop, List.length_cons, List.length_nil]; omega)) (by first | omega | (rw [List.length_append]; omega) | (simp only [List.length_append]; omega) | (simp only [List.length_append, List.length_take, List.length_drop, List.length_cons, List.length_nil]; omega)))) (RdAll.nil _ _ _)))
  replace hS := hS.freeze (R := RChange) (kk := 1202) (L' := [(1102, Ob.row (some ⟨b4, 0, none⟩) (1) (1) 47 3 (cellsOfL [.agg #[.string (bs ([102, 108, 121])), .slice (some ⟨b3, 0, none⟩) (1) (1), .slice (none) (0) (0)]]))]) 110 rfl rfl (hS.fact (k := 109) rfl) ⟨rfl, trivial⟩ rfl
  refine q_seq hS rfl rfl rfl (y_build (parts := [(0, .const (.int .i64 (1))), (1, .tmp 11)]) (ps := [(0, .int .i64 (1)), (1, .slice (some ⟨b8, 0, none⟩) (2) (2))]) (cells := #[.int .i64 (1), .slice (some ⟨b8, 0, none⟩) (2) (2)]) hS rfl (by kernel_rfl)) ?_; clear hS a; intro a hS
  refine q_seq hS rfl rfl rfl (y_build (parts := [(0, .const (.string (bs ([115])))), (1, .tmp 12)]) (ps := [(0, .string (bs ([115]))), (1, .agg #[.int .i64 (1), .slice (some ⟨b8, 0, none⟩) (2) (2)])]) (cells := #[.string (bs ([115])), .int .i64 (1), .slice (some ⟨b8, 0, none⟩) (2) (2), .slice (none) (0) (0)]) hS rfl (by kernel_rfl)) ?_; clear hS a; intro a hS
  refine q_seq hS rfl rfl rfl (y_build (parts := [(0, .const (.string (bs ([])))), (1, .const (.string (bs ([105, 110, 103]))))]) (ps := [(0, .string (bs ([]))), (1, .string (bs ([105, 110, 103])))]) (cells := #[.string (bs ([])), .string (bs ([105, 110, 103]))]) hS rfl (by kernel_rfl)) ?_; clear hS a; intro a hS
  refine l_seq rfl (l_buildDense (sz := 2) hS 1206 rfl rfl rfl Try.underlying50 rfl rfl rfl rfl rfl rfl rfl ?_); clear hS a; intro b9 a w hbb9 hK hS
  clear hbb9
  clear hK
  replace hS := hS.add 111 (rdF RChange (cellsOfL [.agg #[.string (bs ([])), .string (bs ([105, 110, 103]))]]) ([(Change.mk [] [105, 110, 103])])) (RdAll.cons (by exact (RChange.mk' (x := (Change.mk [] [105, 110, 103])) (by first | omega | (rw [List.length_append]; omega) | (simp only [List.length_append]; omega) | (simp only [List.length_append, List.length_take, List.length_drop, List.length_cons, List.length_nil]; omega)) (by first | omega | (rw [List.length_append]; omega) | (simp only [List.length_append]; omega) | (simp only [List.length_append, List.length_take, List.length_drop, List.length_cons, List.length_nil]; omega)))) (RdAll.nil _ _ _))
  replace hS := hS.freeze (R := RChange) (kk := 1206) (L' := [(1102, Ob.row (some ⟨b4, 0, none⟩) (1) (1) 47 3 (cellsOfL [.agg #[.string (bs ([102, 108, 121])), .slice (some ⟨b3, 0, none⟩) (1) (1), .slice (none) (0) (0)]]))]) 112 rfl rfl (hS.fact (k := 111) rfl) ⟨rfl, trivial⟩ rfl
  refine q_seq hS rfl rfl rfl (y_build (parts := [(0, .const (.int .i64 (1))), (1, .tmp 15)]) (ps := [(0, .int .i64 (1)), (1, .slice (some ⟨b9, 0, none⟩) (1) (1))]) (cells := #[.int .i64 (1), .slice (some ⟨b9, 0, none⟩) (1) (1)]) hS rfl (by kernel_rfl)) ?_; clear hS a; intro a hS
  refine q_seq hS rfl rfl rfl (y_build (parts := [(0, .const (.string (bs ([105, 110, 103])))), (1, .tmp 16)]) (ps := [(0, .string (bs ([105, 110, 103]))), (1, .agg #[.int .i64 (1), .slice (some ⟨b9, 0, none⟩) (1) (1)])]) (cells := #[.string (bs ([105, 110, 103])), .int .i64 (1), .slice (some ⟨b9, 0, none⟩) (1) (1), .slice (none) (0) (0)]) hS rfl (by kernel_rfl)) ?_; clear hS a; intro a hS
  refine l_seq rfl (l_buildDense (sz := 4) hS 1209 rfl rfl rfl Try.underlying33 rfl rfl rfl rfl rfl rfl rfl ?_); clear hS a; intro b10 a w hbb10 hK hS
  clear hbb10
  clear hK
  refine q_seq hS rfl rfl rfl (y_assign hS rfl) ?_; clear hS a; intro a hS
  apply wpList_nil
  refine p_norm ?_
  apply wp_seq
  replace hg := bind_some hg; obtain ⟨r12, hr12, hg⟩ := hg
  apply wp_region_lit
  refine q_seq hS rfl rfl rfl (y_move hS rfl) ?_; clear hS a; intro a hS
  refine q_seq hS rfl rfl rfl (y_move hS rfl) ?_; clear hS a; intro a hS
  refine l_seq rfl (l_buildDense (sz := 1) hS 1302 rfl rfl rfl Try.underlying30 rfl rfl rfl rfl rfl rfl rfl ?_); clear hS a; intro b15 a w hbb15 hK hS
  clear hbb15
  clear hK
  replace hS := hS.add 120 (rdF (Rep.num .i64) (cellsOfL [.int .i64 (0), .int .i64 (1)]) ([0, 1])) (RdAll.cons (by exact rfl) (RdAll.cons (by exact rfl) (RdAll.nil _ _ _)))
  replace hS := hS.freeze (R := (Rep.num .i64)) (kk := 1302) (L' := [(1102, Ob.row (some ⟨b4, 0, none⟩) (1) (1) 47 3 (cellsOfL [.agg #[.string (bs ([102, 108, 121])), .slice (some ⟨b3, 0, none⟩) (1) (1), .slice (none) (0) (0)]])), (1209, Ob.row (some ⟨b10, 0, none⟩) (2) (2) 54 4 (cellsOfL [.agg #[.string (bs ([115])), .int .i64 (1), .slice (some ⟨b8, 0, none⟩) (2) (2), .slice (none) (0) (0)], .agg #[.string (bs ([105, 110, 103])), .int .i64 (1), .slice (some ⟨b9, 0, none⟩) (1) (1), .slice (none) (0) (0)]]))]) 121 rfl rfl (hS.fact (k := 120) rfl) ⟨rfl, rfl, trivial⟩ rfl
  refine q_seq hS rfl rfl rfl (y_build (parts := [(0, .const (.int .i64 (0))), (1, .tmp 22)]) (ps := [(0, .int .i64 (0)), (1, .slice (some ⟨b15, 0, none⟩) (2) (2))]) (cells := #[.int .i64 (0), .slice (some ⟨b15, 0, none⟩) (2) (2)]) hS rfl (by kernel_rfl)) ?_; clear hS a; intro a hS
  replace hS := hS.add 122 (rdF REntry (cellsOfL [.agg #[.string (bs ([102, 108, 121])), .slice (some ⟨b3, 0, none⟩) (1) (1), .slice (none) (0) (0)]]) ([(Entry.mk [102, 108, 121] [[102, 108, 121]] (FS.mk []))])) (RdAll.cons (by exact (REntry.mk' (x := (Entry.mk [102, 108, 121] [[102, 108, 121]] (FS.mk []))) (by first | omega | (rw [List.length_append]; omega) | (simp only [List.length_append]; omega) | (simp only [List.length_append, List.length_take, List.length_drop, List.length_cons, List.length_nil]; omega)) (hS.fact (k := 104) rfl) (SlR.nil_ _ _ _))) (RdAll.nil _ _ _))
  replace hS := hS.freeze (R := REntry) (kk := 1102) (L' := [(1209, Ob.row (some ⟨b10, 0, none⟩) (2) (2) 54 4 (cellsOfL [.agg #[.string (bs ([115])), .int .i64 (1), .slice (some ⟨b8, 0, none⟩) (2) (2), .slice (none) (0) (0)], .agg #[.string (bs ([105, 110, 103])), .int .i64 (1), .slice (some ⟨b9, 0, none⟩) (1) (1), .slice (none) (0) (0)]]))]) 123 rfl rfl (hS.fact (k := 122) rfl) ⟨rfl, trivial⟩ rfl
  replace hS := hS.add 124 (rdF RLexRule (cellsOfL [.agg #[.string (bs ([115])), .int .i64 (1), .slice (some ⟨b8, 0, none⟩) (2) (2), .slice (none) (0) (0)], .agg #[.string (bs ([105, 110, 103])), .int .i64 (1), .slice (some ⟨b9, 0, none⟩) (1) (1), .slice (none) (0) (0)]]) ([(LexRule.mk [115] (Affix.mk 1 [(Change.mk [121] [105, 101, 115]), (Change.mk [] [115])]) (FS.mk [])), (LexRule.mk [105, 110, 103] (Affix.mk 1 [(Change.mk [] [105, 110, 103])]) (FS.mk []))])) (RdAll.cons (by exact (RLexRule.mk' (x := (LexRule.mk [115] (Affix.mk 1 [(Change.mk [121] [105, 101, 115]), (Change.mk [] [115])]) (FS.mk []))) (by first | omega | (rw [List.length_append]; omega) | (simp only [List.length_append]; omega) | (simp only [List.length_append, List.length_take, List.length_drop, List.length_cons, List.length_nil]; omega)) (hS.fact (k := 110) rfl) (SlR.nil_ _ _ _))) (RdAll.cons (by exact (RLexRule.mk' (x := (LexRule.mk [105, 110, 103] (Affix.mk 1 [(Change.mk [] [105, 110, 103])]) (FS.mk []))) (by first | omega | (rw [List.length_append]; omega) | (simp only [List.length_append]; omega) | (simp only [List.length_append, List.length_take, List.length_drop, List.length_cons, List.length_nil]; omega)) (hS.fact (k := 112) rfl) (SlR.nil_ _ _ _))) (RdAll.nil _ _ _)))
  replace hS := hS.freeze (R := RLexRule) (kk := 1209) (L' := []) 125 rfl rfl (hS.fact (k := 124) rfl) trivial rfl
  refine l_seq rfl (l_call (cap := []) hS rfl Try.func18 rfl (by kernel_rfl) rfl rfl (c_lexicon_Form n _ _ hS.lt [(Entry.mk [102, 108, 121] [[102, 108, 121]] (FS.mk []))] (some ⟨b4, 0, none⟩) (1) (hS.fact (k := 123) rfl) [(LexRule.mk [115] (Affix.mk 1 [(Change.mk [121] [105, 101, 115]), (Change.mk [] [115])]) (FS.mk [])), (LexRule.mk [105, 110, 103] (Affix.mk 1 [(Change.mk [] [105, 110, 103])]) (FS.mk []))] (some ⟨b10, 0, none⟩) (2) (hS.fact (k := 125) rfl) (Analysis.mk 0 [0, 1]) (some ⟨b15, 0, none⟩) (2) (hS.fact (k := 121) rfl) r12 hr12) ?_); clear hS a; intro v16 a w hK hp hS
  clear hK
  obtain ⟨Au17a1, cu17a1, rfl, hu17a1⟩ := hp
  replace hS := hS.add 126 (slF Rep.str (Au17a1) ((r12.1).length) (cu17a1) (r12.1)) hu17a1
  refine q_seq hS rfl rfl rfl (y_move hS rfl) ?_; clear hS a; intro a hS
  refine q_seq hS rfl rfl rfl (y_extract hS rfl rfl) ?_; clear hS a; intro a hS
  refine q_seq hS rfl rfl rfl (y_extract hS rfl rfl) ?_; clear hS a; intro a hS
  refine q_seq hS rfl rfl rfl (y_assign hS rfl) ?_; clear hS a; intro a hS
  refine q_seq hS rfl rfl rfl (y_assign hS rfl) ?_; clear hS a; intro a hS
  apply wpList_nil
  refine p_norm ?_
  apply wp_seq
  replace hg := bind_some hg; obtain ⟨r19, hr19, hg⟩ := hg
  apply wp_region_lit
  refine q_seq hS rfl rfl rfl (y_move hS rfl) ?_; clear hS a; intro a hS
  refine q_seq hS rfl rfl rfl (y_move hS rfl) ?_; clear hS a; intro a hS
  refine l_seq rfl (l_buildDense (sz := 1) hS 1402 rfl rfl rfl Try.underlying27 rfl rfl rfl rfl rfl rfl rfl ?_); clear hS a; intro b22 a w hbb22 hK hS
  clear hbb22
  clear hK
  replace hS := hS.add 130 (rdF Rep.str (cellsOfL [.string (bs ([102, 108, 121, 105, 110, 103, 115]))]) ([[102, 108, 121, 105, 110, 103, 115]])) (RdAll.cons (by exact ⟨rfl, (by first | omega | (rw [List.length_append]; omega) | (simp only [List.length_append]; omega) | (simp only [List.length_append, List.length_take, List.length_drop, List.length_cons, List.length_nil]; omega))⟩) (RdAll.nil _ _ _))
  replace hS := hS.freeze (R := Rep.str) (kk := 1402) (L' := []) 131 rfl rfl (hS.fact (k := 130) rfl) trivial rfl
  refine l_seq rfl (l_call (cap := []) hS rfl Try.func22 rfl (by kernel_rfl) rfl rfl (c_lexicon_Analyses n _ _ hS.lt [(Entry.mk [102, 108, 121] [[102, 108, 121]] (FS.mk []))] (some ⟨b4, 0, none⟩) (1) (hS.fact (k := 123) rfl) [(LexRule.mk [115] (Affix.mk 1 [(Change.mk [121] [105, 101, 115]), (Change.mk [] [115])]) (FS.mk [])), (LexRule.mk [105, 110, 103] (Affix.mk 1 [(Change.mk [] [105, 110, 103])]) (FS.mk []))] (some ⟨b10, 0, none⟩) (2) (hS.fact (k := 125) rfl) [[102, 108, 121, 105, 110, 103, 115]] (some ⟨b22, 0, none⟩) (1) (hS.fact (k := 131) rfl) r19 hr19) ?_); clear hS a; intro v23 a w hK hp hS
  clear hK
  obtain ⟨Au24a1, cu24a1, rfl, hu24a1⟩ := hp
  replace hS := hS.add 132 (slF RAnalysis (Au24a1) ((r19).length) (cu24a1) (r19)) hu24a1
  refine q_seq hS rfl rfl rfl (y_assign hS rfl) ?_; clear hS a; intro a hS
  apply wpList_nil
  refine p_norm ?_
  apply wp_seq
  replace hg := bind_some hg; obtain ⟨r25, hr25, hg⟩ := hg
  rcases Decidable.em (r25 = 0) with hs28 | hs28
  · have hs28e : decide (r25 = 0) = true := decide_eq_true hs28
    replace hg := br_t hg hs28
    replace hg := bind_some hg; obtain ⟨r30, hr30, hg⟩ := hg
    rcases Decidable.em (r30 = 1) with hs33 | hs33
    · have hs33e : decide (r30 = 1) = true := decide_eq_true hs33
      replace hg := br_t hg hs33
      rcases Bool.eq_false_or_eq_true (r12.2) with hs34 | hs34
      · replace hg := br_t hg hs34
        replace hg := bind_some hg; obtain ⟨r36, hr36, hg⟩ := hg
        rcases Bool.eq_false_or_eq_true (r36) with hs39 | hs39
        · replace hg := br_t hg hs39
          replace hg := bind_some hg; obtain ⟨r42, hr42, hg⟩ := hg
          rcases Bool.eq_false_or_eq_true (r42) with hs45 | hs45
          · replace hg := br_t hg hs45
            replace hg := bind_some hg; obtain ⟨r47, hr47, hg⟩ := hg
            replace hg := bind_some hg; obtain ⟨r51, hr51, hg⟩ := hg
            apply wp_region_lit
            refine q_seq hS rfl rfl rfl (y_move hS rfl) ?_; clear hS a; intro a hS
            refine l_seq rfl (l_call (cap := []) hS rfl Try.func12 rfl (by kernel_rfl) rfl rfl (c_lexicon_Check n _ _ hS.lt [(Entry.mk [102, 108, 121] [[102, 108, 121]] (FS.mk []))] (some ⟨b4, 0, none⟩) (1) (hS.fact (k := 123) rfl) r25 hr25) ?_); clear hS a; intro v54 a w hK hp hS
            clear hK
            obtain rfl := hp
            refine q_seq hS rfl rfl rfl (yl_b (y_eql hS rfl rfl) hs28e) ?_; clear hS a; intro a hS
            refine q_seq hS rfl rfl rfl (y_move hS rfl) ?_; clear hS a; intro a hS
            refine g_yes hS rfl rfl rfl rfl (l_quiet hS rfl rfl (y_build (parts := [(0, .const (.string (bs ([97]))))]) (ps := [(0, .string (bs ([97])))]) (cells := #[.string (bs ([97])), .slice (none) (0) (0), .slice (none) (0) (0)]) hS rfl (by kernel_rfl)) ?_); clear hS a; intro a hS
            refine g_yes hS rfl rfl rfl rfl (l_buildDense (sz := 3) hS 1505 rfl rfl rfl Try.underlying22 rfl rfl rfl rfl rfl rfl rfl ?_); clear hS a; intro b56 a w hbb56 hK hS
            clear hbb56
            clear hK
            replace hS := hS.add 146 (rdF REntry (cellsOfL [.agg #[.string (bs ([97])), .slice (none) (0) (0), .slice (none) (0) (0)]]) ([(Entry.mk [97] [] (FS.mk []))])) (RdAll.cons (by exact (REntry.mk' (x := (Entry.mk [97] [] (FS.mk []))) (by first | omega | (rw [List.length_append]; omega) | (simp only [List.length_append]; omega) | (simp only [List.length_append, List.length_take, List.length_drop, List.length_cons, List.length_nil]; omega)) (SlR.nil_ _ _ _) (SlR.nil_ _ _ _))) (RdAll.nil _ _ _))
            have hT := hS
            replace hT := hT.freeze (R := REntry) (kk := 1505) (L' := []) 147 rfl rfl (hT.fact (k := 146) rfl) trivial rfl
            refine g_yes hS rfl rfl rfl rfl (l_call (cap := []) hS rfl Try.func12 rfl (by kernel_rfl) rfl rfl (c_lexicon_Check n _ _ hT.lt [(Entry.mk [97] [] (FS.mk []))] (some ⟨b56, 0, none⟩) (1) (hT.fact (k := 147) rfl) r30 hr30) ?_); clear hS hT a; intro v57 a w hK hp hS
            clear hK
            obtain rfl := hp
            refine g_yes hS rfl rfl rfl rfl (l_quiet hS rfl rfl (yl_b (y_eql hS rfl rfl) hs33e) ?_); clear hS a; intro a hS
            refine q_seq hS rfl rfl rfl (y_pick_t hS rfl rfl) ?_; clear hS a; intro a hS
            refine q_seq hS rfl rfl rfl (y_move hS rfl) ?_; clear hS a; intro a hS
            refine g_yes hS rfl rfl rfl rfl (l_quiet hS rfl rfl (yl_b (y_move hS rfl) hs34) ?_); clear hS a; intro a hS
            refine q_seq hS rfl rfl rfl (y_pick_t hS rfl rfl) ?_; clear hS a; intro a hS
            refine q_seq hS rfl rfl rfl (y_move hS rfl) ?_; clear hS a; intro a hS
            refine g_yes hS rfl rfl rfl rfl (l_quiet hS rfl rfl (y_move hS rfl) ?_); clear hS a; intro a hS
            refine g_yes hS rfl rfl rfl rfl (l_buildDense (sz := 1) hS 1514 rfl rfl rfl Try.underlying27 rfl rfl rfl rfl rfl rfl rfl ?_); clear hS a; intro b59 a w hbb59 hK hS
            clear hbb59
            clear hK
            replace hS := hS.add 148 (rdF Rep.str (cellsOfL [.string (bs ([102, 108, 105, 101, 115, 105, 110, 103]))]) ([[102, 108, 105, 101, 115, 105, 110, 103]])) (RdAll.cons (by exact ⟨rfl, (by first | omega | (rw [List.length_append]; omega) | (simp only [List.length_append]; omega) | (simp only [List.length_append, List.length_take, List.length_drop, List.length_cons, List.length_nil]; omega))⟩) (RdAll.nil _ _ _))
            have hT := hS
            replace hT := hT.freeze (R := Rep.str) (kk := 1514) (L' := [(1505, Ob.row (some ⟨b56, 0, none⟩) (1) (1) 47 3 (cellsOfL [.agg #[.string (bs ([97])), .slice (none) (0) (0), .slice (none) (0) (0)]]))]) 149 rfl rfl (hT.fact (k := 148) rfl) ⟨rfl, trivial⟩ rfl
            refine g_yes hS rfl rfl rfl rfl (l_call (cap := []) hS rfl Try.func20 rfl (by kernel_rfl) rfl rfl (c_r01_Same n _ _ hT.lt r12.1 (Au17a1) (cu17a1) (hT.fact (k := 126) rfl) [[102, 108, 105, 101, 115, 105, 110, 103]] (some ⟨b59, 0, none⟩) (1) (hT.fact (k := 149) rfl) r36 hr36) ?_); clear hS hT a; intro v60 a w hK hp hS
            clear hK
            obtain rfl := hp.trans (congrArg Value.bool hs39)
            refine q_seq hS rfl rfl rfl (y_pick_t hS rfl rfl) ?_; clear hS a; intro a hS
            refine q_seq hS rfl rfl rfl (y_move hS rfl) ?_; clear hS a; intro a hS
            refine g_yes hS rfl rfl rfl rfl (l_quiet hS rfl rfl (y_move hS rfl) ?_); clear hS a; intro a hS
            refine g_yes hS rfl rfl rfl rfl (l_buildDense (sz := 1) hS 1519 rfl rfl rfl Try.underlying30 rfl rfl rfl rfl rfl rfl rfl ?_); clear hS a; intro b62 a w hbb62 hK hS
            clear hbb62
            clear hK
            replace hS := hS.add 150 (rdF (Rep.num .i64) (cellsOfL [.int .i64 (1), .int .i64 (0)]) ([1, 0])) (RdAll.cons (by exact rfl) (RdAll.cons (by exact rfl) (RdAll.nil _ _ _)))
            replace hS := hS.freeze (R := (Rep.num .i64)) (kk := 1519) (L' := [(1505, Ob.row (some ⟨b56, 0, none⟩) (1) (1) 47 3 (cellsOfL [.agg #[.string (bs ([97])), .slice (none) (0) (0), .slice (none) (0) (0)]])), (1514, Ob.row (some ⟨b59, 0, none⟩) (1) (1) 9 1 (cellsOfL [.string (bs ([102, 108, 105, 101, 115, 105, 110, 103]))]))]) 151 rfl rfl (hS.fact (k := 150) rfl) ⟨rfl, rfl, trivial⟩ rfl
            refine g_yes hS rfl rfl rfl rfl (l_quiet hS rfl rfl (y_build (parts := [(0, .const (.int .i64 (0))), (1, .tmp 50)]) (ps := [(0, .int .i64 (0)), (1, .slice (some ⟨b62, 0, none⟩) (2) (2))]) (cells := #[.int .i64 (0), .slice (some ⟨b62, 0, none⟩) (2) (2)]) hS rfl (by kernel_rfl)) ?_); clear hS a; intro a hS
            refine g_yes hS rfl rfl rfl rfl (l_buildDense (sz := 2) hS 1521 rfl rfl rfl Try.underlying41 rfl rfl rfl rfl rfl rfl rfl ?_); clear hS a; intro b63 a w hbb63 hK hS
            clear hbb63
            clear hK
            replace hS := hS.add 152 (rdF RAnalysis (cellsOfL [.agg #[.int .i64 (0), .slice (some ⟨b62, 0, none⟩) (2) (2)]]) ([(Analysis.mk 0 [1, 0])])) (RdAll.cons (by exact (RAnalysis.mk' (x := (Analysis.mk 0 [1, 0])) (hS.fact (k := 151) rfl))) (RdAll.nil _ _ _))
            have hT := hS
            replace hT := hT.freeze (R := RAnalysis) (kk := 1521) (L' := [(1505, Ob.row (some ⟨b56, 0, none⟩) (1) (1) 47 3 (cellsOfL [.agg #[.string (bs ([97])), .slice (none) (0) (0), .slice (none) (0) (0)]])), (1514, Ob.row (some ⟨b59, 0, none⟩) (1) (1) 9 1 (cellsOfL [.string (bs ([102, 108, 105, 101, 115, 105, 110, 103]))]))]) 153 rfl rfl (hT.fact (k := 152) rfl) ⟨rfl, rfl, trivial⟩ rfl
            refine g_yes hS rfl rfl rfl rfl (l_call (cap := []) hS rfl Try.func21 rfl (by kernel_rfl) rfl rfl (c_r24_SameAnalyses n _ _ hT.lt r19 (Au24a1) (cu24a1) (hT.fact (k := 132) rfl) [(Analysis.mk 0 [1, 0])] (some ⟨b63, 0, none⟩) (1) (hT.fact (k := 153) rfl) r42 hr42) ?_); clear hS hT a; intro v64 a w hK hp hS
            clear hK
            obtain rfl := hp.trans (congrArg Value.bool hs45)
            refine q_seq hS rfl rfl rfl (y_pick_t hS rfl rfl) ?_; clear hS a; intro a hS
            refine q_seq hS rfl rfl rfl (y_move hS rfl) ?_; clear hS a; intro a hS
            refine g_yes hS rfl rfl rfl rfl (l_quiet hS rfl rfl (y_move hS rfl) ?_); clear hS a; intro a hS
            refine g_yes hS rfl rfl rfl rfl (l_buildDense (sz := 1) hS 1526 rfl rfl rfl Try.underlying27 rfl rfl rfl rfl rfl rfl rfl ?_); clear hS a; intro b66 a w hbb66 hK hS
            clear hbb66
            clear hK
            replace hS := hS.add 154 (rdF Rep.str (cellsOfL [.string (bs ([102, 108, 121]))]) ([[102, 108, 121]])) (RdAll.cons (by exact ⟨rfl, (by first | omega | (rw [List.length_append]; omega) | (simp only [List.length_append]; omega) | (simp only [List.length_append, List.length_take, List.length_drop, List.length_cons, List.length_nil]; omega))⟩) (RdAll.nil _ _ _))
            replace hS := hS.freeze (R := Rep.str) (kk := 1526) (L' := [(1505, Ob.row (some ⟨b56, 0, none⟩) (1) (1) 47 3 (cellsOfL [.agg #[.string (bs ([97])), .slice (none) (0) (0), .slice (none) (0) (0)]])), (1514, Ob.row (some ⟨b59, 0, none⟩) (1) (1) 9 1 (cellsOfL [.string (bs ([102, 108, 105, 101, 115, 105, 110, 103]))])), (1521, Ob.row (some ⟨b63, 0, none⟩) (1) (1) 35 2 (cellsOfL [.agg #[.int .i64 (0), .slice (some ⟨b62, 0, none⟩) (2) (2)]]))]) 155 rfl rfl (hS.fact (k := 154) rfl) ⟨rfl, rfl, rfl, trivial⟩ rfl
            refine g_yes hS rfl rfl rfl rfl (l_call (cap := []) hS rfl Try.func16 rfl (by kernel_rfl) rfl rfl (c_lexicon_Find n _ _ hS.lt [(Entry.mk [102, 108, 121] [[102, 108, 121]] (FS.mk []))] (some ⟨b4, 0, none⟩) (1) (hS.fact (k := 123) rfl) [[102, 108, 121]] (some ⟨b66, 0, none⟩) (1) (hS.fact (k := 155) rfl) r47 hr47) ?_); clear hS a; intro v67 a w hK hp hS
            clear hK
            obtain ⟨Au68a1, cu68a1, rfl, hu68a1⟩ := hp
            replace hS := hS.add 156 (slF (Rep.num .i64) (Au68a1) ((r47).length) (cu68a1) (r47)) hu68a1
            refine g_yes hS rfl rfl rfl rfl (l_buildDense (sz := 1) hS 1528 rfl rfl rfl Try.underlying30 rfl rfl rfl rfl rfl rfl rfl ?_); clear hS a; intro b69 a w hbb69 hK hS
            clear hbb69
            clear hK
            replace hS := hS.add 157 (rdF (Rep.num .i64) (cellsOfL [.int .i64 (0)]) ([0])) (RdAll.cons (by exact rfl) (RdAll.nil _ _ _))
            have hT := hS
            replace hT := hT.freeze (R := (Rep.num .i64)) (kk := 1528) (L' := [(1505, Ob.row (some ⟨b56, 0, none⟩) (1) (1) 47 3 (cellsOfL [.agg #[.string (bs ([97])), .slice (none) (0) (0), .slice (none) (0) (0)]])), (1514, Ob.row (some ⟨b59, 0, none⟩) (1) (1) 9 1 (cellsOfL [.string (bs ([102, 108, 105, 101, 115, 105, 110, 103]))])), (1521, Ob.row (some ⟨b63, 0, none⟩) (1) (1) 35 2 (cellsOfL [.agg #[.int .i64 (0), .slice (some ⟨b62, 0, none⟩) (2) (2)]]))]) 158 rfl rfl (hT.fact (k := 157) rfl) ⟨rfl, rfl, rfl, trivial⟩ rfl
            refine g_yes hS rfl rfl rfl rfl (l_call (cap := []) hS rfl Try.func15 rfl (by kernel_rfl) rfl rfl (c_r24_SameInts n _ _ hT.lt r47 (Au68a1) (cu68a1) (hT.fact (k := 156) rfl) [0] (some ⟨b69, 0, none⟩) (1) (hT.fact (k := 158) rfl) r51 hr51) ?_); clear hS hT a; intro v70 a w hK hp hS
            clear hK
            obtain rfl := hp
            refine q_seq hS rfl rfl rfl (y_pick_t hS rfl rfl) ?_; clear hS a; intro a hS
            refine q_seq hS rfl rfl rfl (y_assign hS rfl) ?_; clear hS a; intro a hS
            apply wpList_nil
            refine p_norm ?_
            apply wp_ret
            obtain rfl := Option.some.inj hg
            refine fin1 (fn := Try.f11) hS rfl (r_tmp hS rfl) ?_
            exact rfl
          · replace hg := br_f hg (by rw [hs45]; exact Bool.false_ne_true)
            apply wp_region_lit
            refine q_seq hS rfl rfl rfl (y_move hS rfl) ?_; clear hS a; intro a hS
            refine l_seq rfl (l_call (cap := []) hS rfl Try.func12 rfl (by kernel_rfl) rfl rfl (c_lexicon_Check n _ _ hS.lt [(Entry.mk [102, 108, 121] [[102, 108, 121]] (FS.mk []))] (some ⟨b4, 0, none⟩) (1) (hS.fact (k := 123) rfl) r25 hr25) ?_); clear hS a; intro v72 a w hK hp hS
            clear hK
            obtain rfl := hp
            refine q_seq hS rfl rfl rfl (yl_b (y_eql hS rfl rfl) hs28e) ?_; clear hS a; intro a hS
            refine q_seq hS rfl rfl rfl (y_move hS rfl) ?_; clear hS a; intro a hS
            refine g_yes hS rfl rfl rfl rfl (l_quiet hS rfl rfl (y_build (parts := [(0, .const (.string (bs ([97]))))]) (ps := [(0, .string (bs ([97])))]) (cells := #[.string (bs ([97])), .slice (none) (0) (0), .slice (none) (0) (0)]) hS rfl (by kernel_rfl)) ?_); clear hS a; intro a hS
            refine g_yes hS rfl rfl rfl rfl (l_buildDense (sz := 3) hS 1505 rfl rfl rfl Try.underlying22 rfl rfl rfl rfl rfl rfl rfl ?_); clear hS a; intro b74 a w hbb74 hK hS
            clear hbb74
            clear hK
            replace hS := hS.add 159 (rdF REntry (cellsOfL [.agg #[.string (bs ([97])), .slice (none) (0) (0), .slice (none) (0) (0)]]) ([(Entry.mk [97] [] (FS.mk []))])) (RdAll.cons (by exact (REntry.mk' (x := (Entry.mk [97] [] (FS.mk []))) (by first | omega | (rw [List.length_append]; omega) | (simp only [List.length_append]; omega) | (simp only [List.length_append, List.length_take, List.length_drop, List.length_cons, List.length_nil]; omega)) (SlR.nil_ _ _ _) (SlR.nil_ _ _ _))) (RdAll.nil _ _ _))
            have hT := hS
            replace hT := hT.freeze (R := REntry) (kk := 1505) (L' := []) 160 rfl rfl (hT.fact (k := 159) rfl) trivial rfl
            refine g_yes hS rfl rfl rfl rfl (l_call (cap := []) hS rfl Try.func12 rfl (by kernel_rfl) rfl rfl (c_lexicon_Check n _ _ hT.lt [(Entry.mk [97] [] (FS.mk []))] (some ⟨b74, 0, none⟩) (1) (hT.fact (k := 160) rfl) r30 hr30) ?_); clear hS hT a; intro v75 a w hK hp hS
            clear hK
            obtain rfl := hp
            refine g_yes hS rfl rfl rfl rfl (l_quiet hS rfl rfl (yl_b (y_eql hS rfl rfl) hs33e) ?_); clear hS a; intro a hS
            refine q_seq hS rfl rfl rfl (y_pick_t hS rfl rfl) ?_; clear hS a; intro a hS
            refine q_seq hS rfl rfl rfl (y_move hS rfl) ?_; clear hS a; intro a hS
            refine g_yes hS rfl rfl rfl rfl (l_quiet hS rfl rfl (yl_b (y_move hS rfl) hs34) ?_); clear hS a; intro a hS
            refine q_seq hS rfl rfl rfl (y_pick_t hS rfl rfl) ?_; clear hS a; intro a hS
            refine q_seq hS rfl rfl rfl (y_move hS rfl) ?_; clear hS a; intro a hS
            refine g_yes hS rfl rfl rfl rfl (l_quiet hS rfl rfl (y_move hS rfl) ?_); clear hS a; intro a hS
            refine g_yes hS rfl rfl rfl rfl (l_buildDense (sz := 1) hS 1514 rfl rfl rfl Try.underlying27 rfl rfl rfl rfl rfl rfl rfl ?_); clear hS a; intro b77 a w hbb77 hK hS
            clear hbb77
            clear hK
            replace hS := hS.add 161 (rdF Rep.str (cellsOfL [.string (bs ([102, 108, 105, 101, 115, 105, 110, 103]))]) ([[102, 108, 105, 101, 115, 105, 110, 103]])) (RdAll.cons (by exact ⟨rfl, (by first | omega | (rw [List.length_append]; omega) | (simp only [List.length_append]; omega) | (simp only [List.length_append, List.length_take, List.length_drop, List.length_cons, List.length_nil]; omega))⟩) (RdAll.nil _ _ _))
            have hT := hS
            replace hT := hT.freeze (R := Rep.str) (kk := 1514) (L' := [(1505, Ob.row (some ⟨b74, 0, none⟩) (1) (1) 47 3 (cellsOfL [.agg #[.string (bs ([97])), .slice (none) (0) (0), .slice (none) (0) (0)]]))]) 162 rfl rfl (hT.fact (k := 161) rfl) ⟨rfl, trivial⟩ rfl
            refine g_yes hS rfl rfl rfl rfl (l_call (cap := []) hS rfl Try.func20 rfl (by kernel_rfl) rfl rfl (c_r01_Same n _ _ hT.lt r12.1 (Au17a1) (cu17a1) (hT.fact (k := 126) rfl) [[102, 108, 105, 101, 115, 105, 110, 103]] (some ⟨b77, 0, none⟩) (1) (hT.fact (k := 162) rfl) r36 hr36) ?_); clear hS hT a; intro v78 a w hK hp hS
            clear hK
            obtain rfl := hp.trans (congrArg Value.bool hs39)
            refine q_seq hS rfl rfl rfl (y_pick_t hS rfl rfl) ?_; clear hS a; intro a hS
            refine q_seq hS rfl rfl rfl (y_move hS rfl) ?_; clear hS a; intro a hS
            refine g_yes hS rfl rfl rfl rfl (l_quiet hS rfl rfl (y_move hS rfl) ?_); clear hS a; intro a hS
            refine g_yes hS rfl rfl rfl rfl (l_buildDense (sz := 1) hS 1519 rfl rfl rfl Try.underlying30 rfl rfl rfl rfl rfl rfl rfl ?_); clear hS a; intro b80 a w hbb80 hK hS
            clear hbb80
            clear hK
            replace hS := hS.add 163 (rdF (Rep.num .i64) (cellsOfL [.int .i64 (1), .int .i64 (0)]) ([1, 0])) (RdAll.cons (by exact rfl) (RdAll.cons (by exact rfl) (RdAll.nil _ _ _)))
            replace hS := hS.freeze (R := (Rep.num .i64)) (kk := 1519) (L' := [(1505, Ob.row (some ⟨b74, 0, none⟩) (1) (1) 47 3 (cellsOfL [.agg #[.string (bs ([97])), .slice (none) (0) (0), .slice (none) (0) (0)]])), (1514, Ob.row (some ⟨b77, 0, none⟩) (1) (1) 9 1 (cellsOfL [.string (bs ([102, 108, 105, 101, 115, 105, 110, 103]))]))]) 164 rfl rfl (hS.fact (k := 163) rfl) ⟨rfl, rfl, trivial⟩ rfl
            refine g_yes hS rfl rfl rfl rfl (l_quiet hS rfl rfl (y_build (parts := [(0, .const (.int .i64 (0))), (1, .tmp 50)]) (ps := [(0, .int .i64 (0)), (1, .slice (some ⟨b80, 0, none⟩) (2) (2))]) (cells := #[.int .i64 (0), .slice (some ⟨b80, 0, none⟩) (2) (2)]) hS rfl (by kernel_rfl)) ?_); clear hS a; intro a hS
            refine g_yes hS rfl rfl rfl rfl (l_buildDense (sz := 2) hS 1521 rfl rfl rfl Try.underlying41 rfl rfl rfl rfl rfl rfl rfl ?_); clear hS a; intro b81 a w hbb81 hK hS
            clear hbb81
            clear hK
            replace hS := hS.add 165 (rdF RAnalysis (cellsOfL [.agg #[.int .i64 (0), .slice (some ⟨b80, 0, none⟩) (2) (2)]]) ([(Analysis.mk 0 [1, 0])])) (RdAll.cons (by exact (RAnalysis.mk' (x := (Analysis.mk 0 [1, 0])) (hS.fact (k := 164) rfl))) (RdAll.nil _ _ _))
            have hT := hS
            replace hT := hT.freeze (R := RAnalysis) (kk := 1521) (L' := [(1505, Ob.row (some ⟨b74, 0, none⟩) (1) (1) 47 3 (cellsOfL [.agg #[.string (bs ([97])), .slice (none) (0) (0), .slice (none) (0) (0)]])), (1514, Ob.row (some ⟨b77, 0, none⟩) (1) (1) 9 1 (cellsOfL [.string (bs ([102, 108, 105, 101, 115, 105, 110, 103]))]))]) 166 rfl rfl (hT.fact (k := 165) rfl) ⟨rfl, rfl, trivial⟩ rfl
            refine g_yes hS rfl rfl rfl rfl (l_call (cap := []) hS rfl Try.func21 rfl (by kernel_rfl) rfl rfl (c_r24_SameAnalyses n _ _ hT.lt r19 (Au24a1) (cu24a1) (hT.fact (k := 132) rfl) [(Analysis.mk 0 [1, 0])] (some ⟨b81, 0, none⟩) (1) (hT.fact (k := 166) rfl) r42 hr42) ?_); clear hS hT a; intro v82 a w hK hp hS
            clear hK
            obtain rfl := hp.trans (congrArg Value.bool hs45)
            refine q_seq hS rfl rfl rfl (y_pick_t hS rfl rfl) ?_; clear hS a; intro a hS
            refine q_seq hS rfl rfl rfl (y_move hS rfl) ?_; clear hS a; intro a hS
            refine g_no hS rfl rfl rfl rfl rfl rfl rfl ?_; clear hS a; intro a hS
            refine g_no hS rfl rfl rfl rfl rfl rfl rfl ?_; clear hS a; intro a hS
            refine g_no hS rfl rfl rfl rfl rfl rfl rfl ?_; clear hS a; intro a hS
            refine g_no hS rfl rfl rfl rfl rfl rfl rfl ?_; clear hS a; intro a hS
            refine g_no hS rfl rfl rfl rfl rfl rfl rfl ?_; clear hS a; intro a hS
            refine q_seq hS rfl rfl rfl (y_pick_f hS rfl rfl) ?_; clear hS a; intro a hS
            refine q_seq hS rfl rfl rfl (y_assign hS rfl) ?_; clear hS a; intro a hS
            apply wpList_nil
            refine p_norm ?_
            apply wp_ret
            obtain rfl := Option.some.inj hg
            refine fin1 (fn := Try.f11) hS rfl (r_tmp hS rfl) ?_
            exact rfl
        · replace hg := br_f hg (by rw [hs39]; exact Bool.false_ne_true)
          apply wp_region_lit
          refine q_seq hS rfl rfl rfl (y_move hS rfl) ?_; clear hS a; intro a hS
          refine l_seq rfl (l_call (cap := []) hS rfl Try.func12 rfl (by kernel_rfl) rfl rfl (c_lexicon_Check n _ _ hS.lt [(Entry.mk [102, 108, 121] [[102, 108, 121]] (FS.mk []))] (some ⟨b4, 0, none⟩) (1) (hS.fact (k := 123) rfl) r25 hr25) ?_); clear hS a; intro v84 a w hK hp hS
          clear hK
          obtain rfl := hp
          refine q_seq hS rfl rfl rfl (yl_b (y_eql hS rfl rfl) hs28e) ?_; clear hS a; intro a hS
          refine q_seq hS rfl rfl rfl (y_move hS rfl) ?_; clear hS a; intro a hS
          refine g_yes hS rfl rfl rfl rfl (l_quiet hS rfl rfl (y_build (parts := [(0, .const (.string (bs ([97]))))]) (ps := [(0, .string (bs ([97])))]) (cells := #[.string (bs ([97])), .slice (none) (0) (0), .slice (none) (0) (0)]) hS rfl (by kernel_rfl)) ?_); clear hS a; intro a hS
          refine g_yes hS rfl rfl rfl rfl (l_buildDense (sz := 3) hS 1505 rfl rfl rfl Try.underlying22 rfl rfl rfl rfl rfl rfl rfl ?_); clear hS a; intro b86 a w hbb86 hK hS
          clear hbb86
          clear hK
          replace hS := hS.add 167 (rdF REntry (cellsOfL [.agg #[.string (bs ([97])), .slice (none) (0) (0), .slice (none) (0) (0)]]) ([(Entry.mk [97] [] (FS.mk []))])) (RdAll.cons (by exact (REntry.mk' (x := (Entry.mk [97] [] (FS.mk []))) (by first | omega | (rw [List.length_append]; omega) | (simp only [List.length_append]; omega) | (simp only [List.length_append, List.length_take, List.length_drop, List.length_cons, List.length_nil]; omega)) (SlR.nil_ _ _ _) (SlR.nil_ _ _ _))) (RdAll.nil _ _ _))
          have hT := hS
          replace hT := hT.freeze (R := REntry) (kk := 1505) (L' := []) 168 rfl rfl (hT.fact (k := 167) rfl) trivial rfl
          refine g_yes hS rfl rfl rfl rfl (l_call (cap := []) hS rfl Try.func12 rfl (by kernel_rfl) rfl rfl (c_lexicon_Check n _ _ hT.lt [(Entry.mk [97] [] (FS.mk []))] (some ⟨b86, 0, none⟩) (1) (hT.fact (k := 168) rfl) r30 hr30) ?_); clear hS hT a; intro v87 a w hK hp hS
          clear hK
          obtain rfl := hp
          refine g_yes hS rfl rfl rfl rfl (l_quiet hS rfl rfl (yl_b (y_eql hS rfl rfl) hs33e) ?_); clear hS a; intro a hS
          refine q_seq hS rfl rfl rfl (y_pick_t hS rfl rfl) ?_; clear hS a; intro a hS
          refine q_seq hS rfl rfl rfl (y_move hS rfl) ?_; clear hS a; intro a hS
          refine g_yes hS rfl rfl rfl rfl (l_quiet hS rfl rfl (yl_b (y_move hS rfl) hs34) ?_); clear hS a; intro a hS
          refine q_seq hS rfl rfl rfl (y_pick_t hS rfl rfl) ?_; clear hS a; intro a hS
          refine q_seq hS rfl rfl rfl (y_move hS rfl) ?_; clear hS a; intro a hS
          refine g_yes hS rfl rfl rfl rfl (l_quiet hS rfl rfl (y_move hS rfl) ?_); clear hS a; intro a hS
          refine g_yes hS rfl rfl rfl rfl (l_buildDense (sz := 1) hS 1514 rfl rfl rfl Try.underlying27 rfl rfl rfl rfl rfl rfl rfl ?_); clear hS a; intro b89 a w hbb89 hK hS
          clear hbb89
          clear hK
          replace hS := hS.add 169 (rdF Rep.str (cellsOfL [.string (bs ([102, 108, 105, 101, 115, 105, 110, 103]))]) ([[102, 108, 105, 101, 115, 105, 110, 103]])) (RdAll.cons (by exact ⟨rfl, (by first | omega | (rw [List.length_append]; omega) | (simp only [List.length_append]; omega) | (simp only [List.length_append, List.length_take, List.length_drop, List.length_cons, List.length_nil]; omega))⟩) (RdAll.nil _ _ _))
          have hT := hS
          replace hT := hT.freeze (R := Rep.str) (kk := 1514) (L' := [(1505, Ob.row (some ⟨b86, 0, none⟩) (1) (1) 47 3 (cellsOfL [.agg #[.string (bs ([97])), .slice (none) (0) (0), .slice (none) (0) (0)]]))]) 170 rfl rfl (hT.fact (k := 169) rfl) ⟨rfl, trivial⟩ rfl
          refine g_yes hS rfl rfl rfl rfl (l_call (cap := []) hS rfl Try.func20 rfl (by kernel_rfl) rfl rfl (c_r01_Same n _ _ hT.lt r12.1 (Au17a1) (cu17a1) (hT.fact (k := 126) rfl) [[102, 108, 105, 101, 115, 105, 110, 103]] (some ⟨b89, 0, none⟩) (1) (hT.fact (k := 170) rfl) r36 hr36) ?_); clear hS hT a; intro v90 a w hK hp hS
          clear hK
          obtain rfl := hp.trans (congrArg Value.bool hs39)
          refine q_seq hS rfl rfl rfl (y_pick_t hS rfl rfl) ?_; clear hS a; intro a hS
          refine q_seq hS rfl rfl rfl (y_move hS rfl) ?_; clear hS a; intro a hS
          refine g_no hS rfl rfl rfl rfl rfl rfl rfl ?_; clear hS a; intro a hS
          refine g_no hS rfl rfl rfl rfl rfl rfl rfl ?_; clear hS a; intro a hS
          refine g_no hS rfl rfl rfl rfl rfl rfl rfl ?_; clear hS a; intro a hS
          refine g_no hS rfl rfl rfl rfl rfl rfl rfl ?_; clear hS a; intro a hS
          refine g_no hS rfl rfl rfl rfl rfl rfl rfl ?_; clear hS a; intro a hS
          refine q_seq hS rfl rfl rfl (y_pick_f hS rfl rfl) ?_; clear hS a; intro a hS
          refine q_seq hS rfl rfl rfl (y_move hS rfl) ?_; clear hS a; intro a hS
          refine g_no hS rfl rfl rfl rfl rfl rfl rfl ?_; clear hS a; intro a hS
          refine g_no hS rfl rfl rfl rfl rfl rfl rfl ?_; clear hS a; intro a hS
          refine g_no hS rfl rfl rfl rfl rfl rfl rfl ?_; clear hS a; intro a hS
          refine g_no hS rfl rfl rfl rfl rfl rfl rfl ?_; clear hS a; intro a hS
          refine g_no hS rfl rfl rfl rfl rfl rfl rfl ?_; clear hS a; intro a hS
          refine q_seq hS rfl rfl rfl (y_pick_f hS rfl rfl) ?_; clear hS a; intro a hS
          refine q_seq hS rfl rfl rfl (y_assign hS rfl) ?_; clear hS a; intro a hS
          apply wpList_nil
          refine p_norm ?_
          apply wp_ret
          obtain rfl := Option.some.inj hg
          refine fin1 (fn := Try.f11) hS rfl (r_tmp hS rfl) ?_
          exact rfl
      · replace hg := br_f hg (by rw [hs34]; exact Bool.false_ne_true)
        apply wp_region_lit
        refine q_seq hS rfl rfl rfl (y_move hS rfl) ?_; clear hS a; intro a hS
        refine l_seq rfl (l_call (cap := []) hS rfl Try.func12 rfl (by kernel_rfl) rfl rfl (c_lexicon_Check n _ _ hS.lt [(Entry.mk [102, 108, 121] [[102, 108, 121]] (FS.mk []))] (some ⟨b4, 0, none⟩) (1) (hS.fact (k := 123) rfl) r25 hr25) ?_); clear hS a; intro v92 a w hK hp hS
        clear hK
        obtain rfl := hp
        refine q_seq hS rfl rfl rfl (yl_b (y_eql hS rfl rfl) hs28e) ?_; clear hS a; intro a hS
        refine q_seq hS rfl rfl rfl (y_move hS rfl) ?_; clear hS a; intro a hS
        refine g_yes hS rfl rfl rfl rfl (l_quiet hS rfl rfl (y_build (parts := [(0, .const (.string (bs ([97]))))]) (ps := [(0, .string (bs ([97])))]) (cells := #[.string (bs ([97])), .slice (none) (0) (0), .slice (none) (0) (0)]) hS rfl (by kernel_rfl)) ?_); clear hS a; intro a hS
        refine g_yes hS rfl rfl rfl rfl (l_buildDense (sz := 3) hS 1505 rfl rfl rfl Try.underlying22 rfl rfl rfl rfl rfl rfl rfl ?_); clear hS a; intro b94 a w hbb94 hK hS
        clear hbb94
        clear hK
        replace hS := hS.add 171 (rdF REntry (cellsOfL [.agg #[.string (bs ([97])), .slice (none) (0) (0), .slice (none) (0) (0)]]) ([(Entry.mk [97] [] (FS.mk []))])) (RdAll.cons (by exact (REntry.mk' (x := (Entry.mk [97] [] (FS.mk []))) (by first | omega | (rw [List.length_append]; omega) | (simp only [List.length_append]; omega) | (simp only [List.length_append, List.length_take, List.length_drop, List.length_cons, List.length_nil]; omega)) (SlR.nil_ _ _ _) (SlR.nil_ _ _ _))) (RdAll.nil _ _ _))
        have hT := hS
        replace hT := hT.freeze (R := REntry) (kk := 1505) (L' := []) 172 rfl rfl (hT.fact (k := 171) rfl) trivial rfl
        refine g_yes hS rfl rfl rfl rfl (l_call (cap := []) hS rfl Try.func12 rfl (by kernel_rfl) rfl rfl (c_lexicon_Check n _ _ hT.lt [(Entry.mk [97] [] (FS.mk []))] (some ⟨b94, 0, none⟩) (1) (hT.fact (k := 172) rfl) r30 hr30) ?_); clear hS hT a; intro v95 a w hK hp hS
        clear hK
        obtain rfl := hp
        refine g_yes hS rfl rfl rfl rfl (l_quiet hS rfl rfl (yl_b (y_eql hS rfl rfl) hs33e) ?_); clear hS a; intro a hS
        refine q_seq hS rfl rfl rfl (y_pick_t hS rfl rfl) ?_; clear hS a; intro a hS
        refine q_seq hS rfl rfl rfl (y_move hS rfl) ?_; clear hS a; intro a hS
        refine g_yes hS rfl rfl rfl rfl (l_quiet hS rfl rfl (yl_b (y_move hS rfl) hs34) ?_); clear hS a; intro a hS
        refine q_seq hS rfl rfl rfl (y_pick_t hS rfl rfl) ?_; clear hS a; intro a hS
        refine q_seq hS rfl rfl rfl (y_move hS rfl) ?_; clear hS a; intro a hS
        refine g_no hS rfl rfl rfl rfl rfl rfl rfl ?_; clear hS a; intro a hS
        refine g_no hS rfl rfl rfl rfl rfl rfl rfl ?_; clear hS a; intro a hS
        refine g_no hS rfl rfl rfl rfl rfl rfl rfl ?_; clear hS a; intro a hS
        refine q_seq hS rfl rfl rfl (y_pick_f hS rfl rfl) ?_; clear hS a; intro a hS
        refine q_seq hS rfl rfl rfl (y_move hS rfl) ?_; clear hS a; intro a hS
        refine g_no hS rfl rfl rfl rfl rfl rfl rfl ?_; clear hS a; intro a hS
        refine g_no hS rfl rfl rfl rfl rfl rfl rfl ?_; clear hS a; intro a hS
        refine g_no hS rfl rfl rfl rfl rfl rfl rfl ?_; clear hS a; intro a hS
        refine g_no hS rfl rfl rfl rfl rfl rfl rfl ?_; clear hS a; intro a hS
        refine g_no hS rfl rfl rfl rfl rfl rfl rfl ?_; clear hS a; intro a hS
        refine q_seq hS rfl rfl rfl (y_pick_f hS rfl rfl) ?_; clear hS a; intro a hS
        refine q_seq hS rfl rfl rfl (y_move hS rfl) ?_; clear hS a; intro a hS
        refine g_no hS rfl rfl rfl rfl rfl rfl rfl ?_; clear hS a; intro a hS
        refine g_no hS rfl rfl rfl rfl rfl rfl rfl ?_; clear hS a; intro a hS
        refine g_no hS rfl rfl rfl rfl rfl rfl rfl ?_; clear hS a; intro a hS
        refine g_no hS rfl rfl rfl rfl rfl rfl rfl ?_; clear hS a; intro a hS
        refine g_no hS rfl rfl rfl rfl rfl rfl rfl ?_; clear hS a; intro a hS
        refine q_seq hS rfl rfl rfl (y_pick_f hS rfl rfl) ?_; clear hS a; intro a hS
        refine q_seq hS rfl rfl rfl (y_assign hS rfl) ?_; clear hS a; intro a hS
        apply wpList_nil
        refine p_norm ?_
        apply wp_ret
        obtain rfl := Option.some.inj hg
        refine fin1 (fn := Try.f11) hS rfl (r_tmp hS rfl) ?_
        exact rfl
    · have hs33e : decide (r30 = 1) = false := decide_eq_false hs33
      replace hg := br_f hg hs33
      apply wp_region_lit
      refine q_seq hS rfl rfl rfl (y_move hS rfl) ?_; clear hS a; intro a hS
      refine l_seq rfl (l_call (cap := []) hS rfl Try.func12 rfl (by kernel_rfl) rfl rfl (c_lexicon_Check n _ _ hS.lt [(Entry.mk [102, 108, 121] [[102, 108, 121]] (FS.mk []))] (some ⟨b4, 0, none⟩) (1) (hS.fact (k := 123) rfl) r25 hr25) ?_); clear hS a; intro v97 a w hK hp hS
      clear hK
      obtain rfl := hp
      refine q_seq hS rfl rfl rfl (yl_b (y_eql hS rfl rfl) hs28e) ?_; clear hS a; intro a hS
      refine q_seq hS rfl rfl rfl (y_move hS rfl) ?_; clear hS a; intro a hS
      refine g_yes hS rfl rfl rfl rfl (l_quiet hS rfl rfl (y_build (parts := [(0, .const (.string (bs ([97]))))]) (ps := [(0, .string (bs ([97])))]) (cells := #[.string (bs ([97])), .slice (none) (0) (0), .slice (none) (0) (0)]) hS rfl (by kernel_rfl)) ?_); clear hS a; intro a hS
      refine g_yes hS rfl rfl rfl rfl (l_buildDense (sz := 3) hS 1505 rfl rfl rfl Try.underlying22 rfl rfl rfl rfl rfl rfl rfl ?_); clear hS a; intro b99 a w hbb99 hK hS
      clear hbb99
      clear hK
      replace hS := hS.add 173 (rdF REntry (cellsOfL [.agg #[.string (bs ([97])), .slice (none) (0) (0), .slice (none) (0) (0)]]) ([(Entry.mk [97] [] (FS.mk []))])) (RdAll.cons (by exact (REntry.mk' (x := (Entry.mk [97] [] (FS.mk []))) (by first | omega | (rw [List.length_append]; omega) | (simp only [List.length_append]; omega) | (simp only [List.length_append, List.length_take, List.length_drop, List.length_cons, List.length_nil]; omega)) (SlR.nil_ _ _ _) (SlR.nil_ _ _ _))) (RdAll.nil _ _ _))
      have hT := hS
      replace hT := hT.freeze (R := REntry) (kk := 1505) (L' := []) 174 rfl rfl (hT.fact (k := 173) rfl) trivial rfl
      refine g_yes hS rfl rfl rfl rfl (l_call (cap := []) hS rfl Try.func12 rfl (by kernel_rfl) rfl rfl (c_lexicon_Check n _ _ hT.lt [(Entry.mk [97] [] (FS.mk []))] (some ⟨b99, 0, none⟩) (1) (hT.fact (k := 174) rfl) r30 hr30) ?_); clear hS hT a; intro v100 a w hK hp hS
      clear hK
      obtain rfl := hp
      refine g_yes hS rfl rfl rfl rfl (l_quiet hS rfl rfl (yl_b (y_eql hS rfl rfl) hs33e) ?_); clear hS a; intro a hS
      refine q_seq hS rfl rfl rfl (y_pick_t hS rfl rfl) ?_; clear hS a; intro a hS
      refine q_seq hS rfl rfl rfl (y_move hS rfl) ?_; clear hS a; intro a hS
      refine g_no hS rfl rfl rfl rfl rfl rfl rfl ?_; clear hS a; intro a hS
      refine q_seq hS rfl rfl rfl (y_pick_f hS rfl rfl) ?_; clear hS a; intro a hS
      refine q_seq hS rfl rfl rfl (y_move hS rfl) ?_; clear hS a; intro a hS
      refine g_no hS rfl rfl rfl rfl rfl rfl rfl ?_; clear hS a; intro a hS
      refine g_no hS rfl rfl rfl rfl rfl rfl rfl ?_; clear hS a; intro a hS
      refine g_no hS rfl rfl rfl rfl rfl rfl rfl ?_; clear hS a; intro a hS
      refine q_seq hS rfl rfl rfl (y_pick_f hS rfl rfl) ?_; clear hS a; intro a hS
      refine q_seq hS rfl rfl rfl (y_move hS rfl) ?_; clear hS a; intro a hS
      refine g_no hS rfl rfl rfl rfl rfl rfl rfl ?_; clear hS a; intro a hS
      refine g_no hS rfl rfl rfl rfl rfl rfl rfl ?_; clear hS a; intro a hS
      refine g_no hS rfl rfl rfl rfl rfl rfl rfl ?_; clear hS a; intro a hS
      refine g_no hS rfl rfl rfl rfl rfl rfl rfl ?_; clear hS a; intro a hS
      refine g_no hS rfl rfl rfl rfl rfl rfl rfl ?_; clear hS a; intro a hS
      refine q_seq hS rfl rfl rfl (y_pick_f hS rfl rfl) ?_; clear hS a; intro a hS
      refine q_seq hS rfl rfl rfl (y_move hS rfl) ?_; clear hS a; intro a hS
      refine g_no hS rfl rfl rfl rfl rfl rfl rfl ?_; clear hS a; intro a hS
      refine g_no hS rfl rfl rfl rfl rfl rfl rfl ?_; clear hS a; intro a hS
      refine g_no hS rfl rfl rfl rfl rfl rfl rfl ?_; clear hS a; intro a hS
      refine g_no hS rfl rfl rfl rfl rfl rfl rfl ?_; clear hS a; intro a hS
      refine g_no hS rfl rfl rfl rfl rfl rfl rfl ?_; clear hS a; intro a hS
      refine q_seq hS rfl rfl rfl (y_pick_f hS rfl rfl) ?_; clear hS a; intro a hS
      refine q_seq hS rfl rfl rfl (y_assign hS rfl) ?_; clear hS a; intro a hS
      apply wpList_nil
      refine p_norm ?_
      apply wp_ret
      obtain rfl := Option.some.inj hg
      refine fin1 (fn := Try.f11) hS rfl (r_tmp hS rfl) ?_
      exact rfl
  · have hs28e : decide (r25 = 0) = false := decide_eq_false hs28
    replace hg := br_f hg hs28
    apply wp_region_lit
    refine q_seq hS rfl rfl rfl (y_move hS rfl) ?_; clear hS a; intro a hS
    refine l_seq rfl (l_call (cap := []) hS rfl Try.func12 rfl (by kernel_rfl) rfl rfl (c_lexicon_Check n _ _ hS.lt [(Entry.mk [102, 108, 121] [[102, 108, 121]] (FS.mk []))] (some ⟨b4, 0, none⟩) (1) (hS.fact (k := 123) rfl) r25 hr25) ?_); clear hS a; intro v102 a w hK hp hS
    clear hK
    obtain rfl := hp
    refine q_seq hS rfl rfl rfl (yl_b (y_eql hS rfl rfl) hs28e) ?_; clear hS a; intro a hS
    refine q_seq hS rfl rfl rfl (y_move hS rfl) ?_; clear hS a; intro a hS
    refine g_no hS rfl rfl rfl rfl rfl rfl rfl ?_; clear hS a; intro a hS
    refine g_no hS rfl rfl rfl rfl rfl rfl rfl ?_; clear hS a; intro a hS
    refine g_no hS rfl rfl rfl rfl rfl rfl rfl ?_; clear hS a; intro a hS
    refine g_no hS rfl rfl rfl rfl rfl rfl rfl ?_; clear hS a; intro a hS
    refine q_seq hS rfl rfl rfl (y_pick_f hS rfl rfl) ?_; clear hS a; intro a hS
    refine q_seq hS rfl rfl rfl (y_move hS rfl) ?_; clear hS a; intro a hS
    refine g_no hS rfl rfl rfl rfl rfl rfl rfl ?_; clear hS a; intro a hS
    refine q_seq hS rfl rfl rfl (y_pick_f hS rfl rfl) ?_; clear hS a; intro a hS
    refine q_seq hS rfl rfl rfl (y_move hS rfl) ?_; clear hS a; intro a hS
    refine g_no hS rfl rfl rfl rfl rfl rfl rfl ?_; clear hS a; intro a hS
    refine g_no hS rfl rfl rfl rfl rfl rfl rfl ?_; clear hS a; intro a hS
    refine g_no hS rfl rfl rfl rfl rfl rfl rfl ?_; clear hS a; intro a hS
    refine q_seq hS rfl rfl rfl (y_pick_f hS rfl rfl) ?_; clear hS a; intro a hS
    refine q_seq hS rfl rfl rfl (y_move hS rfl) ?_; clear hS a; intro a hS
    refine g_no hS rfl rfl rfl rfl rfl rfl rfl ?_; clear hS a; intro a hS
    refine g_no hS rfl rfl rfl rfl rfl rfl rfl ?_; clear hS a; intro a hS
    refine g_no hS rfl rfl rfl rfl rfl rfl rfl ?_; clear hS a; intro a hS
    refine g_no hS rfl rfl rfl rfl rfl rfl rfl ?_; clear hS a; intro a hS
    refine g_no hS rfl rfl rfl rfl rfl rfl rfl ?_; clear hS a; intro a hS
    refine q_seq hS rfl rfl rfl (y_pick_f hS rfl rfl) ?_; clear hS a; intro a hS
    refine q_seq hS rfl rfl rfl (y_move hS rfl) ?_; clear hS a; intro a hS
    refine g_no hS rfl rfl rfl rfl rfl rfl rfl ?_; clear hS a; intro a hS
    refine g_no hS rfl rfl rfl rfl rfl rfl rfl ?_; clear hS a; intro a hS
    refine g_no hS rfl rfl rfl rfl rfl rfl rfl ?_; clear hS a; intro a hS
    refine g_no hS rfl rfl rfl rfl rfl rfl rfl ?_; clear hS a; intro a hS
    refine g_no hS rfl rfl rfl rfl rfl rfl rfl ?_; clear hS a; intro a hS
    refine q_seq hS rfl rfl rfl (y_pick_f hS rfl rfl) ?_; clear hS a; intro a hS
    refine q_seq hS rfl rfl rfl (y_assign hS rfl) ?_; clear hS a; intro a hS
    apply wpList_nil
    refine p_norm ?_
    apply wp_ret
    obtain rfl := Option.some.inj hg
    refine fin1 (fn := Try.f11) hS rfl (r_tmp hS rfl) ?_
    exact rfl
set_option maxHeartbeats 400000 in
theorem c_r01_digit (n : Nat) (M : Bs) (w0 : World) (hM : ∀ b, M b → b < w0.heap.size) (c_ : UInt8) (r : Bool) (hg : r01_digit n c_ = some r) :
    Calls Try.prog 52 [.int .u8 (((c_.toNat : Nat) : Int))].toArray w0 (Ret noB w0 fun v w => v = .bool (r)) := by
  unfold r01_digit at hg
  refine enter M noB Try.func52 rfl rfl hM ?_
  intro a hS
  apply wp_seq
  apply wp_region_lit
  refine q_seq hS rfl rfl rfl (y_assign hS rfl) ?_; clear hS a; intro a hS
  apply wpList_nil
  refine p_norm ?_
  apply wp_seq
  rcases Decidable.em ((48 : Nat) ≤ c_.toNat) with hs1 | hs1
  · have hs1e : decide ((48 : Nat) ≤ c_.toNat) = true := decide_eq_true hs1
    replace hg := br_t hg hs1
    apply wp_region_lit
    refine q_seq hS rfl rfl rfl (y_move hS rfl) ?_; clear hS a; intro a hS
    refine q_seq hS rfl rfl rfl (yl_b (y_geqN (i := c_.toNat) (j := 48) hS rfl rfl) hs1e) ?_; clear hS a; intro a hS
    refine q_seq hS rfl rfl rfl (y_move hS rfl) ?_; clear hS a; intro a hS
    refine g_yes hS rfl rfl rfl rfl (l_quiet hS rfl rfl (y_move hS rfl) ?_); clear hS a; intro a hS
    refine g_yes hS rfl rfl rfl rfl (l_quiet hS rfl rfl (y_leqN (i := c_.toNat) (j := 57) hS rfl rfl) ?_); clear hS a; intro a hS
    refine q_seq hS rfl rfl rfl (y_pick_t hS rfl rfl) ?_; clear hS a; intro a hS
    refine q_seq hS rfl rfl rfl (y_assign hS rfl) ?_; clear hS a; intro a hS
    apply wpList_nil
    refine p_norm ?_
    apply wp_ret
    obtain rfl := Option.some.inj hg
    refine fin1 (fn := Try.f52) hS rfl (r_tmp hS rfl) ?_
    exact rfl
  · have hs1e : decide ((48 : Nat) ≤ c_.toNat) = false := decide_eq_false hs1
    replace hg := br_f hg hs1
    apply wp_region_lit
    refine q_seq hS rfl rfl rfl (y_move hS rfl) ?_; clear hS a; intro a hS
    refine q_seq hS rfl rfl rfl (yl_b (y_geqN (i := c_.toNat) (j := 48) hS rfl rfl) hs1e) ?_; clear hS a; intro a hS
    refine q_seq hS rfl rfl rfl (y_move hS rfl) ?_; clear hS a; intro a hS
    refine g_no hS rfl rfl rfl rfl rfl rfl rfl ?_; clear hS a; intro a hS
    refine g_no hS rfl rfl rfl rfl rfl rfl rfl ?_; clear hS a; intro a hS
    refine q_seq hS rfl rfl rfl (y_pick_f hS rfl rfl) ?_; clear hS a; intro a hS
    refine q_seq hS rfl rfl rfl (y_assign hS rfl) ?_; clear hS a; intro a hS
    apply wpList_nil
    refine p_norm ?_
    apply wp_ret
    obtain rfl := Option.some.inj hg
    refine fin1 (fn := Try.f52) hS rfl (r_tmp hS rfl) ?_
    exact rfl
set_option maxHeartbeats 400000 in
theorem c_r01_upper (n : Nat) (M : Bs) (w0 : World) (hM : ∀ b, M b → b < w0.heap.size) (c_ : UInt8) (r : Bool) (hg : r01_upper n c_ = some r) :
    Calls Try.prog 45 [.int .u8 (((c_.toNat : Nat) : Int))].toArray w0 (Ret noB w0 fun v w => v = .bool (r)) := by
  unfold r01_upper at hg
  refine enter M noB Try.func45 rfl rfl hM ?_
  intro a hS
  apply wp_seq
  apply wp_region_lit
  refine q_seq hS rfl rfl rfl (y_assign hS rfl) ?_; clear hS a; intro a hS
  apply wpList_nil
  refine p_norm ?_
  apply wp_seq
  rcases Decidable.em ((65 : Nat) ≤ c_.toNat) with hs1 | hs1
  · have hs1e : decide ((65 : Nat) ≤ c_.toNat) = true := decide_eq_true hs1
    replace hg := br_t hg hs1
    apply wp_region_lit
    refine q_seq hS rfl rfl rfl (y_move hS rfl) ?_; clear hS a; intro a hS
    refine q_seq hS rfl rfl rfl (yl_b (y_geqN (i := c_.toNat) (j := 65) hS rfl rfl) hs1e) ?_; clear hS a; intro a hS
    refine q_seq hS rfl rfl rfl (y_move hS rfl) ?_; clear hS a; intro a hS
    refine g_yes hS rfl rfl rfl rfl (l_quiet hS rfl rfl (y_move hS rfl) ?_); clear hS a; intro a hS
    refine g_yes hS rfl rfl rfl rfl (l_quiet hS rfl rfl (y_leqN (i := c_.toNat) (j := 90) hS rfl rfl) ?_); clear hS a; intro a hS
    refine q_seq hS rfl rfl rfl (y_pick_t hS rfl rfl) ?_; clear hS a; intro a hS
    refine q_seq hS rfl rfl rfl (y_assign hS rfl) ?_; clear hS a; intro a hS
    apply wpList_nil
    refine p_norm ?_
    apply wp_ret
    obtain rfl := Option.some.inj hg
    refine fin1 (fn := Try.f45) hS rfl (r_tmp hS rfl) ?_
    exact rfl
  · have hs1e : decide ((65 : Nat) ≤ c_.toNat) = false := decide_eq_false hs1
    replace hg := br_f hg hs1
    apply wp_region_lit
    refine q_seq hS rfl rfl rfl (y_move hS rfl) ?_; clear hS a; intro a hS
    refine q_seq hS rfl rfl rfl (yl_b (y_geqN (i := c_.toNat) (j := 65) hS rfl rfl) hs1e) ?_; clear hS a; intro a hS
    refine q_seq hS rfl rfl rfl (y_move hS rfl) ?_; clear hS a; intro a hS
    refine g_no hS rfl rfl rfl rfl rfl rfl rfl ?_; clear hS a; intro a hS
    refine g_no hS rfl rfl rfl rfl rfl rfl rfl ?_; clear hS a; intro a hS
    refine q_seq hS rfl rfl rfl (y_pick_f hS rfl rfl) ?_; clear hS a; intro a hS
    refine q_seq hS rfl rfl rfl (y_assign hS rfl) ?_; clear hS a; intro a hS
    apply wpList_nil
    refine p_norm ?_
    apply wp_ret
    obtain rfl := Option.some.inj hg
    refine fin1 (fn := Try.f45) hS rfl (r_tmp hS rfl) ?_
    exact rfl
set_option maxHeartbeats 400000 in
theorem c_r01_lower (n : Nat) (M : Bs) (w0 : World) (hM : ∀ b, M b → b < w0.heap.size) (c_ : UInt8) (r : Bool) (hg : r01_lower n c_ = some r) :
    Calls Try.prog 57 [.int .u8 (((c_.toNat : Nat) : Int))].toArray w0 (Ret noB w0 fun v w => v = .bool (r)) := by
  unfold r01_lower at hg
  refine enter M noB Try.func57 rfl rfl hM ?_
  intro a hS
  apply wp_seq
  apply wp_region_lit
  refine q_seq hS rfl rfl rfl (y_assign hS rfl) ?_; clear hS a; intro a hS
  apply wpList_nil
  refine p_norm ?_
  apply wp_seq
  rcases Decidable.em ((97 : Nat) ≤ c_.toNat) with hs1 | hs1
  · have hs1e : decide ((97 : Nat) ≤ c_.toNat) = true := decide_eq_true hs1
    replace hg := br_t hg hs1
    apply wp_region_lit
    refine q_seq hS rfl rfl rfl (y_move hS rfl) ?_; clear hS a; intro a hS
    refine q_seq hS rfl rfl rfl (yl_b (y_geqN (i := c_.toNat) (j := 97) hS rfl rfl) hs1e) ?_; clear hS a; intro a hS
    refine q_seq hS rfl rfl rfl (y_move hS rfl) ?_; clear hS a; intro a hS
    refine g_yes hS rfl rfl rfl rfl (l_quiet hS rfl rfl (y_move hS rfl) ?_); clear hS a; intro a hS
    refine g_yes hS rfl rfl rfl rfl (l_quiet hS rfl rfl (y_leqN (i := c_.toNat) (j := 122) hS rfl rfl) ?_); clear hS a; intro a hS
    refine q_seq hS rfl rfl rfl (y_pick_t hS rfl rfl) ?_; clear hS a; intro a hS
    refine q_seq hS rfl rfl rfl (y_assign hS rfl) ?_; clear hS a; intro a hS
    apply wpList_nil
    refine p_norm ?_
    apply wp_ret
    obtain rfl := Option.some.inj hg
    refine fin1 (fn := Try.f57) hS rfl (r_tmp hS rfl) ?_
    exact rfl
  · have hs1e : decide ((97 : Nat) ≤ c_.toNat) = false := decide_eq_false hs1
    replace hg := br_f hg hs1
    apply wp_region_lit
    refine q_seq hS rfl rfl rfl (y_move hS rfl) ?_; clear hS a; intro a hS
    refine q_seq hS rfl rfl rfl (yl_b (y_geqN (i := c_.toNat) (j := 97) hS rfl rfl) hs1e) ?_; clear hS a; intro a hS
    refine q_seq hS rfl rfl rfl (y_move hS rfl) ?_; clear hS a; intro a hS
    refine g_no hS rfl rfl rfl rfl rfl rfl rfl ?_; clear hS a; intro a hS
    refine g_no hS rfl rfl rfl rfl rfl rfl rfl ?_; clear hS a; intro a hS
    refine q_seq hS rfl rfl rfl (y_pick_f hS rfl rfl) ?_; clear hS a; intro a hS
    refine q_seq hS rfl rfl rfl (y_assign hS rfl) ?_; clear hS a; intro a hS
    apply wpList_nil
    refine p_norm ?_
    apply wp_ret
    obtain rfl := Option.some.inj hg
    refine fin1 (fn := Try.f57) hS rfl (r_tmp hS rfl) ?_
    exact rfl
set_option maxHeartbeats 400000 in
theorem c_r01_part (n : Nat) (M : Bs) (w0 : World) (hM : ∀ b, M b → b < w0.heap.size) (c_ : UInt8) (big_ : Bool) (r : Bool) (hg : r01_part n c_ big_ = some r) :
    Calls Try.prog 53 [.int .u8 (((c_.toNat : Nat) : Int)), .bool (big_)].toArray w0 (Ret noB w0 fun v w => v = .bool (r)) := by
  unfold r01_part at hg
  refine enter M noB Try.func53 rfl rfl hM ?_
  intro a hS
  apply wp_seq
  apply wp_region_lit
  refine q_seq hS rfl rfl rfl (y_assign hS rfl) ?_; clear hS a; intro a hS
  apply wpList_nil
  refine p_norm ?_
  apply wp_seq
  replace hg := bind_some hg; obtain ⟨r1, hr1, hg⟩ := hg
  rcases Bool.eq_false_or_eq_true (r1) with hs4 | hs4
  · replace hg := br_t hg hs4
    apply wp_region_lit
    refine q_seq hS rfl rfl rfl (y_move hS rfl) ?_; clear hS a; intro a hS
    refine l_seq rfl (l_call (cap := []) hS rfl Try.func52 rfl (by kernel_rfl) rfl rfl (c_r01_digit n _ _ hS.lt c_ r1 hr1) ?_); clear hS a; intro v5 a w hK hp hS
    clear hK
    obtain rfl := hp.trans (congrArg Value.bool hs4)
    refine q_seq hS rfl rfl rfl (y_move hS rfl) ?_; clear hS a; intro a hS
    refine g_no hS rfl rfl rfl rfl rfl rfl rfl ?_; clear hS a; intro a hS
    refine g_no hS rfl rfl rfl rfl rfl rfl rfl ?_; clear hS a; intro a hS
    refine q_seq hS rfl rfl rfl (y_pick_t hS rfl rfl) ?_; clear hS a; intro a hS
    refine q_seq hS rfl rfl rfl (y_move hS rfl) ?_; clear hS a; intro a hS
    refine g_no hS rfl rfl rfl rfl rfl rfl rfl ?_; clear hS a; intro a hS
    refine g_no hS rfl rfl rfl rfl rfl rfl rfl ?_; clear hS a; intro a hS
    refine g_no hS rfl rfl rfl rfl rfl rfl rfl ?_; clear hS a; intro a hS
    refine g_no hS rfl rfl rfl rfl rfl rfl rfl ?_; clear hS a; intro a hS
    refine g_no hS rfl rfl rfl rfl rfl rfl rfl ?_; clear hS a; intro a hS
    refine q_seq hS rfl rfl rfl (y_pick_t hS rfl rfl) ?_; clear hS a; intro a hS
    refine q_seq hS rfl rfl rfl (y_move hS rfl) ?_; clear hS a; intro a hS
    refine g_no hS rfl rfl rfl rfl rfl rfl rfl ?_; clear hS a; intro a hS
    refine g_no hS rfl rfl rfl rfl rfl rfl rfl ?_; clear hS a; intro a hS
    refine g_no hS rfl rfl rfl rfl rfl rfl rfl ?_; clear hS a; intro a hS
    refine g_no hS rfl rfl rfl rfl rfl rfl rfl ?_; clear hS a; intro a hS
    refine g_no hS rfl rfl rfl rfl rfl rfl rfl ?_; clear hS a; intro a hS
    refine g_no hS rfl rfl rfl rfl rfl rfl rfl ?_; clear hS a; intro a hS
    refine q_seq hS rfl rfl rfl (y_pick_t hS rfl rfl) ?_; clear hS a; intro a hS
    refine q_seq hS rfl rfl rfl (y_assign hS rfl) ?_; clear hS a; intro a hS
    apply wpList_nil
    refine p_norm ?_
    apply wp_ret
    obtain rfl := Option.some.inj hg
    refine fin1 (fn := Try.f53) hS rfl (r_tmp hS rfl) ?_
    exact rfl
  · replace hg := br_f hg (by rw [hs4]; exact Bool.false_ne_true)
    rcases Decidable.em (c_.toNat = 45) with hs7 | hs7
    · have hs7e : decide (c_.toNat = 45) = true := decide_eq_true hs7
      replace hg := br_t hg hs7
      apply wp_region_lit
      refine q_seq hS rfl rfl rfl (y_move hS rfl) ?_; clear hS a; intro a hS
      refine l_seq rfl (l_call (cap := []) hS rfl Try.func52 rfl (by kernel_rfl) rfl rfl (c_r01_digit n _ _ hS.lt c_ r1 hr1) ?_); clear hS a; intro v8 a w hK hp hS
      clear hK
      obtain rfl := hp.trans (congrArg Value.bool hs4)
      refine q_seq hS rfl rfl rfl (y_move hS rfl) ?_; clear hS a; intro a hS
      refine g_yes hS rfl rfl rfl rfl (l_quiet hS rfl rfl (y_move hS rfl) ?_); clear hS a; intro a hS
      refine g_yes hS rfl rfl rfl rfl (l_quiet hS rfl rfl (yl_b (y_eqlN (i := c_.toNat) (j := 45) hS rfl rfl) hs7e) ?_); clear hS a; intro a hS
      refine q_seq hS rfl rfl rfl (y_pick_f hS rfl rfl) ?_; clear hS a; intro a hS
      refine q_seq hS rfl rfl rfl (y_move hS rfl) ?_; clear hS a; intro a hS
      refine g_no hS rfl rfl rfl rfl rfl rfl rfl ?_; clear hS a; intro a hS
      refine g_no hS rfl rfl rfl rfl rfl rfl rfl ?_; clear hS a; intro a hS
      refine g_no hS rfl rfl rfl rfl rfl rfl rfl ?_; clear hS a; intro a hS
      refine g_no hS rfl rfl rfl rfl rfl rfl rfl ?_; clear hS a; intro a hS
      refine g_no hS rfl rfl rfl rfl rfl rfl rfl ?_; clear hS a; intro a hS
      refine q_seq hS rfl rfl rfl (y_pick_t hS rfl rfl) ?_; clear hS a; intro a hS
      refine q_seq hS rfl rfl rfl (y_move hS rfl) ?_; clear hS a; intro a hS
      refine g_no hS rfl rfl rfl rfl rfl rfl rfl ?_; clear hS a; intro a hS
      refine g_no hS rfl rfl rfl rfl rfl rfl rfl ?_; clear hS a; intro a hS
      refine g_no hS rfl rfl rfl rfl rfl rfl rfl ?_; clear hS a; intro a hS
      refine g_no hS rfl rfl rfl rfl rfl rfl rfl ?_; clear hS a; intro a hS
      refine g_no hS rfl rfl rfl rfl rfl rfl rfl ?_; clear hS a; intro a hS
      refine g_no hS rfl rfl rfl rfl rfl rfl rfl ?_; clear hS a; intro a hS
      refine q_seq hS rfl rfl rfl (y_pick_t hS rfl rfl) ?_; clear hS a; intro a hS
      refine q_seq hS rfl rfl rfl (y_assign hS rfl) ?_; clear hS a; intro a hS
      apply wpList_nil
      refine p_norm ?_
      apply wp_ret
      obtain rfl := Option.some.inj hg
      refine fin1 (fn := Try.f53) hS rfl (r_tmp hS rfl) ?_
      exact rfl
    · have hs7e : decide (c_.toNat = 45) = false := decide_eq_false hs7
      replace hg := br_f hg hs7
      rcases Bool.eq_false_or_eq_true (big_) with hs10 | hs10
      · replace hg := br_t hg hs10
        replace hg := bind_some hg; obtain ⟨r11, hr11, hg⟩ := hg
        rcases Bool.eq_false_or_eq_true (r11) with hs14 | hs14
        · replace hg := br_t hg hs14
          apply wp_region_lit
          refine q_seq hS rfl rfl rfl (y_move hS rfl) ?_; clear hS a; intro a hS
          refine l_seq rfl (l_call (cap := []) hS rfl Try.func52 rfl (by kernel_rfl) rfl rfl (c_r01_digit n _ _ hS.lt c_ r1 hr1) ?_); clear hS a; intro v15 a w hK hp hS
          clear hK
          obtain rfl := hp.trans (congrArg Value.bool hs4)
          refine q_seq hS rfl rfl rfl (y_move hS rfl) ?_; clear hS a; intro a hS
          refine g_yes hS rfl rfl rfl rfl (l_quiet hS rfl rfl (y_move hS rfl) ?_); clear hS a; intro a hS
          refine g_yes hS rfl rfl rfl rfl (l_quiet hS rfl rfl (yl_b (y_eqlN (i := c_.toNat) (j := 45) hS rfl rfl) hs7e) ?_); clear hS a; intro a hS
          refine q_seq hS rfl rfl rfl (y_pick_f hS rfl rfl) ?_; clear hS a; intro a hS
          refine q_seq hS rfl rfl rfl (y_move hS rfl) ?_; clear hS a; intro a hS
          refine g_yes hS rfl rfl rfl rfl (l_quiet hS rfl rfl (yl_b (y_move hS rfl) hs10) ?_); clear hS a; intro a hS
          refine g_yes hS rfl rfl rfl rfl (l_quiet hS rfl rfl (y_move hS rfl) ?_); clear hS a; intro a hS
          refine g_yes hS rfl rfl rfl rfl (l_quiet hS rfl rfl (y_move hS rfl) ?_); clear hS a; intro a hS
          refine g_yes hS rfl rfl rfl rfl (l_call (cap := []) hS rfl Try.func45 rfl (by kernel_rfl) rfl rfl (c_r01_upper n _ _ hS.lt c_ r11 hr11) ?_); clear hS a; intro v17 a w hK hp hS
          clear hK
          obtain rfl := hp.trans (congrArg Value.bool hs14)
          refine g_yes hS rfl rfl rfl rfl (l_quiet hS rfl rfl (y_pick_t hS rfl rfl) ?_); clear hS a; intro a hS
          refine q_seq hS rfl rfl rfl (y_pick_f hS rfl rfl) ?_; clear hS a; intro a hS
          refine q_seq hS rfl rfl rfl (y_move hS rfl) ?_; clear hS a; intro a hS
          refine g_no hS rfl rfl rfl rfl rfl rfl rfl ?_; clear hS a; intro a hS
          refine g_no hS rfl rfl rfl rfl rfl rfl rfl ?_; clear hS a; intro a hS
          refine g_no hS rfl rfl rfl rfl rfl rfl rfl ?_; clear hS a; intro a hS
          refine g_no hS rfl rfl rfl rfl rfl rfl rfl ?_; clear hS a; intro a hS
          refine g_no hS rfl rfl rfl rfl rfl rfl rfl ?_; clear hS a; intro a hS
          refine g_no hS rfl rfl rfl rfl rfl rfl rfl ?_; clear hS a; intro a hS
          refine q_seq hS rfl rfl rfl (y_pick_t hS rfl rfl) ?_; clear hS a; intro a hS
          refine q_seq hS rfl rfl rfl (y_assign hS rfl) ?_; clear hS a; intro a hS
          apply wpList_nil
          refine p_norm ?_
          apply wp_ret
          obtain rfl := Option.some.inj hg
          refine fin1 (fn := Try.f53) hS rfl (r_tmp hS rfl) ?_
          exact rfl
        · replace hg := br_f hg (by rw [hs14]; exact Bool.false_ne_true)
          apply wp_region_lit
          refine q_seq hS rfl rfl rfl (y_move hS rfl) ?_; clear hS a; intro a hS
          refine l_seq rfl (l_call (cap := []) hS rfl Try.func52 rfl (by kernel_rfl) rfl rfl (c_r01_digit n _ _ hS.lt c_ r1 hr1) ?_); clear hS a; intro v19 a w hK hp hS
          clear hK
          obtain rfl := hp.trans (congrArg Value.bool hs4)
          refine q_seq hS rfl rfl rfl (y_move hS rfl) ?_; clear hS a; intro a hS
          refine g_yes hS rfl rfl rfl rfl (l_quiet hS rfl rfl (y_move hS rfl) ?_); clear hS a; intro a hS
          refine g_yes hS rfl rfl rfl rfl (l_quiet hS rfl rfl (yl_b (y_eqlN (i := c_.toNat) (j := 45) hS rfl rfl) hs7e) ?_); clear hS a; intro a hS
          refine q_seq hS rfl rfl rfl (y_pick_f hS rfl rfl) ?_; clear hS a; intro a hS
          refine q_seq hS rfl rfl rfl (y_move hS rfl) ?_; clear hS a; intro a hS
          refine g_yes hS rfl rfl rfl rfl (l_quiet hS rfl rfl (yl_b (y_move hS rfl) hs10) ?_); clear hS a; intro a hS
          refine g_yes hS rfl rfl rfl rfl (l_quiet hS rfl rfl (y_move hS rfl) ?_); clear hS a; intro a hS
          refine g_yes hS rfl rfl rfl rfl (l_quiet hS rfl rfl (y_move hS rfl) ?_); clear hS a; intro a hS
          refine g_yes hS rfl rfl rfl rfl (l_call (cap := []) hS rfl Try.func45 rfl (by kernel_rfl) rfl rfl (c_r01_upper n _ _ hS.lt c_ r11 hr11) ?_); clear hS a; intro v21 a w hK hp hS
          clear hK
          obtain rfl := hp.trans (congrArg Value.bool hs14)
          refine g_yes hS rfl rfl rfl rfl (l_quiet hS rfl rfl (y_pick_t hS rfl rfl) ?_); clear hS a; intro a hS
          refine q_seq hS rfl rfl rfl (y_pick_f hS rfl rfl) ?_; clear hS a; intro a hS
          refine q_seq hS rfl rfl rfl (y_move hS rfl) ?_; clear hS a; intro a hS
          refine g_yes hS rfl rfl rfl rfl (l_quiet hS rfl rfl (yl_b (y_move hS rfl) hs10) ?_); clear hS a; intro a hS
          refine g_yes hS rfl rfl rfl rfl (l_quiet hS rfl rfl (y_not hS rfl) ?_); clear hS a; intro a hS
          refine g_yes hS rfl rfl rfl rfl (l_quiet hS rfl rfl (y_move hS rfl) ?_); clear hS a; intro a hS
          refine g_no hS rfl rfl rfl rfl rfl rfl rfl ?_; clear hS a; intro a hS
          refine g_no hS rfl rfl rfl rfl rfl rfl rfl ?_; clear hS a; intro a hS
          refine g_yes hS rfl rfl rfl rfl (l_quiet hS rfl rfl (y_pick_f hS rfl rfl) ?_); clear hS a; intro a hS
          refine q_seq hS rfl rfl rfl (y_pick_f hS rfl rfl) ?_; clear hS a; intro a hS
          refine q_seq hS rfl rfl rfl (y_assign hS rfl) ?_; clear hS a; intro a hS
          apply wpList_nil
          refine p_norm ?_
          apply wp_ret
          obtain rfl := Option.some.inj hg
          refine fin1 (fn := Try.f53) hS rfl (r_tmp hS rfl) ?_
          exact rfl
      · replace hg := br_f hg (by rw [hs10]; exact Bool.false_ne_true)
        replace hg := bind_some hg; obtain ⟨r23, hr23, hg⟩ := hg
        apply wp_region_lit
        refine q_seq hS rfl rfl rfl (y_move hS rfl) ?_; clear hS a; intro a hS
        refine l_seq rfl (l_call (cap := []) hS rfl Try.func52 rfl (by kernel_rfl) rfl rfl (c_r01_digit n _ _ hS.lt c_ r1 hr1) ?_); clear hS a; intro v26 a w hK hp hS
        clear hK
        obtain rfl := hp.trans (congrArg Value.bool hs4)
        refine q_seq hS rfl rfl rfl (y_move hS rfl) ?_; clear hS a; intro a hS
        refine g_yes hS rfl rfl rfl rfl (l_quiet hS rfl rfl (y_move hS rfl) ?_); clear hS a; intro a hS
        refine g_yes hS rfl rfl rfl rfl (l_quiet hS rfl rfl (yl_b (y_eqlN (i := c_.toNat) (j := 45) hS rfl rfl) hs7e) ?_); clear hS a; intro a hS
        refine q_seq hS rfl rfl rfl (y_pick_f hS rfl rfl) ?_; clear hS a; intro a hS
        refine q_seq hS rfl rfl rfl (y_move hS rfl) ?_; clear hS a; intro a hS
        refine g_yes hS rfl rfl rfl rfl (l_quiet hS rfl rfl (yl_b (y_move hS rfl) hs10) ?_); clear hS a; intro a hS
        refine g_yes hS rfl rfl rfl rfl (l_quiet hS rfl rfl (y_move hS rfl) ?_); clear hS a; intro a hS
        refine g_no hS rfl rfl rfl rfl rfl rfl rfl ?_; clear hS a; intro a hS
        refine g_no hS rfl rfl rfl rfl rfl rfl rfl ?_; clear hS a; intro a hS
        refine g_yes hS rfl rfl rfl rfl (l_quiet hS rfl rfl (y_pick_f hS rfl rfl) ?_); clear hS a; intro a hS
        refine q_seq hS rfl rfl rfl (y_pick_f hS rfl rfl) ?_; clear hS a; intro a hS
        refine q_seq hS rfl rfl rfl (y_move hS rfl) ?_; clear hS a; intro a hS
        refine g_yes hS rfl rfl rfl rfl (l_quiet hS rfl rfl (yl_b (y_move hS rfl) hs10) ?_); clear hS a; intro a hS
        refine g_yes hS rfl rfl rfl rfl (l_quiet hS rfl rfl (y_not hS rfl) ?_); clear hS a; intro a hS
        refine g_yes hS rfl rfl rfl rfl (l_quiet hS rfl rfl (y_move hS rfl) ?_); clear hS a; intro a hS
        refine g_yes hS rfl rfl rfl rfl (l_quiet hS rfl rfl (y_move hS rfl) ?_); clear hS a; intro a hS
        refine g_yes hS rfl rfl rfl rfl (l_call (cap := []) hS rfl Try.func57 rfl (by kernel_rfl) rfl rfl (c_r01_lower n _ _ hS.lt c_ r23 hr23) ?_); clear hS a; intro v28 a w hK hp hS
        clear hK
        obtain rfl := hp
        refine g_yes hS rfl rfl rfl rfl (l_quiet hS rfl rfl (y_pick_t hS rfl rfl) ?_); clear hS a; intro a hS
        refine q_seq hS rfl rfl rfl (y_pick_f hS rfl rfl) ?_; clear hS a; intro a hS
        refine q_seq hS rfl rfl rfl (y_assign hS rfl) ?_; clear hS a; intro a hS
        apply wpList_nil
        refine p_norm ?_
        apply wp_ret
        obtain rfl := Option.some.inj hg
        refine fin1 (fn := Try.f53) hS rfl (r_tmp hS rfl) ?_
        exact rfl
set_option maxHeartbeats 400000 in
theorem c_r01_named (n : Nat) (M : Bs) (w0 : World) (hM : ∀ b, M b → b < w0.heap.size) (s_ : (List UInt8)) (lp01 : (s_).length ≤ 9223372036854775807) (big_ : Bool) (r : Bool) (hg : r01_named n s_ big_ = some r) :
    Calls Try.prog 44 [.string (bs (s_)), .bool (big_)].toArray w0 (Ret noB w0 fun v w => v = .bool (r)) := by
  unfold r01_named at hg
  refine enter M noB Try.func44 rfl rfl hM ?_
  intro a hS
  apply wp_seq
  apply wp_region_lit
  refine q_seq hS rfl rfl rfl (y_assign hS rfl) ?_; clear hS a; intro a hS
  apply wpList_nil
  refine p_norm ?_
  apply wp_seq
  apply wp_seq
  replace hg := jn_some hg; obtain ⟨k1, hg, hk1⟩ := hg
  refine c_post (fun a w => ∃ (t_2 : Bool), k1 t_2 = some r ∧ St (⟨Try.f44.ntmps, M, noB, w0⟩ : Ctx) [(0, .string (bs (s_))), (1, .bool (big_)), (23, .bool (t_2))] [] [] a w) ?_ ?_
  · rcases Decidable.em (((s_).length) < 1) with hs3 | hs3
    · have hs3e : decide (((s_).length) < 1) = true := decide_eq_true hs3
      replace hg := br_t hg hs3
      apply wp_region_lit
      refine q_seq hS rfl rfl rfl (y_move hS rfl) ?_; clear hS a; intro a hS
      refine q_seq hS rfl rfl rfl (y_lenStrN hS rfl Try.underlying9) ?_; clear hS a; intro a hS
      refine q_seq hS rfl rfl rfl (yl_b (y_lssN (i := ((s_).length)) (j := 1) hS rfl rfl) hs3e) ?_; clear hS a; intro a hS
      refine q_seq hS rfl rfl rfl (y_move hS rfl) ?_; clear hS a; intro a hS
      refine g_no hS rfl rfl rfl rfl rfl rfl rfl ?_; clear hS a; intro a hS
      refine g_no hS rfl rfl rfl rfl rfl rfl rfl ?_; clear hS a; intro a hS
      refine g_no hS rfl rfl rfl rfl rfl rfl rfl ?_; clear hS a; intro a hS
      refine q_seq hS rfl rfl rfl (y_pick_t hS rfl rfl) ?_; clear hS a; intro a hS
      refine q_seq hS rfl rfl rfl (y_move hS rfl) ?_; clear hS a; intro a hS
      refine g_no hS rfl rfl rfl rfl rfl rfl rfl ?_; clear hS a; intro a hS
      refine g_no hS rfl rfl rfl rfl rfl rfl rfl ?_; clear hS a; intro a hS
      refine g_no hS rfl rfl rfl rfl rfl rfl rfl ?_; clear hS a; intro a hS
      refine q_seq hS rfl rfl rfl (y_pick_t hS rfl rfl) ?_; clear hS a; intro a hS
      refine q_seq hS rfl rfl rfl (y_move hS rfl) ?_; clear hS a; intro a hS
      refine g_no hS rfl rfl rfl rfl rfl rfl rfl ?_; clear hS a; intro a hS
      refine g_no hS rfl rfl rfl rfl rfl rfl rfl ?_; clear hS a; intro a hS
      refine g_no hS rfl rfl rfl rfl rfl rfl rfl ?_; clear hS a; intro a hS
      refine q_seq hS rfl rfl rfl (y_pick_t hS rfl rfl) ?_; clear hS a; intro a hS
      apply wpList_nil
      refine p_norm ?_
      exact ⟨(true), hg, (hS.sub ⟨rfl, rfl, rfl, trivial⟩ trivial trivial)⟩
    · have hs3e : decide (((s_).length) < 1) = false := decide_eq_false hs3
      replace hg := br_f hg hs3
      rcases Decidable.em ((32 : Nat) < ((s_).length)) with hs4 | hs4
      · have hs4e : decide ((32 : Nat) < ((s_).length)) = true := decide_eq_true hs4
        replace hg := br_t hg hs4
        apply wp_region_lit
        refine q_seq hS rfl rfl rfl (y_move hS rfl) ?_; clear hS a; intro a hS
        refine q_seq hS rfl rfl rfl (y_lenStrN hS rfl Try.underlying9) ?_; clear hS a; intro a hS
        refine q_seq hS rfl rfl rfl (yl_b (y_lssN (i := ((s_).length)) (j := 1) hS rfl rfl) hs3e) ?_; clear hS a; intro a hS
        refine q_seq hS rfl rfl rfl (y_move hS rfl) ?_; clear hS a; intro a hS
        refine g_yes hS rfl rfl rfl rfl (l_quiet hS rfl rfl (y_move hS rfl) ?_); clear hS a; intro a hS
        refine g_yes hS rfl rfl rfl rfl (l_quiet hS rfl rfl (y_lenStrN hS rfl Try.underlying9) ?_); clear hS a; intro a hS
        refine g_yes hS rfl rfl rfl rfl (l_quiet hS rfl rfl (yl_b (y_gtrN (i := ((s_).length)) (j := 32) hS rfl rfl) hs4e) ?_); clear hS a; intro a hS
        refine q_seq hS rfl rfl rfl (y_pick_f hS rfl rfl) ?_; clear hS a; intro a hS
        refine q_seq hS rfl rfl rfl (y_move hS rfl) ?_; clear hS a; intro a hS
        refine g_no hS rfl rfl rfl rfl rfl rfl rfl ?_; clear hS a; intro a hS
        refine g_no hS rfl rfl rfl rfl rfl rfl rfl ?_; clear hS a; intro a hS
        refine g_no hS rfl rfl rfl rfl rfl rfl rfl ?_; clear hS a; intro a hS
        refine q_seq hS rfl rfl rfl (y_pick_t hS rfl rfl) ?_; clear hS a; intro a hS
        refine q_seq hS rfl rfl rfl (y_move hS rfl) ?_; clear hS a; intro a hS
        refine g_no hS rfl rfl rfl rfl rfl rfl rfl ?_; clear hS a; intro a hS
        refine g_no hS rfl rfl rfl rfl rfl rfl rfl ?_; clear hS a; intro a hS
        refine g_no hS rfl rfl rfl rfl rfl rfl rfl ?_; clear hS a; intro a hS
        refine q_seq hS rfl rfl rfl (y_pick_t hS rfl rfl) ?_; clear hS a; intro a hS
        apply wpList_nil
        refine p_norm ?_
        exact ⟨(true), hg, (hS.sub ⟨rfl, rfl, rfl, trivial⟩ trivial trivial)⟩
      · have hs4e : decide ((32 : Nat) < ((s_).length)) = false := decide_eq_false hs4
        replace hg := br_f hg hs4
        replace hg := bind_some hg; obtain ⟨c5, hc5, hg⟩ := hg
        replace hg := bind_some hg; obtain ⟨r6, hr6, hg⟩ := hg
        rcases Bool.eq_false_or_eq_true (r6) with hs9 | hs9
        · replace hg := br_t hg hs9
          apply wp_region_lit
          refine q_seq hS rfl rfl rfl (y_move hS rfl) ?_; clear hS a; intro a hS
          refine q_seq hS rfl rfl rfl (y_lenStrN hS rfl Try.underlying9) ?_; clear hS a; intro a hS
          refine q_seq hS rfl rfl rfl (yl_b (y_lssN (i := ((s_).length)) (j := 1) hS rfl rfl) hs3e) ?_; clear hS a; intro a hS
          refine q_seq hS rfl rfl rfl (y_move hS rfl) ?_; clear hS a; intro a hS
          refine g_yes hS rfl rfl rfl rfl (l_quiet hS rfl rfl (y_move hS rfl) ?_); clear hS a; intro a hS
          refine g_yes hS rfl rfl rfl rfl (l_quiet hS rfl rfl (y_lenStrN hS rfl Try.underlying9) ?_); clear hS a; intro a hS
          refine g_yes hS rfl rfl rfl rfl (l_quiet hS rfl rfl (yl_b (y_gtrN (i := ((s_).length)) (j := 32) hS rfl rfl) hs4e) ?_); clear hS a; intro a hS
          refine q_seq hS rfl rfl rfl (y_pick_f hS rfl rfl) ?_; clear hS a; intro a hS
          refine q_seq hS rfl rfl rfl (y_move hS rfl) ?_; clear hS a; intro a hS
          refine g_yes hS rfl rfl rfl rfl (l_quiet hS rfl rfl (y_move hS rfl) ?_); clear hS a; intro a hS
          refine g_yes hS rfl rfl rfl rfl (l_quiet hS rfl rfl (y_indexN (i := 0) hS rfl rfl Try.underlying9 rfl hc5) ?_); clear hS a; intro a hS
          refine g_yes hS rfl rfl rfl rfl (l_call (cap := []) hS rfl Try.func52 rfl (by kernel_rfl) rfl rfl (c_r01_digit n _ _ hS.lt c5 r6 hr6) ?_); clear hS a; intro v10 a w hK hp hS
          clear hK
          obtain rfl := hp.trans (congrArg Value.bool hs9)
          refine q_seq hS rfl rfl rfl (y_pick_f hS rfl rfl) ?_; clear hS a; intro a hS
          refine q_seq hS rfl rfl rfl (y_move hS rfl) ?_; clear hS a; intro a hS
          refine g_no hS rfl rfl rfl rfl rfl rfl rfl ?_; clear hS a; intro a hS
          refine g_no hS rfl rfl rfl rfl rfl rfl rfl ?_; clear hS a; intro a hS
          refine g_no hS rfl rfl rfl rfl rfl rfl rfl ?_; clear hS a; intro a hS
          refine q_seq hS rfl rfl rfl (y_pick_t hS rfl rfl) ?_; clear hS a; intro a hS
          apply wpList_nil
          refine p_norm ?_
          exact ⟨(true), hg, (hS.sub ⟨rfl, rfl, rfl, trivial⟩ trivial trivial)⟩
        · replace hg := br_f hg (by rw [hs9]; exact Bool.false_ne_true)
          apply wp_region_lit
          refine q_seq hS rfl rfl rfl (y_move hS rfl) ?_; clear hS a; intro a hS
          refine q_seq hS rfl rfl rfl (y_lenStrN hS rfl Try.underlying9) ?_; clear hS a; intro a hS
          refine q_seq hS rfl rfl rfl (yl_b (y_lssN (i := ((s_).length)) (j := 1) hS rfl rfl) hs3e) ?_; clear hS a; intro a hS
          refine q_seq hS rfl rfl rfl (y_move hS rfl) ?_; clear hS a; intro a hS
          refine g_yes hS rfl rfl rfl rfl (l_quiet hS rfl rfl (y_move hS rfl) ?_); clear hS a; intro a hS
          refine g_yes hS rfl rfl rfl rfl (l_quiet hS rfl rfl (y_lenStrN hS rfl Try.underlying9) ?_); clear hS a; intro a hS
          refine g_yes hS rfl rfl rfl rfl (l_quiet hS rfl rfl (yl_b (y_gtrN (i := ((s_).length)) (j := 32) hS rfl rfl) hs4e) ?_); clear hS a; intro a hS
          refine q_seq hS rfl rfl rfl (y_pick_f hS rfl rfl) ?_; clear hS a; intro a hS
          refine q_seq hS rfl rfl rfl (y_move hS rfl) ?_; clear hS a; intro a hS
          refine g_yes hS rfl rfl rfl rfl (l_quiet hS rfl rfl (y_move hS rfl) ?_); clear hS a; intro a hS
          refine g_yes hS rfl rfl rfl rfl (l_quiet hS rfl rfl (y_indexN (i := 0) hS rfl rfl Try.underlying9 rfl hc5) ?_); clear hS a; intro a hS
          refine g_yes hS rfl rfl rfl rfl (l_call (cap := []) hS rfl Try.func52 rfl (by kernel_rfl) rfl rfl (c_r01_digit n _ _ hS.lt c5 r6 hr6) ?_); clear hS a; intro v12 a w hK hp hS
          clear hK
          obtain rfl := hp.trans (congrArg Value.bool hs9)
          refine q_seq hS rfl rfl rfl (y_pick_f hS rfl rfl) ?_; clear hS a; intro a hS
          refine q_seq hS rfl rfl rfl (y_move hS rfl) ?_; clear hS a; intro a hS
          refine g_yes hS rfl rfl rfl rfl (l_quiet hS rfl rfl (y_move hS rfl) ?_); clear hS a; intro a hS
          refine g_yes hS rfl rfl rfl rfl (l_quiet hS rfl rfl (y_indexN (i := 0) hS rfl rfl Try.underlying9 rfl hc5) ?_); clear hS a; intro a hS
          refine g_yes hS rfl rfl rfl rfl (l_quiet hS rfl rfl (y_eqlN (i := c5.toNat) (j := 45) hS rfl rfl) ?_); clear hS a; intro a hS
          refine q_seq hS rfl rfl rfl (y_pick_f hS rfl rfl) ?_; clear hS a; intro a hS
          apply wpList_nil
          refine p_norm ?_
          exact ⟨(decide (c5.toNat = 45)), hg, (hS.sub ⟨rfl, rfl, rfl, trivial⟩ trivial trivial)⟩
  clear hS a; rintro a w ⟨t_2, hg, hS⟩
  subst hk1
  refine c_cond hS rfl (fun hc14 => ?_) (fun hc14 => ?_)
  · replace hg := br_t hg hc14
    apply wp_seq
    apply wp_region_lit
    refine q_seq hS rfl rfl rfl (y_assign hS rfl) ?_; clear hS a; intro a hS
    apply wpList_nil
    refine p_norm ?_
    apply wp_ret
    refine p_thenR ?_
    obtain rfl := Option.some.inj hg
    refine fin1 (fn := Try.f44) hS rfl (r_tmp hS rfl) ?_
    exact rfl
  · replace hg := br_f hg (by rw [hc14]; exact Bool.false_ne_true)
    apply wp_skip
    refine p_norm ?_
    apply wp_seq
    apply wp_seq
    apply wp_region_lit
    refine q_seq hS rfl rfl rfl (y_assign hS rfl) ?_; clear hS a; intro a hS
    apply wpList_nil
    refine p_norm ?_
    apply wp_block
    refine c_loop (σ := Nat) (fun m1 a w => ∃ (i_15 : Nat), r01_named_L0 n s_ big_ m1 i_15 = some r ∧ St (⟨Try.f44.ntmps, M, noB, w0⟩ : Ctx) [(0, .string (bs (s_))), (1, .bool (big_)), (5, .int .i64 (((i_15 : Nat) : Int)))] [] [] a w) (fun m1 => m1) n ⟨(0), hg, (hS.sub ⟨rfl, rfl, rfl, trivial⟩ trivial trivial)⟩ ?_
    clear hS a; rintro m1 a w ⟨i_15, hg, hS⟩
    rcases m1 with _ | m1
    · rw [r01_named_L0] at hg; cases hg
    rw [r01_named_L0] at hg
    apply wp_seq
    apply wp_seq
    apply wp_region_lit
    refine q_seq hS rfl rfl rfl (y_move hS rfl) ?_; clear hS a; intro a hS
    refine q_seq hS rfl rfl rfl (y_move hS rfl) ?_; clear hS a; intro a hS
    refine q_seq hS rfl rfl rfl (y_lenStrN hS rfl Try.underlying9) ?_; clear hS a; intro a hS
    refine q_seq hS rfl rfl rfl (y_lssN (i := i_15) (j := ((s_).length)) hS rfl rfl) ?_; clear hS a; intro a hS
    apply wpList_nil
    refine p_norm ?_
    refine c_dec hS rfl (fun hc16 => ?_) (fun hc16 => ?_)
    · replace hg := br_t hg hc16
      have hmx17 : (s_).length ≤ 9223372036854775807 := (by first | omega | (rw [List.length_append]; omega) | (simp only [List.length_append]; omega) | (simp only [List.length_append, List.length_take, List.length_drop, List.length_cons, List.length_nil]; omega))
      apply wp_skip
      refine p_norm ?_
      apply wp_seq
      apply wp_block
      apply wp_seq
      replace hg := bind_some hg; obtain ⟨c18, hc18, hg⟩ := hg
      replace hg := bind_some hg; obtain ⟨r19, hr19, hg⟩ := hg
      apply wp_region_lit
      refine q_seq hS rfl rfl rfl (y_move hS rfl) ?_; clear hS a; intro a hS
      refine q_seq hS rfl rfl rfl (y_move hS rfl) ?_; clear hS a; intro a hS
      refine q_seq hS rfl rfl rfl (y_indexN (i := i_15) hS rfl rfl Try.underlying9 rfl hc18) ?_; clear hS a; intro a hS
      refine q_seq hS rfl rfl rfl (y_move hS rfl) ?_; clear hS a; intro a hS
      refine l_seq rfl (l_call (cap := []) hS rfl Try.func53 rfl (by kernel_rfl) rfl rfl (c_r01_part n _ _ hS.lt c18 big_ r19 hr19) ?_); clear hS a; intro v22 a w hK hp hS
      clear hK
      obtain rfl := hp
      refine q_seq hS rfl rfl rfl (y_not hS rfl) ?_; clear hS a; intro a hS
      apply wpList_nil
      refine p_norm ?_
      refine c_cond hS rfl (fun hc24 => ?_) (fun hc24 => ?_)
      · replace hg := br_t hg hc24
        apply wp_seq
        apply wp_region_lit
        refine q_seq hS rfl rfl rfl (y_assign hS rfl) ?_; clear hS a; intro a hS
        apply wpList_nil
        refine p_norm ?_
        apply wp_ret
        refine p_inR ?_
        refine p_thenR ?_
        refine p_thenR ?_
        refine p_inR ?_
        refine p_thenR ?_
        obtain rfl := Option.some.inj hg
        refine fin1 (fn := Try.f44) hS rfl (r_tmp hS rfl) ?_
        exact rfl
      · replace hg := br_f hg (by rw [hc24]; exact Bool.false_ne_true)
        apply wp_skip
        refine p_inN ?_
        refine p_norm ?_
        apply wp_region_lit
        refine q_seq hS rfl rfl rfl (y_move hS rfl) ?_; clear hS a; intro a hS
        refine q_seq hS rfl rfl rfl (y_addN (i := i_15) (j := 1) hS rfl rfl (in64.2 (by omega))) ?_; clear hS a; intro a hS
        refine q_seq hS rfl rfl rfl (y_assign hS rfl) ?_; clear hS a; intro a hS
        apply wpList_nil
        refine p_norm ?_
        exact ⟨m1, Nat.lt_succ_self _, ⟨(i_15 + 1), hg, (hS.sub ⟨rfl, rfl, rfl, trivial⟩ trivial trivial)⟩⟩
    · replace hg := br_f hg hc16
      apply wp_exit
      refine p_then ?_
      refine p_then ?_
      refine p_in ?_
      refine p_norm ?_
      apply wp_seq
      apply wp_region_lit
      refine q_seq hS rfl rfl rfl (y_assign hS rfl) ?_; clear hS a; intro a hS
      apply wpList_nil
      refine p_norm ?_
      apply wp_ret
      obtain rfl := Option.some.inj hg
      refine fin1 (fn := Try.f44) hS rfl (r_tmp hS rfl) ?_
      exact rfl
set_option maxHeartbeats 400000 in
theorem c_r01_Name (n : Nat) (M : Bs) (w0 : World) (hM : ∀ b, M b → b < w0.heap.size) (s_ : (List UInt8)) (lp01 : (s_).length ≤ 9223372036854775807) (r : Bool) (hg : r01_Name n s_ = some r) :
    Calls Try.prog 28 [.string (bs (s_))].toArray w0 (Ret noB w0 fun v w => v = .bool (r)) := by
  unfold r01_Name at hg
  refine enter M noB Try.func28 rfl rfl hM ?_
  intro a hS
  apply wp_seq
  apply wp_region_lit
  refine q_seq hS rfl rfl rfl (y_assign hS rfl) ?_; clear hS a; intro a hS
  apply wpList_nil
  refine p_norm ?_
  apply wp_seq
  replace hg := bind_some hg; obtain ⟨r1, hr1, hg⟩ := hg
  apply wp_region_lit
  refine q_seq hS rfl rfl rfl (y_move hS rfl) ?_; clear hS a; intro a hS
  refine l_seq rfl (l_call (cap := []) hS rfl Try.func44 rfl (by kernel_rfl) rfl rfl (c_r01_named n _ _ hS.lt s_ (by first | omega | (rw [List.length_append]; omega) | (simp only [List.length_append]; omega) | (simp only [List.length_append, List.length_take, List.length_drop, List.length_cons, List.length_nil]; omega)) false r1 hr1) ?_); clear hS a; intro v4 a w hK hp hS
  clear hK
  obtain rfl := hp
  refine q_seq hS rfl rfl rfl (y_assign hS rfl) ?_; clear hS a; intro a hS
  apply wpList_nil
  refine p_norm ?_
  apply wp_ret
  obtain rfl := Option.some.inj hg
  refine fin1 (fn := Try.f28) hS rfl (r_tmp hS rfl) ?_
  exact rfl
set_option maxHeartbeats 400000 in
theorem c_r01_Word (n : Nat) (M : Bs) (w0 : World) (hM : ∀ b, M b → b < w0.heap.size) (s_ : (List UInt8)) (lp01 : (s_).length ≤ 9223372036854775807) (r : Bool) (hg : r01_Word n s_ = some r) :
    Calls Try.prog 29 [.string (bs (s_))].toArray w0 (Ret noB w0 fun v w => v = .bool (r)) := by
  unfold r01_Word at hg
  refine enter M noB Try.func29 rfl rfl hM ?_
  intro a hS
  apply wp_seq
  apply wp_region_lit
  refine q_seq hS rfl rfl rfl (y_assign hS rfl) ?_; clear hS a; intro a hS
  apply wpList_nil
  refine p_norm ?_
  apply wp_seq
  apply wp_seq
  replace hg := jn_some hg; obtain ⟨k1, hg, hk1⟩ := hg
  refine c_post (fun a w => ∃ (t_2 : Bool), k1 t_2 = some r ∧ St (⟨Try.f29.ntmps, M, noB, w0⟩ : Ctx) [(0, .string (bs (s_))), (11, .bool (t_2))] [] [] a w) ?_ ?_
  · rcases Decidable.em (((s_).length) < 1) with hs3 | hs3
    · have hs3e : decide (((s_).length) < 1) = true := decide_eq_true hs3
      replace hg := br_t hg hs3
      apply wp_region_lit
      refine q_seq hS rfl rfl rfl (y_move hS rfl) ?_; clear hS a; intro a hS
      refine q_seq hS rfl rfl rfl (y_lenStrN hS rfl Try.underlying9) ?_; clear hS a; intro a hS
      refine q_seq hS rfl rfl rfl (yl_b (y_lssN (i := ((s_).length)) (j := 1) hS rfl rfl) hs3e) ?_; clear hS a; intro a hS
      refine q_seq hS rfl rfl rfl (y_move hS rfl) ?_; clear hS a; intro a hS
      refine g_no hS rfl rfl rfl rfl rfl rfl rfl ?_; clear hS a; intro a hS
      refine g_no hS rfl rfl rfl rfl rfl rfl rfl ?_; clear hS a; intro a hS
      refine g_no hS rfl rfl rfl rfl rfl rfl rfl ?_; clear hS a; intro a hS
      refine q_seq hS rfl rfl rfl (y_pick_t hS rfl rfl) ?_; clear hS a; intro a hS
      apply wpList_nil
      refine p_norm ?_
      exact ⟨(true), hg, (hS.sub ⟨rfl, rfl, trivial⟩ trivial trivial)⟩
    · have hs3e : decide (((s_).length) < 1) = false := decide_eq_false hs3
      replace hg := br_f hg hs3
      apply wp_region_lit
      refine q_seq hS rfl rfl rfl (y_move hS rfl) ?_; clear hS a; intro a hS
      refine q_seq hS rfl rfl rfl (y_lenStrN hS rfl Try.underlying9) ?_; clear hS a; intro a hS
      refine q_seq hS rfl rfl rfl (yl_b (y_lssN (i := ((s_).length)) (j := 1) hS rfl rfl) hs3e) ?_; clear hS a; intro a hS
      refine q_seq hS rfl rfl rfl (y_move hS rfl) ?_; clear hS a; intro a hS
      refine g_yes hS rfl rfl rfl rfl (l_quiet hS rfl rfl (y_move hS rfl) ?_); clear hS a; intro a hS
      refine g_yes hS rfl rfl rfl rfl (l_quiet hS rfl rfl (y_lenStrN hS rfl Try.underlying9) ?_); clear hS a; intro a hS
      refine g_yes hS rfl rfl rfl rfl (l_quiet hS rfl rfl (y_gtrN (i := ((s_).length)) (j := 32) hS rfl rfl) ?_); clear hS a; intro a hS
      refine q_seq hS rfl rfl rfl (y_pick_f hS rfl rfl) ?_; clear hS a; intro a hS
      apply wpList_nil
      refine p_norm ?_
      exact ⟨(decide ((32 : Nat) < ((s_).length))), hg, (hS.sub ⟨rfl, rfl, trivial⟩ trivial trivial)⟩
  clear hS a; rintro a w ⟨t_2, hg, hS⟩
  subst hk1
  refine c_cond hS rfl (fun hc4 => ?_) (fun hc4 => ?_)
  · replace hg := br_t hg hc4
    apply wp_seq
    apply wp_region_lit
    refine q_seq hS rfl rfl rfl (y_assign hS rfl) ?_; clear hS a; intro a hS
    apply wpList_nil
    refine p_norm ?_
    apply wp_ret
    refine p_thenR ?_
    obtain rfl := Option.some.inj hg
    refine fin1 (fn := Try.f29) hS rfl (r_tmp hS rfl) ?_
    exact rfl
  · replace hg := br_f hg (by rw [hc4]; exact Bool.false_ne_true)
    apply wp_skip
    refine p_norm ?_
    apply wp_seq
    apply wp_seq
    apply wp_region_lit
    refine q_seq hS rfl rfl rfl (y_assign hS rfl) ?_; clear hS a; intro a hS
    apply wpList_nil
    refine p_norm ?_
    apply wp_block
    refine c_loop (σ := Nat) (fun m1 a w => ∃ (i_5 : Nat), r01_Word_L0 n s_ m1 i_5 = some r ∧ St (⟨Try.f29.ntmps, M, noB, w0⟩ : Ctx) [(0, .string (bs (s_))), (3, .int .i64 (((i_5 : Nat) : Int)))] [] [] a w) (fun m1 => m1) n ⟨(0), hg, (hS.sub ⟨rfl, rfl, trivial⟩ trivial trivial)⟩ ?_
    clear hS a; rintro m1 a w ⟨i_5, hg, hS⟩
    rcases m1 with _ | m1
    · rw [r01_Word_L0] at hg; cases hg
    rw [r01_Word_L0] at hg
    apply wp_seq
    apply wp_seq
    apply wp_region_lit
    refine q_seq hS rfl rfl rfl (y_move hS rfl) ?_; clear hS a; intro a hS
    refine q_seq hS rfl rfl rfl (y_move hS rfl) ?_; clear hS a; intro a hS
    refine q_seq hS rfl rfl rfl (y_lenStrN hS rfl Try.underlying9) ?_; clear hS a; intro a hS
    refine q_seq hS rfl rfl rfl (y_lssN (i := i_5) (j := ((s_).length)) hS rfl rfl) ?_; clear hS a; intro a hS
    apply wpList_nil
    refine p_norm ?_
    refine c_dec hS rfl (fun hc6 => ?_) (fun hc6 => ?_)
    · replace hg := br_t hg hc6
      have hmx7 : (s_).length ≤ 9223372036854775807 := (by first | omega | (rw [List.length_append]; omega) | (simp only [List.length_append]; omega) | (simp only [List.length_append, List.length_take, List.length_drop, List.length_cons, List.length_nil]; omega))
      apply wp_skip
      refine p_norm ?_
      apply wp_seq
      apply wp_block
      apply wp_seq
      replace hg := jn_some hg; obtain ⟨k8, hg, hk8⟩ := hg
      refine c_post (fun a w => ∃ (t_9 : Bool), k8 t_9 = some r ∧ St (⟨Try.f29.ntmps, M, noB, w0⟩ : Ctx) [(0, .string (bs (s_))), (3, .int .i64 (((i_5 : Nat) : Int))), (45, .bool (t_9))] [] [] a w) ?_ ?_
      · replace hg := bind_some hg; obtain ⟨c10, hc10, hg⟩ := hg
        rcases Decidable.em (c10.toNat < 33) with hs11 | hs11
        · have hs11e : decide (c10.toNat < 33) = true := decide_eq_true hs11
          replace hg := br_t hg hs11
          apply wp_region_lit
          refine q_seq hS rfl rfl rfl (y_move hS rfl) ?_; clear hS a; intro a hS
          refine q_seq hS rfl rfl rfl (y_move hS rfl) ?_; clear hS a; intro a hS
          refine q_seq hS rfl rfl rfl (y_indexN (i := i_5) hS rfl rfl Try.underlying9 rfl hc10) ?_; clear hS a; intro a hS
          refine q_seq hS rfl rfl rfl (yl_b (y_lssN (i := c10.toNat) (j := 33) hS rfl rfl) hs11e) ?_; clear hS a; intro a hS
          refine q_seq hS rfl rfl rfl (y_move hS rfl) ?_; clear hS a; intro a hS
          refine g_no hS rfl rfl rfl rfl rfl rfl rfl ?_; clear hS a; intro a hS
          refine g_no hS rfl rfl rfl rfl rfl rfl rfl ?_; clear hS a; intro a hS
          refine g_no hS rfl rfl rfl rfl rfl rfl rfl ?_; clear hS a; intro a hS
          refine g_no hS rfl rfl rfl rfl rfl rfl rfl ?_; clear hS a; intro a hS
          refine q_seq hS rfl rfl rfl (y_pick_t hS rfl rfl) ?_; clear hS a; intro a hS
          refine q_seq hS rfl rfl rfl (y_move hS rfl) ?_; clear hS a; intro a hS
          refine g_no hS rfl rfl rfl rfl rfl rfl rfl ?_; clear hS a; intro a hS
          refine g_no hS rfl rfl rfl rfl rfl rfl rfl ?_; clear hS a; intro a hS
          refine g_no hS rfl rfl rfl rfl rfl rfl rfl ?_; clear hS a; intro a hS
          refine g_no hS rfl rfl rfl rfl rfl rfl rfl ?_; clear hS a; intro a hS
          refine q_seq hS rfl rfl rfl (y_pick_t hS rfl rfl) ?_; clear hS a; intro a hS
          refine q_seq hS rfl rfl rfl (y_move hS rfl) ?_; clear hS a; intro a hS
          refine g_no hS rfl rfl rfl rfl rfl rfl rfl ?_; clear hS a; intro a hS
          refine g_no hS rfl rfl rfl rfl rfl rfl rfl ?_; clear hS a; intro a hS
          refine g_no hS rfl rfl rfl rfl rfl rfl rfl ?_; clear hS a; intro a hS
          refine g_no hS rfl rfl rfl rfl rfl rfl rfl ?_; clear hS a; intro a hS
          refine q_seq hS rfl rfl rfl (y_pick_t hS rfl rfl) ?_; clear hS a; intro a hS
          refine q_seq hS rfl rfl rfl (y_move hS rfl) ?_; clear hS a; intro a hS
          refine g_no hS rfl rfl rfl rfl rfl rfl rfl ?_; clear hS a; intro a hS
          refine g_no hS rfl rfl rfl rfl rfl rfl rfl ?_; clear hS a; intro a hS
          refine g_no hS rfl rfl rfl rfl rfl rfl rfl ?_; clear hS a; intro a hS
          refine g_no hS rfl rfl rfl rfl rfl rfl rfl ?_; clear hS a; intro a hS
          refine q_seq hS rfl rfl rfl (y_pick_t hS rfl rfl) ?_; clear hS a; intro a hS
          apply wpList_nil
          refine p_norm ?_
          exact ⟨(true), hg, (hS.sub ⟨rfl, rfl, rfl, trivial⟩ trivial trivial)⟩
        · have hs11e : decide (c10.toNat < 33) = false := decide_eq_false hs11
          replace hg := br_f hg hs11
          rcases Decidable.em ((126 : Nat) < c10.toNat) with hs12 | hs12
          · have hs12e : decide ((126 : Nat) < c10.toNat) = true := decide_eq_true hs12
            replace hg := br_t hg hs12
            apply wp_region_lit
            refine q_seq hS rfl rfl rfl (y_move hS rfl) ?_; clear hS a; intro a hS
            refine q_seq hS rfl rfl rfl (y_move hS rfl) ?_; clear hS a; intro a hS
            refine q_seq hS rfl rfl rfl (y_indexN (i := i_5) hS rfl rfl Try.underlying9 rfl hc10) ?_; clear hS a; intro a hS
            refine q_seq hS rfl rfl rfl (yl_b (y_lssN (i := c10.toNat) (j := 33) hS rfl rfl) hs11e) ?_; clear hS a; intro a hS
            refine q_seq hS rfl rfl rfl (y_move hS rfl) ?_; clear hS a; intro a hS
            refine g_yes hS rfl rfl rfl rfl (l_quiet hS rfl rfl (y_move hS rfl) ?_); clear hS a; intro a hS
            refine g_yes hS rfl rfl rfl rfl (l_quiet hS rfl rfl (y_move hS rfl) ?_); clear hS a; intro a hS
            refine g_yes hS rfl rfl rfl rfl (l_quiet hS rfl rfl (y_indexN (i := i_5) hS rfl rfl Try.underlying9 rfl hc10) ?_); clear hS a; intro a hS
            refine g_yes hS rfl rfl rfl rfl (l_quiet hS rfl rfl (yl_b (y_gtrN (i := c10.toNat) (j := 126) hS rfl rfl) hs12e) ?_); clear hS a; intro a hS
            refine q_seq hS rfl rfl rfl (y_pick_f hS rfl rfl) ?_; clear hS a; intro a hS
            refine q_seq hS rfl rfl rfl (y_move hS rfl) ?_; clear hS a; intro a hS
            refine g_no hS rfl rfl rfl rfl rfl rfl rfl ?_; clear hS a; intro a hS
            refine g_no hS rfl rfl rfl rfl rfl rfl rfl ?_; clear hS a; intro a hS
            refine g_no hS rfl rfl rfl rfl rfl rfl rfl ?_; clear hS a; intro a hS
            refine g_no hS rfl rfl rfl rfl rfl rfl rfl ?_; clear hS a; intro a hS
            refine q_seq hS rfl rfl rfl (y_pick_t hS rfl rfl) ?_; clear hS a; intro a hS
            refine q_seq hS rfl rfl rfl (y_move hS rfl) ?_; clear hS a; intro a hS
            refine g_no hS rfl rfl rfl rfl rfl rfl rfl ?_; clear hS a; intro a hS
            refine g_no hS rfl rfl rfl rfl rfl rfl rfl ?_; clear hS a; intro a hS
            refine g_no hS rfl rfl rfl rfl rfl rfl rfl ?_; clear hS a; intro a hS
            refine g_no hS rfl rfl rfl rfl rfl rfl rfl ?_; clear hS a; intro a hS
            refine q_seq hS rfl rfl rfl (y_pick_t hS rfl rfl) ?_; clear hS a; intro a hS
            refine q_seq hS rfl rfl rfl (y_move hS rfl) ?_; clear hS a; intro a hS
            refine g_no hS rfl rfl rfl rfl rfl rfl rfl ?_; clear hS a; intro a hS
            refine g_no hS rfl rfl rfl rfl rfl rfl rfl ?_; clear hS a; intro a hS
            refine g_no hS rfl rfl rfl rfl rfl rfl rfl ?_; clear hS a; intro a hS
            refine g_no hS rfl rfl rfl rfl rfl rfl rfl ?_; clear hS a; intro a hS
            refine q_seq hS rfl rfl rfl (y_pick_t hS rfl rfl) ?_; clear hS a; intro a hS
            apply wpList_nil
            refine p_norm ?_
            exact ⟨(true), hg, (hS.sub ⟨rfl, rfl, rfl, trivial⟩ trivial trivial)⟩
          · have hs12e : decide ((126 : Nat) < c10.toNat) = false := decide_eq_false hs12
            replace hg := br_f hg hs12
            replace hg := bind_some hg; obtain ⟨r13, hr13, hg⟩ := hg
            rcases Bool.eq_false_or_eq_true (r13) with hs16 | hs16
            · replace hg := br_t hg hs16
              apply wp_region_lit
              refine q_seq hS rfl rfl rfl (y_move hS rfl) ?_; clear hS a; intro a hS
              refine q_seq hS rfl rfl rfl (y_move hS rfl) ?_; clear hS a; intro a hS
              refine q_seq hS rfl rfl rfl (y_indexN (i := i_5) hS rfl rfl Try.underlying9 rfl hc10) ?_; clear hS a; intro a hS
              refine q_seq hS rfl rfl rfl (yl_b (y_lssN (i := c10.toNat) (j := 33) hS rfl rfl) hs11e) ?_; clear hS a; intro a hS
              refine q_seq hS rfl rfl rfl (y_move hS rfl) ?_; clear hS a; intro a hS
              refine g_yes hS rfl rfl rfl rfl (l_quiet hS rfl rfl (y_move hS rfl) ?_); clear hS a; intro a hS
              refine g_yes hS rfl rfl rfl rfl (l_quiet hS rfl rfl (y_move hS rfl) ?_); clear hS a; intro a hS
              refine g_yes hS rfl rfl rfl rfl (l_quiet hS rfl rfl (y_indexN (i := i_5) hS rfl rfl Try.underlying9 rfl hc10) ?_); clear hS a; intro a hS
              refine g_yes hS rfl rfl rfl rfl (l_quiet hS rfl rfl (yl_b (y_gtrN (i := c10.toNat) (j := 126) hS rfl rfl) hs12e) ?_); clear hS a; intro a hS
              refine q_seq hS rfl rfl rfl (y_pick_f hS rfl rfl) ?_; clear hS a; intro a hS
              refine q_seq hS rfl rfl rfl (y_move hS rfl) ?_; clear hS a; intro a hS
              refine g_yes hS rfl rfl rfl rfl (l_quiet hS rfl rfl (y_move hS rfl) ?_); clear hS a; intro a hS
              refine g_yes hS rfl rfl rfl rfl (l_quiet hS rfl rfl (y_move hS rfl) ?_); clear hS a; intro a hS
              refine g_yes hS rfl rfl rfl rfl (l_quiet hS rfl rfl (y_indexN (i := i_5) hS rfl rfl Try.underlying9 rfl hc10) ?_); clear hS a; intro a hS
              refine g_yes hS rfl rfl rfl rfl (l_call (cap := []) hS rfl Try.func45 rfl (by kernel_rfl) rfl rfl (c_r01_upper n _ _ hS.lt c10 r13 hr13) ?_); clear hS a; intro v17 a w hK hp hS
              clear hK
              obtain rfl := hp.trans (congrArg Value.bool hs16)
              refine q_seq hS rfl rfl rfl (y_pick_f hS rfl rfl) ?_; clear hS a; intro a hS
              refine q_seq hS rfl rfl rfl (y_move hS rfl) ?_; clear hS a; intro a hS
              refine g_no hS rfl rfl rfl rfl rfl rfl rfl ?_; clear hS a; intro a hS
              refine g_no hS rfl rfl rfl rfl rfl rfl rfl ?_; clear hS a; intro a hS
              refine g_no hS rfl rfl rfl rfl rfl rfl rfl ?_; clear hS a; intro a hS
              refine g_no hS rfl rfl rfl rfl rfl rfl rfl ?_; clear hS a; intro a hS
              refine q_seq hS rfl rfl rfl (y_pick_t hS rfl rfl) ?_; clear hS a; intro a hS
              refine q_seq hS rfl rfl rfl (y_move hS rfl) ?_; clear hS a; intro a hS
              refine g_no hS rfl rfl rfl rfl rfl rfl rfl ?_; clear hS a; intro a hS
              refine g_no hS rfl rfl rfl rfl rfl rfl rfl ?_; clear hS a; intro a hS
              refine g_no hS rfl rfl rfl rfl rfl rfl rfl ?_; clear hS a; intro a hS
              refine g_no hS rfl rfl rfl rfl rfl rfl rfl ?_; clear hS a; intro a hS
              refine q_seq hS rfl rfl rfl (y_pick_t hS rfl rfl) ?_; clear hS a; intro a hS
              apply wpList_nil
              refine p_norm ?_
              exact ⟨(true), hg, (hS.sub ⟨rfl, rfl, rfl, trivial⟩ trivial trivial)⟩
            · replace hg := br_f hg (by rw [hs16]; exact Bool.false_ne_true)
              rcases Decidable.em (c10.toNat = 34) with hs19 | hs19
              · have hs19e : decide (c10.toNat = 34) = true := decide_eq_true hs19
                replace hg := br_t hg hs19
                apply wp_region_lit
                refine q_seq hS rfl rfl rfl (y_move hS rfl) ?_; clear hS a; intro a hS
                refine q_seq hS rfl rfl rfl (y_move hS rfl) ?_; clear hS a; intro a hS
                refine q_seq hS rfl rfl rfl (y_indexN (i := i_5) hS rfl rfl Try.underlying9 rfl hc10) ?_; clear hS a; intro a hS
                refine q_seq hS rfl rfl rfl (yl_b (y_lssN (i := c10.toNat) (j := 33) hS rfl rfl) hs11e) ?_; clear hS a; intro a hS
                refine q_seq hS rfl rfl rfl (y_move hS rfl) ?_; clear hS a; intro a hS
                refine g_yes hS rfl rfl rfl rfl (l_quiet hS rfl rfl (y_move hS rfl) ?_); clear hS a; intro a hS
                refine g_yes hS rfl rfl rfl rfl (l_quiet hS rfl rfl (y_move hS rfl) ?_); clear hS a; intro a hS
                refine g_yes hS rfl rfl rfl rfl (l_quiet hS rfl rfl (y_indexN (i := i_5) hS rfl rfl Try.underlying9 rfl hc10) ?_); clear hS a; intro a hS
                refine g_yes hS rfl rfl rfl rfl (l_quiet hS rfl rfl (yl_b (y_gtrN (i := c10.toNat) (j := 126) hS rfl rfl) hs12e) ?_); clear hS a; intro a hS
                refine q_seq hS rfl rfl rfl (y_pick_f hS rfl rfl) ?_; clear hS a; intro a hS
                refine q_seq hS rfl rfl rfl (y_move hS rfl) ?_; clear hS a; intro a hS
                refine g_yes hS rfl rfl rfl rfl (l_quiet hS rfl rfl (y_move hS rfl) ?_); clear hS a; intro a hS
                refine g_yes hS rfl rfl rfl rfl (l_quiet hS rfl rfl (y_move hS rfl) ?_); clear hS a; intro a hS
                refine g_yes hS rfl rfl rfl rfl (l_quiet hS rfl rfl (y_indexN (i := i_5) hS rfl rfl Try.underlying9 rfl hc10) ?_); clear hS a; intro a hS
                refine g_yes hS rfl rfl rfl rfl (l_call (cap := []) hS rfl Try.func45 rfl (by kernel_rfl) rfl rfl (c_r01_upper n _ _ hS.lt c10 r13 hr13) ?_); clear hS a; intro v20 a w hK hp hS
                clear hK
                obtain rfl := hp.trans (congrArg Value.bool hs16)
                refine q_seq hS rfl rfl rfl (y_pick_f hS rfl rfl) ?_; clear hS a; intro a hS
                refine q_seq hS rfl rfl rfl (y_move hS rfl) ?_; clear hS a; intro a hS
                refine g_yes hS rfl rfl rfl rfl (l_quiet hS rfl rfl (y_move hS rfl) ?_); clear hS a; intro a hS
                refine g_yes hS rfl rfl rfl rfl (l_quiet hS rfl rfl (y_move hS rfl) ?_); clear hS a; intro a hS
                refine g_yes hS rfl rfl rfl rfl (l_quiet hS rfl rfl (y_indexN (i := i_5) hS rfl rfl Try.underlying9 rfl hc10) ?_); clear hS a; intro a hS
                refine g_yes hS rfl rfl rfl rfl (l_quiet hS rfl rfl (yl_b (y_eqlN (i := c10.toNat) (j := 34) hS rfl rfl) hs19e) ?_); clear hS a; intro a hS
                refine q_seq hS rfl rfl rfl (y_pick_f hS rfl rfl) ?_; clear hS a; intro a hS
                refine q_seq hS rfl rfl rfl (y_move hS rfl) ?_; clear hS a; intro a hS
                refine g_no hS rfl rfl rfl rfl rfl rfl rfl ?_; clear hS a; intro a hS
                refine g_no hS rfl rfl rfl rfl rfl rfl rfl ?_; clear hS a; intro a hS
                refine g_no hS rfl rfl rfl rfl rfl rfl rfl ?_; clear hS a; intro a hS
                refine g_no hS rfl rfl rfl rfl rfl rfl rfl ?_; clear hS a; intro a hS
                refine q_seq hS rfl rfl rfl (y_pick_t hS rfl rfl) ?_; clear hS a; intro a hS
                apply wpList_nil
                refine p_norm ?_
                exact ⟨(true), hg, (hS.sub ⟨rfl, rfl, rfl, trivial⟩ trivial trivial)⟩
              · have hs19e : decide (c10.toNat = 34) = false := decide_eq_false hs19
                replace hg := br_f hg hs19
                apply wp_region_lit
                refine q_seq hS rfl rfl rfl (y_move hS rfl) ?_; clear hS a; intro a hS
                refine q_seq hS rfl rfl rfl (y_move hS rfl) ?_; clear hS a; intro a hS
                refine q_seq hS rfl rfl rfl (y_indexN (i := i_5) hS rfl rfl Try.underlying9 rfl hc10) ?_; clear hS a; intro a hS
                refine q_seq hS rfl rfl rfl (yl_b (y_lssN (i := c10.toNat) (j := 33) hS rfl rfl) hs11e) ?_; clear hS a; intro a hS
                refine q_seq hS rfl rfl rfl (y_move hS rfl) ?_; clear hS a; intro a hS
                refine g_yes hS rfl rfl rfl rfl (l_quiet hS rfl rfl (y_move hS rfl) ?_); clear hS a; intro a hS
                refine g_yes hS rfl rfl rfl rfl (l_quiet hS rfl rfl (y_move hS rfl) ?_); clear hS a; intro a hS
                refine g_yes hS rfl rfl rfl rfl (l_quiet hS rfl rfl (y_indexN (i := i_5) hS rfl rfl Try.underlying9 rfl hc10) ?_); clear hS a; intro a hS
                refine g_yes hS rfl rfl rfl rfl (l_quiet hS rfl rfl (yl_b (y_gtrN (i := c10.toNat) (j := 126) hS rfl rfl) hs12e) ?_); clear hS a; intro a hS
                refine q_seq hS rfl rfl rfl (y_pick_f hS rfl rfl) ?_; clear hS a; intro a hS
                refine q_seq hS rfl rfl rfl (y_move hS rfl) ?_; clear hS a; intro a hS
                refine g_yes hS rfl rfl rfl rfl (l_quiet hS rfl rfl (y_move hS rfl) ?_); clear hS a; intro a hS
                refine g_yes hS rfl rfl rfl rfl (l_quiet hS rfl rfl (y_move hS rfl) ?_); clear hS a; intro a hS
                refine g_yes hS rfl rfl rfl rfl (l_quiet hS rfl rfl (y_indexN (i := i_5) hS rfl rfl Try.underlying9 rfl hc10) ?_); clear hS a; intro a hS
                refine g_yes hS rfl rfl rfl rfl (l_call (cap := []) hS rfl Try.func45 rfl (by kernel_rfl) rfl rfl (c_r01_upper n _ _ hS.lt c10 r13 hr13) ?_); clear hS a; intro v22 a w hK hp hS
                clear hK
                obtain rfl := hp.trans (congrArg Value.bool hs16)
                refine q_seq hS rfl rfl rfl (y_pick_f hS rfl rfl) ?_; clear hS a; intro a hS
                refine q_seq hS rfl rfl rfl (y_move hS rfl) ?_; clear hS a; intro a hS
                refine g_yes hS rfl rfl rfl rfl (l_quiet hS rfl rfl (y_move hS rfl) ?_); clear hS a; intro a hS
                refine g_yes hS rfl rfl rfl rfl (l_quiet hS rfl rfl (y_move hS rfl) ?_); clear hS a; intro a hS
                refine g_yes hS rfl rfl rfl rfl (l_quiet hS rfl rfl (y_indexN (i := i_5) hS rfl rfl Try.underlying9 rfl hc10) ?_); clear hS a; intro a hS
                refine g_yes hS rfl rfl rfl rfl (l_quiet hS rfl rfl (yl_b (y_eqlN (i := c10.toNat) (j := 34) hS rfl rfl) hs19e) ?_); clear hS a; intro a hS
                refine q_seq hS rfl rfl rfl (y_pick_f hS rfl rfl) ?_; clear hS a; intro a hS
                refine q_seq hS rfl rfl rfl (y_move hS rfl) ?_; clear hS a; intro a hS
                refine g_yes hS rfl rfl rfl rfl (l_quiet hS rfl rfl (y_move hS rfl) ?_); clear hS a; intro a hS
                refine g_yes hS rfl rfl rfl rfl (l_quiet hS rfl rfl (y_move hS rfl) ?_); clear hS a; intro a hS
                refine g_yes hS rfl rfl rfl rfl (l_quiet hS rfl rfl (y_indexN (i := i_5) hS rfl rfl Try.underlying9 rfl hc10) ?_); clear hS a; intro a hS
                refine g_yes hS rfl rfl rfl rfl (l_quiet hS rfl rfl (y_eqlN (i := c10.toNat) (j := 92) hS rfl rfl) ?_); clear hS a; intro a hS
                refine q_seq hS rfl rfl rfl (y_pick_f hS rfl rfl) ?_; clear hS a; intro a hS
                apply wpList_nil
                refine p_norm ?_
                exact ⟨(decide (c10.toNat = 92)), hg, (hS.sub ⟨rfl, rfl, rfl, trivial⟩ trivial trivial)⟩
      clear hS a; rintro a w ⟨t_9, hg, hS⟩
      subst hk8
      refine c_cond hS rfl (fun hc24 => ?_) (fun hc24 => ?_)
      · replace hg := br_t hg hc24
        apply wp_seq
        apply wp_region_lit
        refine q_seq hS rfl rfl rfl (y_assign hS rfl) ?_; clear hS a; intro a hS
        apply wpList_nil
        refine p_norm ?_
        apply wp_ret
        refine p_inR ?_
        refine p_thenR ?_
        refine p_thenR ?_
        refine p_inR ?_
        refine p_thenR ?_
        obtain rfl := Option.some.inj hg
        refine fin1 (fn := Try.f29) hS rfl (r_tmp hS rfl) ?_
        exact rfl
      · replace hg := br_f hg (by rw [hc24]; exact Bool.false_ne_true)
        apply wp_skip
        refine p_inN ?_
        refine p_norm ?_
        apply wp_region_lit
        refine q_seq hS rfl rfl rfl (y_move hS rfl) ?_; clear hS a; intro a hS
        refine q_seq hS rfl rfl rfl (y_addN (i := i_5) (j := 1) hS rfl rfl (in64.2 (by omega))) ?_; clear hS a; intro a hS
        refine q_seq hS rfl rfl rfl (y_assign hS rfl) ?_; clear hS a; intro a hS
        apply wpList_nil
        refine p_norm ?_
        exact ⟨m1, Nat.lt_succ_self _, ⟨(i_5 + 1), hg, (hS.sub ⟨rfl, rfl, trivial⟩ trivial trivial)⟩⟩
    · replace hg := br_f hg hc6
      apply wp_exit
      refine p_then ?_
      refine p_then ?_
      refine p_in ?_
      refine p_norm ?_
      apply wp_seq
      apply wp_region_lit
      refine q_seq hS rfl rfl rfl (y_assign hS rfl) ?_; clear hS a; intro a hS
      apply wpList_nil
      refine p_norm ?_
      apply wp_ret
      obtain rfl := Option.some.inj hg
      refine fin1 (fn := Try.f29) hS rfl (r_tmp hS rfl) ?_
      exact rfl
set_option maxHeartbeats 400000 in
theorem c_r24_Check (n : Nat) (M : Bs) (w0 : World) (hM : ∀ b, M b → b < w0.heap.size) (t_ : (List Entry)) (Ap01 : Option Addr) (cp01 : Nat) (hp01 : SlR REntry M w0 Ap01 (t_).length cp01 (t_)) (r : Int) (hg : r24_Check n t_ = some r) :
    Calls Try.prog 13 [.slice (Ap01) ((t_).length) (cp01)].toArray w0 (Ret noB w0 fun v w => v = .int .i64 (r)) := by
  unfold r24_Check at hg
  refine enter M noB Try.func13 rfl rfl hM ?_
  intro a hS
  replace hS := hS.add 101 (slF REntry (Ap01) ((t_).length) (cp01) (t_)) (by exact Fact.change _ enterM hp01)
  apply wp_seq
  apply wp_region_lit
  refine q_seq hS rfl rfl rfl (y_assign hS rfl) ?_; clear hS a; intro a hS
  apply wpList_nil
  refine p_norm ?_
  apply wp_seq
  apply wp_seq
  apply wp_region_lit
  refine q_seq hS rfl rfl rfl (y_move hS rfl) ?_; clear hS a; intro a hS
  refine q_seq hS rfl rfl rfl (y_lenSlice hS rfl Try.underlying22) ?_; clear hS a; intro a hS
  refine q_seq hS rfl rfl rfl (y_gtrN (i := ((t_).length)) (j := 256) hS rfl rfl) ?_; clear hS a; intro a hS
  apply wpList_nil
  refine p_norm ?_
  refine c_dec hS rfl (fun hc1 => ?_) (fun hc1 => ?_)
  · replace hg := br_t hg hc1
    have hmx2 := SlR.mx (hS.fact (k := 101) rfl)
    apply wp_seq
    apply wp_region_lit
    refine q_seq hS rfl rfl rfl (y_assign hS rfl) ?_; clear hS a; intro a hS
    apply wpList_nil
    refine p_norm ?_
    apply wp_ret
    refine p_thenR ?_
    obtain rfl := Option.some.inj hg
    refine fin1 (fn := Try.f13) hS rfl (r_tmp hS rfl) ?_
    exact rfl
  · replace hg := br_f hg hc1
    apply wp_skip
    refine p_norm ?_
    apply wp_seq
    apply wp_seq
    apply wp_region_lit
    refine q_seq hS rfl rfl rfl (y_assign hS rfl) ?_; clear hS a; intro a hS
    apply wpList_nil
    refine p_norm ?_
    apply wp_block
    refine c_loop (σ := Nat) (fun m1 a w => ∃ (t_3 : Nat), r24_Check_L0 n t_ m1 t_3 = some r ∧ St (⟨Try.f13.ntmps, M, noB, w0⟩ : Ctx) [(0, .slice (Ap01) ((t_).length) (cp01)), (3, .int .i64 (((t_3 : Nat) : Int)))] [] [(101, slF REntry (Ap01) ((t_).length) (cp01) (t_))] a w) (fun m1 => m1) n ⟨(0), hg, (hS.sub ⟨rfl, rfl, trivial⟩ trivial ⟨rfl, trivial⟩)⟩ ?_
    clear hS a; rintro m1 a w ⟨t_3, hg, hS⟩
    rcases m1 with _ | m1
    · rw [r24_Check_L0] at hg; cases hg
    rw [r24_Check_L0] at hg
    apply wp_seq
    apply wp_seq
    apply wp_region_lit
    refine q_seq hS rfl rfl rfl (y_move hS rfl) ?_; clear hS a; intro a hS
    refine q_seq hS rfl rfl rfl (y_move hS rfl) ?_; clear hS a; intro a hS
    refine q_seq hS rfl rfl rfl (y_lenSlice hS rfl Try.underlying22) ?_; clear hS a; intro a hS
    refine q_seq hS rfl rfl rfl (y_lssN (i := t_3) (j := ((t_).length)) hS rfl rfl) ?_; clear hS a; intro a hS
    apply wpList_nil
    refine p_norm ?_
    refine c_dec hS rfl (fun hc4 => ?_) (fun hc4 => ?_)
    · replace hg := br_t hg hc4
      have hmx5 := SlR.mx (hS.fact (k := 101) rfl)
      apply wp_skip
      refine p_norm ?_
      apply wp_seq
      replace hg := jn_some hg; obtain ⟨k6, hg, hk6⟩ := hg
      refine c_post (fun a w => k6 = some r ∧ St (⟨Try.f13.ntmps, M, noB, w0⟩ : Ctx) [(0, .slice (Ap01) ((t_).length) (cp01)), (3, .int .i64 (((t_3 : Nat) : Int)))] [] [(101, slF REntry (Ap01) ((t_).length) (cp01) (t_))] a w) ?_ ?_
      · apply wp_block
        apply wp_seq
        apply wp_seq
        replace hg := bind_some hg; obtain ⟨x8, hx8, hg⟩ := hg
        replace hg := bind_some hg; obtain ⟨r10, hr10, hg⟩ := hg
        apply wp_region_lit
        refine q_seq hS rfl rfl rfl (y_move hS rfl) ?_; clear hS a; intro a hS
        refine q_seq hS rfl rfl rfl (y_move hS rfl) ?_; clear hS a; intro a hS
        obtain ⟨p13, hep13, hpp13⟩ := SlR.elemX (hS.fact (k := 101) rfl) hx8
        refine q_seq hS rfl rfl rfl (y_elem (sz := 3) (i := t_3) hS rfl rfl Try.underlying22 rfl hep13 rfl (lt_of_get hx8)) ?_; clear hS a; intro a hS
        refine q_seq hS rfl rfl rfl (y_ptrField (o' := 0) hS rfl Try.underlying47 rfl rfl rfl) ?_; clear hS a; intro a hS
        obtain ⟨hlq14, hmq14, csq14, hdq14, hcq14⟩ := hpp13
        obtain ⟨Aq142, cq142, Aq143, cq143, rfl, lq141, hq142, hq143⟩ := REntry.open hdq14
        replace hS := hS.add 104 (slF Rep.str (Aq142) ((x8.Words).length) (cq142) (x8.Words)) hq142
        replace hS := hS.add 105 (slF RNode (Aq143) ((x8.FS.Nodes).length) (cq143) (x8.FS.Nodes)) hq143
        refine q_seq hS rfl rfl rfl (y_ldp1 hS rfl hlq14 hmq14 (hcq14 0 _ rfl) Try.underlying9 rfl) ?_; clear hS a; intro a hS
        refine l_seq rfl (l_call (cap := []) hS rfl Try.func28 rfl (by kernel_rfl) rfl rfl (c_r01_Name n _ _ hS.lt x8.Name (by first | omega | (rw [List.length_append]; omega) | (simp only [List.length_append]; omega) | (simp only [List.length_append, List.length_take, List.length_drop, List.length_cons, List.length_nil]; omega)) r10 hr10) ?_); clear hS a; intro v15 a w hK hp hS
        clear hK
        obtain rfl := hp
        refine q_seq hS rfl rfl rfl (y_not hS rfl) ?_; clear hS a; intro a hS
        apply wpList_nil
        refine p_norm ?_
        refine c_cond hS rfl (fun hc17 => ?_) (fun hc17 => ?_)
        · replace hg := br_t hg hc17
          apply wp_seq
          apply wp_region_lit
          refine q_seq hS rfl rfl rfl (y_assign hS rfl) ?_; clear hS a; intro a hS
          apply wpList_nil
          refine p_norm ?_
          apply wp_ret
          refine p_thenR ?_
          refine p_inR ?_
          refine p_thenR ?_
          refine p_thenR ?_
          refine p_inR ?_
          refine p_thenR ?_
          obtain rfl := Option.some.inj hg
          refine fin1 (fn := Try.f13) hS rfl (r_tmp hS rfl) ?_
          exact rfl
        · replace hg := br_f hg (by rw [hc17]; exact Bool.false_ne_true)
          apply wp_skip
          refine p_norm ?_
          apply wp_seq
          apply wp_seq
          replace hg := jn_some hg; obtain ⟨k18, hg, hk18⟩ := hg
          refine c_post (fun a w => ∃ (t_19 : Bool), k18 t_19 = some r ∧ St (⟨Try.f13.ntmps, M, noB, w0⟩ : Ctx) [(0, .slice (Ap01) ((t_).length) (cp01)), (3, .int .i64 (((t_3 : Nat) : Int))), (36, .bool (t_19))] [] [(101, slF REntry (Ap01) ((t_).length) (cp01) (t_))] a w) ?_ ?_
          · rcases Decidable.em ((0 : Nat) < t_3) with hs20 | hs20
            · have hs20e : decide ((0 : Nat) < t_3) = true := decide_eq_true hs20
              replace hg := br_t hg hs20
              replace hg := bind_some hg; obtain ⟨x24, hx24, hg⟩ := hg
              refine d_plan hS [] [(0, some 0), (1, some 0), (2, some 0), (3, some 0), (4, some 0), (5, some 0), (6, some 0), (7, some 0), (8, some 0), (9, some 0), (10, some 0), (11, some 0), (12, some 0), (13, some 0), (14, some 0), (15, some 0)] rfl (by kernel_rfl) (by kernel_rfl) rfl ?_; clear hS; intro wr hZ hS; have hR := hS.wd
              refine q_take hS hR rfl rfl rfl rfl (y_move hS rfl) ?_; clear hS a; intro a hS
              refine q_take hS hR rfl rfl rfl rfl (yl_b (y_gtrN (i := t_3) (j := 0) hS rfl rfl) hs20e) ?_; clear hS a; intro a hS
              refine q_take hS hR rfl rfl rfl rfl (y_move hS rfl) ?_; clear hS a; intro a hS
              refine q_take hS hR rfl rfl ⟨_, _, _, rfl, rfl, rfl, rfl⟩ rfl (y_move hS rfl) ?_; clear hS a; intro a hS
              refine q_take hS hR rfl rfl ⟨_, _, _, rfl, rfl, rfl, rfl⟩ rfl (y_move hS rfl) ?_; clear hS a; intro a hS
              obtain ⟨p26, hep26, hpp26⟩ := SlR.elemX (hS.fact (k := 101) rfl) hx8
              refine q_take hS hR rfl rfl ⟨_, _, _, rfl, rfl, rfl, rfl⟩ rfl (y_elem (sz := 3) (i := t_3) hS rfl rfl Try.underlying22 rfl hep26 rfl (lt_of_get hx8)) ?_; clear hS a; intro a hS
              refine q_take hS hR rfl rfl ⟨_, _, _, rfl, rfl, rfl, rfl⟩ rfl (y_ptrField (o' := 0) hS rfl Try.underlying47 rfl rfl rfl) ?_; clear hS a; intro a hS
              obtain ⟨hlq27, hmq27, csq27, hdq27, hcq27⟩ := hpp26
              obtain ⟨Aq272, cq272, Aq273, cq273, rfl, lq271, hq272, hq273⟩ := REntry.open hdq27
              replace hS := hS.add 110 (slF Rep.str (Aq272) ((x8.Words).length) (cq272) (x8.Words)) hq272
              replace hS := hS.add 111 (slF RNode (Aq273) ((x8.FS.Nodes).length) (cq273) (x8.FS.Nodes)) hq273
              refine q_take hS hR rfl rfl ⟨_, _, _, rfl, rfl, rfl, rfl⟩ rfl (y_ldp1 hS rfl hlq27 hmq27 (hcq27 0 _ rfl) Try.underlying9 rfl) ?_; clear hS a; intro a hS
              refine q_take hS hR rfl rfl ⟨_, _, _, rfl, rfl, rfl, rfl⟩ rfl (y_move hS rfl) ?_; clear hS a; intro a hS
              refine q_take hS hR rfl rfl ⟨_, _, _, rfl, rfl, rfl, rfl⟩ rfl (y_move hS rfl) ?_; clear hS a; intro a hS
              refine q_take hS hR rfl rfl ⟨_, _, _, rfl, rfl, rfl, rfl⟩ rfl (y_sub hS rfl rfl (in64.2 (by omega))) ?_; clear hS a; intro a hS
              obtain ⟨p28, hep28, hpp28⟩ := SlR.elemX (hS.fact (k := 101) rfl) (ix_some hx24).1
              refine q_take hS hR rfl rfl ⟨_, _, _, rfl, rfl, rfl, rfl⟩ rfl (y_elem (sz := 3) (i := ((((t_3 : Nat) : Int) - 1).toNat)) hS rfl rfl Try.underlying22 rfl hep28 (ix_some hx24).2.1 (lt_of_get (ix_some hx24).1)) ?_; clear hS a; intro a hS
              refine q_take hS hR rfl rfl ⟨_, _, _, rfl, rfl, rfl, rfl⟩ rfl (y_ptrField (o' := 0) hS rfl Try.underlying47 rfl rfl rfl) ?_; clear hS a; intro a hS
              obtain ⟨hlq29, hmq29, csq29, hdq29, hcq29⟩ := hpp28
              obtain ⟨Aq292, cq292, Aq293, cq293, rfl, lq291, hq292, hq293⟩ := REntry.open hdq29
              replace hS := hS.add 112 (slF Rep.str (Aq292) ((x24.Words).length) (cq292) (x24.Words)) hq292
              replace hS := hS.add 113 (slF RNode (Aq293) ((x24.FS.Nodes).length) (cq293) (x24.FS.Nodes)) hq293
              refine q_take hS hR rfl rfl ⟨_, _, _, rfl, rfl, rfl, rfl⟩ rfl (y_ldp1 hS rfl hlq29 hmq29 (hcq29 0 _ rfl) Try.underlying9 rfl) ?_; clear hS a; intro a hS
              refine q_take hS hR rfl rfl ⟨_, _, _, rfl, rfl, rfl, rfl⟩ rfl (y_sleq hS rfl rfl) ?_; clear hS a; intro a hS
              refine q_take hS hR rfl rfl rfl rfl (y_pick_t hS rfl rfl) ?_; clear hS a; intro a hS
              clear hR hZ
              refine p_norm ?_
              exact ⟨((Op.bytesLess x8.Name x24.Name) || (x8.Name == x24.Name)), hg, (hS.sub ⟨rfl, rfl, rfl, trivial⟩ trivial ⟨rfl, trivial⟩)⟩
            · have hs20e : decide ((0 : Nat) < t_3) = false := decide_eq_false hs20
              replace hg := br_f hg hs20
              refine d_plan hS [] [(0, some 0), (1, some 0), (2, some 0), (3, some 0), (4, some 0), (5, some 0), (6, some 0), (7, some 0), (8, some 0), (9, some 0), (10, some 0), (11, some 0), (12, some 0), (13, some 0), (14, some 0), (15, some 0)] rfl (by kernel_rfl) (by kernel_rfl) rfl ?_; clear hS; intro wr hZ hS; have hR := hS.wd
              refine q_take hS hR rfl rfl rfl rfl (y_move hS rfl) ?_; clear hS a; intro a hS
              refine q_take hS hR rfl rfl rfl rfl (yl_b (y_gtrN (i := t_3) (j := 0) hS rfl rfl) hs20e) ?_; clear hS a; intro a hS
              refine q_take hS hR rfl rfl rfl rfl (y_move hS rfl) ?_; clear hS a; intro a hS
              refine q_pass hS hR rfl rfl ⟨_, _, _, rfl, rfl, rfl, rfl⟩ rfl ?_; clear hS a; intro a hS
              refine q_pass hS hR rfl rfl ⟨_, _, _, rfl, rfl, rfl, rfl⟩ rfl ?_; clear hS a; intro a hS
              refine q_pass hS hR rfl rfl ⟨_, _, _, rfl, rfl, rfl, rfl⟩ rfl ?_; clear hS a; intro a hS
              refine q_pass hS hR rfl rfl ⟨_, _, _, rfl, rfl, rfl, rfl⟩ rfl ?_; clear hS a; intro a hS
              refine q_pass hS hR rfl rfl ⟨_, _, _, rfl, rfl, rfl, rfl⟩ rfl ?_; clear hS a; intro a hS
              refine q_pass hS hR rfl rfl ⟨_, _, _, rfl, rfl, rfl, rfl⟩ rfl ?_; clear hS a; intro a hS
              refine q_pass hS hR rfl rfl ⟨_, _, _, rfl, rfl, rfl, rfl⟩ rfl ?_; clear hS a; intro a hS
              refine q_pass hS hR rfl rfl ⟨_, _, _, rfl, rfl, rfl, rfl⟩ rfl ?_; clear hS a; intro a hS
              refine q_pass hS hR rfl rfl ⟨_, _, _, rfl, rfl, rfl, rfl⟩ rfl ?_; clear hS a; intro a hS
              refine q_pass hS hR rfl rfl ⟨_, _, _, rfl, rfl, rfl, rfl⟩ rfl ?_; clear hS a; intro a hS
              refine q_pass hS hR rfl rfl ⟨_, _, _, rfl, rfl, rfl, rfl⟩ rfl ?_; clear hS a; intro a hS
              refine q_pass hS hR rfl rfl ⟨_, _, _, rfl, rfl, rfl, rfl⟩ rfl ?_; clear hS a; intro a hS
              refine q_take hS hR rfl rfl rfl rfl (y_pick_f hS rfl rfl) ?_; clear hS a; intro a hS
              clear hR hZ
              refine p_norm ?_
              exact ⟨(false), hg, (hS.sub ⟨rfl, rfl, rfl, trivial⟩ trivial ⟨rfl, trivial⟩)⟩
          clear hS a; rintro a w ⟨t_19, hg, hS⟩
          subst hk18
          refine c_cond hS rfl (fun hc30 => ?_) (fun hc30 => ?_)
          · replace hg := br_t hg hc30
            apply wp_seq
            apply wp_region_lit
            refine q_seq hS rfl rfl rfl (y_assign hS rfl) ?_; clear hS a; intro a hS
            apply wpList_nil
            refine p_norm ?_
            apply wp_ret
            refine p_thenR ?_
            refine p_inR ?_
            refine p_thenR ?_
            refine p_thenR ?_
            refine p_inR ?_
            refine p_thenR ?_
            obtain rfl := Option.some.inj hg
            refine fin1 (fn := Try.f13) hS rfl (r_tmp hS rfl) ?_
            exact rfl
          · replace hg := br_f hg (by rw [hc30]; exact Bool.false_ne_true)
            apply wp_skip
            refine p_norm ?_
            apply wp_seq
            apply wp_seq
            apply wp_region_lit
            refine q_seq hS rfl rfl rfl (y_move hS rfl) ?_; clear hS a; intro a hS
            refine q_seq hS rfl rfl rfl (y_move hS rfl) ?_; clear hS a; intro a hS
            obtain ⟨p33, hep33, hpp33⟩ := SlR.elemX (hS.fact (k := 101) rfl) hx8
            refine q_seq hS rfl rfl rfl (y_elem (sz := 3) (i := t_3) hS rfl rfl Try.underlying22 rfl hep33 rfl (lt_of_get hx8)) ?_; clear hS a; intro a hS
            refine q_seq hS rfl rfl rfl (y_ptrField (o' := 1) hS rfl Try.underlying47 rfl rfl rfl) ?_; clear hS a; intro a hS
            obtain ⟨hlq34, hmq34, csq34, hdq34, hcq34⟩ := hpp33
            obtain ⟨Aq342, cq342, Aq343, cq343, rfl, lq341, hq342, hq343⟩ := REntry.open hdq34
            replace hS := hS.add 116 (slF Rep.str (Aq342) ((x8.Words).length) (cq342) (x8.Words)) hq342
            replace hS := hS.add 117 (slF RNode (Aq343) ((x8.FS.Nodes).length) (cq343) (x8.FS.Nodes)) hq343
            refine q_seq hS rfl rfl rfl (y_ldp1 hS rfl hlq34 hmq34 (hcq34 1 _ rfl) Try.underlying27 rfl) ?_; clear hS a; intro a hS
            refine q_seq hS rfl rfl rfl (y_lenSlice hS rfl Try.underlying27) ?_; clear hS a; intro a hS
            refine q_seq hS rfl rfl rfl (y_eqlN (i := ((x8.Words).length)) (j := 0) hS rfl rfl) ?_; clear hS a; intro a hS
            apply wpList_nil
            refine p_norm ?_
            refine c_dec hS rfl (fun hc35 => ?_) (fun hc35 => ?_)
            · replace hg := br_t hg hc35
              apply wp_seq
              apply wp_region_lit
              refine q_seq hS rfl rfl rfl (y_assign hS rfl) ?_; clear hS a; intro a hS
              apply wpList_nil
              refine p_norm ?_
              apply wp_ret
              refine p_thenR ?_
              refine p_inR ?_
              refine p_thenR ?_
              refine p_thenR ?_
              refine p_inR ?_
              refine p_thenR ?_
              obtain rfl := Option.some.inj hg
              refine fin1 (fn := Try.f13) hS rfl (r_tmp hS rfl) ?_
              exact rfl
            · replace hg := br_f hg hc35
              apply wp_skip
              refine p_norm ?_
              apply wp_seq
              apply wp_seq
              apply wp_region_lit
              refine q_seq hS rfl rfl rfl (y_move hS rfl) ?_; clear hS a; intro a hS
              refine q_seq hS rfl rfl rfl (y_move hS rfl) ?_; clear hS a; intro a hS
              obtain ⟨p38, hep38, hpp38⟩ := SlR.elemX (hS.fact (k := 101) rfl) hx8
              refine q_seq hS rfl rfl rfl (y_elem (sz := 3) (i := t_3) hS rfl rfl Try.underlying22 rfl hep38 rfl (lt_of_get hx8)) ?_; clear hS a; intro a hS
              refine q_seq hS rfl rfl rfl (y_ptrField (o' := 1) hS rfl Try.underlying47 rfl rfl rfl) ?_; clear hS a; intro a hS
              obtain ⟨hlq39, hmq39, csq39, hdq39, hcq39⟩ := hpp38
              obtain ⟨Aq392, cq392, Aq393, cq393, rfl, lq391, hq392, hq393⟩ := REntry.open hdq39
              replace hS := hS.add 120 (slF Rep.str (Aq392) ((x8.Words).length) (cq392) (x8.Words)) hq392
              replace hS := hS.add 121 (slF RNode (Aq393) ((x8.FS.Nodes).length) (cq393) (x8.FS.Nodes)) hq393
              refine q_seq hS rfl rfl rfl (y_ldp1 hS rfl hlq39 hmq39 (hcq39 1 _ rfl) Try.underlying27 rfl) ?_; clear hS a; intro a hS
              refine q_seq hS rfl rfl rfl (y_lenSlice hS rfl Try.underlying27) ?_; clear hS a; intro a hS
              refine q_seq hS rfl rfl rfl (y_gtrN (i := ((x8.Words).length)) (j := 4) hS rfl rfl) ?_; clear hS a; intro a hS
              apply wpList_nil
              refine p_norm ?_
              refine c_dec hS rfl (fun hc40 => ?_) (fun hc40 => ?_)
              · replace hg := br_t hg hc40
                have hmx41 := SlR.mx (hS.fact (k := 120) rfl)
                apply wp_seq
                apply wp_region_lit
                refine q_seq hS rfl rfl rfl (y_assign hS rfl) ?_; clear hS a; intro a hS
                apply wpList_nil
                refine p_norm ?_
                apply wp_ret
                refine p_thenR ?_
                refine p_inR ?_
                refine p_thenR ?_
                refine p_thenR ?_
                refine p_inR ?_
                refine p_thenR ?_
                obtain rfl := Option.some.inj hg
                refine fin1 (fn := Try.f13) hS rfl (r_tmp hS rfl) ?_
                exact rfl
              · replace hg := br_f hg hc40
                apply wp_skip
                refine p_norm ?_
                apply wp_seq
                apply wp_region_lit
                refine q_seq hS rfl rfl rfl (y_assign hS rfl) ?_; clear hS a; intro a hS
                apply wpList_nil
                refine p_norm ?_
                apply wp_block
                refine c_loop (σ := Nat) (fun m2 a w => ∃ (t_42 : Nat), r24_Check_L1 n k6 x8 m2 t_42 = some r ∧ St (⟨Try.f13.ntmps, M, noB, w0⟩ : Ctx) [(0, .slice (Ap01) ((t_).length) (cp01)), (3, .int .i64 (((t_3 : Nat) : Int))), (4, .int .i64 (((t_42 : Nat) : Int)))] [] [(101, slF REntry (Ap01) ((t_).length) (cp01) (t_))] a w) (fun m2 => m2) n ⟨(0), hg, (hS.sub ⟨rfl, rfl, rfl, trivial⟩ trivial ⟨rfl, trivial⟩)⟩ ?_
                clear hS a; rintro m2 a w ⟨t_42, hg, hS⟩
                rcases m2 with _ | m2
                · rw [r24_Check_L1] at hg; cases hg
                rw [r24_Check_L1] at hg
                apply wp_seq
                apply wp_seq
                apply wp_region_lit
                refine q_seq hS rfl rfl rfl (y_move hS rfl) ?_; clear hS a; intro a hS
                refine q_seq hS rfl rfl rfl (y_move hS rfl) ?_; clear hS a; intro a hS
                refine q_seq hS rfl rfl rfl (y_move hS rfl) ?_; clear hS a; intro a hS
                obtain ⟨p45, hep45, hpp45⟩ := SlR.elemX (hS.fact (k := 101) rfl) hx8
                refine q_seq hS rfl rfl rfl (y_elem (sz := 3) (i := t_3) hS rfl rfl Try.underlying22 rfl hep45 rfl (lt_of_get hx8)) ?_; clear hS a; intro a hS
                refine q_seq hS rfl rfl rfl (y_ptrField (o' := 1) hS rfl Try.underlying47 rfl rfl rfl) ?_; clear hS a; intro a hS
                obtain ⟨hlq46, hmq46, csq46, hdq46, hcq46⟩ := hpp45
                obtain ⟨Aq462, cq462, Aq463, cq463, rfl, lq461, hq462, hq463⟩ := REntry.open hdq46
                replace hS := hS.add 124 (slF Rep.str (Aq462) ((x8.Words).length) (cq462) (x8.Words)) hq462
                replace hS := hS.add 125 (slF RNode (Aq463) ((x8.FS.Nodes).length) (cq463) (x8.FS.Nodes)) hq463
                refine q_seq hS rfl rfl rfl (y_ldp1 hS rfl hlq46 hmq46 (hcq46 1 _ rfl) Try.underlying27 rfl) ?_; clear hS a; intro a hS
                refine q_seq hS rfl rfl rfl (y_lenSlice hS rfl Try.underlying27) ?_; clear hS a; intro a hS
                refine q_seq hS rfl rfl rfl (y_lssN (i := t_42) (j := ((x8.Words).length)) hS rfl rfl) ?_; clear hS a; intro a hS
                apply wpList_nil
                refine p_norm ?_
                refine c_dec hS rfl (fun hc47 => ?_) (fun hc47 => ?_)
                · replace hg := br_t hg hc47
                  have hmx48 := SlR.mx (hS.fact (k := 124) rfl)
                  apply wp_skip
                  refine p_norm ?_
                  apply wp_seq
                  apply wp_block
                  apply wp_seq
                  replace hg := bind_some hg; obtain ⟨x52, hx52, hg⟩ := hg
                  replace hg := bind_some hg; obtain ⟨r54, hr54, hg⟩ := hg
                  apply wp_region_lit
                  refine q_seq hS rfl rfl rfl (y_move hS rfl) ?_; clear hS a; intro a hS
                  refine q_seq hS rfl rfl rfl (y_move hS rfl) ?_; clear hS a; intro a hS
                  obtain ⟨p57, hep57, hpp57⟩ := SlR.elemX (hS.fact (k := 101) rfl) hx8
                  refine q_seq hS rfl rfl rfl (y_elem (sz := 3) (i := t_3) hS rfl rfl Try.underlying22 rfl hep57 rfl (lt_of_get hx8)) ?_; clear hS a; intro a hS
                  refine q_seq hS rfl rfl rfl (y_ptrField (o' := 1) hS rfl Try.underlying47 rfl rfl rfl) ?_; clear hS a; intro a hS
                  obtain ⟨hlq58, hmq58, csq58, hdq58, hcq58⟩ := hpp57
                  obtain ⟨Aq582, cq582, Aq583, cq583, rfl, lq581, hq582, hq583⟩ := REntry.open hdq58
                  replace hS := hS.add 128 (slF Rep.str (Aq582) ((x8.Words).length) (cq582) (x8.Words)) hq582
                  replace hS := hS.add 129 (slF RNode (Aq583) ((x8.FS.Nodes).length) (cq583) (x8.FS.Nodes)) hq583
                  refine q_seq hS rfl rfl rfl (y_ldp1 hS rfl hlq58 hmq58 (hcq58 1 _ rfl) Try.underlying27 rfl) ?_; clear hS a; intro a hS
                  refine q_seq hS rfl rfl rfl (y_move hS rfl) ?_; clear hS a; intro a hS
                  obtain ⟨p59, hep59, hpp59⟩ := SlR.elemX (hS.fact (k := 128) rfl) hx52
                  refine q_seq hS rfl rfl rfl (y_elem (sz := 1) (i := t_42) hS rfl rfl Try.underlying27 rfl hep59 rfl (lt_of_get hx52)) ?_; clear hS a; intro a hS
                  obtain ⟨hlq60, hmq60, csq60, hdq60, hcq60⟩ := hpp59
                  obtain ⟨rfl, lq601⟩ := hdq60
                  refine q_seq hS rfl rfl rfl (y_ldp1 hS rfl hlq60 hmq60 (hcq60 0 _ rfl) Try.underlying9 rfl) ?_; clear hS a; intro a hS
                  refine l_seq rfl (l_call (cap := []) hS rfl Try.func29 rfl (by kernel_rfl) rfl rfl (c_r01_Word n _ _ hS.lt x52 (by first | omega | (rw [List.length_append]; omega) | (simp only [List.length_append]; omega) | (simp only [List.length_append, List.length_take, List.length_drop, List.length_cons, List.length_nil]; omega)) r54 hr54) ?_); clear hS a; intro v61 a w hK hp hS
                  clear hK
                  obtain rfl := hp
                  refine q_seq hS rfl rfl rfl (y_not hS rfl) ?_; clear hS a; intro a hS
                  apply wpList_nil
                  refine p_norm ?_
                  refine c_cond hS rfl (fun hc63 => ?_) (fun hc63 => ?_)
                  · replace hg := br_t hg hc63
                    apply wp_seq
                    apply wp_region_lit
                    refine q_seq hS rfl rfl rfl (y_assign hS rfl) ?_; clear hS a; intro a hS
                    apply wpList_nil
                    refine p_norm ?_
                    apply wp_ret
                    refine p_inR ?_
                    refine p_thenR ?_
                    refine p_thenR ?_
                    refine p_inR ?_
                    refine p_inR ?_
                    refine p_thenR ?_
                    refine p_thenR ?_
                    refine p_inR ?_
                    refine p_thenR ?_
                    obtain rfl := Option.some.inj hg
                    refine fin1 (fn := Try.f13) hS rfl (r_tmp hS rfl) ?_
                    exact rfl
                  · replace hg := br_f hg (by rw [hc63]; exact Bool.false_ne_true)
                    apply wp_skip
                    refine p_inN ?_
                    refine p_norm ?_
                    apply wp_region_lit
                    refine q_seq hS rfl rfl rfl (y_move hS rfl) ?_; clear hS a; intro a hS
                    refine q_seq hS rfl rfl rfl (y_addN (i := t_42) (j := 1) hS rfl rfl (in64.2 (by omega))) ?_; clear hS a; intro a hS
                    refine q_seq hS rfl rfl rfl (y_assign hS rfl) ?_; clear hS a; intro a hS
                    apply wpList_nil
                    refine p_norm ?_
                    exact ⟨m2, Nat.lt_succ_self _, ⟨(t_42 + 1), hg, (hS.sub ⟨rfl, rfl, rfl, trivial⟩ trivial ⟨rfl, trivial⟩)⟩⟩
                · replace hg := br_f hg hc47
                  apply wp_exit
                  refine p_then ?_
                  refine p_then ?_
                  refine p_in ?_
                  refine p_inN ?_
                  refine p_norm ?_
                  exact ⟨hg, (hS.sub ⟨rfl, rfl, trivial⟩ trivial ⟨rfl, trivial⟩)⟩
      clear hS a; rintro a w ⟨hg, hS⟩
      subst hk6
      apply wp_region_lit
      refine q_seq hS rfl rfl rfl (y_move hS rfl) ?_; clear hS a; intro a hS
      refine q_seq hS rfl rfl rfl (y_addN (i := t_3) (j := 1) hS rfl rfl (in64.2 (by omega))) ?_; clear hS a; intro a hS
      refine q_seq hS rfl rfl rfl (y_assign hS rfl) ?_; clear hS a; intro a hS
      apply wpList_nil
      refine p_norm ?_
      exact ⟨m1, Nat.lt_succ_self _, ⟨(t_3 + 1), hg, (hS.sub ⟨rfl, rfl, trivial⟩ trivial ⟨rfl, trivial⟩)⟩⟩
    · replace hg := br_f hg hc4
      apply wp_exit
      refine p_then ?_
      refine p_then ?_
      refine p_in ?_
      refine p_norm ?_
      apply wp_seq
      apply wp_region_lit
      refine q_seq hS rfl rfl rfl (y_assign hS rfl) ?_; clear hS a; intro a hS
      apply wpList_nil
      refine p_norm ?_
      apply wp_ret
      obtain rfl := Option.some.inj hg
      refine fin1 (fn := Try.f13) hS rfl (r_tmp hS rfl) ?_
      exact rfl
set_option maxHeartbeats 400000 in
theorem c_law24_LexiconChecks (n : Nat) (M : Bs) (w0 : World) (hM : ∀ b, M b → b < w0.heap.size) (e_ : (List Entry)) (Ap01 : Option Addr) (cp01 : Nat) (hp01 : SlR REntry M w0 Ap01 (e_).length cp01 (e_)) (r : Bool) (hg : law24_LexiconChecks n e_ = some r) :
    Calls Try.prog 3 [.slice (Ap01) ((e_).length) (cp01)].toArray w0 (Ret noB w0 fun v w => v = .bool (r)) := by
  unfold law24_LexiconChecks at hg
  refine enter M noB Try.func3 rfl rfl hM ?_
  intro a hS
  replace hS := hS.add 101 (slF REntry (Ap01) ((e_).length) (cp01) (e_)) (by exact Fact.change _ enterM hp01)
  apply wp_seq
  apply wp_region_lit
  refine q_seq hS rfl rfl rfl (y_assign hS rfl) ?_; clear hS a; intro a hS
  apply wpList_nil
  refine p_norm ?_
  apply wp_seq
  apply wp_seq
  replace hg := bind_some hg; obtain ⟨r1, hr1, hg⟩ := hg
  apply wp_region_lit
  refine q_seq hS rfl rfl rfl (y_move hS rfl) ?_; clear hS a; intro a hS
  refine l_seq rfl (l_call (cap := []) hS rfl Try.func10 rfl (by kernel_rfl) rfl rfl (c_r24_LightEntries n _ _ hS.lt e_ (Ap01) (cp01) (hS.fact (k := 101) rfl) r1 hr1) ?_); clear hS a; intro v4 a w hK hp hS
  clear hK
  obtain rfl := hp
  refine q_seq hS rfl rfl rfl (y_not hS rfl) ?_; clear hS a; intro a hS
  apply wpList_nil
  refine p_norm ?_
  refine c_cond hS rfl (fun hc6 => ?_) (fun hc6 => ?_)
  · replace hg := br_t hg hc6
    apply wp_seq
    replace hg := bind_some hg; obtain ⟨r7, hr7, hg⟩ := hg
    apply wp_region_lit
    refine l_seq rfl (l_call (cap := []) hS rfl Try.func11 rfl (by kernel_rfl) rfl rfl (c_law24_exampleHolds n _ _ hS.lt  r7 hr7) ?_); clear hS a; intro v10 a w hK hp hS
    clear hK
    obtain rfl := hp
    refine q_seq hS rfl rfl rfl (y_assign hS rfl) ?_; clear hS a; intro a hS
    apply wpList_nil
    refine p_norm ?_
    apply wp_ret
    refine p_thenR ?_
    obtain rfl := Option.some.inj hg
    refine fin1 (fn := Try.f3) hS rfl (r_tmp hS rfl) ?_
    exact rfl
  · replace hg := br_f hg (by rw [hc6]; exact Bool.false_ne_true)
    apply wp_skip
    refine p_norm ?_
    apply wp_seq
    replace hg := bind_some hg; obtain ⟨r12, hr12, hg⟩ := hg
    replace hg := bind_some hg; obtain ⟨r15, hr15, hg⟩ := hg
    rcases Decidable.em (r12 = r15) with hs18 | hs18
    · have hs18e : decide (r12 = r15) = true := decide_eq_true hs18
      replace hg := br_t hg hs18
      replace hg := bind_some hg; obtain ⟨r19, hr19, hg⟩ := hg
      apply wp_region_lit
      refine q_seq hS rfl rfl rfl (y_move hS rfl) ?_; clear hS a; intro a hS
      refine l_seq rfl (l_call (cap := []) hS rfl Try.func12 rfl (by kernel_rfl) rfl rfl (c_lexicon_Check n _ _ hS.lt e_ (Ap01) (cp01) (hS.fact (k := 101) rfl) r12 hr12) ?_); clear hS a; intro v22 a w hK hp hS
      clear hK
      obtain rfl := hp
      refine q_seq hS rfl rfl rfl (y_move hS rfl) ?_; clear hS a; intro a hS
      refine l_seq rfl (l_call (cap := []) hS rfl Try.func13 rfl (by kernel_rfl) rfl rfl (c_r24_Check n _ _ hS.lt e_ (Ap01) (cp01) (hS.fact (k := 101) rfl) r15 hr15) ?_); clear hS a; intro v24 a w hK hp hS
      clear hK
      obtain rfl := hp
      refine q_seq hS rfl rfl rfl (yl_b (y_eql hS rfl rfl) hs18e) ?_; clear hS a; intro a hS
      refine q_seq hS rfl rfl rfl (y_move hS rfl) ?_; clear hS a; intro a hS
      refine g_yes hS rfl rfl rfl rfl (l_call (cap := []) hS rfl Try.func11 rfl (by kernel_rfl) rfl rfl (c_law24_exampleHolds n _ _ hS.lt  r19 hr19) ?_); clear hS a; intro v26 a w hK hp hS
      clear hK
      obtain rfl := hp
      refine q_seq hS rfl rfl rfl (y_pick_t hS rfl rfl) ?_; clear hS a; intro a hS
      refine q_seq hS rfl rfl rfl (y_assign hS rfl) ?_; clear hS a; intro a hS
      apply wpList_nil
      refine p_norm ?_
      apply wp_ret
      obtain rfl := Option.some.inj hg
      refine fin1 (fn := Try.f3) hS rfl (r_tmp hS rfl) ?_
      exact rfl
    · have hs18e : decide (r12 = r15) = false := decide_eq_false hs18
      replace hg := br_f hg hs18
      apply wp_region_lit
      refine q_seq hS rfl rfl rfl (y_move hS rfl) ?_; clear hS a; intro a hS
      refine l_seq rfl (l_call (cap := []) hS rfl Try.func12 rfl (by kernel_rfl) rfl rfl (c_lexicon_Check n _ _ hS.lt e_ (Ap01) (cp01) (hS.fact (k := 101) rfl) r12 hr12) ?_); clear hS a; intro v28 a w hK hp hS
      clear hK
      obtain rfl := hp
      refine q_seq hS rfl rfl rfl (y_move hS rfl) ?_; clear hS a; intro a hS
      refine l_seq rfl (l_call (cap := []) hS rfl Try.func13 rfl (by kernel_rfl) rfl rfl (c_r24_Check n _ _ hS.lt e_ (Ap01) (cp01) (hS.fact (k := 101) rfl) r15 hr15) ?_); clear hS a; intro v30 a w hK hp hS
      clear hK
      obtain rfl := hp
      refine q_seq hS rfl rfl rfl (yl_b (y_eql hS rfl rfl) hs18e) ?_; clear hS a; intro a hS
      refine q_seq hS rfl rfl rfl (y_move hS rfl) ?_; clear hS a; intro a hS
      refine g_no hS rfl rfl rfl rfl rfl rfl rfl ?_; clear hS a; intro a hS
      refine q_seq hS rfl rfl rfl (y_pick_f hS rfl rfl) ?_; clear hS a; intro a hS
      refine q_seq hS rfl rfl rfl (y_assign hS rfl) ?_; clear hS a; intro a hS
      apply wpList_nil
      refine p_norm ?_
      apply wp_ret
      obtain rfl := Option.some.inj hg
      refine fin1 (fn := Try.f3) hS rfl (r_tmp hS rfl) ?_
      exact rfl
set_option maxHeartbeats 400000 in
theorem c_r23_Light (n : Nat) (M : Bs) (w0 : World) (hM : ∀ b, M b → b < w0.heap.size) (a_ : Affix) (Ap02 : Option Addr) (cp02 : Nat) (hp02 : SlR RChange M w0 Ap02 (a_.Pairs).length cp02 (a_.Pairs)) (r : Bool) (hg : r23_Light n a_ = some r) :
    Calls Try.prog 30 [.agg #[.int .i64 (a_.Kind), .slice (Ap02) ((a_.Pairs).length) (cp02)]].toArray w0 (Ret noB w0 fun v w => v = .bool (r)) := by
  unfold r23_Light at hg
  refine enter M noB Try.func30 rfl rfl hM ?_
  intro a hS
  replace hS := hS.add 101 (slF RChange (Ap02) ((a_.Pairs).length) (cp02) (a_.Pairs)) (by exact Fact.change _ enterM hp02)
  apply wp_seq
  apply wp_region_lit
  refine l_seq rfl (l_box (zs := [.int .i64 (a_.Kind), .slice (Ap02) ((a_.Pairs).length) (cp02)]) hS 1000 rfl rfl rfl rfl ?_); clear hS a; intro b2 a w hb hK hS
  clear hb
  clear hK
  refine q_seq hS rfl rfl rfl (y_assign hS rfl) ?_; clear hS a; intro a hS
  apply wpList_nil
  refine p_norm ?_
  apply wp_seq
  apply wp_seq
  apply wp_region_lit
  refine q_seq hS rfl rfl rfl (y_boxField (o' := 1) hS rfl Try.underlying52 rfl rfl rfl) ?_; clear hS a; intro a hS
  refine q_seq hS rfl rfl rfl (y_loadBox1 (kk := 1000) hS rfl rfl rfl Try.underlying50 rfl) ?_; clear hS a; intro a hS
  refine q_seq hS rfl rfl rfl (y_lenSlice hS rfl Try.underlying50) ?_; clear hS a; intro a hS
  refine q_seq hS rfl rfl rfl (y_gtrN (i := ((a_.Pairs).length)) (j := 40) hS rfl rfl) ?_; clear hS a; intro a hS
  apply wpList_nil
  refine p_norm ?_
  refine c_dec hS rfl (fun hc3 => ?_) (fun hc3 => ?_)
  · replace hg := br_t hg hc3
    have hmx4 := SlR.mx (hS.fact (k := 101) rfl)
    apply wp_seq
    apply wp_region_lit
    refine q_seq hS rfl rfl rfl (y_assign hS rfl) ?_; clear hS a; intro a hS
    apply wpList_nil
    refine p_norm ?_
    apply wp_ret
    refine p_thenR ?_
    obtain rfl := Option.some.inj hg
    refine fin1 (fn := Try.f30) hS rfl (r_tmp hS rfl) ?_
    exact rfl
  · replace hg := br_f hg hc3
    apply wp_skip
    refine p_norm ?_
    apply wp_seq
    apply wp_seq
    apply wp_region_lit
    refine q_seq hS rfl rfl rfl (y_assign hS rfl) ?_; clear hS a; intro a hS
    apply wpList_nil
    refine p_norm ?_
    apply wp_block
    refine c_loop (σ := Nat) (fun m1 a w => ∃ (i_5 : Nat), r23_Light_L0 n a_ m1 i_5 = some r ∧ St (⟨Try.f30.ntmps, M, noB, w0⟩ : Ctx) [(1, .pointer (some ⟨b2, 0, none⟩)), (3, .int .i64 (((i_5 : Nat) : Int)))] [(1000, Ob.box b2 [.int .i64 (a_.Kind), .slice (Ap02) ((a_.Pairs).length) (cp02)] 52)] [(101, slF RChange (Ap02) ((a_.Pairs).length) (cp02) (a_.Pairs))] a w) (fun m1 => m1) n ⟨(0), hg, (hS.sub ⟨rfl, rfl, trivial⟩ ⟨rfl, trivial⟩ ⟨rfl, trivial⟩)⟩ ?_
    clear hS a; rintro m1 a w ⟨i_5, hg, hS⟩
    rcases m1 with _ | m1
    · rw [r23_Light_L0] at hg; cases hg
    rw [r23_Light_L0] at hg
    apply wp_seq
    apply wp_seq
    apply wp_region_lit
    refine q_seq hS rfl rfl rfl (y_move hS rfl) ?_; clear hS a; intro a hS
    refine q_seq hS rfl rfl rfl (y_boxField (o' := 1) hS rfl Try.underlying52 rfl rfl rfl) ?_; clear hS a; intro a hS
    refine q_seq hS rfl rfl rfl (y_loadBox1 (kk := 1000) hS rfl rfl rfl Try.underlying50 rfl) ?_; clear hS a; intro a hS
    refine q_seq hS rfl rfl rfl (y_lenSlice hS rfl Try.underlying50) ?_; clear hS a; intro a hS
    refine q_seq hS rfl rfl rfl (y_lssN (i := i_5) (j := ((a_.Pairs).length)) hS rfl rfl) ?_; clear hS a; intro a hS
    apply wpList_nil
    refine p_norm ?_
    refine c_dec hS rfl (fun hc6 => ?_) (fun hc6 => ?_)
    · replace hg := br_t hg hc6
      have hmx7 := SlR.mx (hS.fact (k := 101) rfl)
      apply wp_skip
      refine p_norm ?_
      apply wp_seq
      apply wp_block
      apply wp_seq
      replace hg := jn_some hg; obtain ⟨k8, hg, hk8⟩ := hg
      refine c_post (fun a w => ∃ (t_9 : Bool), k8 t_9 = some r ∧ St (⟨Try.f30.ntmps, M, noB, w0⟩ : Ctx) [(1, .pointer (some ⟨b2, 0, none⟩)), (3, .int .i64 (((i_5 : Nat) : Int))), (32, .bool (t_9))] [(1000, Ob.box b2 [.int .i64 (a_.Kind), .slice (Ap02) ((a_.Pairs).length) (cp02)] 52)] [(101, slF RChange (Ap02) ((a_.Pairs).length) (cp02) (a_.Pairs))] a w) ?_ ?_
      · replace hg := bind_some hg; obtain ⟨x11, hx11, hg⟩ := hg
        rcases Decidable.em ((100 : Nat) < ((x11.Old).length)) with hs13 | hs13
        · have hs13e : decide ((100 : Nat) < ((x11.Old).length)) = true := decide_eq_true hs13
          replace hg := br_t hg hs13
          apply wp_region_lit
          refine q_seq hS rfl rfl rfl (y_boxField (o' := 1) hS rfl Try.underlying52 rfl rfl rfl) ?_; clear hS a; intro a hS
          refine q_seq hS rfl rfl rfl (y_loadBox1 (kk := 1000) hS rfl rfl rfl Try.underlying50 rfl) ?_; clear hS a; intro a hS
          refine q_seq hS rfl rfl rfl (y_move hS rfl) ?_; clear hS a; intro a hS
          obtain ⟨p14, hep14, hpp14⟩ := SlR.elemX (hS.fact (k := 101) rfl) hx11
          refine q_seq hS rfl rfl rfl (y_elem (sz := 2) (i := i_5) hS rfl rfl Try.underlying50 rfl hep14 rfl (lt_of_get hx11)) ?_; clear hS a; intro a hS
          refine q_seq hS rfl rfl rfl (y_ptrField (o' := 0) hS rfl Try.underlying49 rfl rfl rfl) ?_; clear hS a; intro a hS
          obtain ⟨hlq15, hmq15, csq15, hdq15, hcq15⟩ := hpp14
          obtain ⟨rfl, lq151, lq152⟩ := RChange.open hdq15
          refine q_seq hS rfl rfl rfl (y_ldp1 hS rfl hlq15 hmq15 (hcq15 0 _ rfl) Try.underlying9 rfl) ?_; clear hS a; intro a hS
          refine q_seq hS rfl rfl rfl (y_lenStrN hS rfl Try.underlying9) ?_; clear hS a; intro a hS
          refine q_seq hS rfl rfl rfl (yl_b (y_gtrN (i := ((x11.Old).length)) (j := 100) hS rfl rfl) hs13e) ?_; clear hS a; intro a hS
          refine q_seq hS rfl rfl rfl (y_move hS rfl) ?_; clear hS a; intro a hS
          refine g_no hS rfl rfl rfl rfl rfl rfl rfl ?_; clear hS a; intro a hS
          refine g_no hS rfl rfl rfl rfl rfl rfl rfl ?_; clear hS a; intro a hS
          refine g_no hS rfl rfl rfl rfl rfl rfl rfl ?_; clear hS a; intro a hS
          refine g_no hS rfl rfl rfl rfl rfl rfl rfl ?_; clear hS a; intro a hS
          refine g_no hS rfl rfl rfl rfl rfl rfl rfl ?_; clear hS a; intro a hS
          refine g_no hS rfl rfl rfl rfl rfl rfl rfl ?_; clear hS a; intro a hS
          refine g_no hS rfl rfl rfl rfl rfl rfl rfl ?_; clear hS a; intro a hS
          refine g_no hS rfl rfl rfl rfl rfl rfl rfl ?_; clear hS a; intro a hS
          refine q_seq hS rfl rfl rfl (y_pick_t hS rfl rfl) ?_; clear hS a; intro a hS
          apply wpList_nil
          refine p_norm ?_
          exact ⟨(true), hg, (hS.sub ⟨rfl, rfl, rfl, trivial⟩ ⟨rfl, trivial⟩ ⟨rfl, trivial⟩)⟩
        · have hs13e : decide ((100 : Nat) < ((x11.Old).length)) = false := decide_eq_false hs13
          replace hg := br_f hg hs13
          apply wp_region_lit
          refine q_seq hS rfl rfl rfl (y_boxField (o' := 1) hS rfl Try.underlying52 rfl rfl rfl) ?_; clear hS a; intro a hS
          refine q_seq hS rfl rfl rfl (y_loadBox1 (kk := 1000) hS rfl rfl rfl Try.underlying50 rfl) ?_; clear hS a; intro a hS
          refine q_seq hS rfl rfl rfl (y_move hS rfl) ?_; clear hS a; intro a hS
          obtain ⟨p18, hep18, hpp18⟩ := SlR.elemX (hS.fact (k := 101) rfl) hx11
          refine q_seq hS rfl rfl rfl (y_elem (sz := 2) (i := i_5) hS rfl rfl Try.underlying50 rfl hep18 rfl (lt_of_get hx11)) ?_; clear hS a; intro a hS
          refine q_seq hS rfl rfl rfl (y_ptrField (o' := 0) hS rfl Try.underlying49 rfl rfl rfl) ?_; clear hS a; intro a hS
          obtain ⟨hlq19, hmq19, csq19, hdq19, hcq19⟩ := hpp18
          obtain ⟨rfl, lq191, lq192⟩ := RChange.open hdq19
          refine q_seq hS rfl rfl rfl (y_ldp1 hS rfl hlq19 hmq19 (hcq19 0 _ rfl) Try.underlying9 rfl) ?_; clear hS a; intro a hS
          refine q_seq hS rfl rfl rfl (y_lenStrN hS rfl Try.underlying9) ?_; clear hS a; intro a hS
          refine q_seq hS rfl rfl rfl (yl_b (y_gtrN (i := ((x11.Old).length)) (j := 100) hS rfl rfl) hs13e) ?_; clear hS a; intro a hS
          refine q_seq hS rfl rfl rfl (y_move hS rfl) ?_; clear hS a; intro a hS
          refine g_yes hS rfl rfl rfl rfl (l_quiet hS rfl rfl (y_boxField (o' := 1) hS rfl Try.underlying52 rfl rfl rfl) ?_); clear hS a; intro a hS
          refine g_yes hS rfl rfl rfl rfl (l_quiet hS rfl rfl (y_loadBox1 (kk := 1000) hS rfl rfl rfl Try.underlying50 rfl) ?_); clear hS a; intro a hS
          refine g_yes hS rfl rfl rfl rfl (l_quiet hS rfl rfl (y_move hS rfl) ?_); clear hS a; intro a hS
          obtain ⟨p20, hep20, hpp20⟩ := SlR.elemX (hS.fact (k := 101) rfl) hx11
          refine g_yes hS rfl rfl rfl rfl (l_quiet hS rfl rfl (y_elem (sz := 2) (i := i_5) hS rfl rfl Try.underlying50 rfl hep20 rfl (lt_of_get hx11)) ?_); clear hS a; intro a hS
          refine g_yes hS rfl rfl rfl rfl (l_quiet hS rfl rfl (y_ptrField (o' := 1) hS rfl Try.underlying49 rfl rfl rfl) ?_); clear hS a; intro a hS
          obtain ⟨hlq21, hmq21, csq21, hdq21, hcq21⟩ := hpp20
          obtain ⟨rfl, lq211, lq212⟩ := RChange.open hdq21
          refine g_yes hS rfl rfl rfl rfl (l_quiet hS rfl rfl (y_ldp1 hS rfl hlq21 hmq21 (hcq21 1 _ rfl) Try.underlying9 rfl) ?_); clear hS a; intro a hS
          refine g_yes hS rfl rfl rfl rfl (l_quiet hS rfl rfl (y_lenStrN hS rfl Try.underlying9) ?_); clear hS a; intro a hS
          refine g_yes hS rfl rfl rfl rfl (l_quiet hS rfl rfl (y_gtrN (i := ((x11.New).length)) (j := 100) hS rfl rfl) ?_); clear hS a; intro a hS
          refine q_seq hS rfl rfl rfl (y_pick_f hS rfl rfl) ?_; clear hS a; intro a hS
          apply wpList_nil
          refine p_norm ?_
          exact ⟨(decide ((100 : Nat) < ((x11.New).length))), hg, (hS.sub ⟨rfl, rfl, rfl, trivial⟩ ⟨rfl, trivial⟩ ⟨rfl, trivial⟩)⟩
      clear hS a; rintro a w ⟨t_9, hg, hS⟩
      subst hk8
      refine c_cond hS rfl (fun hc22 => ?_) (fun hc22 => ?_)
      · replace hg := br_t hg hc22
        apply wp_seq
        apply wp_region_lit
        refine q_seq hS rfl rfl rfl (y_assign hS rfl) ?_; clear hS a; intro a hS
        apply wpList_nil
        refine p_norm ?_
        apply wp_ret
        refine p_inR ?_
        refine p_thenR ?_
        refine p_thenR ?_
        refine p_inR ?_
        refine p_thenR ?_
        obtain rfl := Option.some.inj hg
        refine fin1 (fn := Try.f30) hS rfl (r_tmp hS rfl) ?_
        exact rfl
      · replace hg := br_f hg (by rw [hc22]; exact Bool.false_ne_true)
        apply wp_skip
        refine p_inN ?_
        refine p_norm ?_
        apply wp_region_lit
        refine q_seq hS rfl rfl rfl (y_move hS rfl) ?_; clear hS a; intro a hS
        refine q_seq hS rfl rfl rfl (y_addN (i := i_5) (j := 1) hS rfl rfl (in64.2 (by omega))) ?_; clear hS a; intro a hS
        refine q_seq hS rfl rfl rfl (y_assign hS rfl) ?_; clear hS a; intro a hS
        apply wpList_nil
        refine p_norm ?_
        exact ⟨m1, Nat.lt_succ_self _, ⟨(i_5 + 1), hg, (hS.sub ⟨rfl, rfl, trivial⟩ ⟨rfl, trivial⟩ ⟨rfl, trivial⟩)⟩⟩
    · replace hg := br_f hg hc6
      apply wp_exit
      refine p_then ?_
      refine p_then ?_
      refine p_in ?_
      refine p_norm ?_
      apply wp_seq
      apply wp_region_lit
      refine q_seq hS rfl rfl rfl (y_assign hS rfl) ?_; clear hS a; intro a hS
      apply wpList_nil
      refine p_norm ?_
      apply wp_ret
      obtain rfl := Option.some.inj hg
      refine fin1 (fn := Try.f30) hS rfl (r_tmp hS rfl) ?_
      exact rfl
end Go.Proofs.Ytgmghembhenonaa
