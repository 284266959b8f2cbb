/- Chapter 42: the walk of SolveBegins -/
import Derived.Test.YtdicfdfncbmmpaaW4
namespace Go.Proofs.Ytdicfdfncbmmpaa
open Go.Gl Go.RowKit
set_option linter.unusedVariables false
set_option linter.unusedSimpArgs false
set_option maxRecDepth 4000

set_option maxHeartbeats 400000 in
theorem c_law42_SolveBegins (n : Nat) (M : Bs) (w0 : World) (hM : ∀ b, M b → b < w0.heap.size) (t_ : MRS) (Ap03 : Option Addr) (cp03 : Nat) (Ap04 : Option Addr) (cp04 : Nat) (Ap05 : Option Addr) (cp05 : Nat) (hp03 : SlR Rep.str M w0 Ap03 (t_.Vars).length cp03 (t_.Vars)) (hp04 : SlR REP M w0 Ap04 (t_.Rels).length cp04 (t_.Rels)) (hp05 : SlR RQeq M w0 Ap05 (t_.Cons).length cp05 (t_.Cons)) (t_' : UInt8) (r : Bool) (hg : law42_SolveBegins n t_ t_' = some r) :
    Calls Try.prog 4 [.agg #[.int .i64 (t_.Top), .int .i64 (t_.Index), .slice (Ap03) ((t_.Vars).length) (cp03), .slice (Ap04) ((t_.Rels).length) (cp04), .slice (Ap05) ((t_.Cons).length) (cp05)], .int .u8 (((t_'.toNat : Nat) : Int))].toArray w0 (Ret noB w0 fun v w => v = .bool (r)) := by
 unfold law42_SolveBegins at hg
 refine enter M noB Try.func4 rfl rfl hM ?_
 intro a hS
 replace hS := hS.es 101 hp03
 replace hS := hS.es 102 hp04
 replace hS := hS.es 103 hp05
 apply wR
 refine l_seq rfl (l_box (zs := [.int .i64 (t_.Top), .int .i64 (t_.Index), .slice (Ap03) ((t_.Vars).length) (cp03), .slice (Ap04) ((t_.Rels).length) (cp04), .slice (Ap05) ((t_.Cons).length) (cp05)]) hS 1000 rfl rfl rfl rfl ?_); clear hS a; intro b2 a w hb hK hS
 clear hb hK
 refine qq hS rfl (y_assign hS rfl) fun a hS => ?_
 apply wN
 apply wp_seq
 apply wp_seq
 obtain ⟨r3, hr3, hg⟩ := bind_some hg
 apply wp_region_lit
 refine qq hS rfl (y_loadBox (kk := 1000) (n := 5) (vs := [.int .i64 (t_.Top), .int .i64 (t_.Index), .slice (Ap03) ((t_.Vars).length) (cp03), .slice (Ap04) ((t_.Rels).length) (cp04), .slice (Ap05) ((t_.Cons).length) (cp05)]) hS rfl rfl Try.underlying26 rfl rfl rfl rfl) fun a hS => ?_
 refine l_seq rfl (l_call (cap := []) hS rfl Try.func7 rfl (by kernel_rfl) rfl rfl (c_law42_valid n _ _ hS.lt t_ (Ap03) (cp03) (Ap04) (cp04) (Ap05) (cp05) (hS.fact (k := 101) rfl) (hS.fact (k := 102) rfl) (hS.fact (k := 103) rfl) r3 hr3) ?_); clear hS a; intro v6 a w hK hp hS
 clear hK
 obtain rfl := hp
 refine qq hS rfl (y_not hS rfl) fun a hS => ?_
 apply wN
 refine c_cond hS rfl (fun hc8 => ?_) (fun hc8 => ?_)
 ·replace hg := br_t hg hc8
  apply wp_seq
  obtain ⟨r9, hr9, hg⟩ := bind_some hg
  apply wp_region_lit
  refine l_seq rfl (l_call (cap := []) hS rfl Try.func8 rfl (by kernel_rfl) rfl rfl (c_law42_exampleHolds n _ _ hS.lt  r9 hr9) ?_); clear hS a; intro v12 a w hK hp hS
  clear hK
  obtain rfl := hp
  refine qq hS rfl (y_assign hS rfl) fun a hS => ?_
  apply wN
  apply wp_ret
  refine p_thenR ?_
  obtain rfl := Option.some.inj hg
  refine fin1 (fn := Try.f4) hS rfl (r_tmp hS rfl) ?_
  exact rfl
 ·replace hg := br_f hg (by rw [hc8]; exact Bool.false_ne_true)
  apply wp_skip
  refine p_norm ?_
  apply wp_seq
  obtain ⟨r14, hr14, hg⟩ := bind_some hg
  apply wp_region_lit
  refine qq hS rfl (y_loadBox (kk := 1000) (n := 5) (vs := [.int .i64 (t_.Top), .int .i64 (t_.Index), .slice (Ap03) ((t_.Vars).length) (cp03), .slice (Ap04) ((t_.Rels).length) (cp04), .slice (Ap05) ((t_.Cons).length) (cp05)]) hS rfl rfl Try.underlying26 rfl rfl rfl rfl) fun a hS => ?_
  refine l_seq rfl (l_call (cap := []) hS rfl Try.func9 rfl (by kernel_rfl) rfl rfl (c_solve_All n _ _ hS.lt t_ (Ap03) (cp03) (Ap04) (cp04) (Ap05) (cp05) (hS.fact (k := 101) rfl) (hS.fact (k := 102) rfl) (hS.fact (k := 103) rfl) 0 r14 hr14) ?_); clear hS a; intro v17 a w hK hp hS
  clear hK
  obtain ⟨Au18a1, cu18a1, rfl, hu18a1⟩ := hp
  replace hS := hS.add 105 (slF (Rep.list (Rep.num .i64)) (Au18a1) ((r14.1).length) (cu18a1) (r14.1)) hu18a1
  refine qq hS rfl (y_move hS rfl) fun a hS => ?_
  refine qq hS rfl (y_extract hS rfl rfl) fun a hS => ?_
  refine qq hS rfl (y_extract hS rfl rfl) fun a hS => ?_
  refine qq hS rfl (y_extract hS rfl rfl) fun a hS => ?_
  refine qq hS rfl (y_assign hS rfl) fun a hS => ?_
  refine qq hS rfl (y_assign hS rfl) fun a hS => ?_
  refine qq hS rfl (y_assign hS rfl) fun a hS => ?_
  apply wN
  apply wp_seq
  obtain ⟨hk19, hg⟩ := chk_some hg
  apply wp_region_lit
  refine qq hS rfl (y_move hS rfl) fun a hS => ?_
  have hu8 := (t_').toNat_lt
  refine qq hS rfl (y_conv hS rfl Try.underlying5 Try.underlying3 (in64.2 (by omega))) fun a hS => ?_
  clear hu8
  refine qq hS rfl (y_remN (i := t_'.toNat) (j := 10) hS rfl rfl (by decide)) fun a hS => ?_
  refine qq hS rfl (y_addN (i := 1) (j := (t_'.toNat % 10)) hS rfl rfl (in64.2 (by omega))) fun a hS => ?_
  refine qq hS rfl (y_assign hS rfl) fun a hS => ?_
  apply wN
  apply wp_seq
  obtain ⟨r20, hr20, hg⟩ := bind_some hg
  apply wp_region_lit
  refine qq hS rfl (y_loadBox (kk := 1000) (n := 5) (vs := [.int .i64 (t_.Top), .int .i64 (t_.Index), .slice (Ap03) ((t_.Vars).length) (cp03), .slice (Ap04) ((t_.Rels).length) (cp04), .slice (Ap05) ((t_.Cons).length) (cp05)]) hS rfl rfl Try.underlying26 rfl rfl rfl rfl) fun a hS => ?_
  refine qq hS rfl (y_move hS rfl) fun a hS => ?_
  refine l_seq rfl (l_call (cap := []) hS rfl Try.func9 rfl (by kernel_rfl) rfl rfl (c_solve_All n _ _ hS.lt t_ (Ap03) (cp03) (Ap04) (cp04) (Ap05) (cp05) (hS.fact (k := 101) rfl) (hS.fact (k := 102) rfl) (hS.fact (k := 103) rfl) ((1 + t_'.toNat % 10 : Nat) : Int) r20 hr20) ?_); clear hS a; intro v23 a w hK hp hS
  clear hK
  obtain ⟨Au24a1, cu24a1, rfl, hu24a1⟩ := hp
  replace hS := hS.add 107 (slF (Rep.list (Rep.num .i64)) (Au24a1) ((r20.1).length) (cu24a1) (r20.1)) hu24a1
  refine qq hS rfl (y_move hS rfl) fun a hS => ?_
  refine qq hS rfl (y_extract hS rfl rfl) fun a hS => ?_
  refine qq hS rfl (y_extract hS rfl rfl) fun a hS => ?_
  refine qq hS rfl (y_extract hS rfl rfl) fun a hS => ?_
  refine qq hS rfl (y_assign hS rfl) fun a hS => ?_
  refine qq hS rfl (y_assign hS rfl) fun a hS => ?_
  refine qq hS rfl (y_assign hS rfl) fun a hS => ?_
  apply wN
  apply wp_seq
  obtain ⟨r25, hr25, hg⟩ := bind_some hg
  apply wp_region_lit
  refine qq hS rfl (y_loadBox (kk := 1000) (n := 5) (vs := [.int .i64 (t_.Top), .int .i64 (t_.Index), .slice (Ap03) ((t_.Vars).length) (cp03), .slice (Ap04) ((t_.Rels).length) (cp04), .slice (Ap05) ((t_.Cons).length) (cp05)]) hS rfl rfl Try.underlying26 rfl rfl rfl rfl) fun a hS => ?_
  refine l_seq rfl (l_call (cap := []) hS rfl Try.func15 rfl (by kernel_rfl) rfl rfl (c_solve_First n _ _ hS.lt t_ (Ap03) (cp03) (Ap04) (cp04) (Ap05) (cp05) (hS.fact (k := 101) rfl) (hS.fact (k := 102) rfl) (hS.fact (k := 103) rfl) r25 hr25) ?_); clear hS a; intro v28 a w hK hp hS
  clear hK
  obtain ⟨Au29a1, cu29a1, rfl, hu29a1⟩ := hp
  replace hS := hS.add 109 (slF (Rep.num .i64) (Au29a1) ((r25.1).length) (cu29a1) (r25.1)) hu29a1
  refine qq hS rfl (y_move hS rfl) fun a hS => ?_
  refine qq hS rfl (y_extract hS rfl rfl) fun a hS => ?_
  refine qq hS rfl (y_extract hS rfl rfl) fun a hS => ?_
  refine qq hS rfl (y_assign hS rfl) fun a hS => ?_
  refine qq hS rfl (y_assign hS rfl) fun a hS => ?_
  apply wN
  apply wp_seq
  obtain ⟨r30, hr30, hg⟩ := bind_some hg
  apply wp_region_lit
  refine qq hS rfl (y_loadBox (kk := 1000) (n := 5) (vs := [.int .i64 (t_.Top), .int .i64 (t_.Index), .slice (Ap03) ((t_.Vars).length) (cp03), .slice (Ap04) ((t_.Rels).length) (cp04), .slice (Ap05) ((t_.Cons).length) (cp05)]) hS rfl rfl Try.underlying26 rfl rfl rfl rfl) fun a hS => ?_
  refine l_seq rfl (l_call (cap := []) hS rfl Try.func16 rfl (by kernel_rfl) rfl rfl (c_solve_Count n _ _ hS.lt t_ (Ap03) (cp03) (Ap04) (cp04) (Ap05) (cp05) (hS.fact (k := 101) rfl) (hS.fact (k := 102) rfl) (hS.fact (k := 103) rfl) r30 hr30) ?_); clear hS a; intro v33 a w hK hp hS
  clear hK
  obtain rfl := hp
  refine qq hS rfl (y_move hS rfl) fun a hS => ?_
  refine qq hS rfl (y_extract hS rfl rfl) fun a hS => ?_
  refine qq hS rfl (y_extract hS rfl rfl) fun a hS => ?_
  refine qq hS rfl (y_assign hS rfl) fun a hS => ?_
  refine qq hS rfl (y_assign hS rfl) fun a hS => ?_
  apply wN
  apply wp_seq
  apply wp_seq
  obtain ⟨k35, hg, hk35⟩ := jn_some hg
  refine c_post (fun a w => ∃ (t_36 : Bool), k35 t_36 = some r ∧ St (⟨Try.f4.ntmps, M, noB, w0⟩ : Ctx) [(5, .slice (Au18a1) ((r14.1).length) (cu18a1)), (7, .int .i64 (r14.2.2)), (8, .int .i64 (((1 + t_'.toNat % 10 : Nat) : Int))), (9, .slice (Au24a1) ((r20.1).length) (cu24a1)), (10, .bool (r20.2.1)), (12, .slice (Au29a1) ((r25.1).length) (cu29a1)), (13, .int .i64 (r25.2)), (14, .int .i64 (r30.1)), (54, .bool (t_36))] [] [(105, slF (Rep.list (Rep.num .i64)) (Au18a1) ((r14.1).length) (cu18a1) (r14.1)), (107, slF (Rep.list (Rep.num .i64)) (Au24a1) ((r20.1).length) (cu24a1) (r20.1)), (109, slF (Rep.num .i64) (Au29a1) ((r25.1).length) (cu29a1) (r25.1))] a w) ?_ ?_
  ·rcases Decidable.em (r14.2.2 ≠ r20.2.2) with hs37 | hs37
   ·have hs37e : decide (r14.2.2 ≠ r20.2.2) = true := decide_eq_true hs37
    replace hg := br_t hg hs37
    apply wp_region_lit
    refine qq hS rfl (y_move hS rfl) fun a hS => ?_
    refine qq hS rfl (y_move hS rfl) fun a hS => ?_
    refine qq hS rfl (yl_b (y_neq hS rfl rfl) hs37e) fun a hS => ?_
    refine qq hS rfl (y_move hS rfl) fun a hS => ?_
    refine gn hS rfl fun a hS => ?_
    refine gn hS rfl fun a hS => ?_
    refine gn hS rfl fun a hS => ?_
    refine qq hS rfl (y_pick_t hS rfl rfl) fun a hS => ?_
    apply wN
    exact ⟨(true), hg, (hS.sb rfl rfl rfl)⟩
   ·have hs37e : decide (r14.2.2 ≠ r20.2.2) = false := decide_eq_false hs37
    replace hg := br_f hg hs37
    apply wp_region_lit
    refine qq hS rfl (y_move hS rfl) fun a hS => ?_
    refine qq hS rfl (y_move hS rfl) fun a hS => ?_
    refine qq hS rfl (yl_b (y_neq hS rfl rfl) hs37e) fun a hS => ?_
    refine qq hS rfl (y_move hS rfl) fun a hS => ?_
    refine gy hS rfl (y_move hS rfl) fun a hS => ?_
    refine gy hS rfl (y_move hS rfl) fun a hS => ?_
    refine gy hS rfl (y_neq hS rfl rfl) fun a hS => ?_
    refine qq hS rfl (y_pick_f hS rfl rfl) fun a hS => ?_
    apply wN
    exact ⟨(decide (r14.2.2 ≠ r30.2)), hg, (hS.sb rfl rfl rfl)⟩
  clear hS a; rintro a w ⟨t_36, hg, hS⟩
  subst hk35
  refine c_cond hS rfl (fun hc38 => ?_) (fun hc38 => ?_)
  ·replace hg := br_t hg hc38
   apply wR
   refine qq hS rfl (y_assign hS rfl) fun a hS => ?_
   apply wN
   apply wp_ret
   refine p_thenR ?_
   obtain rfl := Option.some.inj hg
   refine fin1 (fn := Try.f4) hS rfl (r_tmp hS rfl) ?_
   exact rfl
  ·replace hg := br_f hg (by rw [hc38]; exact Bool.false_ne_true)
   apply wp_skip
   refine p_norm ?_
   apply wp_seq
   apply wR
   refine qq hS rfl (y_move hS rfl) fun a hS => ?_
   refine qq hS rfl (y_neq hS rfl rfl) fun a hS => ?_
   apply wN
   refine c_dec hS rfl (fun hc39 => ?_) (fun hc39 => ?_)
   ·replace hg := br_t hg hc39
    apply wp_seq
    rcases Decidable.em (r25.2 = r14.2.2) with hs40 | hs40
    ·have hs40e : decide (r25.2 = r14.2.2) = true := decide_eq_true hs40
     replace hg := br_t hg hs40
     obtain ⟨r41, hr41, hg⟩ := bind_some hg
     apply wp_region_lit
     refine qq hS rfl (y_move hS rfl) fun a hS => ?_
     refine qq hS rfl (y_move hS rfl) fun a hS => ?_
     refine qq hS rfl (yl_b (y_eql hS rfl rfl) hs40e) fun a hS => ?_
     refine qq hS rfl (y_move hS rfl) fun a hS => ?_
     refine gl hS rfl (l_call (cap := []) hS rfl Try.func8 rfl (by kernel_rfl) rfl rfl (c_law42_exampleHolds n _ _ hS.lt  r41 hr41) ?_); clear hS a; intro v44 a w hK hp hS
     clear hK
     obtain rfl := hp
     refine qq hS rfl (y_pick_t hS rfl rfl) fun a hS => ?_
     refine qq hS rfl (y_assign hS rfl) fun a hS => ?_
     apply wN
     apply wp_ret
     refine p_thenR ?_
     obtain rfl := Option.some.inj hg
     refine fin1 (fn := Try.f4) hS rfl (r_tmp hS rfl) ?_
     exact rfl
    ·have hs40e : decide (r25.2 = r14.2.2) = false := decide_eq_false hs40
     replace hg := br_f hg hs40
     apply wp_region_lit
     refine qq hS rfl (y_move hS rfl) fun a hS => ?_
     refine qq hS rfl (y_move hS rfl) fun a hS => ?_
     refine qq hS rfl (yl_b (y_eql hS rfl rfl) hs40e) fun a hS => ?_
     refine qq hS rfl (y_move hS rfl) fun a hS => ?_
     refine gn hS rfl fun a hS => ?_
     refine qq hS rfl (y_pick_f hS rfl rfl) fun a hS => ?_
     refine qq hS rfl (y_assign hS rfl) fun a hS => ?_
     apply wN
     apply wp_ret
     refine p_thenR ?_
     obtain rfl := Option.some.inj hg
     refine fin1 (fn := Try.f4) hS rfl (r_tmp hS rfl) ?_
     exact rfl
   ·replace hg := br_f hg hc39
    apply wp_skip
    refine p_norm ?_
    apply wp_seq
    apply wp_seq
    obtain ⟨k46, hg, hk46⟩ := jn_some hg
    refine c_post (fun a w => ∃ (t_47 : Bool), k46 t_47 = some r ∧ St (⟨Try.f4.ntmps, M, noB, w0⟩ : Ctx) [(5, .slice (Au18a1) ((r14.1).length) (cu18a1)), (12, .slice (Au29a1) ((r25.1).length) (cu29a1)), (13, .int .i64 (r25.2)), (85, .bool (t_47))] [] [(105, slF (Rep.list (Rep.num .i64)) (Au18a1) ((r14.1).length) (cu18a1) (r14.1)), (109, slF (Rep.num .i64) (Au29a1) ((r25.1).length) (cu29a1) (r25.1))] a w) ?_ ?_
    ·rcases Bool.eq_false_or_eq_true (!(r20.2.1 == (decide ((1 + t_'.toNat % 10) < ((r14.1).length))))) with hs48 | hs48
     ·replace hg := br_t hg hs48
      apply wp_region_lit
      refine qq hS rfl (y_move hS rfl) fun a hS => ?_
      refine qq hS rfl (y_move hS rfl) fun a hS => ?_
      refine qq hS rfl (y_lenSlice hS rfl Try.underlying29) fun a hS => ?_
      refine qq hS rfl (y_move hS rfl) fun a hS => ?_
      refine qq hS rfl (y_gtrN (i := ((r14.1).length)) (j := (1 + t_'.toNat % 10)) hS rfl rfl) fun a hS => ?_
      refine qq hS rfl (yl_b (y_bne hS rfl rfl Try.underlying4) hs48) fun a hS => ?_
      refine qq hS rfl (y_move hS rfl) fun a hS => ?_
      refine gn hS rfl fun a hS => ?_
      refine gn hS rfl fun a hS => ?_
      refine gn hS rfl fun a hS => ?_
      refine gn hS rfl fun a hS => ?_
      refine gn hS rfl fun a hS => ?_
      refine gn hS rfl fun a hS => ?_
      refine gn hS rfl fun a hS => ?_
      refine gn hS rfl fun a hS => ?_
      refine gn hS rfl fun a hS => ?_
      refine qq hS rfl (y_pick_t hS rfl rfl) fun a hS => ?_
      refine qq hS rfl (y_move hS rfl) fun a hS => ?_
      refine gn hS rfl fun a hS => ?_
      refine gn hS rfl fun a hS => ?_
      refine gn hS rfl fun a hS => ?_
      refine gn hS rfl fun a hS => ?_
      refine qq hS rfl (y_pick_t hS rfl rfl) fun a hS => ?_
      apply wN
      exact ⟨(true), hg, (hS.sb rfl rfl rfl)⟩
     ·replace hg := br_f hg (by rw [hs48]; exact Bool.false_ne_true)
      obtain ⟨hk49, hg⟩ := chk_some hg
      obtain ⟨r50, hr50, hg⟩ := bind_some hg
      rcases Bool.eq_false_or_eq_true (!(r50)) with hs53 | hs53
      ·replace hg := br_t hg hs53
       apply wp_region_lit
       refine qq hS rfl (y_move hS rfl) fun a hS => ?_
       refine qq hS rfl (y_move hS rfl) fun a hS => ?_
       refine qq hS rfl (y_lenSlice hS rfl Try.underlying29) fun a hS => ?_
       refine qq hS rfl (y_move hS rfl) fun a hS => ?_
       refine qq hS rfl (y_gtrN (i := ((r14.1).length)) (j := (1 + t_'.toNat % 10)) hS rfl rfl) fun a hS => ?_
       refine qq hS rfl (yl_b (y_bne hS rfl rfl Try.underlying4) hs48) fun a hS => ?_
       refine qq hS rfl (y_move hS rfl) fun a hS => ?_
       refine gy hS rfl (y_move hS rfl) fun a hS => ?_
       refine gy hS rfl (y_move hS rfl) fun a hS => ?_
       refine gy hS rfl (y_move hS rfl) fun a hS => ?_
       refine gy hS rfl (y_move hS rfl) fun a hS => ?_
       refine gy hS rfl (y_lenSlice hS rfl Try.underlying29) fun a hS => ?_
       refine gy hS rfl (y_minN (i := (1 + t_'.toNat % 10)) (j := ((r14.1).length)) hS rfl rfl) fun a hS => ?_
       have hcap111 := (hS.fact (k := 105) rfl).cap
       refine gy hS rfl (y_cutH (xs := r14.1) (sz := 1) (i := (min (1 + t_'.toNat % 10) ((r14.1).length))) hS rfl rfl Try.underlying29 rfl rfl hk49 hcap111) fun a hS => ?_
       replace hS := hS.add 111 (slF (Rep.list (Rep.num .i64)) (Au18a1) (((r14.1).take (min (1 + t_'.toNat % 10) ((r14.1).length))).length) (cu18a1) ((r14.1).take (min (1 + t_'.toNat % 10) ((r14.1).length)))) (SlR.cutH (hS.fact (k := 105) rfl) (min (1 + t_'.toNat % 10) ((r14.1).length)) hk49)
       refine gl hS rfl (l_call (cap := []) hS rfl Try.func14 rfl (by kernel_rfl) rfl rfl (c_r42_Same n _ _ hS.lt r20.1 (Au24a1) (cu24a1) (hS.fact (k := 107) rfl) ((r14.1).take (min (1 + t_'.toNat % 10) ((r14.1).length))) (Au18a1) (cu18a1) (hS.fact (k := 111) rfl) r50 hr50) ?_); clear hS a; intro v54 a w hK hp hS
       clear hK
       obtain rfl := hp
       refine gy hS rfl (yl_b (y_not hS rfl) hs53) fun a hS => ?_
       refine qq hS rfl (y_pick_f hS rfl rfl) fun a hS => ?_
       refine qq hS rfl (y_move hS rfl) fun a hS => ?_
       refine gn hS rfl fun a hS => ?_
       refine gn hS rfl fun a hS => ?_
       refine gn hS rfl fun a hS => ?_
       refine gn hS rfl fun a hS => ?_
       refine qq hS rfl (y_pick_t hS rfl rfl) fun a hS => ?_
       apply wN
       exact ⟨(true), hg, (hS.sb rfl rfl rfl)⟩
      ·replace hg := br_f hg (by rw [hs53]; exact Bool.false_ne_true)
       apply wp_region_lit
       refine qq hS rfl (y_move hS rfl) fun a hS => ?_
       refine qq hS rfl (y_move hS rfl) fun a hS => ?_
       refine qq hS rfl (y_lenSlice hS rfl Try.underlying29) fun a hS => ?_
       refine qq hS rfl (y_move hS rfl) fun a hS => ?_
       refine qq hS rfl (y_gtrN (i := ((r14.1).length)) (j := (1 + t_'.toNat % 10)) hS rfl rfl) fun a hS => ?_
       refine qq hS rfl (yl_b (y_bne hS rfl rfl Try.underlying4) hs48) fun a hS => ?_
       refine qq hS rfl (y_move hS rfl) fun a hS => ?_
       refine gy hS rfl (y_move hS rfl) fun a hS => ?_
       refine gy hS rfl (y_move hS rfl) fun a hS => ?_
       refine gy hS rfl (y_move hS rfl) fun a hS => ?_
       refine gy hS rfl (y_move hS rfl) fun a hS => ?_
       refine gy hS rfl (y_lenSlice hS rfl Try.underlying29) fun a hS => ?_
       refine gy hS rfl (y_minN (i := (1 + t_'.toNat % 10)) (j := ((r14.1).length)) hS rfl rfl) fun a hS => ?_
       have hcap112 := (hS.fact (k := 105) rfl).cap
       refine gy hS rfl (y_cutH (xs := r14.1) (sz := 1) (i := (min (1 + t_'.toNat % 10) ((r14.1).length))) hS rfl rfl Try.underlying29 rfl rfl hk49 hcap112) fun a hS => ?_
       replace hS := hS.add 112 (slF (Rep.list (Rep.num .i64)) (Au18a1) (((r14.1).take (min (1 + t_'.toNat % 10) ((r14.1).length))).length) (cu18a1) ((r14.1).take (min (1 + t_'.toNat % 10) ((r14.1).length)))) (SlR.cutH (hS.fact (k := 105) rfl) (min (1 + t_'.toNat % 10) ((r14.1).length)) hk49)
       refine gl hS rfl (l_call (cap := []) hS rfl Try.func14 rfl (by kernel_rfl) rfl rfl (c_r42_Same n _ _ hS.lt r20.1 (Au24a1) (cu24a1) (hS.fact (k := 107) rfl) ((r14.1).take (min (1 + t_'.toNat % 10) ((r14.1).length))) (Au18a1) (cu18a1) (hS.fact (k := 112) rfl) r50 hr50) ?_); clear hS a; intro v56 a w hK hp hS
       clear hK
       obtain rfl := hp
       refine gy hS rfl (yl_b (y_not hS rfl) hs53) fun a hS => ?_
       refine qq hS rfl (y_pick_f hS rfl rfl) fun a hS => ?_
       refine qq hS rfl (y_move hS rfl) fun a hS => ?_
       refine gy hS rfl (y_move hS rfl) fun a hS => ?_
       refine gy hS rfl (y_move hS rfl) fun a hS => ?_
       refine gy hS rfl (y_lenSlice hS rfl Try.underlying29) fun a hS => ?_
       refine gy hS rfl (y_neq hS rfl rfl) fun a hS => ?_
       refine qq hS rfl (y_pick_f hS rfl rfl) fun a hS => ?_
       apply wN
       exact ⟨(decide (r30.1 ≠ (((r14.1).length : Nat) : Int))), hg, (hS.sb rfl rfl rfl)⟩
    clear hS a; rintro a w ⟨t_47, hg, hS⟩
    subst hk46
    refine c_cond hS rfl (fun hc58 => ?_) (fun hc58 => ?_)
    ·replace hg := br_t hg hc58
     apply wR
     refine qq hS rfl (y_assign hS rfl) fun a hS => ?_
     apply wN
     apply wp_ret
     refine p_thenR ?_
     obtain rfl := Option.some.inj hg
     refine fin1 (fn := Try.f4) hS rfl (r_tmp hS rfl) ?_
     exact rfl
    ·replace hg := br_f hg (by rw [hc58]; exact Bool.false_ne_true)
     apply wp_skip
     refine p_norm ?_
     apply wp_seq
     apply wR
     refine qq hS rfl (y_move hS rfl) fun a hS => ?_
     refine qq hS rfl (y_lenSlice hS rfl Try.underlying29) fun a hS => ?_
     refine qq hS rfl (y_eqlN (i := ((r14.1).length)) (j := 0) hS rfl rfl) fun a hS => ?_
     apply wN
     refine c_dec hS rfl (fun hc59 => ?_) (fun hc59 => ?_)
     ·replace hg := br_t hg hc59
      apply wp_seq
      rcases Decidable.em (r25.2 = 18) with hs60 | hs60
      ·have hs60e : decide (r25.2 = 18) = true := decide_eq_true hs60
       replace hg := br_t hg hs60
       obtain ⟨r61, hr61, hg⟩ := bind_some hg
       apply wp_region_lit
       refine qq hS rfl (y_move hS rfl) fun a hS => ?_
       refine qq hS rfl (yl_b (y_eql hS rfl rfl) hs60e) fun a hS => ?_
       refine qq hS rfl (y_move hS rfl) fun a hS => ?_
       refine gl hS rfl (l_call (cap := []) hS rfl Try.func8 rfl (by kernel_rfl) rfl rfl (c_law42_exampleHolds n _ _ hS.lt  r61 hr61) ?_); clear hS a; intro v64 a w hK hp hS
       clear hK
       obtain rfl := hp
       refine qq hS rfl (y_pick_t hS rfl rfl) fun a hS => ?_
       refine qq hS rfl (y_assign hS rfl) fun a hS => ?_
       apply wN
       apply wp_ret
       refine p_thenR ?_
       obtain rfl := Option.some.inj hg
       refine fin1 (fn := Try.f4) hS rfl (r_tmp hS rfl) ?_
       exact rfl
      ·have hs60e : decide (r25.2 = 18) = false := decide_eq_false hs60
       replace hg := br_f hg hs60
       apply wp_region_lit
       refine qq hS rfl (y_move hS rfl) fun a hS => ?_
       refine qq hS rfl (yl_b (y_eql hS rfl rfl) hs60e) fun a hS => ?_
       refine qq hS rfl (y_move hS rfl) fun a hS => ?_
       refine gn hS rfl fun a hS => ?_
       refine qq hS rfl (y_pick_f hS rfl rfl) fun a hS => ?_
       refine qq hS rfl (y_assign hS rfl) fun a hS => ?_
       apply wN
       apply wp_ret
       refine p_thenR ?_
       obtain rfl := Option.some.inj hg
       refine fin1 (fn := Try.f4) hS rfl (r_tmp hS rfl) ?_
       exact rfl
     ·replace hg := br_f hg hc59
      apply wp_skip
      refine p_norm ?_
      apply wp_seq
      rcases Decidable.em (r25.2 = 0) with hs66 | hs66
      ·have hs66e : decide (r25.2 = 0) = true := decide_eq_true hs66
       replace hg := br_t hg hs66
       obtain ⟨x68, hx68, hg⟩ := bind_some hg
       obtain ⟨r70, hr70, hg⟩ := bind_some hg
       rcases Bool.eq_false_or_eq_true (r70) with hs73 | hs73
       ·replace hg := br_t hg hs73
        obtain ⟨r74, hr74, hg⟩ := bind_some hg
        apply wp_region_lit
        refine qq hS rfl (y_move hS rfl) fun a hS => ?_
        refine qq hS rfl (yl_b (y_eql hS rfl rfl) hs66e) fun a hS => ?_
        refine qq hS rfl (y_move hS rfl) fun a hS => ?_
        refine gy hS rfl (y_move hS rfl) fun a hS => ?_
        refine gy hS rfl (y_move hS rfl) fun a hS => ?_
        obtain ⟨p77, hep77, hpp77⟩ := SlR.elemX (hS.fact (k := 105) rfl) hx68
        refine gy hS rfl (y_elem (sz := 1) (i := 0) hS rfl rfl Try.underlying29 rfl hep77 rfl (lt_of_get hx68)) fun a hS => ?_
        obtain ⟨hlq78, hmq78, csq78, hdq78, hcq78⟩ := hpp77
        obtain ⟨Aq781, nnq78, cq781, rfl, hq781⟩ := hdq78
        obtain rfl := hq781.len
        replace hS := hS.add 114 (slF (Rep.num .i64) (Aq781) ((x68).length) (cq781) (x68)) hq781
        refine gy hS rfl (y_ldp1 hS rfl hlq78 hmq78 (hcq78 0 _ rfl) Try.underlying33 rfl) fun a hS => ?_
        refine gl hS rfl (l_call (cap := []) hS rfl Try.func17 rfl (by kernel_rfl) rfl rfl (c_r41_Same n _ _ hS.lt r25.1 (Au29a1) (cu29a1) (hS.fact (k := 109) rfl) x68 (Aq781) (cq781) (hS.fact (k := 114) rfl) r70 hr70) ?_); clear hS a; intro v79 a w hK hp hS
        clear hK
        obtain rfl := hp.trans (congrArg Value.bool hs73)
        refine qq hS rfl (y_pick_t hS rfl rfl) fun a hS => ?_
        refine qq hS rfl (y_move hS rfl) fun a hS => ?_
        refine gl hS rfl (l_call (cap := []) hS rfl Try.func8 rfl (by kernel_rfl) rfl rfl (c_law42_exampleHolds n _ _ hS.lt  r74 hr74) ?_); clear hS a; intro v81 a w hK hp hS
        clear hK
        obtain rfl := hp
        refine qq hS rfl (y_pick_t hS rfl rfl) fun a hS => ?_
        refine qq hS rfl (y_assign hS rfl) fun a hS => ?_
        apply wN
        apply wp_ret
        obtain rfl := Option.some.inj hg
        refine fin1 (fn := Try.f4) hS rfl (r_tmp hS rfl) ?_
        exact rfl
       ·replace hg := br_f hg (by rw [hs73]; exact Bool.false_ne_true)
        apply wp_region_lit
        refine qq hS rfl (y_move hS rfl) fun a hS => ?_
        refine qq hS rfl (yl_b (y_eql hS rfl rfl) hs66e) fun a hS => ?_
        refine qq hS rfl (y_move hS rfl) fun a hS => ?_
        refine gy hS rfl (y_move hS rfl) fun a hS => ?_
        refine gy hS rfl (y_move hS rfl) fun a hS => ?_
        obtain ⟨p83, hep83, hpp83⟩ := SlR.elemX (hS.fact (k := 105) rfl) hx68
        refine gy hS rfl (y_elem (sz := 1) (i := 0) hS rfl rfl Try.underlying29 rfl hep83 rfl (lt_of_get hx68)) fun a hS => ?_
        obtain ⟨hlq84, hmq84, csq84, hdq84, hcq84⟩ := hpp83
        obtain ⟨Aq841, nnq84, cq841, rfl, hq841⟩ := hdq84
        obtain rfl := hq841.len
        replace hS := hS.add 115 (slF (Rep.num .i64) (Aq841) ((x68).length) (cq841) (x68)) hq841
        refine gy hS rfl (y_ldp1 hS rfl hlq84 hmq84 (hcq84 0 _ rfl) Try.underlying33 rfl) fun a hS => ?_
        refine gl hS rfl (l_call (cap := []) hS rfl Try.func17 rfl (by kernel_rfl) rfl rfl (c_r41_Same n _ _ hS.lt r25.1 (Au29a1) (cu29a1) (hS.fact (k := 109) rfl) x68 (Aq841) (cq841) (hS.fact (k := 115) rfl) r70 hr70) ?_); clear hS a; intro v85 a w hK hp hS
        clear hK
        obtain rfl := hp.trans (congrArg Value.bool hs73)
        refine qq hS rfl (y_pick_t hS rfl rfl) fun a hS => ?_
        refine qq hS rfl (y_move hS rfl) fun a hS => ?_
        refine gn hS rfl fun a hS => ?_
        refine qq hS rfl (y_pick_f hS rfl rfl) fun a hS => ?_
        refine qq hS rfl (y_assign hS rfl) fun a hS => ?_
        apply wN
        apply wp_ret
        obtain rfl := Option.some.inj hg
        refine fin1 (fn := Try.f4) hS rfl (r_tmp hS rfl) ?_
        exact rfl
      ·have hs66e : decide (r25.2 = 0) = false := decide_eq_false hs66
       replace hg := br_f hg hs66
       apply wp_region_lit
       refine qq hS rfl (y_move hS rfl) fun a hS => ?_
       refine qq hS rfl (yl_b (y_eql hS rfl rfl) hs66e) fun a hS => ?_
       refine qq hS rfl (y_move hS rfl) fun a hS => ?_
       refine gn hS rfl fun a hS => ?_
       refine gn hS rfl fun a hS => ?_
       refine gn hS rfl fun a hS => ?_
       refine gn hS rfl fun a hS => ?_
       refine gn hS rfl fun a hS => ?_
       refine qq hS rfl (y_pick_f hS rfl rfl) fun a hS => ?_
       refine qq hS rfl (y_move hS rfl) fun a hS => ?_
       refine gn hS rfl fun a hS => ?_
       refine qq hS rfl (y_pick_f hS rfl rfl) fun a hS => ?_
       refine qq hS rfl (y_assign hS rfl) fun a hS => ?_
       apply wN
       apply wp_ret
       obtain rfl := Option.some.inj hg
       refine fin1 (fn := Try.f4) hS rfl (r_tmp hS rfl) ?_
       exact rfl
end Go.Proofs.Ytdicfdfncbmmpaa
