/- Chapter 37: the walks, part 9 -/
import Derived.Test.YthgdajiipojnoaaDoorW8
namespace Go.Proofs.YthgdajiipojnoaaDoor
open Go.Gl Go.RowKit Tryd
set_option linter.unusedVariables false
set_option linter.unusedSimpArgs false
set_option maxRecDepth 4000

set_option maxHeartbeats 400000 in
theorem c_r37_Best (n : Nat) (M : Bs) (w0 : World) (hM : ∀ b, M b → b < w0.heap.size) (m_ : Model) (Ap01 : Option Addr) (cp01 : Nat) (hp01 : SlR RWeight M w0 Ap01 (m_.Weights).length cp01 (m_.Weights)) (l_ : (List Deriv)) (Ap11 : Option Addr) (cp11 : Nat) (hp11 : SlR RDeriv M w0 Ap11 (l_).length cp11 (l_)) (r : Int) (hg : r37_Best n m_ l_ = some r) :
    Calls Tryd.prog 20 [.agg #[.slice (Ap01) ((m_.Weights).length) (cp01)], .slice (Ap11) ((l_).length) (cp11)].toArray w0 (Ret noB w0 fun v w => v = .int .i64 (r)) := by
 unfold r37_Best at hg
 refine enter M noB func20 rfl rfl hM ?_
 intro a s
 replace s := s.es 101 hp01
 replace s := s.es 102 hp11
 apply wR
 refine l_seq rfl (l_box (zs := [sl Ap01 (m_.Weights) cp01]) s 1000 rfl rfl rfl rfl fun b2 a w hb hK s => ?_)
 refine asg s rfl rfl fun a s => ?_
 apply wN
 apply wR
 refine asg s rfl rfl fun a s => ?_
 apply wN
 apply wQ
 apply wR
 refine asg s rfl rfl fun a s => ?_
 apply wN
 apply wp_block
 refine c_loop (σ := Nat) (fun m1 a w => ∃ (b_3 : Int) (i_4 : Nat), r37_Best_L0 n m_ l_ m1 b_3 i_4 = some r ∧ St (⟨Tryd.f20.ntmps, M, noB, w0⟩ : Ctx) [(1, sl Ap11 (l_) cp11), (2, vP b2 0), (5, vI b_3), (6, vI (((i_4 : Nat) : Int)))] [(1000, Ob.box b2 [sl Ap01 (m_.Weights) cp01] 24)] [(101, slF RWeight (Ap01) ((m_.Weights).length) (cp01) (m_.Weights)), (102, slF RDeriv (Ap11) ((l_).length) (cp11) (l_))] a w) (fun m1 => m1) n ⟨(-1), (0), hg, (s.sb rfl rfl rfl)⟩ ?_
 clear s a; rintro m1 a w ⟨b_3, i_4, hg, s⟩
 rcases m1 with _ | m1
 ·rw [r37_Best_L0] at hg; cases hg
 rw [r37_Best_L0] at hg
 apply wQ
 apply wR
 refine mv s rfl rfl fun a s => ?_
 refine mv s rfl rfl fun a s => ?_
 refine qq s rfl (y_lenSlice s rfl underlying29) fun a s => ?_
 refine qq s rfl (y_lssN (i := i_4) (j := ((l_).length)) s rfl rfl) fun a s => ?_
 apply wN
 refine c_dec s rfl (fun hc5 => ?_) (fun hc5 => ?_)
 ·replace hg := br_t hg hc5
  have hmx6 := SlR.mx (s.ft 102 rfl)
  apply wp_skip
  apply pN
  apply wQ
  apply wp_block
  apply wQ
  apply wR
  refine mv s rfl rfl fun a s => ?_
  refine qq s rfl (y_lss s rfl rfl) fun a s => ?_
  apply wN
  refine c_dec s rfl (fun hc7 => ?_) (fun hc7 => ?_)
  ·replace hg := br_t hg hc7
   apply wR
   refine mv s rfl rfl fun a s => ?_
   refine asg s rfl rfl fun a s => ?_
   apply wN
   apply wp_exit
   refine p_then ?_
   refine p_in ?_
   apply pN
   apply wL
   refine mv s rfl rfl fun a s => ?_
   refine qq s rfl (y_addN (i := i_4) (j := 1) s rfl rfl (in64.2 (by omega))) fun a s => ?_
   refine asg s rfl rfl fun a s => ?_
   apply wN
   exact ⟨m1, Nat.lt_succ_self _, ⟨(((i_4 : Nat) : Int)), (i_4 + 1), hg, (s.sb rfl rfl rfl)⟩⟩
  replace hg := br_f hg hc7
  apply wp_skip
  apply pN
  apply wQ
  obtain ⟨x9, hx9, hg⟩ := bind_some hg
  obtain ⟨r11, hr11, hg⟩ := bind_some hg
  refine d_plan s [] [(0, some 1000), (1, some 0), (2, some 0), (3, some 0), (4, some 0), (5, none), (6, none)] rfl (by kernel_rfl) (by kernel_rfl) rfl ?_; clear s; intro wr hZ s; have hR := s.wd
  refine qt s hR rfl (y_loadAll (kk := 1000) s rfl rfl underlying24 rfl rfl) fun a s => ?_
  refine qt s hR rfl (y_move s rfl) fun a s => ?_
  refine qt s hR rfl (y_move s rfl) fun a s => ?_
  obtain ⟨p14, hep14, hpp14⟩ := SlR.elemX (s.ft 102 rfl) hx9
  refine qt s hR rfl (y_elem (sz := 5) (i := i_4) s rfl rfl underlying29 rfl hep14 rfl (lt_of_get hx9)) fun a s => ?_
  obtain ⟨hlq15, hmq15, csq15, hdq15, hcq15⟩ := hpp14
  obtain ⟨Aq155, cq155, rfl, lq152, hq155⟩ := RDeriv.open hdq15
  replace s := s.ns 104 hq155
  refine qt s hR rfl (y_ldp s rfl hlq15 hmq15 (by simpa using hcq15) underlying31 rfl rfl) fun a s => ?_
  refine l_take s rfl rfl (l_call (cap := []) s rfl func18 rfl (by kernel_rfl) rfl rfl (c_r37_Score n _ _ s.lt m_ (Ap01) (cp01) (s.ft 101 rfl) x9 (Aq155) (cq155) (by omega) (s.ft 104 rfl) r11 hr11) fun v16 a w hK hp s => ?_)
  replace hZ := Nat.le_trans hZ hK.size; refine ⟨fun g _ h => h.grow hK, ?_⟩; clear hK
  obtain rfl := hp
  refine l_take s rfl rfl (l_quiet s rfl rfl (y_assign s rfl) fun a s => ?_); refine ⟨fun g _ h => h, ?_⟩
  clear hR hZ
  apply pN
  apply wQ
  obtain ⟨x19, hx19, hg⟩ := bind_some hg
  obtain ⟨r21, hr21, hg⟩ := bind_some hg
  refine d_plan s [] [(0, some 1000), (1, some 0), (2, some 0), (3, some 0), (4, some 0), (5, none), (6, none)] rfl (by kernel_rfl) (by kernel_rfl) rfl ?_; clear s; intro wr hZ s; have hR := s.wd
  refine qt s hR rfl (y_loadAll (kk := 1000) s rfl rfl underlying24 rfl rfl) fun a s => ?_
  refine qt s hR rfl (y_move s rfl) fun a s => ?_
  refine qt s hR rfl (y_move s rfl) fun a s => ?_
  obtain ⟨p24, hep24, hpp24⟩ := SlR.elemX (s.ft 102 rfl) (ix_some hx19).1
  refine qt s hR rfl (y_elem (sz := 5) (i := ((b_3).toNat)) s rfl rfl underlying29 rfl hep24 (ix_some hx19).2.1 (lt_of_get (ix_some hx19).1)) fun a s => ?_
  obtain ⟨hlq25, hmq25, csq25, hdq25, hcq25⟩ := hpp24
  obtain ⟨Aq255, cq255, rfl, lq252, hq255⟩ := RDeriv.open hdq25
  replace s := s.ns 106 hq255
  refine qt s hR rfl (y_ldp s rfl hlq25 hmq25 (by simpa using hcq25) underlying31 rfl rfl) fun a s => ?_
  refine l_take s rfl rfl (l_call (cap := []) s rfl func18 rfl (by kernel_rfl) rfl rfl (c_r37_Score n _ _ s.lt m_ (Ap01) (cp01) (s.ft 101 rfl) x19 (Aq255) (cq255) (by omega) (s.ft 106 rfl) r21 hr21) fun v26 a w hK hp s => ?_)
  replace hZ := Nat.le_trans hZ hK.size; refine ⟨fun g _ h => h.grow hK, ?_⟩; clear hK
  obtain rfl := hp
  refine l_take s rfl rfl (l_quiet s rfl rfl (y_assign s rfl) fun a s => ?_); refine ⟨fun g _ h => h, ?_⟩
  clear hR hZ
  apply pN
  apply wQ
  obtain ⟨k28, hg, hk28⟩ := jn_some hg
  refine c_post (fun a w => ∃ (t_29 : Bool), k28 t_29 = some r ∧ St (⟨Tryd.f20.ntmps, M, noB, w0⟩ : Ctx) [(1, sl Ap11 (l_) cp11), (2, vP b2 0), (5, vI b_3), (6, vI (((i_4 : Nat) : Int))), (49, .bool (t_29))] [(1000, Ob.box b2 [sl Ap01 (m_.Weights) cp01] 24)] [(101, slF RWeight (Ap01) ((m_.Weights).length) (cp01) (m_.Weights)), (102, slF RDeriv (Ap11) ((l_).length) (cp11) (l_))] a w) ?_ ?_
  ·rcases Decidable.em (r21 < r11) with hs30 | hs30
   ·have hs30e := decide_eq_true hs30
    replace hg := br_t hg hs30
    refine d_plan s [] [(0, some 0), (1, some 0), (2, some 0), (3, some 0), (4, some 0), (5, some 0), (6, some 0), (7, some 0), (8, some 0), (9, some 0), (10, some 0), (11, some 0), (12, some 0), (13, some 0), (14, some 0), (15, some 0), (16, some 0), (17, some 0), (18, some 0), (19, some 0)] rfl (by kernel_rfl) (by kernel_rfl) rfl ?_; clear s; intro wr hZ s; have hR := s.wd
    refine qt s hR rfl (y_move s rfl) fun a s => ?_
    refine qt s hR rfl (y_move s rfl) fun a s => ?_
    refine qt s hR rfl (yl_b (y_gtr s rfl rfl) hs30e) fun a s => ?_
    refine qt s hR rfl (y_move s rfl) fun a s => ?_
    refine q_pass s hR rfl rfl ⟨_, _, _, rfl, rfl, rfl, rfl⟩ rfl fun a s => ?_
    refine q_pass s hR rfl rfl ⟨_, _, _, rfl, rfl, rfl, rfl⟩ rfl fun a s => ?_
    refine q_pass s hR rfl rfl ⟨_, _, _, rfl, rfl, rfl, rfl⟩ rfl fun a s => ?_
    refine q_pass s hR rfl rfl ⟨_, _, _, rfl, rfl, rfl, rfl⟩ rfl fun a s => ?_
    refine q_pass s hR rfl rfl ⟨_, _, _, rfl, rfl, rfl, rfl⟩ rfl fun a s => ?_
    refine q_pass s hR rfl rfl ⟨_, _, _, rfl, rfl, rfl, rfl⟩ rfl fun a s => ?_
    refine q_pass s hR rfl rfl ⟨_, _, _, rfl, rfl, rfl, rfl⟩ rfl fun a s => ?_
    refine q_pass s hR rfl rfl ⟨_, _, _, rfl, rfl, rfl, rfl⟩ rfl fun a s => ?_
    refine q_pass s hR rfl rfl ⟨_, _, _, rfl, rfl, rfl, rfl⟩ rfl fun a s => ?_
    refine q_pass s hR rfl rfl ⟨_, _, _, rfl, rfl, rfl, rfl⟩ rfl fun a s => ?_
    refine q_pass s hR rfl rfl ⟨_, _, _, rfl, rfl, rfl, rfl⟩ rfl fun a s => ?_
    refine q_pass s hR rfl rfl ⟨_, _, _, rfl, rfl, rfl, rfl⟩ rfl fun a s => ?_
    refine q_pass s hR rfl rfl ⟨_, _, _, rfl, rfl, rfl, rfl⟩ rfl fun a s => ?_
    refine q_pass s hR rfl rfl ⟨_, _, _, rfl, rfl, rfl, rfl⟩ rfl fun a s => ?_
    refine q_pass s hR rfl rfl ⟨_, _, _, rfl, rfl, rfl, rfl⟩ rfl fun a s => ?_
    refine qt s hR rfl (y_pick_t s rfl rfl) fun a s => ?_
    clear hR hZ
    apply pN
    exact ⟨(true), hg, (s.sb rfl rfl rfl)⟩
   have hs30e := decide_eq_false hs30
   replace hg := br_f hg hs30
   rcases Decidable.em (r11 = r21) with hs31 | hs31
   ·have hs31e := decide_eq_true hs31
    replace hg := br_t hg hs31
    obtain ⟨r36, hr36, hg⟩ := bind_some hg
    refine d_plan s [] [(0, some 0), (1, some 0), (2, some 0), (3, some 0), (4, some 0), (5, some 0), (6, some 0), (7, some 0), (8, some 0), (9, some 0), (10, some 0), (11, some 0), (12, some 0), (13, some 0), (14, some 0), (15, some 0), (16, none), (17, none), (18, none), (19, none)] rfl (by kernel_rfl) (by kernel_rfl) rfl ?_; clear s; intro wr hZ s; have hR := s.wd
    refine qt s hR rfl (y_move s rfl) fun a s => ?_
    refine qt s hR rfl (y_move s rfl) fun a s => ?_
    refine qt s hR rfl (yl_b (y_gtr s rfl rfl) hs30e) fun a s => ?_
    refine qt s hR rfl (y_move s rfl) fun a s => ?_
    refine qg s hR rfl (y_move s rfl) fun a s => ?_
    refine qg s hR rfl (y_move s rfl) fun a s => ?_
    refine qg s hR rfl (yl_b (y_eql s rfl rfl) hs31e) fun a s => ?_
    refine qg s hR rfl (y_move s rfl) fun a s => ?_
    refine qg s hR rfl (y_move s rfl) fun a s => ?_
    refine qg s hR rfl (y_move s rfl) fun a s => ?_
    obtain ⟨p39, hep39, hpp39⟩ := SlR.elemX (s.ft 102 rfl) hx9
    refine qg s hR rfl (y_elem (sz := 5) (i := i_4) s rfl rfl underlying29 rfl hep39 rfl (lt_of_get hx9)) fun a s => ?_
    obtain ⟨hlq40, hmq40, csq40, hdq40, hcq40⟩ := hpp39
    obtain ⟨Aq405, cq405, rfl, lq402, hq405⟩ := RDeriv.open hdq40
    replace s := s.ns 109 hq405
    refine qg s hR rfl (y_ldp s rfl hlq40 hmq40 (by simpa using hcq40) underlying31 rfl rfl) fun a s => ?_
    refine qg s hR rfl (y_move s rfl) fun a s => ?_
    refine qg s hR rfl (y_move s rfl) fun a s => ?_
    obtain ⟨p41, hep41, hpp41⟩ := SlR.elemX (s.ft 102 rfl) (ix_some hx19).1
    refine qg s hR rfl (y_elem (sz := 5) (i := ((b_3).toNat)) s rfl rfl underlying29 rfl hep41 (ix_some hx19).2.1 (lt_of_get (ix_some hx19).1)) fun a s => ?_
    obtain ⟨hlq42, hmq42, csq42, hdq42, hcq42⟩ := hpp41
    obtain ⟨Aq425, cq425, rfl, lq422, hq425⟩ := RDeriv.open hdq42
    replace s := s.ns 110 hq425
    refine qg s hR rfl (y_ldp s rfl hlq42 hmq42 (by simpa using hcq42) underlying31 rfl rfl) fun a s => ?_
    refine l_take s rfl ⟨_, _, _, rfl, rfl, rfl, rfl⟩ (l_call (cap := []) s rfl func24 rfl (by kernel_rfl) rfl rfl (c_r28_Compare n _ _ s.lt x9 (Aq405) (cq405) (by omega) (s.ft 109 rfl) x19 (Aq425) (cq425) (by omega) (s.ft 110 rfl) r36 hr36) fun v43 a w hK hp s => ?_)
    replace hZ := Nat.le_trans hZ hK.size; refine ⟨fun g _ h => h.grow hK, ?_⟩; clear hK
    obtain rfl := hp
    refine l_take s rfl ⟨_, _, _, rfl, rfl, rfl, rfl⟩ (l_quiet s rfl rfl (y_lss s rfl rfl) fun a s => ?_); refine ⟨fun g _ h => h, ?_⟩
    refine l_take s rfl ⟨_, _, _, rfl, rfl, rfl, rfl⟩ (l_quiet s rfl rfl (y_pick_t s rfl rfl) fun a s => ?_); refine ⟨fun g _ h => h, ?_⟩
    refine l_take s rfl rfl (l_quiet s rfl rfl (y_pick_f s rfl rfl) fun a s => ?_); refine ⟨fun g _ h => h, ?_⟩
    clear hR hZ
    apply pN
    exact ⟨(decide (r36 < 0)), hg, (s.sb rfl rfl rfl)⟩
   have hs31e := decide_eq_false hs31
   replace hg := br_f hg hs31
   refine d_plan s [] [(0, some 0), (1, some 0), (2, some 0), (3, some 0), (4, some 0), (5, some 0), (6, some 0), (7, some 0), (8, some 0), (9, some 0), (10, some 0), (11, some 0), (12, some 0), (13, some 0), (14, some 0), (15, some 0), (16, some 0), (17, some 0), (18, some 0), (19, some 0)] rfl (by kernel_rfl) (by kernel_rfl) rfl ?_; clear s; intro wr hZ s; have hR := s.wd
   refine qt s hR rfl (y_move s rfl) fun a s => ?_
   refine qt s hR rfl (y_move s rfl) fun a s => ?_
   refine qt s hR rfl (yl_b (y_gtr s rfl rfl) hs30e) fun a s => ?_
   refine qt s hR rfl (y_move s rfl) fun a s => ?_
   refine qg s hR rfl (y_move s rfl) fun a s => ?_
   refine qg s hR rfl (y_move s rfl) fun a s => ?_
   refine qg s hR rfl (yl_b (y_eql s rfl rfl) hs31e) fun a s => ?_
   refine qg s hR rfl (y_move s rfl) fun a s => ?_
   refine q_pass s hR rfl rfl ⟨_, _, _, rfl, rfl, rfl, rfl⟩ rfl fun a s => ?_
   refine q_pass s hR rfl rfl ⟨_, _, _, rfl, rfl, rfl, rfl⟩ rfl fun a s => ?_
   refine q_pass s hR rfl rfl ⟨_, _, _, rfl, rfl, rfl, rfl⟩ rfl fun a s => ?_
   refine q_pass s hR rfl rfl ⟨_, _, _, rfl, rfl, rfl, rfl⟩ rfl fun a s => ?_
   refine q_pass s hR rfl rfl ⟨_, _, _, rfl, rfl, rfl, rfl⟩ rfl fun a s => ?_
   refine q_pass s hR rfl rfl ⟨_, _, _, rfl, rfl, rfl, rfl⟩ rfl fun a s => ?_
   refine q_pass s hR rfl rfl ⟨_, _, _, rfl, rfl, rfl, rfl⟩ rfl fun a s => ?_
   refine q_pass s hR rfl rfl ⟨_, _, _, rfl, rfl, rfl, rfl⟩ rfl fun a s => ?_
   refine q_pass s hR rfl rfl ⟨_, _, _, rfl, rfl, rfl, rfl⟩ rfl fun a s => ?_
   refine q_pass s hR rfl rfl ⟨_, _, _, rfl, rfl, rfl, rfl⟩ rfl fun a s => ?_
   refine qg s hR rfl (y_pick_f s rfl rfl) fun a s => ?_
   refine qt s hR rfl (y_pick_f s rfl rfl) fun a s => ?_
   clear hR hZ
   apply pN
   exact ⟨(false), hg, (s.sb rfl rfl rfl)⟩
  clear s a; rintro a w ⟨t_29, hg, s⟩
  subst hk28
  refine c_cond s rfl (fun hc45 => ?_) (fun hc45 => ?_)
  ·replace hg := br_t hg hc45
   apply wL
   refine mv s rfl rfl fun a s => ?_
   refine asg s rfl rfl fun a s => ?_
   apply wO
   refine p_inN ?_
   apply pN
   apply wL
   refine mv s rfl rfl fun a s => ?_
   refine qq s rfl (y_addN (i := i_4) (j := 1) s rfl rfl (in64.2 (by omega))) fun a s => ?_
   refine asg s rfl rfl fun a s => ?_
   apply wN
   exact ⟨m1, Nat.lt_succ_self _, ⟨(((i_4 : Nat) : Int)), (i_4 + 1), hg, (s.sb rfl rfl rfl)⟩⟩
  replace hg := br_n hg hc45
  apply wp_skip
  refine p_inN ?_
  apply pN
  apply wL
  refine mv s rfl rfl fun a s => ?_
  refine qq s rfl (y_addN (i := i_4) (j := 1) s rfl rfl (in64.2 (by omega))) fun a s => ?_
  refine asg s rfl rfl fun a s => ?_
  apply wN
  exact ⟨m1, Nat.lt_succ_self _, ⟨(b_3), (i_4 + 1), hg, (s.sb rfl rfl rfl)⟩⟩
 replace hg := br_f hg hc5
 apply wp_exit
 refine p_then ?_
 refine p_then ?_
 refine p_in ?_
 apply pN
 apply wR
 refine mv s rfl rfl fun a s => ?_
 refine asg s rfl rfl fun a s => ?_
 apply wN
 apply wp_ret
 obtain rfl := Option.some.inj hg
 refine fin1 (fn := Tryd.f20) s rfl (r_tmp s rfl) ?_
 exact rfl
set_option maxHeartbeats 400000 in
theorem c_law37_lightJudged (n : Nat) (M : Bs) (w0 : World) (hM : ∀ b, M b → b < w0.heap.size) (l_ : (List Judged)) (Ap01 : Option Addr) (cp01 : Nat) (hp01 : SlR RJudged M w0 Ap01 (l_).length cp01 (l_)) (most_ : Int) (r : Bool) (hg : law37_lightJudged n l_ most_ = some r) :
    Calls Tryd.prog 21 [.slice (Ap01) ((l_).length) (cp01), .int .i64 (most_)].toArray w0 (Ret noB w0 fun v w => v = .bool (r)) := by
 unfold law37_lightJudged at hg
 refine enter M noB func21 rfl rfl hM ?_
 intro a s
 replace s := s.es 101 hp01
 apply wR
 refine asg s rfl rfl fun a s => ?_
 apply wN
 apply wQ
 apply wR
 refine asg s rfl rfl fun a s => ?_
 apply wN
 obtain ⟨k1, hg, hk1⟩ := jn_some hg
 refine c_post (fun a w => k1 = some r ∧ St (⟨Tryd.f21.ntmps, M, noB, w0⟩ : Ctx) [(0, sl Ap01 (l_) cp01)] [] [(101, slF RJudged (Ap01) ((l_).length) (cp01) (l_))] a w) ?_ ?_
 ·apply wp_block
  refine c_loop (σ := Nat) (fun m1 a w => ∃ (i_2 : Nat), law37_lightJudged_L0 n l_ most_ k1 m1 i_2 = some r ∧ St (⟨Tryd.f21.ntmps, M, noB, w0⟩ : Ctx) [(0, sl Ap01 (l_) cp01), (1, vI most_), (5, vI (((i_2 : Nat) : Int)))] [] [(101, slF RJudged (Ap01) ((l_).length) (cp01) (l_))] a w) (fun m1 => m1) n ⟨(0), hg, (s.sb rfl rfl rfl)⟩ ?_
  clear s a; rintro m1 a w ⟨i_2, hg, s⟩
  rcases m1 with _ | m1
  ·rw [law37_lightJudged_L0] at hg; cases hg
  rw [law37_lightJudged_L0] at hg
  apply wQ
  apply wQ
  obtain ⟨k3, hg, hk3⟩ := jn_some hg
  refine c_post (fun a w => ∃ (t_4 : Bool), k3 t_4 = some r ∧ St (⟨Tryd.f21.ntmps, M, noB, w0⟩ : Ctx) [(0, sl Ap01 (l_) cp01), (1, vI most_), (5, vI (((i_2 : Nat) : Int))), (13, .bool (t_4))] [] [(101, slF RJudged (Ap01) ((l_).length) (cp01) (l_))] a w) ?_ ?_
  ·rcases Decidable.em (i_2 < ((l_).length)) with hs5 | hs5
   ·have hs5e := decide_eq_true hs5
    replace hg := br_t hg hs5
    have hmx6 := SlR.mx (s.ft 101 rfl)
    apply wL
    refine mv s rfl rfl fun a s => ?_
    refine mv s rfl rfl fun a s => ?_
    refine qq s rfl (y_lenSlice s rfl underlying40) fun a s => ?_
    refine qq s rfl (yl_b (y_lssN (i := i_2) (j := ((l_).length)) s rfl rfl) hs5e) fun a s => ?_
    refine mv s rfl rfl fun a s => ?_
    refine gm s rfl rfl fun a s => ?_
    refine gy s rfl (y_lssN (i := i_2) (j := 9) s rfl rfl) fun a s => ?_
    refine qq s rfl (y_pick_t s rfl rfl) fun a s => ?_
    apply wN
    exact ⟨(decide (i_2 < 9)), hg, (s.sb rfl rfl rfl)⟩
   have hs5e := decide_eq_false hs5
   replace hg := br_f hg hs5
   apply wL
   refine mv s rfl rfl fun a s => ?_
   refine mv s rfl rfl fun a s => ?_
   refine qq s rfl (y_lenSlice s rfl underlying40) fun a s => ?_
   refine qq s rfl (yl_b (y_lssN (i := i_2) (j := ((l_).length)) s rfl rfl) hs5e) fun a s => ?_
   refine mv s rfl rfl fun a s => ?_
   refine gn s rfl fun a s => ?_
   refine gn s rfl fun a s => ?_
   refine qq s rfl (y_pick_f s rfl rfl) fun a s => ?_
   apply wN
   exact ⟨(false), hg, (s.sb rfl rfl rfl)⟩
  clear s a; rintro a w ⟨t_4, hg, s⟩
  subst hk3
  refine c_cond s rfl (fun hc7 => ?_) (fun hc7 => ?_)
  ·replace hg := br_t hg hc7
   apply wp_skip
   apply pN
   apply wQ
   apply wp_block
   apply wQ
   obtain ⟨x9, hx9, hg⟩ := bind_some hg
   obtain ⟨r11, hr11, hg⟩ := bind_some hg
   apply wL
   refine mv s rfl rfl fun a s => ?_
   refine mv s rfl rfl fun a s => ?_
   obtain ⟨p14, hep14, hpp14⟩ := SlR.elemX (s.ft 101 rfl) hx9
   refine qq s rfl (y_elem (sz := 2) (i := i_2) s rfl rfl underlying40 rfl hep14 rfl (lt_of_get hx9)) fun a s => ?_
   refine qq s rfl (y_ptrField (o' := 0) s rfl underlying43 rfl rfl rfl) fun a s => ?_
   obtain ⟨hlq15, hmq15, csq15, hdq15, hcq15⟩ := hpp14
   obtain ⟨Aq151, cq151, rfl, hq151⟩ := RJudged.open hdq15
   replace s := s.ns 103 hq151
   refine qq s rfl (y_ldp1 s rfl hlq15 hmq15 (hcq15 0 _ rfl) underlying29 rfl) fun a s => ?_
   refine mv s rfl rfl fun a s => ?_
   refine l_seq rfl (l_call (cap := []) s rfl func16 rfl (by kernel_rfl) rfl rfl (c_r37_Light n _ _ s.lt x9.Readings (Aq151) (cq151) (s.ft 103 rfl) most_ r11 hr11) fun v16 a w hK hp s => ?_)
   obtain rfl := hp
   refine qq s rfl (y_not s rfl) fun a s => ?_
   apply wN
   refine c_cond s rfl (fun hc18 => ?_) (fun hc18 => ?_)
   ·replace hg := br_t hg hc18
    apply wR
    refine asg s rfl rfl fun a s => ?_
    apply wN
    apply wp_ret
    refine p_inR ?_
    refine p_thenR ?_
    refine p_thenR ?_
    refine p_inR ?_
    refine p_thenR ?_
    obtain rfl := Option.some.inj hg
    refine fin1 (fn := Tryd.f21) s rfl (r_tmp s rfl) ?_
    exact rfl
   replace hg := br_n hg hc18
   apply wp_skip
   refine p_inN ?_
   apply pN
   obtain ⟨hk19, hg⟩ := chk_some hg
   apply wL
   refine mv s rfl rfl fun a s => ?_
   refine qq s rfl (y_addN (i := i_2) (j := 1) s rfl rfl (in64.2 (by omega))) fun a s => ?_
   refine asg s rfl rfl fun a s => ?_
   apply wN
   exact ⟨m1, Nat.lt_succ_self _, ⟨(i_2 + 1), hg, (s.sb rfl rfl rfl)⟩⟩
  replace hg := br_n hg hc7
  apply wp_exit
  refine p_then ?_
  refine p_then ?_
  refine p_in ?_
  apply pN
  exact ⟨hg, (s.sb rfl rfl rfl)⟩
 clear s a; rintro a w ⟨hg, s⟩
 subst hk1
 apply wR
 refine mv s rfl rfl fun a s => ?_
 refine qq s rfl (y_lenSlice s rfl underlying40) fun a s => ?_
 refine qq s rfl (y_leqN (i := ((l_).length)) (j := 8) s rfl rfl) fun a s => ?_
 refine asg s rfl rfl fun a s => ?_
 apply wN
 apply wp_ret
 obtain rfl := Option.some.inj hg
 refine fin1 (fn := Tryd.f21) s rfl (r_tmp s rfl) ?_
 exact rfl
set_option maxHeartbeats 400000 in
theorem c_law37_named (n : Nat) : ∀ (M : Bs) (w0 : World) (hM : ∀ b, M b → b < w0.heap.size) (d_ : Deriv) (Ap05 : Option Addr) (cp05 : Nat) (lp02 : (d_.Name).length ≤ 9223372036854775807) (hp05 : SlR RDeriv M w0 Ap05 (d_.Kids).length cp05 (d_.Kids)) (r : Bool) (hg : law37_named n d_ = some r),
    Calls Tryd.prog 22 [.agg #[.int .i64 (d_.Kind), .string (bs (d_.Name)), .int .i64 (d_.From), .int .i64 (d_.To), .slice (Ap05) ((d_.Kids).length) (cp05)]].toArray w0 (Ret noB w0 fun v w => v = .bool (r)) := by
 induction n with
 | zero => intros; rename_i hg; rw [law37_named] at hg; cases hg
 | succ n c_self =>
 intro M w0 hM d_ Ap05 cp05 lp02 hp05 r hg
 rw [law37_named] at hg
 refine enter M noB func22 rfl rfl hM ?_
 intro a s
 replace s := s.es 101 hp05
 apply wR
 refine l_seq rfl (l_box (zs := [vI (d_.Kind), vT (d_.Name), vI (d_.From), vI (d_.To), sl Ap05 (d_.Kids) cp05]) s 1000 rfl rfl rfl rfl fun b2 a w hb hK s => ?_)
 refine asg s rfl rfl fun a s => ?_
 apply wN
 apply wQ
 apply wQ
 obtain ⟨k3, hg, hk3⟩ := jn_some hg
 refine c_post (fun a w => ∃ (t_4 : Bool), k3 t_4 = some r ∧ St (⟨Tryd.f22.ntmps, M, noB, w0⟩ : Ctx) [(1, vP b2 0), (13, .bool (t_4))] [(1000, Ob.box b2 [vI (d_.Kind), vT (d_.Name), vI (d_.From), vI (d_.To), sl Ap05 (d_.Kids) cp05] 31)] [(101, slF RDeriv (Ap05) ((d_.Kids).length) (cp05) (d_.Kids))] a w) ?_ ?_
 ·obtain ⟨r5, hr5, hg⟩ := bind_some hg
  rcases Bool.eq_false_or_eq_true (!(r5)) with hs8 | hs8
  ·replace hg := br_t hg hs8
   apply wL
   refine qq s rfl (y_boxField (o' := 1) s rfl underlying31 rfl rfl rfl) fun a s => ?_
   refine qq s rfl (y_loadBox1 (kk := 1000) s rfl rfl rfl underlying9 rfl) fun a s => ?_
   refine l_seq rfl (l_call (cap := []) s rfl func33 rfl (by kernel_rfl) rfl rfl (c_r01_Name n _ _ s.lt d_.Name (by omega) r5 hr5) fun v9 a w hK hp s => ?_)
   obtain rfl := hp
   refine qq s rfl (yl_b (y_not s rfl) hs8) fun a s => ?_
   refine mv s rfl rfl fun a s => ?_
   refine gn s rfl fun a s => ?_
   refine gn s rfl fun a s => ?_
   refine gn s rfl fun a s => ?_
   refine gn s rfl fun a s => ?_
   refine qq s rfl (y_pick_t s rfl rfl) fun a s => ?_
   apply wN
   exact ⟨(true), hg, (s.sb rfl rfl rfl)⟩
  replace hg := br_n hg hs8
  apply wL
  refine qq s rfl (y_boxField (o' := 1) s rfl underlying31 rfl rfl rfl) fun a s => ?_
  refine qq s rfl (y_loadBox1 (kk := 1000) s rfl rfl rfl underlying9 rfl) fun a s => ?_
  refine l_seq rfl (l_call (cap := []) s rfl func33 rfl (by kernel_rfl) rfl rfl (c_r01_Name n _ _ s.lt d_.Name (by omega) r5 hr5) fun v11 a w hK hp s => ?_)
  obtain rfl := hp
  refine qq s rfl (yl_b (y_not s rfl) hs8) fun a s => ?_
  refine mv s rfl rfl fun a s => ?_
  refine gy s rfl (y_boxField (o' := 4) s rfl underlying31 rfl rfl rfl) fun a s => ?_
  refine gy s rfl (y_loadBox1 (kk := 1000) s rfl rfl rfl underlying29 rfl) fun a s => ?_
  refine gy s rfl (y_lenSlice s rfl underlying29) fun a s => ?_
  refine gy s rfl (y_gtrN (i := ((d_.Kids).length)) (j := 2) s rfl rfl) fun a s => ?_
  refine qq s rfl (y_pick_f s rfl rfl) fun a s => ?_
  apply wN
  exact ⟨(decide ((2 : Nat) < ((d_.Kids).length))), hg, (s.sb rfl rfl rfl)⟩
 clear s a; rintro a w ⟨t_4, hg, s⟩
 subst hk3
 refine c_cond s rfl (fun hc13 => ?_) (fun hc13 => ?_)
 ·replace hg := br_t hg hc13
  apply wR
  refine asg s rfl rfl fun a s => ?_
  apply wN
  apply wp_ret
  refine p_thenR ?_
  obtain rfl := Option.some.inj hg
  refine fin1 (fn := Tryd.f22) s rfl (r_tmp s rfl) ?_
  exact rfl
 replace hg := br_n hg hc13
 apply wp_skip
 apply pN
 apply wQ
 apply wR
 refine qq s rfl (y_boxField (o' := 4) s rfl underlying31 rfl rfl rfl) fun a s => ?_
 refine qq s rfl (y_loadBox1 (kk := 1000) s rfl rfl rfl underlying29 rfl) fun a s => ?_
 refine qq s rfl (y_lenSlice s rfl underlying29) fun a s => ?_
 refine mv s rfl rfl fun a s => ?_
 apply wN
 apply wp_block
 refine c_loop (σ := Nat) (fun m1 a w => ∃ (t_14 : Nat), law37_named_L0 n d_ (law37_named n) m1 t_14 = some r ∧ St (⟨Tryd.f22.ntmps, M, noB, w0⟩ : Ctx) [(1, vP b2 0), (16, vI ((((d_.Kids).length : Nat) : Int))), (17, vI (((t_14 : Nat) : Int)))] [(1000, Ob.box b2 [vI (d_.Kind), vT (d_.Name), vI (d_.From), vI (d_.To), sl Ap05 (d_.Kids) cp05] 31)] [(101, slF RDeriv (Ap05) ((d_.Kids).length) (cp05) (d_.Kids))] a w) (fun m1 => m1) n ⟨(0), hg, (s.sb rfl rfl rfl)⟩ ?_
 clear s a; rintro m1 a w ⟨t_14, hg, s⟩
 rcases m1 with _ | m1
 ·rw [law37_named_L0] at hg; cases hg
 rw [law37_named_L0] at hg
 apply wR
 refine qq s rfl (y_lssN (i := t_14) (j := ((d_.Kids).length)) s rfl rfl) fun a s => ?_
 apply wN
 apply wQ
 refine c_dec s rfl (fun hc15 => ?_) (fun hc15 => ?_)
 ·replace hg := br_t hg hc15
  have hmx16 := SlR.mx (s.ft 101 rfl)
  apply wp_skip
  apply pN
  apply wQ
  apply wp_block
  apply wR
  refine mv s rfl rfl fun a s => ?_
  refine asg s rfl rfl fun a s => ?_
  apply wN
  apply wQ
  obtain ⟨x18, hx18, hg⟩ := bind_some hg
  obtain ⟨r20, hr20, hg⟩ := bind_some hg
  apply wL
  refine qq s rfl (y_boxField (o' := 4) s rfl underlying31 rfl rfl rfl) fun a s => ?_
  refine qq s rfl (y_loadBox1 (kk := 1000) s rfl rfl rfl underlying29 rfl) fun a s => ?_
  refine mv s rfl rfl fun a s => ?_
  obtain ⟨p23, hep23, hpp23⟩ := SlR.elemX (s.ft 101 rfl) hx18
  refine qq s rfl (y_elem (sz := 5) (i := t_14) s rfl rfl underlying29 rfl hep23 rfl (lt_of_get hx18)) fun a s => ?_
  obtain ⟨hlq24, hmq24, csq24, hdq24, hcq24⟩ := hpp23
  obtain ⟨Aq245, cq245, rfl, lq242, hq245⟩ := RDeriv.open hdq24
  replace s := s.ns 103 hq245
  refine qq s rfl (y_ldp s rfl hlq24 hmq24 (by simpa using hcq24) underlying31 rfl rfl) fun a s => ?_
  refine l_seq rfl (l_call (cap := []) s rfl func22 rfl (by kernel_rfl) rfl rfl (c_self _ _ s.lt x18 (Aq245) (cq245) (by omega) (s.ft 103 rfl) r20 hr20) fun v25 a w hK hp s => ?_)
  obtain rfl := hp
  refine qq s rfl (y_not s rfl) fun a s => ?_
  apply wN
  refine c_cond s rfl (fun hc27 => ?_) (fun hc27 => ?_)
  ·replace hg := br_t hg hc27
   apply wR
   refine asg s rfl rfl fun a s => ?_
   apply wN
   apply wp_ret
   refine p_inR ?_
   refine p_thenR ?_
   refine p_thenR ?_
   refine p_inR ?_
   refine p_thenR ?_
   obtain rfl := Option.some.inj hg
   refine fin1 (fn := Tryd.f22) s rfl (r_tmp s rfl) ?_
   exact rfl
  replace hg := br_n hg hc27
  apply wp_skip
  refine p_inN ?_
  apply pN
  apply wL
  refine qq s rfl (y_addN (i := t_14) (j := 1) s rfl rfl (in64.2 (by omega))) fun a s => ?_
  refine mv s rfl rfl fun a s => ?_
  apply wN
  exact ⟨m1, Nat.lt_succ_self _, ⟨(t_14 + 1), hg, (s.sb rfl rfl rfl)⟩⟩
 replace hg := br_f hg hc15
 apply wp_exit
 refine p_then ?_
 refine p_then ?_
 refine p_in ?_
 apply pN
 apply wR
 refine asg s rfl rfl fun a s => ?_
 apply wN
 apply wp_ret
 obtain rfl := Option.some.inj hg
 refine fin1 (fn := Tryd.f22) s rfl (r_tmp s rfl) ?_
 exact rfl
end Go.Proofs.YthgdajiipojnoaaDoor
