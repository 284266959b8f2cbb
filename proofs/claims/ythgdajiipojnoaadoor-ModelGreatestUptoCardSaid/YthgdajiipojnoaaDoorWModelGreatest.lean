/- Chapter 37: the walk of ModelGreatest -/
import Derived.Test.YthgdajiipojnoaaDoorW9
import Derived.Test.YthgdajiipojnoaaDoorGl27
namespace Go.Proofs.YthgdajiipojnoaaDoor
open Go.Gl Go.RowKit Tryd
set_option linter.unusedVariables false
set_option linter.unusedSimpArgs false
set_option maxRecDepth 4000

set_option maxHeartbeats 400000 in
theorem c_law37_ModelGreatest (n : Nat) (M : Bs) (w0 : World) (hM : ∀ b, M b → b < w0.heap.size) (t_ : Model) (Ap01 : Option Addr) (cp01 : Nat) (hp01 : SlR RWeight M w0 Ap01 (t_.Weights).length cp01 (t_.Weights)) (t_' : (List Deriv)) (Ap11 : Option Addr) (cp11 : Nat) (hp11 : SlR RDeriv M w0 Ap11 (t_').length cp11 (t_')) (r : Bool) (hg : law37_ModelGreatest n t_ t_' = some r) :
    Calls Tryd.prog 7 [.agg #[.slice (Ap01) ((t_.Weights).length) (cp01)], .slice (Ap11) ((t_').length) (cp11)].toArray w0 (Ret noB w0 fun v w => v = .bool (r)) := by
 unfold law37_ModelGreatest at hg
 refine enter M noB func7 rfl rfl hM ?_
 intro a s
 replace s := s.es 101 hp01
 replace s := s.es 102 hp11
 apply wR
 refine l_seq rfl (l_box (zs := [sl Ap01 (t_.Weights) cp01]) s 1000 rfl rfl rfl rfl fun b2 a w hb hK s => ?_)
 refine asg s rfl rfl fun a s => ?_
 apply wN
 apply wQ
 apply wQ
 obtain ⟨k3, hg, hk3⟩ := jn_some hg
 refine c_post (fun a w => ∃ (t_4 : Bool), k3 t_4 = some r ∧ St (⟨Tryd.f7.ntmps, M, noB, w0⟩ : Ctx) [(1, sl Ap11 (t_') cp11), (2, vP b2 0), (22, .bool (t_4))] [(1000, Ob.box b2 [sl Ap01 (t_.Weights) cp01] 24)] [(101, slF RWeight (Ap01) ((t_.Weights).length) (cp01) (t_.Weights)), (102, slF RDeriv (Ap11) ((t_').length) (cp11) (t_'))] a w) ?_ ?_
 ·rcases Decidable.em ((60 : Nat) < ((t_.Weights).length)) with hs5 | hs5
  ·have hs5e := decide_eq_true hs5
   replace hg := br_t hg hs5
   have hmx6 := SlR.mx (s.ft 101 rfl)
   apply wL
   refine qq s rfl (y_boxField (o' := 0) s rfl underlying24 rfl rfl rfl) fun a s => ?_
   refine qq s rfl (y_loadBox1 (kk := 1000) s rfl rfl rfl underlying22 rfl) fun a s => ?_
   refine qq s rfl (y_lenSlice s rfl underlying22) fun a s => ?_
   refine qq s rfl (yl_b (y_gtrN (i := ((t_.Weights).length)) (j := 60) s rfl rfl) hs5e) fun a s => ?_
   refine mv s rfl rfl fun a s => ?_
   refine gn s rfl fun a s => ?_
   refine gn s rfl fun a s => ?_
   refine gn s rfl fun a s => ?_
   refine qq s rfl (y_pick_t s rfl rfl) fun a s => ?_
   refine mv s rfl rfl fun a s => ?_
   refine gn s rfl fun a s => ?_
   refine gn s rfl fun a s => ?_
   refine gn s rfl fun a s => ?_
   refine qq s rfl (y_pick_t s rfl rfl) fun a s => ?_
   apply wN
   exact ⟨(true), hg, (s.sb rfl rfl rfl)⟩
  have hs5e := decide_eq_false hs5
  replace hg := br_f hg hs5
  obtain ⟨r7, hr7, hg⟩ := bind_some hg
  rcases Bool.eq_false_or_eq_true (!(r7)) with hs10 | hs10
  ·replace hg := br_t hg hs10
   apply wL
   refine qq s rfl (y_boxField (o' := 0) s rfl underlying24 rfl rfl rfl) fun a s => ?_
   refine qq s rfl (y_loadBox1 (kk := 1000) s rfl rfl rfl underlying22 rfl) fun a s => ?_
   refine qq s rfl (y_lenSlice s rfl underlying22) fun a s => ?_
   refine qq s rfl (yl_b (y_gtrN (i := ((t_.Weights).length)) (j := 60) s rfl rfl) hs5e) fun a s => ?_
   refine mv s rfl rfl fun a s => ?_
   refine gm s rfl rfl fun a s => ?_
   refine gl s rfl (l_call (cap := []) s rfl func16 rfl (by kernel_rfl) rfl rfl (c_r37_Light n _ _ s.lt t_' (Ap11) (cp11) (s.ft 102 rfl) 120 r7 hr7) fun v11 a w hK hp s => ?_)
   obtain rfl := hp
   refine gy s rfl (yl_b (y_not s rfl) hs10) fun a s => ?_
   refine qq s rfl (y_pick_f s rfl rfl) fun a s => ?_
   refine mv s rfl rfl fun a s => ?_
   refine gn s rfl fun a s => ?_
   refine gn s rfl fun a s => ?_
   refine gn s rfl fun a s => ?_
   refine qq s rfl (y_pick_t s rfl rfl) fun a s => ?_
   apply wN
   exact ⟨(true), hg, (s.sb rfl rfl rfl)⟩
  replace hg := br_n hg hs10
  obtain ⟨r13, hr13, hg⟩ := bind_some hg
  apply wL
  refine qq s rfl (y_boxField (o' := 0) s rfl underlying24 rfl rfl rfl) fun a s => ?_
  refine qq s rfl (y_loadBox1 (kk := 1000) s rfl rfl rfl underlying22 rfl) fun a s => ?_
  refine qq s rfl (y_lenSlice s rfl underlying22) fun a s => ?_
  refine qq s rfl (yl_b (y_gtrN (i := ((t_.Weights).length)) (j := 60) s rfl rfl) hs5e) fun a s => ?_
  refine mv s rfl rfl fun a s => ?_
  refine gm s rfl rfl fun a s => ?_
  refine gl s rfl (l_call (cap := []) s rfl func16 rfl (by kernel_rfl) rfl rfl (c_r37_Light n _ _ s.lt t_' (Ap11) (cp11) (s.ft 102 rfl) 120 r7 hr7) fun v16 a w hK hp s => ?_)
  obtain rfl := hp
  refine gy s rfl (yl_b (y_not s rfl) hs10) fun a s => ?_
  refine qq s rfl (y_pick_f s rfl rfl) fun a s => ?_
  refine mv s rfl rfl fun a s => ?_
  refine gy s rfl (y_loadAll (kk := 1000) s rfl rfl underlying24 rfl rfl) fun a s => ?_
  refine gl s rfl (l_call (cap := []) s rfl func12 rfl (by kernel_rfl) rfl rfl (c_r37_Check n _ _ s.lt t_ (Ap01) (cp01) (s.ft 101 rfl) r13 hr13) fun v18 a w hK hp s => ?_)
  obtain rfl := hp
  refine gy s rfl (y_neq s rfl rfl) fun a s => ?_
  refine qq s rfl (y_pick_f s rfl rfl) fun a s => ?_
  apply wN
  exact ⟨(decide (r13 ≠ 0)), hg, (s.sb rfl rfl rfl)⟩
 clear s a; rintro a w ⟨t_4, hg, s⟩
 subst hk3
 refine c_cond s rfl (fun hc20 => ?_) (fun hc20 => ?_)
 ·replace hg := br_t hg hc20
  apply wQ
  obtain ⟨r21, hr21, hg⟩ := bind_some hg
  apply wL
  refine l_seq rfl (l_call (cap := []) s rfl func10 rfl (by kernel_rfl) rfl rfl (c_law37_exampleHolds n _ _ s.lt  r21 hr21) fun v24 a w hK hp s => ?_)
  obtain rfl := hp
  refine asg s rfl rfl fun a s => ?_
  apply wN
  apply wp_ret
  refine p_thenR ?_
  obtain rfl := Option.some.inj hg
  refine fin1 (fn := Tryd.f7) s rfl (r_tmp s rfl) ?_
  exact rfl
 replace hg := br_n hg hc20
 apply wp_skip
 apply pN
 apply wQ
 obtain ⟨r26, hr26, hg⟩ := bind_some hg
 apply wL
 refine qq s rfl (y_loadAll (kk := 1000) s rfl rfl underlying24 rfl rfl) fun a s => ?_
 refine mv s rfl rfl fun a s => ?_
 refine l_seq rfl (l_call (cap := []) s rfl func19 rfl (by kernel_rfl) rfl rfl (c_model_Best n _ _ s.lt t_ (Ap01) (cp01) (s.ft 101 rfl) t_' (Ap11) (cp11) (s.ft 102 rfl) r26 hr26) fun v29 a w hK hp s => ?_)
 obtain rfl := hp
 refine asg s rfl rfl fun a s => ?_
 apply wN
 apply wQ
 apply wR
 refine mv s rfl rfl fun a s => ?_
 refine qq s rfl (y_lenSlice s rfl underlying29) fun a s => ?_
 refine qq s rfl (y_eqlN (i := ((t_').length)) (j := 0) s rfl rfl) fun a s => ?_
 apply wN
 refine c_dec s rfl (fun hc31 => ?_) (fun hc31 => ?_)
 ·replace hg := br_t hg hc31
  apply wQ
  rcases Decidable.em (r26 = (-1)) with hs32 | hs32
  ·have hs32e := decide_eq_true hs32
   replace hg := br_t hg hs32
   obtain ⟨r33, hr33, hg⟩ := bind_some hg
   apply wL
   refine mv s rfl rfl fun a s => ?_
   refine qq s rfl (yl_b (y_eql s rfl rfl) hs32e) fun a s => ?_
   refine mv s rfl rfl fun a s => ?_
   refine gl s rfl (l_call (cap := []) s rfl func10 rfl (by kernel_rfl) rfl rfl (c_law37_exampleHolds n _ _ s.lt  r33 hr33) fun v36 a w hK hp s => ?_)
   obtain rfl := hp
   refine qq s rfl (y_pick_t s rfl rfl) fun a s => ?_
   refine asg s rfl rfl fun a s => ?_
   apply wN
   apply wp_ret
   refine p_thenR ?_
   obtain rfl := Option.some.inj hg
   refine fin1 (fn := Tryd.f7) s rfl (r_tmp s rfl) ?_
   exact rfl
  have hs32e := decide_eq_false hs32
  replace hg := br_f hg hs32
  apply wL
  refine mv s rfl rfl fun a s => ?_
  refine qq s rfl (yl_b (y_eql s rfl rfl) hs32e) fun a s => ?_
  refine mv s rfl rfl fun a s => ?_
  refine gn s rfl fun a s => ?_
  refine qq s rfl (y_pick_f s rfl rfl) fun a s => ?_
  refine asg s rfl rfl fun a s => ?_
  apply wN
  apply wp_ret
  refine p_thenR ?_
  obtain rfl := Option.some.inj hg
  refine fin1 (fn := Tryd.f7) s rfl (r_tmp s rfl) ?_
  exact rfl
 replace hg := br_f hg hc31
 apply wp_skip
 apply pN
 apply wQ
 apply wQ
 obtain ⟨k38, hg, hk38⟩ := jn_some hg
 refine c_post (fun a w => ∃ (t_39 : Bool), k38 t_39 = some r ∧ St (⟨Tryd.f7.ntmps, M, noB, w0⟩ : Ctx) [(1, sl Ap11 (t_') cp11), (2, vP b2 0), (5, vI r26), (42, .bool (t_39))] [(1000, Ob.box b2 [sl Ap01 (t_.Weights) cp01] 24)] [(101, slF RWeight (Ap01) ((t_.Weights).length) (cp01) (t_.Weights)), (102, slF RDeriv (Ap11) ((t_').length) (cp11) (t_'))] a w) ?_ ?_
 ·rcases Decidable.em (r26 < 0) with hs40 | hs40
  ·have hs40e := decide_eq_true hs40
   replace hg := br_t hg hs40
   apply wL
   refine mv s rfl rfl fun a s => ?_
   refine qq s rfl (yl_b (y_lss s rfl rfl) hs40e) fun a s => ?_
   refine mv s rfl rfl fun a s => ?_
   refine gn s rfl fun a s => ?_
   refine gn s rfl fun a s => ?_
   refine gn s rfl fun a s => ?_
   refine gn s rfl fun a s => ?_
   refine qq s rfl (y_pick_t s rfl rfl) fun a s => ?_
   apply wN
   exact ⟨(true), hg, (s.sb rfl rfl rfl)⟩
  have hs40e := decide_eq_false hs40
  replace hg := br_f hg hs40
  apply wL
  refine mv s rfl rfl fun a s => ?_
  refine qq s rfl (yl_b (y_lss s rfl rfl) hs40e) fun a s => ?_
  refine mv s rfl rfl fun a s => ?_
  refine gm s rfl rfl fun a s => ?_
  refine gm s rfl rfl fun a s => ?_
  refine gy s rfl (y_lenSlice s rfl underlying29) fun a s => ?_
  refine gy s rfl (y_geq s rfl rfl) fun a s => ?_
  refine qq s rfl (y_pick_f s rfl rfl) fun a s => ?_
  apply wN
  exact ⟨(decide ((((t_').length : Nat) : Int) ≤ r26)), hg, (s.sb rfl rfl rfl)⟩
 clear s a; rintro a w ⟨t_39, hg, s⟩
 subst hk38
 refine c_cond s rfl (fun hc41 => ?_) (fun hc41 => ?_)
 ·replace hg := br_t hg hc41
  apply wR
  refine asg s rfl rfl fun a s => ?_
  apply wN
  apply wp_ret
  refine p_thenR ?_
  obtain rfl := Option.some.inj hg
  refine fin1 (fn := Tryd.f7) s rfl (r_tmp s rfl) ?_
  exact rfl
 replace hg := br_n hg hc41
 apply wp_skip
 apply pN
 apply wQ
 obtain ⟨x43, hx43, hg⟩ := bind_some hg
 obtain ⟨r45, hr45, hg⟩ := bind_some hg
 refine d_plan s [] [(0, some 1000), (1, some 0), (2, some 0), (3, some 0), (4, some 0), (5, none), (6, none)] rfl (by kernel_rfl) (by kernel_rfl) rfl ?_; clear s; intro wr hZ s; have hR := s.wd
 refine qt s hR rfl (y_loadAll (kk := 1000) s rfl rfl underlying24 rfl rfl) fun a s => ?_
 refine qt s hR rfl (y_move s rfl) fun a s => ?_
 refine qt s hR rfl (y_move s rfl) fun a s => ?_
 obtain ⟨p48, hep48, hpp48⟩ := SlR.elemX (s.ft 102 rfl) (ix_some hx43).1
 refine qt s hR rfl (y_elem (sz := 5) (i := ((r26).toNat)) s rfl rfl underlying29 rfl hep48 (ix_some hx43).2.1 (lt_of_get (ix_some hx43).1)) fun a s => ?_
 obtain ⟨hlq49, hmq49, csq49, hdq49, hcq49⟩ := hpp48
 obtain ⟨Aq495, cq495, rfl, lq492, hq495⟩ := RDeriv.open hdq49
 replace s := s.ns 104 hq495
 refine qt s hR rfl (y_ldp s rfl hlq49 hmq49 (by simpa using hcq49) underlying31 rfl rfl) fun a s => ?_
 refine l_take s rfl rfl (l_call (cap := []) s rfl func17 rfl (by kernel_rfl) rfl rfl (c_model_Score n _ _ s.lt t_ (Ap01) (cp01) (s.ft 101 rfl) x43 (Aq495) (cq495) (by omega) (s.ft 104 rfl) r45 hr45) fun v50 a w hK hp s => ?_)
 replace hZ := Nat.le_trans hZ hK.size; refine ⟨fun g _ h => h.grow hK, ?_⟩; clear hK
 obtain rfl := hp
 refine l_take s rfl rfl (l_quiet s rfl rfl (y_assign s rfl) fun a s => ?_); refine ⟨fun g _ h => h, ?_⟩
 clear hR hZ
 apply pN
 apply wQ
 apply wR
 refine mv s rfl rfl fun a s => ?_
 refine qq s rfl (y_lenSlice s rfl underlying29) fun a s => ?_
 refine mv s rfl rfl fun a s => ?_
 apply wN
 obtain ⟨k52, hg, hk52⟩ := jn_some hg
 refine c_post (fun a w => k52 = some r ∧ St (⟨Tryd.f7.ntmps, M, noB, w0⟩ : Ctx) [] [] [] a w) ?_ ?_
 ·apply wp_block
  refine c_loop (σ := Nat) (fun m1 a w => ∃ (t_53 : Nat), law37_ModelGreatest_L0 n t_ t_' r26 x43 r45 k52 m1 t_53 = some r ∧ St (⟨Tryd.f7.ntmps, M, noB, w0⟩ : Ctx) [(1, sl Ap11 (t_') cp11), (2, vP b2 0), (5, vI r26), (6, vI r45), (50, vI ((((t_').length : Nat) : Int))), (51, vI (((t_53 : Nat) : Int)))] [(1000, Ob.box b2 [sl Ap01 (t_.Weights) cp01] 24)] [(101, slF RWeight (Ap01) ((t_.Weights).length) (cp01) (t_.Weights)), (102, slF RDeriv (Ap11) ((t_').length) (cp11) (t_'))] a w) (fun m1 => m1) n ⟨(0), hg, (s.sb rfl rfl rfl)⟩ ?_
  clear s a; rintro m1 a w ⟨t_53, hg, s⟩
  rcases m1 with _ | m1
  ·rw [law37_ModelGreatest_L0] at hg; cases hg
  rw [law37_ModelGreatest_L0] at hg
  apply wR
  refine qq s rfl (y_lssN (i := t_53) (j := ((t_').length)) s rfl rfl) fun a s => ?_
  apply wN
  apply wQ
  refine c_dec s rfl (fun hc54 => ?_) (fun hc54 => ?_)
  ·replace hg := br_t hg hc54
   have hmx55 := SlR.mx (s.ft 102 rfl)
   apply wp_skip
   apply pN
   apply wQ
   apply wp_block
   apply wR
   refine mv s rfl rfl fun a s => ?_
   refine asg s rfl rfl fun a s => ?_
   apply wN
   apply wQ
   obtain ⟨x57, hx57, hg⟩ := bind_some hg
   obtain ⟨r59, hr59, hg⟩ := bind_some hg
   refine d_plan s [] [(0, some 1000), (1, some 0), (2, some 0), (3, some 0), (4, some 0), (5, none), (6, none)] rfl (by kernel_rfl) (by kernel_rfl) rfl ?_; clear s; intro wr hZ s; have hR := s.wd
   refine qt s hR rfl (y_loadAll (kk := 1000) s rfl rfl underlying24 rfl rfl) fun a s => ?_
   refine qt s hR rfl (y_move s rfl) fun a s => ?_
   refine qt s hR rfl (y_move s rfl) fun a s => ?_
   obtain ⟨p62, hep62, hpp62⟩ := SlR.elemX (s.ft 102 rfl) hx57
   refine qt s hR rfl (y_elem (sz := 5) (i := t_53) s rfl rfl underlying29 rfl hep62 rfl (lt_of_get hx57)) fun a s => ?_
   obtain ⟨hlq63, hmq63, csq63, hdq63, hcq63⟩ := hpp62
   obtain ⟨Aq635, cq635, rfl, lq632, hq635⟩ := RDeriv.open hdq63
   replace s := s.ns 106 hq635
   refine qt s hR rfl (y_ldp s rfl hlq63 hmq63 (by simpa using hcq63) underlying31 rfl rfl) fun a s => ?_
   refine l_take s rfl rfl (l_call (cap := []) s rfl func17 rfl (by kernel_rfl) rfl rfl (c_model_Score n _ _ s.lt t_ (Ap01) (cp01) (s.ft 101 rfl) x57 (Aq635) (cq635) (by omega) (s.ft 106 rfl) r59 hr59) fun v64 a w hK hp s => ?_)
   replace hZ := Nat.le_trans hZ hK.size; refine ⟨fun g _ h => h.grow hK, ?_⟩; clear hK
   obtain rfl := hp
   refine l_take s rfl rfl (l_quiet s rfl rfl (y_assign s rfl) fun a s => ?_); refine ⟨fun g _ h => h, ?_⟩
   clear hR hZ
   apply pN
   apply wQ
   obtain ⟨k66, hg, hk66⟩ := jn_some hg
   refine c_post (fun a w => ∃ (t_67 : Bool), k66 t_67 = some r ∧ St (⟨Tryd.f7.ntmps, M, noB, w0⟩ : Ctx) [(1, sl Ap11 (t_') cp11), (2, vP b2 0), (5, vI r26), (6, vI r45), (50, vI ((((t_').length : Nat) : Int))), (51, vI (((t_53 : Nat) : Int))), (101, .bool (t_67))] [(1000, Ob.box b2 [sl Ap01 (t_.Weights) cp01] 24)] [(101, slF RWeight (Ap01) ((t_.Weights).length) (cp01) (t_.Weights)), (102, slF RDeriv (Ap11) ((t_').length) (cp11) (t_'))] a w) ?_ ?_
   ·rcases Decidable.em (r45 < r59) with hs68 | hs68
    ·have hs68e := decide_eq_true hs68
     replace hg := br_t hg hs68
     refine d_plan s [] [(0, some 0), (1, some 0), (2, some 0), (3, some 0), (4, some 0), (5, some 0), (6, some 0), (7, some 0), (8, some 0), (9, some 0), (10, some 0), (11, some 0), (12, some 0), (13, some 0), (14, some 0), (15, some 0), (16, some 0), (17, some 0), (18, some 0), (19, some 0), (20, some 0), (21, some 0), (22, some 0), (23, some 0), (24, some 0), (25, some 0), (26, some 0), (27, some 0), (28, some 0), (29, some 0), (30, some 0), (31, some 0), (32, some 0), (33, some 0), (34, some 0), (35, some 0), (36, some 0), (37, some 0), (38, some 0), (39, some 0), (40, some 0), (41, some 0)] rfl (by kernel_rfl) (by kernel_rfl) rfl ?_; clear s; intro wr hZ s; have hR := s.wd
     refine qt s hR rfl (y_move s rfl) fun a s => ?_
     refine qt s hR rfl (y_move s rfl) fun a s => ?_
     refine qt s hR rfl (yl_b (y_gtr s rfl rfl) hs68e) fun a s => ?_
     refine qt s hR rfl (y_move s rfl) fun a s => ?_
     refine q_pass s hR rfl rfl ⟨_, _, _, rfl, rfl, rfl, rfl⟩ rfl fun a s => ?_
     refine q_pass s hR rfl rfl ⟨_, _, _, rfl, rfl, rfl, rfl⟩ rfl fun a s => ?_
     refine q_pass s hR rfl rfl ⟨_, _, _, rfl, rfl, rfl, rfl⟩ rfl fun a s => ?_
     refine q_pass s hR rfl rfl ⟨_, _, _, rfl, rfl, rfl, rfl⟩ rfl fun a s => ?_
     refine q_pass s hR rfl rfl ⟨_, _, _, rfl, rfl, rfl, rfl⟩ rfl fun a s => ?_
     refine q_pass s hR rfl rfl ⟨_, _, _, rfl, rfl, rfl, rfl⟩ rfl fun a s => ?_
     refine q_pass s hR rfl rfl ⟨_, _, _, rfl, rfl, rfl, rfl⟩ rfl fun a s => ?_
     refine q_pass s hR rfl rfl ⟨_, _, _, rfl, rfl, rfl, rfl⟩ rfl fun a s => ?_
     refine q_pass s hR rfl rfl ⟨_, _, _, rfl, rfl, rfl, rfl⟩ rfl fun a s => ?_
     refine q_pass s hR rfl rfl ⟨_, _, _, rfl, rfl, rfl, rfl⟩ rfl fun a s => ?_
     refine q_pass s hR rfl rfl ⟨_, _, _, rfl, rfl, rfl, rfl⟩ rfl fun a s => ?_
     refine q_pass s hR rfl rfl ⟨_, _, _, rfl, rfl, rfl, rfl⟩ rfl fun a s => ?_
     refine q_pass s hR rfl rfl ⟨_, _, _, rfl, rfl, rfl, rfl⟩ rfl fun a s => ?_
     refine q_pass s hR rfl rfl ⟨_, _, _, rfl, rfl, rfl, rfl⟩ rfl fun a s => ?_
     refine q_pass s hR rfl rfl ⟨_, _, _, rfl, rfl, rfl, rfl⟩ rfl fun a s => ?_
     refine qt s hR rfl (y_pick_t s rfl rfl) fun a s => ?_
     refine qt s hR rfl (y_move s rfl) fun a s => ?_
     refine q_pass s hR rfl rfl ⟨_, _, _, rfl, rfl, rfl, rfl⟩ rfl fun a s => ?_
     refine q_pass s hR rfl rfl ⟨_, _, _, rfl, rfl, rfl, rfl⟩ rfl fun a s => ?_
     refine q_pass s hR rfl rfl ⟨_, _, _, rfl, rfl, rfl, rfl⟩ rfl fun a s => ?_
     refine q_pass s hR rfl rfl ⟨_, _, _, rfl, rfl, rfl, rfl⟩ rfl fun a s => ?_
     refine q_pass s hR rfl rfl ⟨_, _, _, rfl, rfl, rfl, rfl⟩ rfl fun a s => ?_
     refine q_pass s hR rfl rfl ⟨_, _, _, rfl, rfl, rfl, rfl⟩ rfl fun a s => ?_
     refine q_pass s hR rfl rfl ⟨_, _, _, rfl, rfl, rfl, rfl⟩ rfl fun a s => ?_
     refine q_pass s hR rfl rfl ⟨_, _, _, rfl, rfl, rfl, rfl⟩ rfl fun a s => ?_
     refine q_pass s hR rfl rfl ⟨_, _, _, rfl, rfl, rfl, rfl⟩ rfl fun a s => ?_
     refine q_pass s hR rfl rfl ⟨_, _, _, rfl, rfl, rfl, rfl⟩ rfl fun a s => ?_
     refine q_pass s hR rfl rfl ⟨_, _, _, rfl, rfl, rfl, rfl⟩ rfl fun a s => ?_
     refine q_pass s hR rfl rfl ⟨_, _, _, rfl, rfl, rfl, rfl⟩ rfl fun a s => ?_
     refine q_pass s hR rfl rfl ⟨_, _, _, rfl, rfl, rfl, rfl⟩ rfl fun a s => ?_
     refine q_pass s hR rfl rfl ⟨_, _, _, rfl, rfl, rfl, rfl⟩ rfl fun a s => ?_
     refine q_pass s hR rfl rfl ⟨_, _, _, rfl, rfl, rfl, rfl⟩ rfl fun a s => ?_
     refine q_pass s hR rfl rfl ⟨_, _, _, rfl, rfl, rfl, rfl⟩ rfl fun a s => ?_
     refine q_pass s hR rfl rfl ⟨_, _, _, rfl, rfl, rfl, rfl⟩ rfl fun a s => ?_
     refine q_pass s hR rfl rfl ⟨_, _, _, rfl, rfl, rfl, rfl⟩ rfl fun a s => ?_
     refine q_pass s hR rfl rfl ⟨_, _, _, rfl, rfl, rfl, rfl⟩ rfl fun a s => ?_
     refine q_pass s hR rfl rfl ⟨_, _, _, rfl, rfl, rfl, rfl⟩ rfl fun a s => ?_
     refine qt s hR rfl (y_pick_t s rfl rfl) fun a s => ?_
     clear hR hZ
     apply pN
     exact ⟨(true), hg, (s.sb rfl rfl rfl)⟩
    have hs68e := decide_eq_false hs68
    replace hg := br_f hg hs68
    rcases Decidable.em (r59 = r45) with hs69 | hs69
    ·have hs69e := decide_eq_true hs69
     replace hg := br_t hg hs69
     obtain ⟨r74, hr74, hg⟩ := bind_some hg
     rcases Decidable.em (r74 < 0) with hs77 | hs77
     ·have hs77e := decide_eq_true hs77
      replace hg := br_t hg hs77
      refine d_steps s [] rfl ?_; clear s; intro wr hZ s; have hR := s.wd; have hE := Ext.init hR 0
      refine n_q 0 0 s hR rfl (by kernel_rfl) (by kernel_rfl) (by kernel_rfl) rfl rfl rfl (y_move s rfl) fun a s => ?_
      refine n_q 1 0 s hR rfl (by kernel_rfl) (by kernel_rfl) (by kernel_rfl) rfl rfl rfl (y_move s rfl) fun a s => ?_
      refine n_q 2 0 s hR rfl (by kernel_rfl) (by kernel_rfl) (by kernel_rfl) rfl rfl rfl (yl_b (y_gtr s rfl rfl) hs68e) fun a s => ?_
      refine n_q 3 0 s hR rfl (by kernel_rfl) (by kernel_rfl) (by kernel_rfl) rfl rfl rfl (y_move s rfl) fun a s => ?_
      refine n_q 4 0 s hR rfl (by kernel_rfl) (by kernel_rfl) (by kernel_rfl) rfl ⟨_, _, _, rfl, rfl, rfl, rfl⟩ rfl (y_move s rfl) fun a s => ?_
      refine n_q 5 0 s hR rfl (by kernel_rfl) (by kernel_rfl) (by kernel_rfl) rfl ⟨_, _, _, rfl, rfl, rfl, rfl⟩ rfl (y_move s rfl) fun a s => ?_
      refine n_q 6 0 s hR rfl (by kernel_rfl) (by kernel_rfl) (by kernel_rfl) rfl ⟨_, _, _, rfl, rfl, rfl, rfl⟩ rfl (yl_b (y_eql s rfl rfl) hs69e) fun a s => ?_
      refine n_q 7 0 s hR rfl (by kernel_rfl) (by kernel_rfl) (by kernel_rfl) rfl ⟨_, _, _, rfl, rfl, rfl, rfl⟩ rfl (y_move s rfl) fun a s => ?_
      refine n_q 8 0 s hR rfl (by kernel_rfl) (by kernel_rfl) (by kernel_rfl) rfl ⟨_, _, _, rfl, rfl, rfl, rfl⟩ rfl (y_move s rfl) fun a s => ?_
      refine n_q 9 0 s hR rfl (by kernel_rfl) (by kernel_rfl) (by kernel_rfl) rfl ⟨_, _, _, rfl, rfl, rfl, rfl⟩ rfl (y_move s rfl) fun a s => ?_
      obtain ⟨p78, hep78, hpp78⟩ := SlR.elemX (s.ft 102 rfl) hx57
      refine n_q 10 0 s hR rfl (by kernel_rfl) (by kernel_rfl) (by kernel_rfl) rfl ⟨_, _, _, rfl, rfl, rfl, rfl⟩ rfl (y_elem (sz := 5) (i := t_53) s rfl rfl underlying29 rfl hep78 rfl (lt_of_get hx57)) fun a s => ?_
      obtain ⟨hlq79, hmq79, csq79, hdq79, hcq79⟩ := (SlR.again (s.ft 102 rfl) hx57 hep78)
      obtain ⟨Aq795, cq795, rfl, lq792, hq795⟩ := RDeriv.open hdq79
      replace s := s.ns 109 hq795
      refine n_q 11 0 s hR rfl (by kernel_rfl) (by kernel_rfl) (by kernel_rfl) rfl ⟨_, _, _, rfl, rfl, rfl, rfl⟩ rfl (y_ldp s rfl hlq79 hmq79 (by simpa using hcq79) underlying31 rfl rfl) fun a s => ?_
      refine n_q 12 0 s hR rfl (by kernel_rfl) (by kernel_rfl) (by kernel_rfl) rfl ⟨_, _, _, rfl, rfl, rfl, rfl⟩ rfl (y_move s rfl) fun a s => ?_
      refine n_q 13 0 s hR rfl (by kernel_rfl) (by kernel_rfl) (by kernel_rfl) rfl ⟨_, _, _, rfl, rfl, rfl, rfl⟩ rfl (y_move s rfl) fun a s => ?_
      obtain ⟨p80, hep80, hpp80⟩ := SlR.elemX (s.ft 102 rfl) (ix_some hx43).1
      refine n_q 14 0 s hR rfl (by kernel_rfl) (by kernel_rfl) (by kernel_rfl) rfl ⟨_, _, _, rfl, rfl, rfl, rfl⟩ rfl (y_elem (sz := 5) (i := ((r26).toNat)) s rfl rfl underlying29 rfl hep80 (ix_some hx43).2.1 (lt_of_get (ix_some hx43).1)) fun a s => ?_
      obtain ⟨hlq81, hmq81, csq81, hdq81, hcq81⟩ := (SlR.again (s.ft 102 rfl) (ix_some hx43).1 hep80)
      obtain ⟨Aq815, cq815, rfl, lq812, hq815⟩ := RDeriv.open hdq81
      replace s := s.ns 110 hq815
      refine n_q 15 0 s hR rfl (by kernel_rfl) (by kernel_rfl) (by kernel_rfl) rfl ⟨_, _, _, rfl, rfl, rfl, rfl⟩ rfl (y_ldp s rfl hlq81 hmq81 (by simpa using hcq81) underlying31 rfl rfl) fun a s => ?_
      refine n_1 16 s (by kernel_rfl) rfl ⟨_, _, _, rfl, rfl, rfl, rfl⟩ (l_call (cap := []) s rfl func24 rfl (by kernel_rfl) rfl rfl (c_r28_Compare n _ _ s.lt x57 (Aq795) (cq795) (by omega) (s.ft 109 rfl) x43 (Aq815) (cq815) (by omega) (s.ft 110 rfl) r74 hr74) fun v82 a w hK hp s => ?_)
      replace hE := hE.grow hK; replace hZ := Nat.le_trans hZ hK.size; refine ⟨fun g _ h => h.grow hK, ?_⟩; clear hK
      obtain rfl := hp
      refine n_1 17 s (by kernel_rfl) rfl ⟨_, _, _, rfl, rfl, rfl, rfl⟩ (l_quiet s rfl rfl (yl_b (y_lss s rfl rfl) hs77e) fun a s => ?_); refine ⟨fun g _ h => h, ?_⟩
      refine n_1 18 s (by kernel_rfl) rfl ⟨_, _, _, rfl, rfl, rfl, rfl⟩ (l_quiet s rfl rfl (y_pick_t s rfl rfl) fun a s => ?_); refine ⟨fun g _ h => h, ?_⟩
      refine n_1 19 s (by kernel_rfl) rfl rfl (l_quiet s rfl rfl (y_pick_f s rfl rfl) fun a s => ?_); refine ⟨fun g _ h => h, ?_⟩
      refine n_1 20 s (by kernel_rfl) rfl rfl (l_quiet s rfl rfl (y_move s rfl) fun a s => ?_); refine ⟨fun g _ h => h, ?_⟩
      refine n_qlpass 21 s hE rfl (by kernel_rfl) (by kernel_rfl) (by kernel_rfl) rfl ⟨_, _, _, rfl, rfl, rfl, rfl⟩ rfl fun a s => ?_
      refine n_pass 22 s (by kernel_rfl) rfl ⟨_, _, _, rfl, rfl, rfl, rfl⟩ rfl rfl fun a s => ?_
      refine n_pass 23 s (by kernel_rfl) rfl ⟨_, _, _, rfl, rfl, rfl, rfl⟩ rfl rfl fun a s => ?_
      refine n_pass 24 s (by kernel_rfl) rfl ⟨_, _, _, rfl, rfl, rfl, rfl⟩ rfl rfl fun a s => ?_
      refine n_qlpass 25 s hE rfl (by kernel_rfl) (by kernel_rfl) (by kernel_rfl) rfl ⟨_, _, _, rfl, rfl, rfl, rfl⟩ rfl fun a s => ?_
      refine n_pass 26 s (by kernel_rfl) rfl ⟨_, _, _, rfl, rfl, rfl, rfl⟩ rfl rfl fun a s => ?_
      refine n_pass 27 s (by kernel_rfl) rfl ⟨_, _, _, rfl, rfl, rfl, rfl⟩ rfl rfl fun a s => ?_
      refine n_pass 28 s (by kernel_rfl) rfl ⟨_, _, _, rfl, rfl, rfl, rfl⟩ rfl rfl fun a s => ?_
      refine n_pass 29 s (by kernel_rfl) rfl ⟨_, _, _, rfl, rfl, rfl, rfl⟩ rfl rfl fun a s => ?_
      refine n_qlpass 30 s hE rfl (by kernel_rfl) (by kernel_rfl) (by kernel_rfl) rfl ⟨_, _, _, rfl, rfl, rfl, rfl⟩ rfl fun a s => ?_
      refine n_qlpass 31 s hE rfl (by kernel_rfl) (by kernel_rfl) (by kernel_rfl) rfl ⟨_, _, _, rfl, rfl, rfl, rfl⟩ rfl fun a s => ?_
      refine n_qlpass 32 s hE rfl (by kernel_rfl) (by kernel_rfl) (by kernel_rfl) rfl ⟨_, _, _, rfl, rfl, rfl, rfl⟩ rfl fun a s => ?_
      refine n_qlpass 33 s hE rfl (by kernel_rfl) (by kernel_rfl) (by kernel_rfl) rfl ⟨_, _, _, rfl, rfl, rfl, rfl⟩ rfl fun a s => ?_
      refine n_qlpass 34 s hE rfl (by kernel_rfl) (by kernel_rfl) (by kernel_rfl) rfl ⟨_, _, _, rfl, rfl, rfl, rfl⟩ rfl fun a s => ?_
      refine n_pass 35 s (by kernel_rfl) rfl ⟨_, _, _, rfl, rfl, rfl, rfl⟩ rfl rfl fun a s => ?_
      refine n_pass 36 s (by kernel_rfl) rfl ⟨_, _, _, rfl, rfl, rfl, rfl⟩ rfl rfl fun a s => ?_
      refine n_pass 37 s (by kernel_rfl) rfl ⟨_, _, _, rfl, rfl, rfl, rfl⟩ rfl rfl fun a s => ?_
      refine n_pass 38 s (by kernel_rfl) rfl ⟨_, _, _, rfl, rfl, rfl, rfl⟩ rfl rfl fun a s => ?_
      refine n_pass 39 s (by kernel_rfl) rfl ⟨_, _, _, rfl, rfl, rfl, rfl⟩ rfl rfl fun a s => ?_
      refine n_pass 40 s (by kernel_rfl) rfl ⟨_, _, _, rfl, rfl, rfl, rfl⟩ rfl rfl fun a s => ?_
      refine n_1 41 s (by kernel_rfl) rfl rfl (l_quiet s rfl rfl (y_pick_t s rfl rfl) fun a s => ?_); refine ⟨fun g _ h => h, ?_⟩
      refine n_end (by kernel_rfl) ?_; clear hR hZ hE
      apply pN
      exact ⟨(true), hg, (s.sb rfl rfl rfl)⟩
     have hs77e := decide_eq_false hs77
     replace hg := br_f hg hs77
     rcases Decidable.em (((t_53 : Nat) : Int) < r26) with hs84 | hs84
     ·have hs84e := decide_eq_true hs84
      replace hg := br_t hg hs84
      refine d_steps s [] rfl ?_; clear s; intro wr hZ s; have hR := s.wd; have hE := Ext.init hR 0
      refine n_q 0 0 s hR rfl (by kernel_rfl) (by kernel_rfl) (by kernel_rfl) rfl rfl rfl (y_move s rfl) fun a s => ?_
      refine n_q 1 0 s hR rfl (by kernel_rfl) (by kernel_rfl) (by kernel_rfl) rfl rfl rfl (y_move s rfl) fun a s => ?_
      refine n_q 2 0 s hR rfl (by kernel_rfl) (by kernel_rfl) (by kernel_rfl) rfl rfl rfl (yl_b (y_gtr s rfl rfl) hs68e) fun a s => ?_
      refine n_q 3 0 s hR rfl (by kernel_rfl) (by kernel_rfl) (by kernel_rfl) rfl rfl rfl (y_move s rfl) fun a s => ?_
      refine n_q 4 0 s hR rfl (by kernel_rfl) (by kernel_rfl) (by kernel_rfl) rfl ⟨_, _, _, rfl, rfl, rfl, rfl⟩ rfl (y_move s rfl) fun a s => ?_
      refine n_q 5 0 s hR rfl (by kernel_rfl) (by kernel_rfl) (by kernel_rfl) rfl ⟨_, _, _, rfl, rfl, rfl, rfl⟩ rfl (y_move s rfl) fun a s => ?_
      refine n_q 6 0 s hR rfl (by kernel_rfl) (by kernel_rfl) (by kernel_rfl) rfl ⟨_, _, _, rfl, rfl, rfl, rfl⟩ rfl (yl_b (y_eql s rfl rfl) hs69e) fun a s => ?_
      refine n_q 7 0 s hR rfl (by kernel_rfl) (by kernel_rfl) (by kernel_rfl) rfl ⟨_, _, _, rfl, rfl, rfl, rfl⟩ rfl (y_move s rfl) fun a s => ?_
      refine n_q 8 0 s hR rfl (by kernel_rfl) (by kernel_rfl) (by kernel_rfl) rfl ⟨_, _, _, rfl, rfl, rfl, rfl⟩ rfl (y_move s rfl) fun a s => ?_
      refine n_q 9 0 s hR rfl (by kernel_rfl) (by kernel_rfl) (by kernel_rfl) rfl ⟨_, _, _, rfl, rfl, rfl, rfl⟩ rfl (y_move s rfl) fun a s => ?_
      obtain ⟨p91, hep91, hpp91⟩ := SlR.elemX (s.ft 102 rfl) hx57
      refine n_q 10 0 s hR rfl (by kernel_rfl) (by kernel_rfl) (by kernel_rfl) rfl ⟨_, _, _, rfl, rfl, rfl, rfl⟩ rfl (y_elem (sz := 5) (i := t_53) s rfl rfl underlying29 rfl hep91 rfl (lt_of_get hx57)) fun a s => ?_
      obtain ⟨hlq92, hmq92, csq92, hdq92, hcq92⟩ := (SlR.again (s.ft 102 rfl) hx57 hep91)
      obtain ⟨Aq925, cq925, rfl, lq922, hq925⟩ := RDeriv.open hdq92
      replace s := s.ns 113 hq925
      refine n_q 11 0 s hR rfl (by kernel_rfl) (by kernel_rfl) (by kernel_rfl) rfl ⟨_, _, _, rfl, rfl, rfl, rfl⟩ rfl (y_ldp s rfl hlq92 hmq92 (by simpa using hcq92) underlying31 rfl rfl) fun a s => ?_
      refine n_q 12 0 s hR rfl (by kernel_rfl) (by kernel_rfl) (by kernel_rfl) rfl ⟨_, _, _, rfl, rfl, rfl, rfl⟩ rfl (y_move s rfl) fun a s => ?_
      refine n_q 13 0 s hR rfl (by kernel_rfl) (by kernel_rfl) (by kernel_rfl) rfl ⟨_, _, _, rfl, rfl, rfl, rfl⟩ rfl (y_move s rfl) fun a s => ?_
      obtain ⟨p93, hep93, hpp93⟩ := SlR.elemX (s.ft 102 rfl) (ix_some hx43).1
      refine n_q 14 0 s hR rfl (by kernel_rfl) (by kernel_rfl) (by kernel_rfl) rfl ⟨_, _, _, rfl, rfl, rfl, rfl⟩ rfl (y_elem (sz := 5) (i := ((r26).toNat)) s rfl rfl underlying29 rfl hep93 (ix_some hx43).2.1 (lt_of_get (ix_some hx43).1)) fun a s => ?_
      obtain ⟨hlq94, hmq94, csq94, hdq94, hcq94⟩ := (SlR.again (s.ft 102 rfl) (ix_some hx43).1 hep93)
      obtain ⟨Aq945, cq945, rfl, lq942, hq945⟩ := RDeriv.open hdq94
      replace s := s.ns 114 hq945
      refine n_q 15 0 s hR rfl (by kernel_rfl) (by kernel_rfl) (by kernel_rfl) rfl ⟨_, _, _, rfl, rfl, rfl, rfl⟩ rfl (y_ldp s rfl hlq94 hmq94 (by simpa using hcq94) underlying31 rfl rfl) fun a s => ?_
      refine n_1 16 s (by kernel_rfl) rfl ⟨_, _, _, rfl, rfl, rfl, rfl⟩ (l_call (cap := []) s rfl func24 rfl (by kernel_rfl) rfl rfl (c_r28_Compare n _ _ s.lt x57 (Aq925) (cq925) (by omega) (s.ft 113 rfl) x43 (Aq945) (cq945) (by omega) (s.ft 114 rfl) r74 hr74) fun v95 a w hK hp s => ?_)
      replace hE := hE.grow hK; replace hZ := Nat.le_trans hZ hK.size; refine ⟨fun g _ h => h.grow hK, ?_⟩; clear hK
      obtain rfl := hp
      refine n_1 17 s (by kernel_rfl) rfl ⟨_, _, _, rfl, rfl, rfl, rfl⟩ (l_quiet s rfl rfl (yl_b (y_lss s rfl rfl) hs77e) fun a s => ?_); refine ⟨fun g _ h => h, ?_⟩
      refine n_1 18 s (by kernel_rfl) rfl ⟨_, _, _, rfl, rfl, rfl, rfl⟩ (l_quiet s rfl rfl (y_pick_t s rfl rfl) fun a s => ?_); refine ⟨fun g _ h => h, ?_⟩
      refine n_1 19 s (by kernel_rfl) rfl rfl (l_quiet s rfl rfl (y_pick_f s rfl rfl) fun a s => ?_); refine ⟨fun g _ h => h, ?_⟩
      refine n_1 20 s (by kernel_rfl) rfl rfl (l_quiet s rfl rfl (y_move s rfl) fun a s => ?_); refine ⟨fun g _ h => h, ?_⟩
      refine n_ql 21 s hE rfl (by kernel_rfl) (by kernel_rfl) (by kernel_rfl) rfl ⟨_, _, _, rfl, rfl, rfl, rfl⟩ rfl (fun w' s => y_move s rfl) fun a s => ?_
      refine n_1 22 s (by kernel_rfl) rfl ⟨_, _, _, rfl, rfl, rfl, rfl⟩ (l_quiet s rfl rfl (y_move s rfl) fun a s => ?_); refine ⟨fun g _ h => h, ?_⟩
      refine n_1 23 s (by kernel_rfl) rfl ⟨_, _, _, rfl, rfl, rfl, rfl⟩ (l_quiet s rfl rfl (yl_b (y_eql s rfl rfl) hs69e) fun a s => ?_); refine ⟨fun g _ h => h, ?_⟩
      refine n_1 24 s (by kernel_rfl) rfl ⟨_, _, _, rfl, rfl, rfl, rfl⟩ (l_quiet s rfl rfl (y_move s rfl) fun a s => ?_); refine ⟨fun g _ h => h, ?_⟩
      refine n_ql 25 s hE rfl (by kernel_rfl) (by kernel_rfl) (by kernel_rfl) rfl ⟨_, _, _, rfl, rfl, rfl, rfl⟩ rfl (fun w' s => y_move s rfl) fun a s => ?_
      refine n_1 26 s (by kernel_rfl) rfl ⟨_, _, _, rfl, rfl, rfl, rfl⟩ (l_quiet s rfl rfl (y_move s rfl) fun a s => ?_); refine ⟨fun g _ h => h, ?_⟩
      refine n_1 27 s (by kernel_rfl) rfl ⟨_, _, _, rfl, rfl, rfl, rfl⟩ (l_quiet s rfl rfl (yl_b (y_lss s rfl rfl) hs84e) fun a s => ?_); refine ⟨fun g _ h => h, ?_⟩
      refine n_1 28 s (by kernel_rfl) rfl ⟨_, _, _, rfl, rfl, rfl, rfl⟩ (l_quiet s rfl rfl (y_pick_t s rfl rfl) fun a s => ?_); refine ⟨fun g _ h => h, ?_⟩
      refine n_1 29 s (by kernel_rfl) rfl ⟨_, _, _, rfl, rfl, rfl, rfl⟩ (l_quiet s rfl rfl (y_move s rfl) fun a s => ?_); refine ⟨fun g _ h => h, ?_⟩
      refine n_ql 30 s hE rfl (by kernel_rfl) (by kernel_rfl) (by kernel_rfl) rfl ⟨_, _, _, rfl, rfl, rfl, rfl⟩ rfl (fun w' s => y_move s rfl) fun a s => ?_
      refine n_ql 31 s hE rfl (by kernel_rfl) (by kernel_rfl) (by kernel_rfl) rfl ⟨_, _, _, rfl, rfl, rfl, rfl⟩ rfl (fun w' s => y_move s rfl) fun a s => ?_
      obtain ⟨p97, hep97, hpp97⟩ := SlR.elemX (s.ft 102 rfl) hx57
      refine n_ql 32 s hE rfl (by kernel_rfl) (by kernel_rfl) (by kernel_rfl) rfl ⟨_, _, _, rfl, rfl, rfl, rfl⟩ rfl (fun w' s => y_elem (sz := 5) (i := t_53) s rfl rfl underlying29 rfl hep97 rfl (lt_of_get hx57)) fun a s => ?_
      refine n_ql 34 s hE rfl (by kernel_rfl) (by kernel_rfl) (by kernel_rfl) rfl ⟨_, _, _, rfl, rfl, rfl, rfl⟩ rfl (fun w' s => y_move s rfl) fun a s => ?_
      refine n_ql 35 s hE rfl (by kernel_rfl) (by kernel_rfl) (by kernel_rfl) rfl ⟨_, _, _, rfl, rfl, rfl, rfl⟩ rfl (fun w' s => y_move s rfl) fun a s => ?_
      obtain ⟨p98, hep98, hpp98⟩ := SlR.elemX (s.ft 102 rfl) (ix_some hx43).1
      refine n_ql 36 s hE rfl (by kernel_rfl) (by kernel_rfl) (by kernel_rfl) rfl ⟨_, _, _, rfl, rfl, rfl, rfl⟩ rfl (fun w' s => y_elem (sz := 5) (i := ((r26).toNat)) s rfl rfl underlying29 rfl hep98 (ix_some hx43).2.1 (lt_of_get (ix_some hx43).1)) fun a s => ?_
      refine n_2 33 37 s (by kernel_rfl) rfl ⟨_, _, _, rfl, rfl, rfl, rfl⟩ rfl ⟨_, _, _, rfl, rfl, rfl, rfl⟩ ?_ ?_
      ·obtain ⟨hlq99, hmq99, csq99, hdq99, hcq99⟩ := (SlR.again (s.ft 102 rfl) hx57 hep97)
       obtain ⟨Aq995, cq995, rfl, lq992, hq995⟩ := RDeriv.open hdq99
       replace s := s.ns 115 hq995
       refine l_quiet s rfl rfl (y_ldp s rfl hlq99 hmq99 (by simpa using hcq99) underlying31 rfl rfl) fun a s => ?_; refine ⟨fun g _ h => h, ?_⟩
       obtain ⟨hlq100, hmq100, csq100, hdq100, hcq100⟩ := (SlR.again (s.ft 102 rfl) (ix_some hx43).1 hep98)
       obtain ⟨Aq1005, cq1005, rfl, lq1002, hq1005⟩ := RDeriv.open hdq100
       replace s := s.ns 116 hq1005
       refine n_1 37 s (by kernel_rfl) rfl ⟨_, _, _, rfl, rfl, rfl, rfl⟩ (l_quiet s rfl rfl (y_ldp s rfl hlq100 hmq100 (by simpa using hcq100) underlying31 rfl rfl) fun a s => ?_); refine ⟨fun g _ h => h, ?_⟩
       refine n_1 38 s (by kernel_rfl) rfl ⟨_, _, _, rfl, rfl, rfl, rfl⟩ (l_call (cap := []) s rfl func24 rfl (by kernel_rfl) rfl rfl (c_r28_Compare n _ _ s.lt x57 (Aq995) (cq995) (by omega) (s.ft 115 rfl) x43 (Aq1005) (cq1005) (by omega) (s.ft 116 rfl) r74 hr74) fun v101 a w hK hp s => ?_)
       replace hE := hE.grow hK; replace hZ := Nat.le_trans hZ hK.size; refine ⟨fun g _ h => h.grow hK, ?_⟩; clear hK
       obtain rfl := hp
       refine n_1 39 s (by kernel_rfl) rfl ⟨_, _, _, rfl, rfl, rfl, rfl⟩ (l_quiet s rfl rfl (y_eql s rfl rfl) fun a s => ?_); refine ⟨fun g _ h => h, ?_⟩
       refine n_1 40 s (by kernel_rfl) rfl ⟨_, _, _, rfl, rfl, rfl, rfl⟩ (l_quiet s rfl rfl (y_pick_t s rfl rfl) fun a s => ?_); refine ⟨fun g _ h => h, ?_⟩
       refine n_1 41 s (by kernel_rfl) rfl rfl (l_quiet s rfl rfl (y_pick_f s rfl rfl) fun a s => ?_); refine ⟨fun g _ h => h, ?_⟩
       refine n_end (by kernel_rfl) ?_; clear hR hZ hE
       apply pN
       exact ⟨(decide (r74 = 0)), hg, (s.sb rfl rfl rfl)⟩
      ·obtain ⟨hlq103, hmq103, csq103, hdq103, hcq103⟩ := (SlR.again (s.ft 102 rfl) (ix_some hx43).1 hep98)
       obtain ⟨Aq1035, cq1035, rfl, lq1032, hq1035⟩ := RDeriv.open hdq103
       replace s := s.ns 117 hq1035
       refine l_quiet s rfl rfl (y_ldp s rfl hlq103 hmq103 (by simpa using hcq103) underlying31 rfl rfl) fun a s => ?_; refine ⟨fun g _ h => h, ?_⟩
       obtain ⟨hlq104, hmq104, csq104, hdq104, hcq104⟩ := (SlR.again (s.ft 102 rfl) hx57 hep97)
       obtain ⟨Aq1045, cq1045, rfl, lq1042, hq1045⟩ := RDeriv.open hdq104
       replace s := s.ns 118 hq1045
       refine n_1 33 s (by kernel_rfl) rfl ⟨_, _, _, rfl, rfl, rfl, rfl⟩ (l_quiet s rfl rfl (y_ldp s rfl hlq104 hmq104 (by simpa using hcq104) underlying31 rfl rfl) fun a s => ?_); refine ⟨fun g _ h => h, ?_⟩
       refine n_1 38 s (by kernel_rfl) rfl ⟨_, _, _, rfl, rfl, rfl, rfl⟩ (l_call (cap := []) s rfl func24 rfl (by kernel_rfl) rfl rfl (c_r28_Compare n _ _ s.lt x57 (Aq1045) (cq1045) (by omega) (s.ft 118 rfl) x43 (Aq1035) (cq1035) (by omega) (s.ft 117 rfl) r74 hr74) fun v105 a w hK hp s => ?_)
       replace hE := hE.grow hK; replace hZ := Nat.le_trans hZ hK.size; refine ⟨fun g _ h => h.grow hK, ?_⟩; clear hK
       obtain rfl := hp
       refine n_1 39 s (by kernel_rfl) rfl ⟨_, _, _, rfl, rfl, rfl, rfl⟩ (l_quiet s rfl rfl (y_eql s rfl rfl) fun a s => ?_); refine ⟨fun g _ h => h, ?_⟩
       refine n_1 40 s (by kernel_rfl) rfl ⟨_, _, _, rfl, rfl, rfl, rfl⟩ (l_quiet s rfl rfl (y_pick_t s rfl rfl) fun a s => ?_); refine ⟨fun g _ h => h, ?_⟩
       refine n_1 41 s (by kernel_rfl) rfl rfl (l_quiet s rfl rfl (y_pick_f s rfl rfl) fun a s => ?_); refine ⟨fun g _ h => h, ?_⟩
       refine n_end (by kernel_rfl) ?_; clear hR hZ hE
       apply pN
       exact ⟨(decide (r74 = 0)), hg, (s.sb rfl rfl rfl)⟩
     have hs84e := decide_eq_false hs84
     replace hg := br_f hg hs84
     refine d_steps s [] rfl ?_; clear s; intro wr hZ s; have hR := s.wd; have hE := Ext.init hR 0
     refine n_q 0 0 s hR rfl (by kernel_rfl) (by kernel_rfl) (by kernel_rfl) rfl rfl rfl (y_move s rfl) fun a s => ?_
     refine n_q 1 0 s hR rfl (by kernel_rfl) (by kernel_rfl) (by kernel_rfl) rfl rfl rfl (y_move s rfl) fun a s => ?_
     refine n_q 2 0 s hR rfl (by kernel_rfl) (by kernel_rfl) (by kernel_rfl) rfl rfl rfl (yl_b (y_gtr s rfl rfl) hs68e) fun a s => ?_
     refine n_q 3 0 s hR rfl (by kernel_rfl) (by kernel_rfl) (by kernel_rfl) rfl rfl rfl (y_move s rfl) fun a s => ?_
     refine n_q 4 0 s hR rfl (by kernel_rfl) (by kernel_rfl) (by kernel_rfl) rfl ⟨_, _, _, rfl, rfl, rfl, rfl⟩ rfl (y_move s rfl) fun a s => ?_
     refine n_q 5 0 s hR rfl (by kernel_rfl) (by kernel_rfl) (by kernel_rfl) rfl ⟨_, _, _, rfl, rfl, rfl, rfl⟩ rfl (y_move s rfl) fun a s => ?_
     refine n_q 6 0 s hR rfl (by kernel_rfl) (by kernel_rfl) (by kernel_rfl) rfl ⟨_, _, _, rfl, rfl, rfl, rfl⟩ rfl (yl_b (y_eql s rfl rfl) hs69e) fun a s => ?_
     refine n_q 7 0 s hR rfl (by kernel_rfl) (by kernel_rfl) (by kernel_rfl) rfl ⟨_, _, _, rfl, rfl, rfl, rfl⟩ rfl (y_move s rfl) fun a s => ?_
     refine n_q 8 0 s hR rfl (by kernel_rfl) (by kernel_rfl) (by kernel_rfl) rfl ⟨_, _, _, rfl, rfl, rfl, rfl⟩ rfl (y_move s rfl) fun a s => ?_
     refine n_q 9 0 s hR rfl (by kernel_rfl) (by kernel_rfl) (by kernel_rfl) rfl ⟨_, _, _, rfl, rfl, rfl, rfl⟩ rfl (y_move s rfl) fun a s => ?_
     obtain ⟨p107, hep107, hpp107⟩ := SlR.elemX (s.ft 102 rfl) hx57
     refine n_q 10 0 s hR rfl (by kernel_rfl) (by kernel_rfl) (by kernel_rfl) rfl ⟨_, _, _, rfl, rfl, rfl, rfl⟩ rfl (y_elem (sz := 5) (i := t_53) s rfl rfl underlying29 rfl hep107 rfl (lt_of_get hx57)) fun a s => ?_
     obtain ⟨hlq108, hmq108, csq108, hdq108, hcq108⟩ := (SlR.again (s.ft 102 rfl) hx57 hep107)
     obtain ⟨Aq1085, cq1085, rfl, lq1082, hq1085⟩ := RDeriv.open hdq108
     replace s := s.ns 119 hq1085
     refine n_q 11 0 s hR rfl (by kernel_rfl) (by kernel_rfl) (by kernel_rfl) rfl ⟨_, _, _, rfl, rfl, rfl, rfl⟩ rfl (y_ldp s rfl hlq108 hmq108 (by simpa using hcq108) underlying31 rfl rfl) fun a s => ?_
     refine n_q 12 0 s hR rfl (by kernel_rfl) (by kernel_rfl) (by kernel_rfl) rfl ⟨_, _, _, rfl, rfl, rfl, rfl⟩ rfl (y_move s rfl) fun a s => ?_
     refine n_q 13 0 s hR rfl (by kernel_rfl) (by kernel_rfl) (by kernel_rfl) rfl ⟨_, _, _, rfl, rfl, rfl, rfl⟩ rfl (y_move s rfl) fun a s => ?_
     obtain ⟨p109, hep109, hpp109⟩ := SlR.elemX (s.ft 102 rfl) (ix_some hx43).1
     refine n_q 14 0 s hR rfl (by kernel_rfl) (by kernel_rfl) (by kernel_rfl) rfl ⟨_, _, _, rfl, rfl, rfl, rfl⟩ rfl (y_elem (sz := 5) (i := ((r26).toNat)) s rfl rfl underlying29 rfl hep109 (ix_some hx43).2.1 (lt_of_get (ix_some hx43).1)) fun a s => ?_
     obtain ⟨hlq110, hmq110, csq110, hdq110, hcq110⟩ := (SlR.again (s.ft 102 rfl) (ix_some hx43).1 hep109)
     obtain ⟨Aq1105, cq1105, rfl, lq1102, hq1105⟩ := RDeriv.open hdq110
     replace s := s.ns 120 hq1105
     refine n_q 15 0 s hR rfl (by kernel_rfl) (by kernel_rfl) (by kernel_rfl) rfl ⟨_, _, _, rfl, rfl, rfl, rfl⟩ rfl (y_ldp s rfl hlq110 hmq110 (by simpa using hcq110) underlying31 rfl rfl) fun a s => ?_
     refine n_1 16 s (by kernel_rfl) rfl ⟨_, _, _, rfl, rfl, rfl, rfl⟩ (l_call (cap := []) s rfl func24 rfl (by kernel_rfl) rfl rfl (c_r28_Compare n _ _ s.lt x57 (Aq1085) (cq1085) (by omega) (s.ft 119 rfl) x43 (Aq1105) (cq1105) (by omega) (s.ft 120 rfl) r74 hr74) fun v111 a w hK hp s => ?_)
     replace hE := hE.grow hK; replace hZ := Nat.le_trans hZ hK.size; refine ⟨fun g _ h => h.grow hK, ?_⟩; clear hK
     obtain rfl := hp
     refine n_1 17 s (by kernel_rfl) rfl ⟨_, _, _, rfl, rfl, rfl, rfl⟩ (l_quiet s rfl rfl (yl_b (y_lss s rfl rfl) hs77e) fun a s => ?_); refine ⟨fun g _ h => h, ?_⟩
     refine n_1 18 s (by kernel_rfl) rfl ⟨_, _, _, rfl, rfl, rfl, rfl⟩ (l_quiet s rfl rfl (y_pick_t s rfl rfl) fun a s => ?_); refine ⟨fun g _ h => h, ?_⟩
     refine n_1 19 s (by kernel_rfl) rfl rfl (l_quiet s rfl rfl (y_pick_f s rfl rfl) fun a s => ?_); refine ⟨fun g _ h => h, ?_⟩
     refine n_1 20 s (by kernel_rfl) rfl rfl (l_quiet s rfl rfl (y_move s rfl) fun a s => ?_); refine ⟨fun g _ h => h, ?_⟩
     refine n_ql 21 s hE rfl (by kernel_rfl) (by kernel_rfl) (by kernel_rfl) rfl ⟨_, _, _, rfl, rfl, rfl, rfl⟩ rfl (fun w' s => y_move s rfl) fun a s => ?_
     refine n_1 22 s (by kernel_rfl) rfl ⟨_, _, _, rfl, rfl, rfl, rfl⟩ (l_quiet s rfl rfl (y_move s rfl) fun a s => ?_); refine ⟨fun g _ h => h, ?_⟩
     refine n_1 23 s (by kernel_rfl) rfl ⟨_, _, _, rfl, rfl, rfl, rfl⟩ (l_quiet s rfl rfl (yl_b (y_eql s rfl rfl) hs69e) fun a s => ?_); refine ⟨fun g _ h => h, ?_⟩
     refine n_1 24 s (by kernel_rfl) rfl ⟨_, _, _, rfl, rfl, rfl, rfl⟩ (l_quiet s rfl rfl (y_move s rfl) fun a s => ?_); refine ⟨fun g _ h => h, ?_⟩
     refine n_ql 25 s hE rfl (by kernel_rfl) (by kernel_rfl) (by kernel_rfl) rfl ⟨_, _, _, rfl, rfl, rfl, rfl⟩ rfl (fun w' s => y_move s rfl) fun a s => ?_
     refine n_1 26 s (by kernel_rfl) rfl ⟨_, _, _, rfl, rfl, rfl, rfl⟩ (l_quiet s rfl rfl (y_move s rfl) fun a s => ?_); refine ⟨fun g _ h => h, ?_⟩
     refine n_1 27 s (by kernel_rfl) rfl ⟨_, _, _, rfl, rfl, rfl, rfl⟩ (l_quiet s rfl rfl (yl_b (y_lss s rfl rfl) hs84e) fun a s => ?_); refine ⟨fun g _ h => h, ?_⟩
     refine n_1 28 s (by kernel_rfl) rfl ⟨_, _, _, rfl, rfl, rfl, rfl⟩ (l_quiet s rfl rfl (y_pick_t s rfl rfl) fun a s => ?_); refine ⟨fun g _ h => h, ?_⟩
     refine n_1 29 s (by kernel_rfl) rfl ⟨_, _, _, rfl, rfl, rfl, rfl⟩ (l_quiet s rfl rfl (y_move s rfl) fun a s => ?_); refine ⟨fun g _ h => h, ?_⟩
     refine n_qlpass 30 s hE rfl (by kernel_rfl) (by kernel_rfl) (by kernel_rfl) rfl ⟨_, _, _, rfl, rfl, rfl, rfl⟩ rfl fun a s => ?_
     refine n_qlpass 31 s hE rfl (by kernel_rfl) (by kernel_rfl) (by kernel_rfl) rfl ⟨_, _, _, rfl, rfl, rfl, rfl⟩ rfl fun a s => ?_
     refine n_qlpass 32 s hE rfl (by kernel_rfl) (by kernel_rfl) (by kernel_rfl) rfl ⟨_, _, _, rfl, rfl, rfl, rfl⟩ rfl fun a s => ?_
     refine n_qlpass 33 s hE rfl (by kernel_rfl) (by kernel_rfl) (by kernel_rfl) rfl ⟨_, _, _, rfl, rfl, rfl, rfl⟩ rfl fun a s => ?_
     refine n_qlpass 34 s hE rfl (by kernel_rfl) (by kernel_rfl) (by kernel_rfl) rfl ⟨_, _, _, rfl, rfl, rfl, rfl⟩ rfl fun a s => ?_
     refine n_pass 35 s (by kernel_rfl) rfl ⟨_, _, _, rfl, rfl, rfl, rfl⟩ rfl rfl fun a s => ?_
     refine n_pass 36 s (by kernel_rfl) rfl ⟨_, _, _, rfl, rfl, rfl, rfl⟩ rfl rfl fun a s => ?_
     refine n_pass 37 s (by kernel_rfl) rfl ⟨_, _, _, rfl, rfl, rfl, rfl⟩ rfl rfl fun a s => ?_
     refine n_pass 38 s (by kernel_rfl) rfl ⟨_, _, _, rfl, rfl, rfl, rfl⟩ rfl rfl fun a s => ?_
     refine n_pass 39 s (by kernel_rfl) rfl ⟨_, _, _, rfl, rfl, rfl, rfl⟩ rfl rfl fun a s => ?_
     refine n_1 40 s (by kernel_rfl) rfl ⟨_, _, _, rfl, rfl, rfl, rfl⟩ (l_quiet s rfl rfl (y_pick_f s rfl rfl) fun a s => ?_); refine ⟨fun g _ h => h, ?_⟩
     refine n_1 41 s (by kernel_rfl) rfl rfl (l_quiet s rfl rfl (y_pick_f s rfl rfl) fun a s => ?_); refine ⟨fun g _ h => h, ?_⟩
     refine n_end (by kernel_rfl) ?_; clear hR hZ hE
     apply pN
     exact ⟨(false), hg, (s.sb rfl rfl rfl)⟩
    have hs69e := decide_eq_false hs69
    replace hg := br_f hg hs69
    refine d_plan s [] [(0, some 0), (1, some 0), (2, some 0), (3, some 0), (4, some 0), (5, some 0), (6, some 0), (7, some 0), (8, some 0), (9, some 0), (10, some 0), (11, some 0), (12, some 0), (13, some 0), (14, some 0), (15, some 0), (16, some 0), (17, some 0), (18, some 0), (19, some 0), (20, some 0), (21, some 0), (22, some 0), (23, some 0), (24, some 0), (25, some 0), (26, some 0), (27, some 0), (28, some 0), (29, some 0), (30, some 0), (31, some 0), (32, some 0), (33, some 0), (34, some 0), (35, some 0), (36, some 0), (37, some 0), (38, some 0), (39, some 0), (40, some 0), (41, some 0)] rfl (by kernel_rfl) (by kernel_rfl) rfl ?_; clear s; intro wr hZ s; have hR := s.wd
    refine qt s hR rfl (y_move s rfl) fun a s => ?_
    refine qt s hR rfl (y_move s rfl) fun a s => ?_
    refine qt s hR rfl (yl_b (y_gtr s rfl rfl) hs68e) fun a s => ?_
    refine qt s hR rfl (y_move s rfl) fun a s => ?_
    refine qg s hR rfl (y_move s rfl) fun a s => ?_
    refine qg s hR rfl (y_move s rfl) fun a s => ?_
    refine qg s hR rfl (yl_b (y_eql s rfl rfl) hs69e) fun a s => ?_
    refine qg s hR rfl (y_move s rfl) fun a s => ?_
    refine q_pass s hR rfl rfl ⟨_, _, _, rfl, rfl, rfl, rfl⟩ rfl fun a s => ?_
    refine q_pass s hR rfl rfl ⟨_, _, _, rfl, rfl, rfl, rfl⟩ rfl fun a s => ?_
    refine q_pass s hR rfl rfl ⟨_, _, _, rfl, rfl, rfl, rfl⟩ rfl fun a s => ?_
    refine q_pass s hR rfl rfl ⟨_, _, _, rfl, rfl, rfl, rfl⟩ rfl fun a s => ?_
    refine q_pass s hR rfl rfl ⟨_, _, _, rfl, rfl, rfl, rfl⟩ rfl fun a s => ?_
    refine q_pass s hR rfl rfl ⟨_, _, _, rfl, rfl, rfl, rfl⟩ rfl fun a s => ?_
    refine q_pass s hR rfl rfl ⟨_, _, _, rfl, rfl, rfl, rfl⟩ rfl fun a s => ?_
    refine q_pass s hR rfl rfl ⟨_, _, _, rfl, rfl, rfl, rfl⟩ rfl fun a s => ?_
    refine q_pass s hR rfl rfl ⟨_, _, _, rfl, rfl, rfl, rfl⟩ rfl fun a s => ?_
    refine q_pass s hR rfl rfl ⟨_, _, _, rfl, rfl, rfl, rfl⟩ rfl fun a s => ?_
    refine qg s hR rfl (y_pick_f s rfl rfl) fun a s => ?_
    refine qt s hR rfl (y_pick_f s rfl rfl) fun a s => ?_
    refine qt s hR rfl (y_move s rfl) fun a s => ?_
    refine qg s hR rfl (y_move s rfl) fun a s => ?_
    refine qg s hR rfl (y_move s rfl) fun a s => ?_
    refine qg s hR rfl (yl_b (y_eql s rfl rfl) hs69e) fun a s => ?_
    refine qg s hR rfl (y_move s rfl) fun a s => ?_
    refine q_pass s hR rfl rfl ⟨_, _, _, rfl, rfl, rfl, rfl⟩ rfl fun a s => ?_
    refine q_pass s hR rfl rfl ⟨_, _, _, rfl, rfl, rfl, rfl⟩ rfl fun a s => ?_
    refine q_pass s hR rfl rfl ⟨_, _, _, rfl, rfl, rfl, rfl⟩ rfl fun a s => ?_
    refine qg s hR rfl (y_pick_f s rfl rfl) fun a s => ?_
    refine qg s hR rfl (y_move s rfl) fun a s => ?_
    refine q_pass s hR rfl rfl ⟨_, _, _, rfl, rfl, rfl, rfl⟩ rfl fun a s => ?_
    refine q_pass s hR rfl rfl ⟨_, _, _, rfl, rfl, rfl, rfl⟩ rfl fun a s => ?_
    refine q_pass s hR rfl rfl ⟨_, _, _, rfl, rfl, rfl, rfl⟩ rfl fun a s => ?_
    refine q_pass s hR rfl rfl ⟨_, _, _, rfl, rfl, rfl, rfl⟩ rfl fun a s => ?_
    refine q_pass s hR rfl rfl ⟨_, _, _, rfl, rfl, rfl, rfl⟩ rfl fun a s => ?_
    refine q_pass s hR rfl rfl ⟨_, _, _, rfl, rfl, rfl, rfl⟩ rfl fun a s => ?_
    refine q_pass s hR rfl rfl ⟨_, _, _, rfl, rfl, rfl, rfl⟩ rfl fun a s => ?_
    refine q_pass s hR rfl rfl ⟨_, _, _, rfl, rfl, rfl, rfl⟩ rfl fun a s => ?_
    refine q_pass s hR rfl rfl ⟨_, _, _, rfl, rfl, rfl, rfl⟩ rfl fun a s => ?_
    refine q_pass s hR rfl rfl ⟨_, _, _, rfl, rfl, rfl, rfl⟩ rfl fun a s => ?_
    refine qg s hR rfl (y_pick_f s rfl rfl) fun a s => ?_
    refine qt s hR rfl (y_pick_f s rfl rfl) fun a s => ?_
    clear hR hZ
    apply pN
    exact ⟨(false), hg, (s.sb rfl rfl rfl)⟩
   clear s a; rintro a w ⟨t_67, hg, s⟩
   subst hk66
   refine c_cond s rfl (fun hc113 => ?_) (fun hc113 => ?_)
   ·replace hg := br_t hg hc113
    apply wR
    refine asg s rfl rfl fun a s => ?_
    apply wN
    apply wp_ret
    refine p_inR ?_
    refine p_thenR ?_
    refine p_thenR ?_
    refine p_inR ?_
    refine p_thenR ?_
    obtain rfl := Option.some.inj hg
    refine fin1 (fn := Tryd.f7) s rfl (r_tmp s rfl) ?_
    exact rfl
   replace hg := br_n hg hc113
   apply wp_skip
   refine p_inN ?_
   apply pN
   apply wL
   refine qq s rfl (y_addN (i := t_53) (j := 1) s rfl rfl (in64.2 (by omega))) fun a s => ?_
   refine mv s rfl rfl fun a s => ?_
   apply wN
   exact ⟨m1, Nat.lt_succ_self _, ⟨(t_53 + 1), hg, (s.sb rfl rfl rfl)⟩⟩
  replace hg := br_f hg hc54
  apply wp_exit
  refine p_then ?_
  refine p_then ?_
  refine p_in ?_
  apply pN
  exact ⟨hg, (s.sb rfl rfl rfl)⟩
 clear s a; rintro a w ⟨hg, s⟩
 subst hk52
 apply wQ
 obtain ⟨r114, hr114, hg⟩ := bind_some hg
 apply wL
 refine l_seq rfl (l_call (cap := []) s rfl func10 rfl (by kernel_rfl) rfl rfl (c_law37_exampleHolds n _ _ s.lt  r114 hr114) fun v117 a w hK hp s => ?_)
 obtain rfl := hp
 refine asg s rfl rfl fun a s => ?_
 apply wN
 apply wp_ret
 obtain rfl := Option.some.inj hg
 refine fin1 (fn := Tryd.f7) s rfl (r_tmp s rfl) ?_
 exact rfl
end Go.Proofs.YthgdajiipojnoaaDoor
