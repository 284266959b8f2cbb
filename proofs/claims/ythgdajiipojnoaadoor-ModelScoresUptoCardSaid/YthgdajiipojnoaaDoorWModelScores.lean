/- Chapter 37: the walk of ModelScores -/
import Derived.Test.YthgdajiipojnoaaDoorW9
import Derived.Test.YthgdajiipojnoaaDoorGl27
namespace Go.Proofs.YthgdajiipojnoaaDoor
open Go.Gl Go.RowKit Tryd
set_option linter.unusedVariables false
set_option linter.unusedSimpArgs false
set_option maxRecDepth 4000

set_option maxHeartbeats 400000 in
theorem c_law37_ModelScores (n : Nat) (M : Bs) (w0 : World) (hM : ∀ b, M b → b < w0.heap.size) (m_ : Model) (Ap01 : Option Addr) (cp01 : Nat) (hp01 : SlR RWeight M w0 Ap01 (m_.Weights).length cp01 (m_.Weights)) (d_ : Deriv) (Ap15 : Option Addr) (cp15 : Nat) (lp12 : (d_.Name).length ≤ 9223372036854775807) (hp15 : SlR RDeriv M w0 Ap15 (d_.Kids).length cp15 (d_.Kids)) (l_ : (List Deriv)) (Ap21 : Option Addr) (cp21 : Nat) (hp21 : SlR RDeriv M w0 Ap21 (l_).length cp21 (l_)) (r : Bool) (hg : law37_ModelScores n m_ d_ l_ = some r) :
    Calls Tryd.prog 5 [.agg #[.slice (Ap01) ((m_.Weights).length) (cp01)], .agg #[.int .i64 (d_.Kind), .string (bs (d_.Name)), .int .i64 (d_.From), .int .i64 (d_.To), .slice (Ap15) ((d_.Kids).length) (cp15)], .slice (Ap21) ((l_).length) (cp21)].toArray w0 (Ret noB w0 fun v w => v = .bool (r)) := by
 unfold law37_ModelScores at hg
 refine enter M noB func5 rfl rfl hM ?_
 intro a s
 replace s := s.es 101 hp01
 replace s := s.es 102 hp15
 replace s := s.es 103 hp21
 apply wR
 refine l_seq rfl (l_box (zs := [sl Ap01 (m_.Weights) cp01]) s 1000 rfl rfl rfl rfl fun b3 a w hb hK s => ?_)
 refine l_seq rfl (l_box (zs := [vI (d_.Kind), vT (d_.Name), vI (d_.From), vI (d_.To), sl Ap15 (d_.Kids) cp15]) s 1001 rfl rfl rfl rfl fun b4 a w hb hK s => ?_)
 refine asg s rfl rfl fun a s => ?_
 apply wN
 apply wQ
 apply wQ
 obtain ⟨k5, hg, hk5⟩ := jn_some hg
 refine c_post (fun a w => ∃ (t_6 : Bool), k5 t_6 = some r ∧ St (⟨Tryd.f5.ntmps, M, noB, w0⟩ : Ctx) [(2, sl Ap21 (l_) cp21), (3, vP b3 0), (4, vP b4 0), (25, .bool (t_6))] [(1000, Ob.box b3 [sl Ap01 (m_.Weights) cp01] 24), (1001, Ob.box b4 [vI (d_.Kind), vT (d_.Name), vI (d_.From), vI (d_.To), sl Ap15 (d_.Kids) cp15] 31)] [(101, slF RWeight (Ap01) ((m_.Weights).length) (cp01) (m_.Weights)), (102, slF RDeriv (Ap15) ((d_.Kids).length) (cp15) (d_.Kids)), (103, slF RDeriv (Ap21) ((l_).length) (cp21) (l_))] a w) ?_ ?_
 ·rcases Decidable.em ((60 : Nat) < ((m_.Weights).length)) with hs7 | hs7
  ·have hs7e := decide_eq_true hs7
   replace hg := br_t hg hs7
   have hmx8 := SlR.mx (s.ft 101 rfl)
   apply wL
   refine qq s rfl (y_boxField (o' := 0) s rfl underlying24 rfl rfl rfl) fun a s => ?_
   refine qq s rfl (y_loadBox1 (kk := 1000) s rfl rfl rfl underlying22 rfl) fun a s => ?_
   refine qq s rfl (y_lenSlice s rfl underlying22) fun a s => ?_
   refine qq s rfl (yl_b (y_gtrN (i := ((m_.Weights).length)) (j := 60) s rfl rfl) hs7e) fun a s => ?_
   refine mv s rfl rfl fun a s => ?_
   refine gn s rfl fun a s => ?_
   refine gn s rfl fun a s => ?_
   refine gn s rfl fun a s => ?_
   refine qq s rfl (y_pick_t s rfl rfl) fun a s => ?_
   refine mv s rfl rfl fun a s => ?_
   refine gn s rfl fun a s => ?_
   refine gn s rfl fun a s => ?_
   refine gn s rfl fun a s => ?_
   refine qq s rfl (y_pick_t s rfl rfl) fun a s => ?_
   refine mv s rfl rfl fun a s => ?_
   refine gn s rfl fun a s => ?_
   refine gn s rfl fun a s => ?_
   refine gn s rfl fun a s => ?_
   refine qq s rfl (y_pick_t s rfl rfl) fun a s => ?_
   apply wN
   exact ⟨(true), hg, (s.sb rfl rfl rfl)⟩
  have hs7e := decide_eq_false hs7
  replace hg := br_f hg hs7
  obtain ⟨r9, hr9, hg⟩ := bind_some hg
  rcases Decidable.em ((60 : Int) < r9) with hs12 | hs12
  ·have hs12e := decide_eq_true hs12
   replace hg := br_t hg hs12
   apply wL
   refine qq s rfl (y_boxField (o' := 0) s rfl underlying24 rfl rfl rfl) fun a s => ?_
   refine qq s rfl (y_loadBox1 (kk := 1000) s rfl rfl rfl underlying22 rfl) fun a s => ?_
   refine qq s rfl (y_lenSlice s rfl underlying22) fun a s => ?_
   refine qq s rfl (yl_b (y_gtrN (i := ((m_.Weights).length)) (j := 60) s rfl rfl) hs7e) fun a s => ?_
   refine mv s rfl rfl fun a s => ?_
   refine gy s rfl (y_loadAll (kk := 1001) s rfl rfl underlying31 rfl rfl) fun a s => ?_
   refine gl s rfl (l_call (cap := []) s rfl func13 rfl (by kernel_rfl) rfl rfl (c_r37_Nodes n _ _ s.lt d_ (Ap15) (cp15) (by omega) (s.ft 102 rfl) 61 r9 hr9) fun v13 a w hK hp s => ?_)
   obtain rfl := hp
   refine gy s rfl (yl_b (y_gtr s rfl rfl) hs12e) fun a s => ?_
   refine qq s rfl (y_pick_f s rfl rfl) fun a s => ?_
   refine mv s rfl rfl fun a s => ?_
   refine gn s rfl fun a s => ?_
   refine gn s rfl fun a s => ?_
   refine gn s rfl fun a s => ?_
   refine qq s rfl (y_pick_t s rfl rfl) fun a s => ?_
   refine mv s rfl rfl fun a s => ?_
   refine gn s rfl fun a s => ?_
   refine gn s rfl fun a s => ?_
   refine gn s rfl fun a s => ?_
   refine qq s rfl (y_pick_t s rfl rfl) fun a s => ?_
   apply wN
   exact ⟨(true), hg, (s.sb rfl rfl rfl)⟩
  have hs12e := decide_eq_false hs12
  replace hg := br_f hg hs12
  obtain ⟨r15, hr15, hg⟩ := bind_some hg
  rcases Bool.eq_false_or_eq_true (!(r15)) with hs18 | hs18
  ·replace hg := br_t hg hs18
   apply wL
   refine qq s rfl (y_boxField (o' := 0) s rfl underlying24 rfl rfl rfl) fun a s => ?_
   refine qq s rfl (y_loadBox1 (kk := 1000) s rfl rfl rfl underlying22 rfl) fun a s => ?_
   refine qq s rfl (y_lenSlice s rfl underlying22) fun a s => ?_
   refine qq s rfl (yl_b (y_gtrN (i := ((m_.Weights).length)) (j := 60) s rfl rfl) hs7e) fun a s => ?_
   refine mv s rfl rfl fun a s => ?_
   refine gy s rfl (y_loadAll (kk := 1001) s rfl rfl underlying31 rfl rfl) fun a s => ?_
   refine gl s rfl (l_call (cap := []) s rfl func13 rfl (by kernel_rfl) rfl rfl (c_r37_Nodes n _ _ s.lt d_ (Ap15) (cp15) (by omega) (s.ft 102 rfl) 61 r9 hr9) fun v19 a w hK hp s => ?_)
   obtain rfl := hp
   refine gy s rfl (yl_b (y_gtr s rfl rfl) hs12e) fun a s => ?_
   refine qq s rfl (y_pick_f s rfl rfl) fun a s => ?_
   refine mv s rfl rfl fun a s => ?_
   refine gm s rfl rfl fun a s => ?_
   refine gl s rfl (l_call (cap := []) s rfl func16 rfl (by kernel_rfl) rfl rfl (c_r37_Light n _ _ s.lt l_ (Ap21) (cp21) (s.ft 103 rfl) 120 r15 hr15) fun v21 a w hK hp s => ?_)
   obtain rfl := hp
   refine gy s rfl (yl_b (y_not s rfl) hs18) fun a s => ?_
   refine qq s rfl (y_pick_f s rfl rfl) fun a s => ?_
   refine mv s rfl rfl fun a s => ?_
   refine gn s rfl fun a s => ?_
   refine gn s rfl fun a s => ?_
   refine gn s rfl fun a s => ?_
   refine qq s rfl (y_pick_t s rfl rfl) fun a s => ?_
   apply wN
   exact ⟨(true), hg, (s.sb rfl rfl rfl)⟩
  replace hg := br_n hg hs18
  obtain ⟨r23, hr23, hg⟩ := bind_some hg
  apply wL
  refine qq s rfl (y_boxField (o' := 0) s rfl underlying24 rfl rfl rfl) fun a s => ?_
  refine qq s rfl (y_loadBox1 (kk := 1000) s rfl rfl rfl underlying22 rfl) fun a s => ?_
  refine qq s rfl (y_lenSlice s rfl underlying22) fun a s => ?_
  refine qq s rfl (yl_b (y_gtrN (i := ((m_.Weights).length)) (j := 60) s rfl rfl) hs7e) fun a s => ?_
  refine mv s rfl rfl fun a s => ?_
  refine gy s rfl (y_loadAll (kk := 1001) s rfl rfl underlying31 rfl rfl) fun a s => ?_
  refine gl s rfl (l_call (cap := []) s rfl func13 rfl (by kernel_rfl) rfl rfl (c_r37_Nodes n _ _ s.lt d_ (Ap15) (cp15) (by omega) (s.ft 102 rfl) 61 r9 hr9) fun v26 a w hK hp s => ?_)
  obtain rfl := hp
  refine gy s rfl (yl_b (y_gtr s rfl rfl) hs12e) fun a s => ?_
  refine qq s rfl (y_pick_f s rfl rfl) fun a s => ?_
  refine mv s rfl rfl fun a s => ?_
  refine gm s rfl rfl fun a s => ?_
  refine gl s rfl (l_call (cap := []) s rfl func16 rfl (by kernel_rfl) rfl rfl (c_r37_Light n _ _ s.lt l_ (Ap21) (cp21) (s.ft 103 rfl) 120 r15 hr15) fun v28 a w hK hp s => ?_)
  obtain rfl := hp
  refine gy s rfl (yl_b (y_not s rfl) hs18) fun a s => ?_
  refine qq s rfl (y_pick_f s rfl rfl) fun a s => ?_
  refine mv s rfl rfl fun a s => ?_
  refine gy s rfl (y_loadAll (kk := 1000) s rfl rfl underlying24 rfl rfl) fun a s => ?_
  refine gl s rfl (l_call (cap := []) s rfl func12 rfl (by kernel_rfl) rfl rfl (c_r37_Check n _ _ s.lt m_ (Ap01) (cp01) (s.ft 101 rfl) r23 hr23) fun v30 a w hK hp s => ?_)
  obtain rfl := hp
  refine gy s rfl (y_neq s rfl rfl) fun a s => ?_
  refine qq s rfl (y_pick_f s rfl rfl) fun a s => ?_
  apply wN
  exact ⟨(decide (r23 ≠ 0)), hg, (s.sb rfl rfl rfl)⟩
 clear s a; rintro a w ⟨t_6, hg, s⟩
 subst hk5
 refine c_cond s rfl (fun hc32 => ?_) (fun hc32 => ?_)
 ·replace hg := br_t hg hc32
  apply wQ
  obtain ⟨r33, hr33, hg⟩ := bind_some hg
  apply wL
  refine l_seq rfl (l_call (cap := []) s rfl func10 rfl (by kernel_rfl) rfl rfl (c_law37_exampleHolds n _ _ s.lt  r33 hr33) fun v36 a w hK hp s => ?_)
  obtain rfl := hp
  refine asg s rfl rfl fun a s => ?_
  apply wN
  apply wp_ret
  refine p_thenR ?_
  obtain rfl := Option.some.inj hg
  refine fin1 (fn := Tryd.f5) s rfl (r_tmp s rfl) ?_
  exact rfl
 replace hg := br_n hg hc32
 apply wp_skip
 apply pN
 apply wQ
 obtain ⟨r38, hr38, hg⟩ := bind_some hg
 obtain ⟨r41, hr41, hg⟩ := bind_some hg
 rcases Decidable.em (r38 = r41) with hs44 | hs44
 ·have hs44e := decide_eq_true hs44
  replace hg := br_t hg hs44
  obtain ⟨r45, hr45, hg⟩ := bind_some hg
  obtain ⟨r48, hr48, hg⟩ := bind_some hg
  rcases Decidable.em (r45 = r48) with hs51 | hs51
  ·have hs51e := decide_eq_true hs51
   replace hg := br_t hg hs51
   obtain ⟨r52, hr52, hg⟩ := bind_some hg
   refine d_steps s [] rfl ?_; clear s; intro wr hZ s; have hR := s.wd; have hE := Ext.init hR 0
   refine n_q 0 1000 s hR rfl (by kernel_rfl) (by kernel_rfl) (by kernel_rfl) rfl rfl rfl (y_loadAll (kk := 1000) s rfl rfl underlying24 rfl rfl) fun a s => ?_
   refine n_q 1 1001 s hR rfl (by kernel_rfl) (by kernel_rfl) (by kernel_rfl) rfl rfl rfl (y_loadAll (kk := 1001) s rfl rfl underlying31 rfl rfl) fun a s => ?_
   refine n_q 3 1000 s hR rfl (by kernel_rfl) (by kernel_rfl) (by kernel_rfl) rfl rfl rfl (y_loadAll (kk := 1000) s rfl rfl underlying24 rfl rfl) fun a s => ?_
   refine n_q 4 1001 s hR rfl (by kernel_rfl) (by kernel_rfl) (by kernel_rfl) rfl rfl rfl (y_loadAll (kk := 1001) s rfl rfl underlying31 rfl rfl) fun a s => ?_
   refine n_1 2 s (by kernel_rfl) rfl rfl (l_call (cap := []) s rfl func17 rfl (by kernel_rfl) rfl rfl (c_model_Score n _ _ s.lt m_ (Ap01) (cp01) (s.ft 101 rfl) d_ (Ap15) (cp15) (by omega) (s.ft 102 rfl) r38 hr38) fun v55 a w hK hp s => ?_)
   replace hE := hE.grow hK; replace hZ := Nat.le_trans hZ hK.size; refine ⟨fun g _ h => h.grow hK, ?_⟩; clear hK
   obtain rfl := hp
   refine n_1 5 s (by kernel_rfl) rfl rfl (l_call (cap := []) s rfl func18 rfl (by kernel_rfl) rfl rfl (c_r37_Score n _ _ s.lt m_ (Ap01) (cp01) (s.ft 101 rfl) d_ (Ap15) (cp15) (by omega) (s.ft 102 rfl) r41 hr41) fun v57 a w hK hp s => ?_)
   replace hE := hE.grow hK; replace hZ := Nat.le_trans hZ hK.size; refine ⟨fun g _ h => h.grow hK, ?_⟩; clear hK
   obtain rfl := hp
   refine n_1 6 s (by kernel_rfl) rfl rfl (l_quiet s rfl rfl (yl_b (y_eql s rfl rfl) hs44e) fun a s => ?_); refine ⟨fun g _ h => h, ?_⟩
   refine n_1 7 s (by kernel_rfl) rfl rfl (l_quiet s rfl rfl (y_move s rfl) fun a s => ?_); refine ⟨fun g _ h => h, ?_⟩
   refine n_ql 9 s hE rfl (by kernel_rfl) (by kernel_rfl) (by kernel_rfl) rfl ⟨_, _, _, rfl, rfl, rfl, rfl⟩ rfl (fun w' s => y_move s rfl) fun a s => ?_
   refine n_ql 12 s hE rfl (by kernel_rfl) (by kernel_rfl) (by kernel_rfl) rfl ⟨_, _, _, rfl, rfl, rfl, rfl⟩ rfl (fun w' s => y_move s rfl) fun a s => ?_
   refine n_2 8 11 s (by kernel_rfl) rfl ⟨_, _, _, rfl, rfl, rfl, rfl⟩ rfl ⟨_, _, _, rfl, rfl, rfl, rfl⟩ ?_ ?_
   ·refine l_quiet s rfl rfl (y_loadAll (kk := 1000) s rfl rfl underlying24 rfl rfl) fun a s => ?_; refine ⟨fun g _ h => h, ?_⟩
    refine n_2 10 11 s (by kernel_rfl) rfl ⟨_, _, _, rfl, rfl, rfl, rfl⟩ rfl ⟨_, _, _, rfl, rfl, rfl, rfl⟩ ?_ ?_
    ·refine l_call (cap := []) s rfl func19 rfl (by kernel_rfl) rfl rfl (c_model_Best n _ _ s.lt m_ (Ap01) (cp01) (s.ft 101 rfl) l_ (Ap21) (cp21) (s.ft 103 rfl) r45 hr45) fun v59 a w hK hp s => ?_
     replace hE := hE.grow hK; replace hZ := Nat.le_trans hZ hK.size; refine ⟨fun g _ h => h.grow hK, ?_⟩; clear hK
     obtain rfl := hp
     refine n_1 11 s (by kernel_rfl) rfl ⟨_, _, _, rfl, rfl, rfl, rfl⟩ (l_quiet s rfl rfl (y_loadAll (kk := 1000) s rfl rfl underlying24 rfl rfl) fun a s => ?_); refine ⟨fun g _ h => h, ?_⟩
     refine n_1 13 s (by kernel_rfl) rfl ⟨_, _, _, rfl, rfl, rfl, rfl⟩ (l_call (cap := []) s rfl func20 rfl (by kernel_rfl) rfl rfl (c_r37_Best n _ _ s.lt m_ (Ap01) (cp01) (s.ft 101 rfl) l_ (Ap21) (cp21) (s.ft 103 rfl) r48 hr48) fun v61 a w hK hp s => ?_)
     replace hE := hE.grow hK; replace hZ := Nat.le_trans hZ hK.size; refine ⟨fun g _ h => h.grow hK, ?_⟩; clear hK
     obtain rfl := hp
     refine n_1 14 s (by kernel_rfl) rfl ⟨_, _, _, rfl, rfl, rfl, rfl⟩ (l_quiet s rfl rfl (yl_b (y_eql s rfl rfl) hs51e) fun a s => ?_); refine ⟨fun g _ h => h, ?_⟩
     refine n_1 15 s (by kernel_rfl) rfl rfl (l_quiet s rfl rfl (y_pick_t s rfl rfl) fun a s => ?_); refine ⟨fun g _ h => h, ?_⟩
     refine n_1 16 s (by kernel_rfl) rfl rfl (l_quiet s rfl rfl (y_move s rfl) fun a s => ?_); refine ⟨fun g _ h => h, ?_⟩
     refine n_1 17 s (by kernel_rfl) rfl ⟨_, _, _, rfl, rfl, rfl, rfl⟩ (l_call (cap := []) s rfl func10 rfl (by kernel_rfl) rfl rfl (c_law37_exampleHolds n _ _ s.lt  r52 hr52) fun v63 a w hK hp s => ?_)
     replace hE := hE.grow hK; replace hZ := Nat.le_trans hZ hK.size; refine ⟨fun g _ h => h.grow hK, ?_⟩; clear hK
     obtain rfl := hp
     refine n_1 18 s (by kernel_rfl) rfl rfl (l_quiet s rfl rfl (y_pick_t s rfl rfl) fun a s => ?_); refine ⟨fun g _ h => h, ?_⟩
     refine n_1 19 s (by kernel_rfl) rfl rfl (l_quiet s rfl rfl (y_assign s rfl) fun a s => ?_); refine ⟨fun g _ h => h, ?_⟩
     refine n_end (by kernel_rfl) ?_; clear hR hZ hE
     apply pN
     apply wp_ret
     obtain rfl := Option.some.inj hg
     refine fin1 (fn := Tryd.f5) s rfl (r_tmp s rfl) ?_
     exact rfl
    ·refine l_quiet s rfl rfl (y_loadAll (kk := 1000) s rfl rfl underlying24 rfl rfl) fun a s => ?_; refine ⟨fun g _ h => h, ?_⟩
     refine n_1 10 s (by kernel_rfl) rfl ⟨_, _, _, rfl, rfl, rfl, rfl⟩ (l_call (cap := []) s rfl func19 rfl (by kernel_rfl) rfl rfl (c_model_Best n _ _ s.lt m_ (Ap01) (cp01) (s.ft 101 rfl) l_ (Ap21) (cp21) (s.ft 103 rfl) r45 hr45) fun v65 a w hK hp s => ?_)
     replace hE := hE.grow hK; replace hZ := Nat.le_trans hZ hK.size; refine ⟨fun g _ h => h.grow hK, ?_⟩; clear hK
     obtain rfl := hp
     refine n_1 13 s (by kernel_rfl) rfl ⟨_, _, _, rfl, rfl, rfl, rfl⟩ (l_call (cap := []) s rfl func20 rfl (by kernel_rfl) rfl rfl (c_r37_Best n _ _ s.lt m_ (Ap01) (cp01) (s.ft 101 rfl) l_ (Ap21) (cp21) (s.ft 103 rfl) r48 hr48) fun v67 a w hK hp s => ?_)
     replace hE := hE.grow hK; replace hZ := Nat.le_trans hZ hK.size; refine ⟨fun g _ h => h.grow hK, ?_⟩; clear hK
     obtain rfl := hp
     refine n_1 14 s (by kernel_rfl) rfl ⟨_, _, _, rfl, rfl, rfl, rfl⟩ (l_quiet s rfl rfl (yl_b (y_eql s rfl rfl) hs51e) fun a s => ?_); refine ⟨fun g _ h => h, ?_⟩
     refine n_1 15 s (by kernel_rfl) rfl rfl (l_quiet s rfl rfl (y_pick_t s rfl rfl) fun a s => ?_); refine ⟨fun g _ h => h, ?_⟩
     refine n_1 16 s (by kernel_rfl) rfl rfl (l_quiet s rfl rfl (y_move s rfl) fun a s => ?_); refine ⟨fun g _ h => h, ?_⟩
     refine n_1 17 s (by kernel_rfl) rfl ⟨_, _, _, rfl, rfl, rfl, rfl⟩ (l_call (cap := []) s rfl func10 rfl (by kernel_rfl) rfl rfl (c_law37_exampleHolds n _ _ s.lt  r52 hr52) fun v69 a w hK hp s => ?_)
     replace hE := hE.grow hK; replace hZ := Nat.le_trans hZ hK.size; refine ⟨fun g _ h => h.grow hK, ?_⟩; clear hK
     obtain rfl := hp
     refine n_1 18 s (by kernel_rfl) rfl rfl (l_quiet s rfl rfl (y_pick_t s rfl rfl) fun a s => ?_); refine ⟨fun g _ h => h, ?_⟩
     refine n_1 19 s (by kernel_rfl) rfl rfl (l_quiet s rfl rfl (y_assign s rfl) fun a s => ?_); refine ⟨fun g _ h => h, ?_⟩
     refine n_end (by kernel_rfl) ?_; clear hR hZ hE
     apply pN
     apply wp_ret
     obtain rfl := Option.some.inj hg
     refine fin1 (fn := Tryd.f5) s rfl (r_tmp s rfl) ?_
     exact rfl
   ·refine l_quiet s rfl rfl (y_loadAll (kk := 1000) s rfl rfl underlying24 rfl rfl) fun a s => ?_; refine ⟨fun g _ h => h, ?_⟩
    refine n_1 8 s (by kernel_rfl) rfl ⟨_, _, _, rfl, rfl, rfl, rfl⟩ (l_quiet s rfl rfl (y_loadAll (kk := 1000) s rfl rfl underlying24 rfl rfl) fun a s => ?_); refine ⟨fun g _ h => h, ?_⟩
    refine n_1 10 s (by kernel_rfl) rfl ⟨_, _, _, rfl, rfl, rfl, rfl⟩ (l_call (cap := []) s rfl func19 rfl (by kernel_rfl) rfl rfl (c_model_Best n _ _ s.lt m_ (Ap01) (cp01) (s.ft 101 rfl) l_ (Ap21) (cp21) (s.ft 103 rfl) r45 hr45) fun v71 a w hK hp s => ?_)
    replace hE := hE.grow hK; replace hZ := Nat.le_trans hZ hK.size; refine ⟨fun g _ h => h.grow hK, ?_⟩; clear hK
    obtain rfl := hp
    refine n_1 13 s (by kernel_rfl) rfl ⟨_, _, _, rfl, rfl, rfl, rfl⟩ (l_call (cap := []) s rfl func20 rfl (by kernel_rfl) rfl rfl (c_r37_Best n _ _ s.lt m_ (Ap01) (cp01) (s.ft 101 rfl) l_ (Ap21) (cp21) (s.ft 103 rfl) r48 hr48) fun v73 a w hK hp s => ?_)
    replace hE := hE.grow hK; replace hZ := Nat.le_trans hZ hK.size; refine ⟨fun g _ h => h.grow hK, ?_⟩; clear hK
    obtain rfl := hp
    refine n_1 14 s (by kernel_rfl) rfl ⟨_, _, _, rfl, rfl, rfl, rfl⟩ (l_quiet s rfl rfl (yl_b (y_eql s rfl rfl) hs51e) fun a s => ?_); refine ⟨fun g _ h => h, ?_⟩
    refine n_1 15 s (by kernel_rfl) rfl rfl (l_quiet s rfl rfl (y_pick_t s rfl rfl) fun a s => ?_); refine ⟨fun g _ h => h, ?_⟩
    refine n_1 16 s (by kernel_rfl) rfl rfl (l_quiet s rfl rfl (y_move s rfl) fun a s => ?_); refine ⟨fun g _ h => h, ?_⟩
    refine n_1 17 s (by kernel_rfl) rfl ⟨_, _, _, rfl, rfl, rfl, rfl⟩ (l_call (cap := []) s rfl func10 rfl (by kernel_rfl) rfl rfl (c_law37_exampleHolds n _ _ s.lt  r52 hr52) fun v75 a w hK hp s => ?_)
    replace hE := hE.grow hK; replace hZ := Nat.le_trans hZ hK.size; refine ⟨fun g _ h => h.grow hK, ?_⟩; clear hK
    obtain rfl := hp
    refine n_1 18 s (by kernel_rfl) rfl rfl (l_quiet s rfl rfl (y_pick_t s rfl rfl) fun a s => ?_); refine ⟨fun g _ h => h, ?_⟩
    refine n_1 19 s (by kernel_rfl) rfl rfl (l_quiet s rfl rfl (y_assign s rfl) fun a s => ?_); refine ⟨fun g _ h => h, ?_⟩
    refine n_end (by kernel_rfl) ?_; clear hR hZ hE
    apply pN
    apply wp_ret
    obtain rfl := Option.some.inj hg
    refine fin1 (fn := Tryd.f5) s rfl (r_tmp s rfl) ?_
    exact rfl
  have hs51e := decide_eq_false hs51
  replace hg := br_f hg hs51
  refine d_steps s [] rfl ?_; clear s; intro wr hZ s; have hR := s.wd; have hE := Ext.init hR 0
  refine n_q 0 1000 s hR rfl (by kernel_rfl) (by kernel_rfl) (by kernel_rfl) rfl rfl rfl (y_loadAll (kk := 1000) s rfl rfl underlying24 rfl rfl) fun a s => ?_
  refine n_q 1 1001 s hR rfl (by kernel_rfl) (by kernel_rfl) (by kernel_rfl) rfl rfl rfl (y_loadAll (kk := 1001) s rfl rfl underlying31 rfl rfl) fun a s => ?_
  refine n_q 3 1000 s hR rfl (by kernel_rfl) (by kernel_rfl) (by kernel_rfl) rfl rfl rfl (y_loadAll (kk := 1000) s rfl rfl underlying24 rfl rfl) fun a s => ?_
  refine n_q 4 1001 s hR rfl (by kernel_rfl) (by kernel_rfl) (by kernel_rfl) rfl rfl rfl (y_loadAll (kk := 1001) s rfl rfl underlying31 rfl rfl) fun a s => ?_
  refine n_1 2 s (by kernel_rfl) rfl rfl (l_call (cap := []) s rfl func17 rfl (by kernel_rfl) rfl rfl (c_model_Score n _ _ s.lt m_ (Ap01) (cp01) (s.ft 101 rfl) d_ (Ap15) (cp15) (by omega) (s.ft 102 rfl) r38 hr38) fun v77 a w hK hp s => ?_)
  replace hE := hE.grow hK; replace hZ := Nat.le_trans hZ hK.size; refine ⟨fun g _ h => h.grow hK, ?_⟩; clear hK
  obtain rfl := hp
  refine n_1 5 s (by kernel_rfl) rfl rfl (l_call (cap := []) s rfl func18 rfl (by kernel_rfl) rfl rfl (c_r37_Score n _ _ s.lt m_ (Ap01) (cp01) (s.ft 101 rfl) d_ (Ap15) (cp15) (by omega) (s.ft 102 rfl) r41 hr41) fun v79 a w hK hp s => ?_)
  replace hE := hE.grow hK; replace hZ := Nat.le_trans hZ hK.size; refine ⟨fun g _ h => h.grow hK, ?_⟩; clear hK
  obtain rfl := hp
  refine n_1 6 s (by kernel_rfl) rfl rfl (l_quiet s rfl rfl (yl_b (y_eql s rfl rfl) hs44e) fun a s => ?_); refine ⟨fun g _ h => h, ?_⟩
  refine n_1 7 s (by kernel_rfl) rfl rfl (l_quiet s rfl rfl (y_move s rfl) fun a s => ?_); refine ⟨fun g _ h => h, ?_⟩
  refine n_ql 9 s hE rfl (by kernel_rfl) (by kernel_rfl) (by kernel_rfl) rfl ⟨_, _, _, rfl, rfl, rfl, rfl⟩ rfl (fun w' s => y_move s rfl) fun a s => ?_
  refine n_ql 12 s hE rfl (by kernel_rfl) (by kernel_rfl) (by kernel_rfl) rfl ⟨_, _, _, rfl, rfl, rfl, rfl⟩ rfl (fun w' s => y_move s rfl) fun a s => ?_
  refine n_2 8 11 s (by kernel_rfl) rfl ⟨_, _, _, rfl, rfl, rfl, rfl⟩ rfl ⟨_, _, _, rfl, rfl, rfl, rfl⟩ ?_ ?_
  ·refine l_quiet s rfl rfl (y_loadAll (kk := 1000) s rfl rfl underlying24 rfl rfl) fun a s => ?_; refine ⟨fun g _ h => h, ?_⟩
   refine n_2 10 11 s (by kernel_rfl) rfl ⟨_, _, _, rfl, rfl, rfl, rfl⟩ rfl ⟨_, _, _, rfl, rfl, rfl, rfl⟩ ?_ ?_
   ·refine l_call (cap := []) s rfl func19 rfl (by kernel_rfl) rfl rfl (c_model_Best n _ _ s.lt m_ (Ap01) (cp01) (s.ft 101 rfl) l_ (Ap21) (cp21) (s.ft 103 rfl) r45 hr45) fun v81 a w hK hp s => ?_
    replace hE := hE.grow hK; replace hZ := Nat.le_trans hZ hK.size; refine ⟨fun g _ h => h.grow hK, ?_⟩; clear hK
    obtain rfl := hp
    refine n_1 11 s (by kernel_rfl) rfl ⟨_, _, _, rfl, rfl, rfl, rfl⟩ (l_quiet s rfl rfl (y_loadAll (kk := 1000) s rfl rfl underlying24 rfl rfl) fun a s => ?_); refine ⟨fun g _ h => h, ?_⟩
    refine n_1 13 s (by kernel_rfl) rfl ⟨_, _, _, rfl, rfl, rfl, rfl⟩ (l_call (cap := []) s rfl func20 rfl (by kernel_rfl) rfl rfl (c_r37_Best n _ _ s.lt m_ (Ap01) (cp01) (s.ft 101 rfl) l_ (Ap21) (cp21) (s.ft 103 rfl) r48 hr48) fun v83 a w hK hp s => ?_)
    replace hE := hE.grow hK; replace hZ := Nat.le_trans hZ hK.size; refine ⟨fun g _ h => h.grow hK, ?_⟩; clear hK
    obtain rfl := hp
    refine n_1 14 s (by kernel_rfl) rfl ⟨_, _, _, rfl, rfl, rfl, rfl⟩ (l_quiet s rfl rfl (yl_b (y_eql s rfl rfl) hs51e) fun a s => ?_); refine ⟨fun g _ h => h, ?_⟩
    refine n_1 15 s (by kernel_rfl) rfl rfl (l_quiet s rfl rfl (y_pick_t s rfl rfl) fun a s => ?_); refine ⟨fun g _ h => h, ?_⟩
    refine n_1 16 s (by kernel_rfl) rfl rfl (l_quiet s rfl rfl (y_move s rfl) fun a s => ?_); refine ⟨fun g _ h => h, ?_⟩
    refine n_pass 17 s (by kernel_rfl) rfl ⟨_, _, _, rfl, rfl, rfl, rfl⟩ rfl rfl fun a s => ?_
    refine n_1 18 s (by kernel_rfl) rfl rfl (l_quiet s rfl rfl (y_pick_f s rfl rfl) fun a s => ?_); refine ⟨fun g _ h => h, ?_⟩
    refine n_1 19 s (by kernel_rfl) rfl rfl (l_quiet s rfl rfl (y_assign s rfl) fun a s => ?_); refine ⟨fun g _ h => h, ?_⟩
    refine n_end (by kernel_rfl) ?_; clear hR hZ hE
    apply pN
    apply wp_ret
    obtain rfl := Option.some.inj hg
    refine fin1 (fn := Tryd.f5) s rfl (r_tmp s rfl) ?_
    exact rfl
   ·refine l_quiet s rfl rfl (y_loadAll (kk := 1000) s rfl rfl underlying24 rfl rfl) fun a s => ?_; refine ⟨fun g _ h => h, ?_⟩
    refine n_1 10 s (by kernel_rfl) rfl ⟨_, _, _, rfl, rfl, rfl, rfl⟩ (l_call (cap := []) s rfl func19 rfl (by kernel_rfl) rfl rfl (c_model_Best n _ _ s.lt m_ (Ap01) (cp01) (s.ft 101 rfl) l_ (Ap21) (cp21) (s.ft 103 rfl) r45 hr45) fun v85 a w hK hp s => ?_)
    replace hE := hE.grow hK; replace hZ := Nat.le_trans hZ hK.size; refine ⟨fun g _ h => h.grow hK, ?_⟩; clear hK
    obtain rfl := hp
    refine n_1 13 s (by kernel_rfl) rfl ⟨_, _, _, rfl, rfl, rfl, rfl⟩ (l_call (cap := []) s rfl func20 rfl (by kernel_rfl) rfl rfl (c_r37_Best n _ _ s.lt m_ (Ap01) (cp01) (s.ft 101 rfl) l_ (Ap21) (cp21) (s.ft 103 rfl) r48 hr48) fun v87 a w hK hp s => ?_)
    replace hE := hE.grow hK; replace hZ := Nat.le_trans hZ hK.size; refine ⟨fun g _ h => h.grow hK, ?_⟩; clear hK
    obtain rfl := hp
    refine n_1 14 s (by kernel_rfl) rfl ⟨_, _, _, rfl, rfl, rfl, rfl⟩ (l_quiet s rfl rfl (yl_b (y_eql s rfl rfl) hs51e) fun a s => ?_); refine ⟨fun g _ h => h, ?_⟩
    refine n_1 15 s (by kernel_rfl) rfl rfl (l_quiet s rfl rfl (y_pick_t s rfl rfl) fun a s => ?_); refine ⟨fun g _ h => h, ?_⟩
    refine n_1 16 s (by kernel_rfl) rfl rfl (l_quiet s rfl rfl (y_move s rfl) fun a s => ?_); refine ⟨fun g _ h => h, ?_⟩
    refine n_pass 17 s (by kernel_rfl) rfl ⟨_, _, _, rfl, rfl, rfl, rfl⟩ rfl rfl fun a s => ?_
    refine n_1 18 s (by kernel_rfl) rfl rfl (l_quiet s rfl rfl (y_pick_f s rfl rfl) fun a s => ?_); refine ⟨fun g _ h => h, ?_⟩
    refine n_1 19 s (by kernel_rfl) rfl rfl (l_quiet s rfl rfl (y_assign s rfl) fun a s => ?_); refine ⟨fun g _ h => h, ?_⟩
    refine n_end (by kernel_rfl) ?_; clear hR hZ hE
    apply pN
    apply wp_ret
    obtain rfl := Option.some.inj hg
    refine fin1 (fn := Tryd.f5) s rfl (r_tmp s rfl) ?_
    exact rfl
  ·refine l_quiet s rfl rfl (y_loadAll (kk := 1000) s rfl rfl underlying24 rfl rfl) fun a s => ?_; refine ⟨fun g _ h => h, ?_⟩
   refine n_1 8 s (by kernel_rfl) rfl ⟨_, _, _, rfl, rfl, rfl, rfl⟩ (l_quiet s rfl rfl (y_loadAll (kk := 1000) s rfl rfl underlying24 rfl rfl) fun a s => ?_); refine ⟨fun g _ h => h, ?_⟩
   refine n_1 10 s (by kernel_rfl) rfl ⟨_, _, _, rfl, rfl, rfl, rfl⟩ (l_call (cap := []) s rfl func19 rfl (by kernel_rfl) rfl rfl (c_model_Best n _ _ s.lt m_ (Ap01) (cp01) (s.ft 101 rfl) l_ (Ap21) (cp21) (s.ft 103 rfl) r45 hr45) fun v89 a w hK hp s => ?_)
   replace hE := hE.grow hK; replace hZ := Nat.le_trans hZ hK.size; refine ⟨fun g _ h => h.grow hK, ?_⟩; clear hK
   obtain rfl := hp
   refine n_1 13 s (by kernel_rfl) rfl ⟨_, _, _, rfl, rfl, rfl, rfl⟩ (l_call (cap := []) s rfl func20 rfl (by kernel_rfl) rfl rfl (c_r37_Best n _ _ s.lt m_ (Ap01) (cp01) (s.ft 101 rfl) l_ (Ap21) (cp21) (s.ft 103 rfl) r48 hr48) fun v91 a w hK hp s => ?_)
   replace hE := hE.grow hK; replace hZ := Nat.le_trans hZ hK.size; refine ⟨fun g _ h => h.grow hK, ?_⟩; clear hK
   obtain rfl := hp
   refine n_1 14 s (by kernel_rfl) rfl ⟨_, _, _, rfl, rfl, rfl, rfl⟩ (l_quiet s rfl rfl (yl_b (y_eql s rfl rfl) hs51e) fun a s => ?_); refine ⟨fun g _ h => h, ?_⟩
   refine n_1 15 s (by kernel_rfl) rfl rfl (l_quiet s rfl rfl (y_pick_t s rfl rfl) fun a s => ?_); refine ⟨fun g _ h => h, ?_⟩
   refine n_1 16 s (by kernel_rfl) rfl rfl (l_quiet s rfl rfl (y_move s rfl) fun a s => ?_); refine ⟨fun g _ h => h, ?_⟩
   refine n_pass 17 s (by kernel_rfl) rfl ⟨_, _, _, rfl, rfl, rfl, rfl⟩ rfl rfl fun a s => ?_
   refine n_1 18 s (by kernel_rfl) rfl rfl (l_quiet s rfl rfl (y_pick_f s rfl rfl) fun a s => ?_); refine ⟨fun g _ h => h, ?_⟩
   refine n_1 19 s (by kernel_rfl) rfl rfl (l_quiet s rfl rfl (y_assign s rfl) fun a s => ?_); refine ⟨fun g _ h => h, ?_⟩
   refine n_end (by kernel_rfl) ?_; clear hR hZ hE
   apply pN
   apply wp_ret
   obtain rfl := Option.some.inj hg
   refine fin1 (fn := Tryd.f5) s rfl (r_tmp s rfl) ?_
   exact rfl
 have hs44e := decide_eq_false hs44
 replace hg := br_f hg hs44
 refine d_steps s [] rfl ?_; clear s; intro wr hZ s; have hR := s.wd; have hE := Ext.init hR 0
 refine n_q 0 1000 s hR rfl (by kernel_rfl) (by kernel_rfl) (by kernel_rfl) rfl rfl rfl (y_loadAll (kk := 1000) s rfl rfl underlying24 rfl rfl) fun a s => ?_
 refine n_q 1 1001 s hR rfl (by kernel_rfl) (by kernel_rfl) (by kernel_rfl) rfl rfl rfl (y_loadAll (kk := 1001) s rfl rfl underlying31 rfl rfl) fun a s => ?_
 refine n_q 3 1000 s hR rfl (by kernel_rfl) (by kernel_rfl) (by kernel_rfl) rfl rfl rfl (y_loadAll (kk := 1000) s rfl rfl underlying24 rfl rfl) fun a s => ?_
 refine n_q 4 1001 s hR rfl (by kernel_rfl) (by kernel_rfl) (by kernel_rfl) rfl rfl rfl (y_loadAll (kk := 1001) s rfl rfl underlying31 rfl rfl) fun a s => ?_
 refine n_1 2 s (by kernel_rfl) rfl rfl (l_call (cap := []) s rfl func17 rfl (by kernel_rfl) rfl rfl (c_model_Score n _ _ s.lt m_ (Ap01) (cp01) (s.ft 101 rfl) d_ (Ap15) (cp15) (by omega) (s.ft 102 rfl) r38 hr38) fun v93 a w hK hp s => ?_)
 replace hE := hE.grow hK; replace hZ := Nat.le_trans hZ hK.size; refine ⟨fun g _ h => h.grow hK, ?_⟩; clear hK
 obtain rfl := hp
 refine n_1 5 s (by kernel_rfl) rfl rfl (l_call (cap := []) s rfl func18 rfl (by kernel_rfl) rfl rfl (c_r37_Score n _ _ s.lt m_ (Ap01) (cp01) (s.ft 101 rfl) d_ (Ap15) (cp15) (by omega) (s.ft 102 rfl) r41 hr41) fun v95 a w hK hp s => ?_)
 replace hE := hE.grow hK; replace hZ := Nat.le_trans hZ hK.size; refine ⟨fun g _ h => h.grow hK, ?_⟩; clear hK
 obtain rfl := hp
 refine n_1 6 s (by kernel_rfl) rfl rfl (l_quiet s rfl rfl (yl_b (y_eql s rfl rfl) hs44e) fun a s => ?_); refine ⟨fun g _ h => h, ?_⟩
 refine n_1 7 s (by kernel_rfl) rfl rfl (l_quiet s rfl rfl (y_move s rfl) fun a s => ?_); refine ⟨fun g _ h => h, ?_⟩
 refine n_qlpass 8 s hE rfl (by kernel_rfl) (by kernel_rfl) (by kernel_rfl) rfl ⟨_, _, _, rfl, rfl, rfl, rfl⟩ rfl fun a s => ?_
 refine n_qlpass 9 s hE rfl (by kernel_rfl) (by kernel_rfl) (by kernel_rfl) rfl ⟨_, _, _, rfl, rfl, rfl, rfl⟩ rfl fun a s => ?_
 refine n_qlpass 10 s hE rfl (by kernel_rfl) (by kernel_rfl) (by kernel_rfl) rfl ⟨_, _, _, rfl, rfl, rfl, rfl⟩ rfl fun a s => ?_
 refine n_qlpass 11 s hE rfl (by kernel_rfl) (by kernel_rfl) (by kernel_rfl) rfl ⟨_, _, _, rfl, rfl, rfl, rfl⟩ rfl fun a s => ?_
 refine n_pass 12 s (by kernel_rfl) rfl ⟨_, _, _, rfl, rfl, rfl, rfl⟩ rfl rfl fun a s => ?_
 refine n_pass 13 s (by kernel_rfl) rfl ⟨_, _, _, rfl, rfl, rfl, rfl⟩ rfl rfl fun a s => ?_
 refine n_pass 14 s (by kernel_rfl) rfl ⟨_, _, _, rfl, rfl, rfl, rfl⟩ rfl rfl fun a s => ?_
 refine n_1 15 s (by kernel_rfl) rfl rfl (l_quiet s rfl rfl (y_pick_f s rfl rfl) fun a s => ?_); refine ⟨fun g _ h => h, ?_⟩
 refine n_1 16 s (by kernel_rfl) rfl rfl (l_quiet s rfl rfl (y_move s rfl) fun a s => ?_); refine ⟨fun g _ h => h, ?_⟩
 refine n_pass 17 s (by kernel_rfl) rfl ⟨_, _, _, rfl, rfl, rfl, rfl⟩ rfl rfl fun a s => ?_
 refine n_1 18 s (by kernel_rfl) rfl rfl (l_quiet s rfl rfl (y_pick_f s rfl rfl) fun a s => ?_); refine ⟨fun g _ h => h, ?_⟩
 refine n_1 19 s (by kernel_rfl) rfl rfl (l_quiet s rfl rfl (y_assign s rfl) fun a s => ?_); refine ⟨fun g _ h => h, ?_⟩
 refine n_end (by kernel_rfl) ?_; clear hR hZ hE
 apply pN
 apply wp_ret
 obtain rfl := Option.some.inj hg
 refine fin1 (fn := Tryd.f5) s rfl (r_tmp s rfl) ?_
 exact rfl
end Go.Proofs.YthgdajiipojnoaaDoor
